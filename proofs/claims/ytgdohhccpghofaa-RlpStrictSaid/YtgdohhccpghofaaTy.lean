/- Part of a proof over Ytgdohhccpghofaa: rules and contracts that the law's text uses. No condition. -/
import Derived.Test.YtgdohhccpghofaaProg
import Derived.Test.YtgdohhccpghofaaFwB
set_option maxRecDepth 100000
namespace Go.Fw.Try
open Go Go.Proofs
def i2 : TI := { u := .int .i64, sz := 1, bytes := 8, z := Value.int .i64 0 }
theorem ok2 : TI.ok Try.prog 2 i2 := ⟨by kernel_rfl, Try.t2, by kernel_rfl, by kernel_rfl, by kernel_rfl, by kernel_rfl⟩
def i3 : TI := { u := .int .i64, sz := 1, bytes := 8, z := Value.int .i64 0 }
theorem ok3 : TI.ok Try.prog 3 i3 := ⟨by kernel_rfl, Try.t3, by kernel_rfl, by kernel_rfl, by kernel_rfl, by kernel_rfl⟩
def i4 : TI := { u := .bool, sz := 1, bytes := 1, z := Value.bool false }
theorem ok4 : TI.ok Try.prog 4 i4 := ⟨by kernel_rfl, Try.t4, by kernel_rfl, by kernel_rfl, by kernel_rfl, by kernel_rfl⟩
def i5 : TI := { u := .int .u8, sz := 1, bytes := 1, z := Value.int .u8 0 }
theorem ok5 : TI.ok Try.prog 5 i5 := ⟨by kernel_rfl, Try.t5, by kernel_rfl, by kernel_rfl, by kernel_rfl, by kernel_rfl⟩
def i6 : TI := { u := .int .u8, sz := 1, bytes := 1, z := Value.int .u8 0 }
theorem ok6 : TI.ok Try.prog 6 i6 := ⟨by kernel_rfl, Try.t6, by kernel_rfl, by kernel_rfl, by kernel_rfl, by kernel_rfl⟩
def i7 : TI := { u := .struct #[{ name := "x", type := 2, offset := 0, embedded := false, tag := "", pkgPath := "runtime", byteOffset := 0 }, { name := "y", type := 3, offset := 1, embedded := false, tag := "", pkgPath := "runtime", byteOffset := 8 }, { name := "signed", type := 4, offset := 2, embedded := false, tag := "", pkgPath := "runtime", byteOffset := 16 }, { name := "code", type := 6, offset := 3, embedded := false, tag := "", pkgPath := "runtime", byteOffset := 17 }], sz := 4, bytes := 24, z := Value.agg ([Value.int .i64 0, Value.int .i64 0, Value.bool false, Value.int .u8 0]).toArray }
theorem ok7 : TI.ok Try.prog 7 i7 := ⟨by kernel_rfl, Try.t7, by kernel_rfl, by kernel_rfl, by kernel_rfl, by kernel_rfl⟩
def i8 : TI := { u := .struct #[{ name := "x", type := 2, offset := 0, embedded := false, tag := "", pkgPath := "runtime", byteOffset := 0 }, { name := "y", type := 3, offset := 1, embedded := false, tag := "", pkgPath := "runtime", byteOffset := 8 }, { name := "signed", type := 4, offset := 2, embedded := false, tag := "", pkgPath := "runtime", byteOffset := 16 }, { name := "code", type := 6, offset := 3, embedded := false, tag := "", pkgPath := "runtime", byteOffset := 17 }], sz := 4, bytes := 24, z := Value.agg ([Value.int .i64 0, Value.int .i64 0, Value.bool false, Value.int .u8 0]).toArray }
theorem ok8 : TI.ok Try.prog 8 i8 := ⟨by kernel_rfl, Try.t8, by kernel_rfl, by kernel_rfl, by kernel_rfl, by kernel_rfl⟩
def i9 : TI := { u := .string, sz := 1, bytes := 16, z := Value.string ByteArray.empty }
theorem ok9 : TI.ok Try.prog 9 i9 := ⟨by kernel_rfl, Try.t9, by kernel_rfl, by kernel_rfl, by kernel_rfl, by kernel_rfl⟩
def i10 : TI := { u := .string, sz := 1, bytes := 16, z := Value.string ByteArray.empty }
theorem ok10 : TI.ok Try.prog 10 i10 := ⟨by kernel_rfl, Try.t10, by kernel_rfl, by kernel_rfl, by kernel_rfl, by kernel_rfl⟩
def i11 : TI := { u := .string, sz := 1, bytes := 16, z := Value.string ByteArray.empty }
theorem ok11 : TI.ok Try.prog 11 i11 := ⟨by kernel_rfl, Try.t11, by kernel_rfl, by kernel_rfl, by kernel_rfl, by kernel_rfl⟩
def i12 : TI := { u := .int .u64, sz := 1, bytes := 8, z := Value.int .u64 0 }
theorem ok12 : TI.ok Try.prog 12 i12 := ⟨by kernel_rfl, Try.t12, by kernel_rfl, by kernel_rfl, by kernel_rfl, by kernel_rfl⟩
def i13 : TI := { u := .struct #[{ name := "msg", type := 9, offset := 0, embedded := false, tag := "", pkgPath := "runtime", byteOffset := 0 }, { name := "addr", type := 12, offset := 1, embedded := false, tag := "", pkgPath := "runtime", byteOffset := 16 }], sz := 2, bytes := 24, z := Value.agg ([Value.string ByteArray.empty, Value.int .u64 0]).toArray }
theorem ok13 : TI.ok Try.prog 13 i13 := ⟨by kernel_rfl, Try.t13, by kernel_rfl, by kernel_rfl, by kernel_rfl, by kernel_rfl⟩
def i14 : TI := { u := .struct #[{ name := "msg", type := 9, offset := 0, embedded := false, tag := "", pkgPath := "runtime", byteOffset := 0 }, { name := "addr", type := 12, offset := 1, embedded := false, tag := "", pkgPath := "runtime", byteOffset := 16 }], sz := 2, bytes := 24, z := Value.agg ([Value.string ByteArray.empty, Value.int .u64 0]).toArray }
theorem ok14 : TI.ok Try.prog 14 i14 := ⟨by kernel_rfl, Try.t14, by kernel_rfl, by kernel_rfl, by kernel_rfl, by kernel_rfl⟩
def i15 : TI := { u := .pointer 129, sz := 1, bytes := 8, z := Value.pointer none }
theorem ok15 : TI.ok Try.prog 15 i15 := ⟨by kernel_rfl, Try.t15, by kernel_rfl, by kernel_rfl, by kernel_rfl, by kernel_rfl⟩
def i16 : TI := { u := .pointer 132, sz := 1, bytes := 8, z := Value.pointer none }
theorem ok16 : TI.ok Try.prog 16 i16 := ⟨by kernel_rfl, Try.t16, by kernel_rfl, by kernel_rfl, by kernel_rfl, by kernel_rfl⟩
def i17 : TI := { u := .pointer 142, sz := 1, bytes := 8, z := Value.pointer none }
theorem ok17 : TI.ok Try.prog 17 i17 := ⟨by kernel_rfl, Try.t17, by kernel_rfl, by kernel_rfl, by kernel_rfl, by kernel_rfl⟩
def i18 : TI := { u := .struct #[{ name := "typ", type := 17, offset := 0, embedded := false, tag := "", pkgPath := "internal/runtime/maps", byteOffset := 0 }], sz := 1, bytes := 8, z := Value.agg ([Value.pointer none]).toArray }
theorem ok18 : TI.ok Try.prog 18 i18 := ⟨by kernel_rfl, Try.t18, by kernel_rfl, by kernel_rfl, by kernel_rfl, by kernel_rfl⟩
def i19 : TI := { u := .struct #[{ name := "typ", type := 17, offset := 0, embedded := false, tag := "", pkgPath := "internal/runtime/maps", byteOffset := 0 }], sz := 1, bytes := 8, z := Value.agg ([Value.pointer none]).toArray }
theorem ok19 : TI.ok Try.prog 19 i19 := ⟨by kernel_rfl, Try.t19, by kernel_rfl, by kernel_rfl, by kernel_rfl, by kernel_rfl⟩
def i21 : TI := { u := .int .i32, sz := 1, bytes := 4, z := Value.int .i32 0 }
theorem ok21 : TI.ok Try.prog 21 i21 := ⟨by kernel_rfl, Try.t21, by kernel_rfl, by kernel_rfl, by kernel_rfl, by kernel_rfl⟩
def i22 : TI := { u := .slice 5, sz := 1, bytes := 24, z := Value.slice none 0 0 }
theorem ok22 : TI.ok Try.prog 22 i22 := ⟨by kernel_rfl, Try.t22, by kernel_rfl, by kernel_rfl, by kernel_rfl, by kernel_rfl⟩
def i23 : TI := { u := .int .u64, sz := 1, bytes := 8, z := Value.int .u64 0 }
theorem ok23 : TI.ok Try.prog 23 i23 := ⟨by kernel_rfl, Try.t23, by kernel_rfl, by kernel_rfl, by kernel_rfl, by kernel_rfl⟩
def i24 : TI := { u := .array 4 23, sz := 4, bytes := 32, z := Value.agg ([Value.int .u64 0, Value.int .u64 0, Value.int .u64 0, Value.int .u64 0]).toArray }
theorem ok24 : TI.ok Try.prog 24 i24 := ⟨by kernel_rfl, Try.t24, by kernel_rfl, by kernel_rfl, by kernel_rfl, by kernel_rfl⟩
def i25 : TI := { u := .array 4 23, sz := 4, bytes := 32, z := Value.agg ([Value.int .u64 0, Value.int .u64 0, Value.int .u64 0, Value.int .u64 0]).toArray }
theorem ok25 : TI.ok Try.prog 25 i25 := ⟨by kernel_rfl, Try.t25, by kernel_rfl, by kernel_rfl, by kernel_rfl, by kernel_rfl⟩
def i26 : TI := { u := .slice 29, sz := 1, bytes := 24, z := Value.slice none 0 0 }
theorem ok26 : TI.ok Try.prog 26 i26 := ⟨by kernel_rfl, Try.t26, by kernel_rfl, by kernel_rfl, by kernel_rfl, by kernel_rfl⟩
def i28 : TI := { u := .struct #[{ name := "List", type := 4, offset := 0, embedded := false, tag := "", pkgPath := "", byteOffset := 0 }, { name := "Data", type := 22, offset := 1, embedded := false, tag := "", pkgPath := "", byteOffset := 8 }, { name := "Items", type := 26, offset := 2, embedded := false, tag := "", pkgPath := "", byteOffset := 32 }], sz := 3, bytes := 56, z := Value.agg ([Value.bool false, Value.slice none 0 0, Value.slice none 0 0]).toArray }
theorem ok28 : TI.ok Try.prog 28 i28 := ⟨by kernel_rfl, Try.t28, by kernel_rfl, by kernel_rfl, by kernel_rfl, by kernel_rfl⟩
def i29 : TI := { u := .struct #[{ name := "List", type := 4, offset := 0, embedded := false, tag := "", pkgPath := "", byteOffset := 0 }, { name := "Data", type := 22, offset := 1, embedded := false, tag := "", pkgPath := "", byteOffset := 8 }, { name := "Items", type := 26, offset := 2, embedded := false, tag := "", pkgPath := "", byteOffset := 32 }], sz := 3, bytes := 56, z := Value.agg ([Value.bool false, Value.slice none 0 0, Value.slice none 0 0]).toArray }
theorem ok29 : TI.ok Try.prog 29 i29 := ⟨by kernel_rfl, Try.t29, by kernel_rfl, by kernel_rfl, by kernel_rfl, by kernel_rfl⟩
def i42 : TI := { u := .slice 22, sz := 1, bytes := 24, z := Value.slice none 0 0 }
theorem ok42 : TI.ok Try.prog 42 i42 := ⟨by kernel_rfl, Try.t42, by kernel_rfl, by kernel_rfl, by kernel_rfl, by kernel_rfl⟩
def i43 : TI := { u := .int .i64, sz := 1, bytes := 8, z := Value.int .i64 0 }
theorem ok43 : TI.ok Try.prog 43 i43 := ⟨by kernel_rfl, Try.t43, by kernel_rfl, by kernel_rfl, by kernel_rfl, by kernel_rfl⟩
def i104 : TI := { u := .struct #[{ name := "List", type := 4, offset := 0, embedded := false, tag := "", pkgPath := "", byteOffset := 0 }, { name := "From", type := 3, offset := 1, embedded := false, tag := "", pkgPath := "", byteOffset := 8 }, { name := "To", type := 3, offset := 2, embedded := false, tag := "", pkgPath := "", byteOffset := 16 }], sz := 3, bytes := 24, z := Value.agg ([Value.bool false, Value.int .i64 0, Value.int .i64 0]).toArray }
theorem ok104 : TI.ok Try.prog 104 i104 := ⟨by kernel_rfl, Try.t104, by kernel_rfl, by kernel_rfl, by kernel_rfl, by kernel_rfl⟩
def i105 : TI := { u := .struct #[{ name := "List", type := 4, offset := 0, embedded := false, tag := "", pkgPath := "", byteOffset := 0 }, { name := "From", type := 3, offset := 1, embedded := false, tag := "", pkgPath := "", byteOffset := 8 }, { name := "To", type := 3, offset := 2, embedded := false, tag := "", pkgPath := "", byteOffset := 16 }], sz := 3, bytes := 24, z := Value.agg ([Value.bool false, Value.int .i64 0, Value.int .i64 0]).toArray }
theorem ok105 : TI.ok Try.prog 105 i105 := ⟨by kernel_rfl, Try.t105, by kernel_rfl, by kernel_rfl, by kernel_rfl, by kernel_rfl⟩
def i110 : TI := { u := .slice 112, sz := 1, bytes := 24, z := Value.slice none 0 0 }
theorem ok110 : TI.ok Try.prog 110 i110 := ⟨by kernel_rfl, Try.t110, by kernel_rfl, by kernel_rfl, by kernel_rfl, by kernel_rfl⟩
def i111 : TI := { u := .struct #[{ name := "items", type := 26, offset := 0, embedded := false, tag := "", pkgPath := "waybill/rlp", byteOffset := 0 }, { name := "behind", type := 22, offset := 1, embedded := false, tag := "", pkgPath := "waybill/rlp", byteOffset := 24 }], sz := 2, bytes := 48, z := Value.agg ([Value.slice none 0 0, Value.slice none 0 0]).toArray }
theorem ok111 : TI.ok Try.prog 111 i111 := ⟨by kernel_rfl, Try.t111, by kernel_rfl, by kernel_rfl, by kernel_rfl, by kernel_rfl⟩
def i112 : TI := { u := .struct #[{ name := "items", type := 26, offset := 0, embedded := false, tag := "", pkgPath := "waybill/rlp", byteOffset := 0 }, { name := "behind", type := 22, offset := 1, embedded := false, tag := "", pkgPath := "waybill/rlp", byteOffset := 24 }], sz := 2, bytes := 48, z := Value.agg ([Value.slice none 0 0, Value.slice none 0 0]).toArray }
theorem ok112 : TI.ok Try.prog 112 i112 := ⟨by kernel_rfl, Try.t112, by kernel_rfl, by kernel_rfl, by kernel_rfl, by kernel_rfl⟩
def i115 : TI := { u := .array 32 5, sz := 32, bytes := 32, z := Value.agg (List.replicate 32 (Value.int .u8 0)).toArray }
theorem ok115 : TI.ok Try.prog 115 i115 := ⟨by kernel_rfl, Try.t115, by kernel_rfl, by kernel_rfl, by kernel_rfl, by kernel_rfl⟩
def i122 : TI := { u := .int .u64, sz := 1, bytes := 8, z := Value.int .u64 0 }
theorem ok122 : TI.ok Try.prog 122 i122 := ⟨by kernel_rfl, Try.t122, by kernel_rfl, by kernel_rfl, by kernel_rfl, by kernel_rfl⟩
def i128 : TI := { u := .struct #[{ name := "_interface", type := 17, offset := 0, embedded := false, tag := "", pkgPath := "runtime", byteOffset := 0 }, { name := "concrete", type := 17, offset := 1, embedded := false, tag := "", pkgPath := "runtime", byteOffset := 8 }, { name := "asserted", type := 17, offset := 2, embedded := false, tag := "", pkgPath := "runtime", byteOffset := 16 }, { name := "missingMethod", type := 9, offset := 3, embedded := false, tag := "", pkgPath := "runtime", byteOffset := 24 }], sz := 4, bytes := 40, z := Value.agg ([Value.pointer none, Value.pointer none, Value.pointer none, Value.string ByteArray.empty]).toArray }
theorem ok128 : TI.ok Try.prog 128 i128 := ⟨by kernel_rfl, Try.t128, by kernel_rfl, by kernel_rfl, by kernel_rfl, by kernel_rfl⟩
def i129 : TI := { u := .struct #[{ name := "_interface", type := 17, offset := 0, embedded := false, tag := "", pkgPath := "runtime", byteOffset := 0 }, { name := "concrete", type := 17, offset := 1, embedded := false, tag := "", pkgPath := "runtime", byteOffset := 8 }, { name := "asserted", type := 17, offset := 2, embedded := false, tag := "", pkgPath := "runtime", byteOffset := 16 }, { name := "missingMethod", type := 9, offset := 3, embedded := false, tag := "", pkgPath := "runtime", byteOffset := 24 }], sz := 4, bytes := 40, z := Value.agg ([Value.pointer none, Value.pointer none, Value.pointer none, Value.string ByteArray.empty]).toArray }
theorem ok129 : TI.ok Try.prog 129 i129 := ⟨by kernel_rfl, Try.t129, by kernel_rfl, by kernel_rfl, by kernel_rfl, by kernel_rfl⟩
def i130 : TI := { u := .array 0 16, sz := 0, bytes := 0, z := Value.agg ([]).toArray }
theorem ok130 : TI.ok Try.prog 130 i130 := ⟨by kernel_rfl, Try.t130, by kernel_rfl, by kernel_rfl, by kernel_rfl, by kernel_rfl⟩
def i131 : TI := { u := .struct #[{ name := "_", type := 130, offset := 0, embedded := false, tag := "", pkgPath := "runtime", byteOffset := 0 }], sz := 0, bytes := 0, z := Value.agg ([]).toArray }
theorem ok131 : TI.ok Try.prog 131 i131 := ⟨by kernel_rfl, Try.t131, by kernel_rfl, by kernel_rfl, by kernel_rfl, by kernel_rfl⟩
def i132 : TI := { u := .struct #[{ name := "_", type := 130, offset := 0, embedded := false, tag := "", pkgPath := "runtime", byteOffset := 0 }], sz := 0, bytes := 0, z := Value.agg ([]).toArray }
theorem ok132 : TI.ok Try.prog 132 i132 := ⟨by kernel_rfl, Try.t132, by kernel_rfl, by kernel_rfl, by kernel_rfl, by kernel_rfl⟩
def i134 : TI := { u := .int .u32, sz := 1, bytes := 4, z := Value.int .u32 0 }
theorem ok134 : TI.ok Try.prog 134 i134 := ⟨by kernel_rfl, Try.t134, by kernel_rfl, by kernel_rfl, by kernel_rfl, by kernel_rfl⟩
def i135 : TI := { u := .int .u8, sz := 1, bytes := 1, z := Value.int .u8 0 }
theorem ok135 : TI.ok Try.prog 135 i135 := ⟨by kernel_rfl, Try.t135, by kernel_rfl, by kernel_rfl, by kernel_rfl, by kernel_rfl⟩
def i136 : TI := { u := .int .u8, sz := 1, bytes := 1, z := Value.int .u8 0 }
theorem ok136 : TI.ok Try.prog 136 i136 := ⟨by kernel_rfl, Try.t136, by kernel_rfl, by kernel_rfl, by kernel_rfl, by kernel_rfl⟩
def i138 : TI := { u := .pointer 5, sz := 1, bytes := 8, z := Value.pointer none }
theorem ok138 : TI.ok Try.prog 138 i138 := ⟨by kernel_rfl, Try.t138, by kernel_rfl, by kernel_rfl, by kernel_rfl, by kernel_rfl⟩
def i139 : TI := { u := .int .i32, sz := 1, bytes := 4, z := Value.int .i32 0 }
theorem ok139 : TI.ok Try.prog 139 i139 := ⟨by kernel_rfl, Try.t139, by kernel_rfl, by kernel_rfl, by kernel_rfl, by kernel_rfl⟩
def i140 : TI := { u := .int .i32, sz := 1, bytes := 4, z := Value.int .i32 0 }
theorem ok140 : TI.ok Try.prog 140 i140 := ⟨by kernel_rfl, Try.t140, by kernel_rfl, by kernel_rfl, by kernel_rfl, by kernel_rfl⟩
def i141 : TI := { u := .struct #[{ name := "Size_", type := 12, offset := 0, embedded := false, tag := "", pkgPath := "", byteOffset := 0 }, { name := "PtrBytes", type := 12, offset := 1, embedded := false, tag := "", pkgPath := "", byteOffset := 8 }, { name := "Hash", type := 134, offset := 2, embedded := false, tag := "", pkgPath := "", byteOffset := 16 }, { name := "TFlag", type := 135, offset := 3, embedded := false, tag := "", pkgPath := "", byteOffset := 20 }, { name := "Align_", type := 5, offset := 4, embedded := false, tag := "", pkgPath := "", byteOffset := 21 }, { name := "FieldAlign_", type := 5, offset := 5, embedded := false, tag := "", pkgPath := "", byteOffset := 22 }, { name := "Kind_", type := 136, offset := 6, embedded := false, tag := "", pkgPath := "", byteOffset := 23 }, { name := "Equal", type := 137, offset := 7, embedded := false, tag := "", pkgPath := "", byteOffset := 24 }, { name := "GCData", type := 138, offset := 8, embedded := false, tag := "", pkgPath := "", byteOffset := 32 }, { name := "Str", type := 139, offset := 9, embedded := false, tag := "", pkgPath := "", byteOffset := 40 }, { name := "PtrToThis", type := 140, offset := 10, embedded := false, tag := "", pkgPath := "", byteOffset := 44 }], sz := 11, bytes := 48, z := Value.agg ([Value.int .u64 0, Value.int .u64 0, Value.int .u32 0, Value.int .u8 0, Value.int .u8 0, Value.int .u8 0, Value.int .u8 0, Value.nilFunc, Value.pointer none, Value.int .i32 0, Value.int .i32 0]).toArray }
theorem ok141 : TI.ok Try.prog 141 i141 := ⟨by kernel_rfl, Try.t141, by kernel_rfl, by kernel_rfl, by kernel_rfl, by kernel_rfl⟩
def i142 : TI := { u := .struct #[{ name := "Size_", type := 12, offset := 0, embedded := false, tag := "", pkgPath := "", byteOffset := 0 }, { name := "PtrBytes", type := 12, offset := 1, embedded := false, tag := "", pkgPath := "", byteOffset := 8 }, { name := "Hash", type := 134, offset := 2, embedded := false, tag := "", pkgPath := "", byteOffset := 16 }, { name := "TFlag", type := 135, offset := 3, embedded := false, tag := "", pkgPath := "", byteOffset := 20 }, { name := "Align_", type := 5, offset := 4, embedded := false, tag := "", pkgPath := "", byteOffset := 21 }, { name := "FieldAlign_", type := 5, offset := 5, embedded := false, tag := "", pkgPath := "", byteOffset := 22 }, { name := "Kind_", type := 136, offset := 6, embedded := false, tag := "", pkgPath := "", byteOffset := 23 }, { name := "Equal", type := 137, offset := 7, embedded := false, tag := "", pkgPath := "", byteOffset := 24 }, { name := "GCData", type := 138, offset := 8, embedded := false, tag := "", pkgPath := "", byteOffset := 32 }, { name := "Str", type := 139, offset := 9, embedded := false, tag := "", pkgPath := "", byteOffset := 40 }, { name := "PtrToThis", type := 140, offset := 10, embedded := false, tag := "", pkgPath := "", byteOffset := 44 }], sz := 11, bytes := 48, z := Value.agg ([Value.int .u64 0, Value.int .u64 0, Value.int .u32 0, Value.int .u8 0, Value.int .u8 0, Value.int .u8 0, Value.int .u8 0, Value.nilFunc, Value.pointer none, Value.int .i32 0, Value.int .i32 0]).toArray }
theorem ok142 : TI.ok Try.prog 142 i142 := ⟨by kernel_rfl, Try.t142, by kernel_rfl, by kernel_rfl, by kernel_rfl, by kernel_rfl⟩
def i143 : TI := { u := .unsafePointer, sz := 1, bytes := 8, z := Value.pointer none }
theorem ok143 : TI.ok Try.prog 143 i143 := ⟨by kernel_rfl, Try.t143, by kernel_rfl, by kernel_rfl, by kernel_rfl, by kernel_rfl⟩
instance types : Types Try.prog where
  tbl := [(2, i2), (3, i3), (4, i4), (5, i5), (6, i6), (7, i7), (8, i8), (9, i9), (10, i10), (11, i11), (12, i12), (13, i13), (14, i14), (15, i15), (16, i16), (17, i17), (18, i18), (19, i19), (21, i21), (22, i22), (23, i23), (24, i24), (25, i25), (26, i26), (28, i28), (29, i29), (42, i42), (43, i43), (104, i104), (105, i105), (110, i110), (111, i111), (112, i112), (115, i115), (122, i122), (128, i128), (129, i129), (130, i130), (131, i131), (132, i132), (134, i134), (135, i135), (136, i136), (138, i138), (139, i139), (140, i140), (141, i141), (142, i142), (143, i143)]
  ok := TI.lk_all _ (AllOk.mem ⟨ok2, ok3, ok4, ok5, ok6, ok7, ok8, ok9, ok10, ok11, ok12, ok13, ok14, ok15, ok16, ok17, ok18, ok19, ok21, ok22, ok23, ok24, ok25, ok26, ok28, ok29, ok42, ok43, ok104, ok105, ok110, ok111, ok112, ok115, ok122, ok128, ok129, ok130, ok131, ok132, ok134, ok135, ok136, ok138, ok139, ok140, ok141, ok142, ok143, trivial⟩)
instance noGuard : NoGuard Try.prog where
  ts := [7, 8, 13, 14, 18, 19, 24, 25, 28, 29, 104, 105, 111, 112, 115, 128, 129, 130, 131, 132, 141, 142]
  ok := AllNG.mem ⟨Try.eqGuardType7, Try.eqGuardType8, Try.eqGuardType13, Try.eqGuardType14, Try.eqGuardType18, Try.eqGuardType19, Try.eqGuardType24, Try.eqGuardType25, Try.eqGuardType28, Try.eqGuardType29, Try.eqGuardType104, Try.eqGuardType105, Try.eqGuardType111, Try.eqGuardType112, Try.eqGuardType115, Try.eqGuardType128, Try.eqGuardType129, Try.eqGuardType130, Try.eqGuardType131, Try.eqGuardType132, Try.eqGuardType141, Try.eqGuardType142, trivial⟩
theorem mixed : Try.prog.follows .mixedOrders = true := by kernel_rfl
end Go.Fw.Try
