/- Part of a proof: rules that its law uses. -/
import Derived.ChangeArms
import Derived.Test.YtojnakdlnlcmiaaDoorT2
namespace Go.Fw
set_option linter.unusedVariables false
set_option maxRecDepth 100000
def u256_From (a0 : BitVec 64) : Option ((Vector (BitVec 64) 4)) := (some ((Vector.replicate 4 0#64).setIfInBounds 0 a0))
def rlp_clone (a0 : List (BitVec 8)) : Option ((List (BitVec 8))) := (some a0)
def rlp_Text (a0 : List (BitVec 8)) : Option ((It)) := ((rlp_clone a0).bind fun x4 => (some (It.mk false x4 ([] : List (It)))))
def rlp_odd (a0 : It) : Option ((Bool)) := (((if a0.list = true then (if 0 < a0.data.length then (some (true)) else (if a0.list = true then (some (false)) else (some ((decide (0 < a0.items.length)))))) else (if a0.list = true then (some (false)) else (some ((decide (0 < a0.items.length)))))) : Option ((Bool))).bind fun p16 => (some (p16)))
def rlp_kind (a0 : It) (a1 : Bool) : Option ((Nat)) := ((rlp_odd a0).bind fun x15 => (if x15 = true then (some 78) else (if (a0.list) = (a1) then (some 0) else (some 75))))
def math_bits_Len64 (a0 : BitVec 64) : Option ((Nat)) := (((if 4294967296 ≤ a0.toNat then (some (((a0 >>> 32), 32))) else (some ((a0, 0)))) : Option ((BitVec 64) × (Nat))).bind fun (w3, n4) => (((if 65536 ≤ w3.toNat then (if (n4 + 16) ≤ 9223372036854775807 then (some (((w3 >>> 16), (n4 + 16)))) else none) else (some ((w3, n4)))) : Option ((BitVec 64) × (Nat))).bind fun (w13, n14) => (((if 256 ≤ w13.toNat then (if (n14 + 8) ≤ 9223372036854775807 then (some (((w13 >>> 8), (n14 + 8)))) else none) else (some ((w13, n14)))) : Option ((BitVec 64) × (Nat))).bind fun (w23, n24) => (if (n24 + (BitVec.ofNat 8 (lenB (w23.setWidth 8))).toNat) ≤ 9223372036854775807 then (some (n24 + (BitVec.ofNat 8 (lenB (w23.setWidth 8))).toNat)) else none))))
def u256_Len.l1 (a0 : Vector (BitVec 64) 4) : Nat → (Int) → Option (Lp ((Int)) (Unit))
  | 0, _ => none
  | k11 + 1, z9 => (if (0 : Int) ≤ z9 then (if (z9).toNat < 4 then (a0[(z9).toNat]?).bind fun x20 => (if x20 = 0#64 then (if -9223372036854775808 ≤ (z9 - (1 : Int)) ∧ (z9 - (1 : Int)) ≤ 9223372036854775807 then (u256_Len.l1 a0 k11 (z9 - (1 : Int))) else none) else (if -9223372036854775808 ≤ ((64 : Int) * z9) ∧ ((64 : Int) * z9) ≤ 9223372036854775807 then (a0[(z9).toNat]?).bind fun x25 => ((math_bits_Len64 x25).bind fun x28 => (if -9223372036854775808 ≤ (((64 : Int) * z9) + ((x28 : Nat) : Int)) ∧ (((64 : Int) * z9) + ((x28 : Nat) : Int)) ≤ 9223372036854775807 then (some (Lp.ret (some (((64 : Int) * z9) + ((x28 : Nat) : Int))))) else none)) else none)) else none) else (some (Lp.go ())))
def u256_Len (a0 : Vector (BitVec 64) 4) : Option ((Int)) := (((u256_Len.l1 a0 5 (3 : Int)) : Option (Lp ((Int)) (Unit))).bind fun | .ret o => o | .go () => (some (0 : Int)))
def u256_Sub.l1 (a0 : Vector (BitVec 64) 4) (a1 : Vector (BitVec 64) 4) : Nat → (BitVec 64) → (Nat) → (Vector (BitVec 64) 4) → Option ((BitVec 64) × (Vector (BitVec 64) 4))
  | 0, _, _, _ => none
  | k18 + 1, w14, n15, w17 => (if n15 < 4 then (a0[n15]?).bind fun x26 => (a1[n15]?).bind fun x28 => ((sub64c x26 x28 w14).bind fun (w30, w31) => (u256_Sub.l1 a0 a1 k18 w31 (n15 + 1) (w17.setIfInBounds n15 w30))) else (some ((w14, w17))))
def u256_Sub (a0 : Vector (BitVec 64) 4) (a1 : Vector (BitVec 64) 4) : Option ((Vector (BitVec 64) 4) × (BitVec 64)) := (((u256_Sub.l1 a0 a1 (4 - 0 + 2) (0#64) 0 (Vector.replicate 4 0#64)) : Option ((BitVec 64) × (Vector (BitVec 64) 4))).bind fun (w7, w8) => (some (w8, w7)))
def u256_Cmp (a0 : Vector (BitVec 64) 4) (a1 : Vector (BitVec 64) 4) : Option ((Int)) := (if a0 = a1 then (some (0 : Int)) else ((u256_Sub a0 a1).bind fun (x5, x6) => (if x6 = 1#64 then (some (-1 : Int)) else (some (1 : Int)))))
def u256_Put.l1 (a0 : Vector (BitVec 64) 4) : Nat → (Nat) → (Vector (BitVec 8) 32) → Option ((Vector (BitVec 8) 32))
  | 0, _, _ => none
  | k15 + 1, n12, w14 => (if n12 < 32 then (if n12 ≤ 31 then (if (n12 / 8) < 4 then (a0[(n12 / 8)]?).bind fun x25 => (if (31 - n12) < 32 then (u256_Put.l1 a0 k15 (n12 + 1) (w14.setIfInBounds (31 - n12) ((x25 >>> (8 * (n12 % 8))).setWidth 8))) else none) else none) else none) else (some (w14)))
def u256_Put (a0 : Vector (BitVec 64) 4) : Option ((Vector (BitVec 8) 32)) := (((u256_Put.l1 a0 (32 - 0 + 2) 0 (Vector.replicate 32 0#8)) : Option ((Vector (BitVec 8) 32))).bind fun w6 => (some w6))
def waybillref01_Put.l1 (a0 : Vector (BitVec 64) 4) : Nat → (Nat) → (Vector (BitVec 8) 32) → Option ((Vector (BitVec 8) 32))
  | 0, _, _ => none
  | k15 + 1, n12, w14 => (if n12 < 32 then (if n12 ≤ 31 then (if (n12 / 8) < 4 then (a0[(n12 / 8)]?).bind fun x25 => (if (31 - n12) < 32 then (waybillref01_Put.l1 a0 k15 (n12 + 1) (w14.setIfInBounds (31 - n12) ((x25 >>> (BitVec.ofNat 64 (8 * (n12 % 8))).toNat).setWidth 8))) else none) else none) else none) else (some (w14)))
def waybillref01_Put (a0 : Vector (BitVec 64) 4) : Option ((Vector (BitVec 8) 32)) := (((waybillref01_Put.l1 a0 (32 - 0 + 2) 0 (Vector.replicate 32 0#8)) : Option ((Vector (BitVec 8) 32))).bind fun w6 => (some w6))
def u256_Bytes (a0 : Vector (BitVec 64) 4) : Option ((List (BitVec 8))) := ((u256_Put a0).bind fun x3 => ((u256_Len a0).bind fun x8 => (if -9223372036854775808 ≤ (x8 + (7 : Int)) ∧ (x8 + (7 : Int)) ≤ 9223372036854775807 then (if 0 ≤ (x8 + (7 : Int)) then (if 0 ≤ ((32 : Int) - ((((x8 + (7 : Int))).toNat / 8 : Nat) : Int)) then (if (((32 : Int) - ((((x8 + (7 : Int))).toNat / 8 : Nat) : Int))).toNat ≤ 32 then (some (x3.toList.drop ((((32 : Int) - ((((x8 + (7 : Int))).toNat / 8 : Nat) : Int))).toNat))) else none) else none) else none) else none)))
end Go.Fw
namespace Go.Fw
set_option linter.unusedVariables false
set_option maxRecDepth 100000
def u256_Get.l1 (a0 : List (BitVec 8)) : Nat → (Nat) → (Vector (BitVec 64) 4) → Option ((Vector (BitVec 64) 4))
  | 0, _, _ => none
  | k16 + 1, n13, w15 => (if n13 < a0.length then (if 1 ≤ a0.length then (if n13 ≤ (a0.length - 1) then (if (((a0.length - 1) - n13) / 8) < 4 then (w15[(((a0.length - 1) - n13) / 8)]?).bind fun x27 => (a0[n13]?).bind fun x29 => (u256_Get.l1 a0 k16 (n13 + 1) (w15.setIfInBounds (((a0.length - 1) - n13) / 8) (x27 ||| ((x29.setWidth 64) <<< (8 * (((a0.length - 1) - n13) % 8)))))) else none) else none) else none) else (some (w15)))
def u256_Get (a0 : List (BitVec 8)) : Option ((Vector (BitVec 64) 4) × (Nat)) := (if 32 < a0.length then (some ((Vector.replicate 4 0#64), 11)) else (((u256_Get.l1 a0 (a0.length - 0 + 2) 0 (Vector.replicate 4 0#64)) : Option ((Vector (BitVec 64) 4))).bind fun w7 => (some (w7, 0))))
def u256_Strict (a0 : List (BitVec 8)) : Option ((Vector (BitVec 64) 4) × (Nat)) := ((u256_Get a0).bind fun (x4, x5) => (((if x5 = 0 then (if 0 < a0.length then (a0[0]?).bind fun x21 => (some ((decide (x21 = 0#8)))) else (some (false))) else (some (false))) : Option ((Bool))).bind fun p12 => (if p12 = true then (some ((Vector.replicate 4 0#64), 13)) else (some (x4, x5)))))
def rlp_head (a0 : BitVec 8) (a1 : Nat) : Option ((List (BitVec 8))) := (if a1 ≤ 55 then (some ([(a0 + (BitVec.ofNat 8 a1))] : List (BitVec 8))) else ((u256_From (BitVec.ofNat 64 a1)).bind fun x5 => ((u256_Bytes x5).bind fun x9 => (if ([((a0 + 55#8) + (BitVec.ofNat 8 x9.length))] : List (BitVec 8)).length + x9.length ≤ 140737488355328 then (some (([((a0 + 55#8) + (BitVec.ofNat 8 x9.length))] : List (BitVec 8)) ++ x9)) else none))))
def rlp_twin.l1 (a0 : List (It)) (rc : (List (It)) → Option ((List (It)))) : Nat → (List (It)) → (Nat) → Option ((List (It)))
  | 0, _, _ => none
  | k30 + 1, l21, n28 => (if n28 < a0.length then (a0[n28]?).bind fun x39 => ((rlp_clone x39.data).bind fun x59 => ((rc x39.items).bind fun x71 => (if (l21.length + ([(It.mk (x39.list) x59 x71)] : List (It)).length) * 56 ≤ 140737488355328 then (rlp_twin.l1 a0 rc k30 (l21 ++ ([(It.mk (x39.list) x59 x71)] : List (It))) (n28 + 1)) else none))) else (some (l21)))
def rlp_twin.r : Nat → (List (It)) → Option ((List (It)))
  | 0, _ => none
  | kf + 1, a0 => (((rlp_twin.l1 a0 (rlp_twin.r kf) (a0.length - 0 + 2) ([] : List (It)) 0) : Option ((List (It)))).bind fun l6 => (some l6))
def rlp_twin (a0 : List (It)) : Option ((List (It))) := rlp_twin.r (Its.sz a0 + 1) a0
def rlp_size.l1 (a0 : It) (rc : (It) → Option ((Nat))) : Nat → (Nat) → (Nat) → Option ((Nat))
  | 0, _, _ => none
  | k41 + 1, n37, n39 => (if n39 < a0.items.length then (a0.items[n39]?).bind fun x49 => ((rc x49).bind fun x69 => (if (n37 + x69) ≤ 9223372036854775807 then (rlp_size.l1 a0 rc k41 (n37 + x69) (n39 + 1)) else none)) else (some (n37)))
def rlp_size.r : Nat → (It) → Option ((Nat))
  | 0, _ => none
  | kf + 1, a0 => (if a0.list = true then (((rlp_size.l1 a0 (rlp_size.r kf) (a0.items.length - 0 + 2) 0 0) : Option ((Nat))).bind fun n17 => ((rlp_head (192#8) n17).bind fun x25 => (if (x25.length + n17) ≤ 9223372036854775807 then (some (x25.length + n17)) else none))) else (((if a0.data.length = 1 then (a0.data[0]?).bind fun x96 => (some ((decide (x96.toNat < 128)))) else (some (false))) : Option ((Bool))).bind fun p76 => (if p76 = true then (some 1) else ((rlp_head (128#8) a0.data.length).bind fun x84 => (some (x84.length + a0.data.length))))))
def rlp_size (a0 : It) : Option ((Nat)) := rlp_size.r (It.sz a0 + 1) a0
def rlp_sound.l1 (a0 : It) (rc : (It) → Option ((Nat) × (Bool))) : Nat → (Nat) → (Nat) → Option (Lp ((Nat) × (Bool)) ((Nat)))
  | 0, _, _ => none
  | k34 + 1, n30, n32 => (if n32 < a0.items.length then (a0.items[n32]?).bind fun x42 => ((rc x42).bind fun (x62, x63) => (if x63 = true then (rlp_sound.l1 a0 rc k34 (max n30 x62) (n32 + 1)) else (some (Lp.ret (some (0, false)))))) else (some (Lp.go n30)))
def rlp_sound.r : Nat → (It) → Option ((Nat) × (Bool))
  | 0, _ => none
  | kf + 1, a0 => ((rlp_odd a0).bind fun x15 => (if x15 = true then (some (0, false)) else (if a0.list = true then (((rlp_sound.l1 a0 (rlp_sound.r kf) (a0.items.length - 0 + 2) 0 0) : Option (Lp ((Nat) × (Bool)) ((Nat)))).bind fun | .ret o => o | .go n22 => (if (n22 + 1) ≤ 9223372036854775807 then (some ((n22 + 1), true)) else none)) else (some (0, true)))))
def rlp_sound (a0 : It) : Option ((Nat) × (Bool)) := rlp_sound.r (It.sz a0 + 1) a0
def rlp_lay.l1 (a1 : It) (rc : (List (BitVec 8)) → (It) → Option ((List (BitVec 8)))) : Nat → (List (BitVec 8)) → (Nat) → Option ((List (BitVec 8)))
  | 0, _, _ => none
  | k65 + 1, l58, n63 => (if n63 < a1.items.length then (a1.items[n63]?).bind fun x75 => ((rc l58 x75).bind fun x95 => (rlp_lay.l1 a1 rc k65 x95 (n63 + 1))) else (some (l58)))
def rlp_lay.r : Nat → (List (BitVec 8)) → (It) → Option ((List (BitVec 8)))
  | 0, _, _ => none
  | kf + 1, a0, a1 => (if a1.list = true then (((rlp_lay.l1 a1 (rlp_lay.r kf) (a1.items.length - 0 + 2) ([] : List (BitVec 8)) 0) : Option ((List (BitVec 8)))).bind fun l20 => ((rlp_head (192#8) l20.length).bind fun x33 => (if a0.length + x33.length ≤ 140737488355328 then (if (a0 ++ x33).length + l20.length ≤ 140737488355328 then (some ((a0 ++ x33) ++ l20)) else none) else none))) else (((if a1.data.length = 1 then (a1.data[0]?).bind fun x156 => (some ((decide (128 ≤ x156.toNat)))) else (some (true))) : Option ((Bool))).bind fun p108 => (((if p108 = true then ((rlp_head (128#8) a1.data.length).bind fun x138 => (if a0.length + x138.length ≤ 140737488355328 then (some ((a0 ++ x138))) else none)) else (some (a0))) : Option ((List (BitVec 8)))).bind fun l119 => (if l119.length + a1.data.length ≤ 140737488355328 then (some (l119 ++ a1.data)) else none))))
def rlp_lay (a0 : List (BitVec 8)) (a1 : It) : Option ((List (BitVec 8))) := rlp_lay.r (It.sz a1 + 1) a0 a1
end Go.Fw
namespace Go.Fw
set_option linter.unusedVariables false
set_option maxRecDepth 100000
def rlp_Number (a0 : Vector (BitVec 64) 4) : Option ((It)) := ((u256_Bytes a0).bind fun x4 => (some (It.mk false x4 ([] : List (It)))))
def rlp_Small (a0 : BitVec 64) : Option ((It)) := ((u256_From a0).bind fun x3 => ((rlp_Number x3).bind fun x7 => (some x7)))
def rlp_List (a0 : List (It)) : Option ((It)) := ((rlp_twin a0).bind fun x4 => (some (It.mk true ([] : List (BitVec 8)) x4)))
def rlp_GetText (a0 : It) : Option ((List (BitVec 8)) × (Nat)) := ((rlp_kind a0 false).bind fun x15 => (if x15 = 0 then ((rlp_clone a0.data).bind fun x21 => (some (x21, 0))) else (some (([] : List (BitVec 8)), x15))))
def rlp_number (a0 : It) (a1 : Int) : Option ((Vector (BitVec 64) 4) × (Nat)) := ((rlp_kind a0 false).bind fun x16 => (if x16 = 0 then (if a1 < ((a0.data.length : Nat) : Int) then (some ((Vector.replicate 4 0#64), 77)) else ((u256_Strict a0.data).bind fun (x23, x24) => (if x24 = 0 then (some (x23, 0)) else (some ((Vector.replicate 4 0#64), 76))))) else (some ((Vector.replicate 4 0#64), x16))))
def rlp_GetSmall (a0 : It) : Option ((BitVec 64) × (Nat)) := ((rlp_number a0 (8 : Int)).bind fun (x15, x16) => (some (x15[0], x16)))
def rlp_GetList (a0 : It) : Option ((List (It)) × (Nat)) := ((rlp_kind a0 true).bind fun x15 => (if x15 = 0 then ((rlp_twin a0.items).bind fun x21 => (some (x21, 0))) else (some (([] : List (It)), x15))))
def rlp_Check (a0 : It) : Option ((Nat)) := ((rlp_sound a0).bind fun (x15, x16) => (if x16 = true then (if 1024 < x15 then (some 74) else ((rlp_size a0).bind fun x23 => (if 16777216 < x23 then (some 2) else (some 0)))) else (some 78)))
def rlp_Size (a0 : It) : Option ((Nat) × (Nat)) := ((rlp_Check a0).bind fun x15 => (if x15 = 0 then ((rlp_size a0).bind fun x21 => (some (x21, 0))) else (some (0, x15))))
def rlp_Encode (a0 : It) : Option ((List (BitVec 8)) × (Nat)) := ((rlp_Check a0).bind fun x15 => (if x15 = 0 then ((rlp_lay ([] : List (BitVec 8)) a0).bind fun x21 => (some (x21, 0))) else (some (([] : List (BitVec 8)), x15))))
end Go.Fw
namespace Go.Fw
set_option linter.unusedVariables false
set_option maxRecDepth 100000
def rlp_cut (a0 : List (BitVec 8)) : Option ((Bool) × (List (BitVec 8)) × (List (BitVec 8)) × (Nat)) := (if a0.length = 0 then (some (false, ([] : List (BitVec 8)), ([] : List (BitVec 8)), 70)) else (a0[0]?).bind fun x3 => (if x3.toNat < 128 then (if 1 ≤ a0.length then (some (false, (a0.take 1), (a0.drop 1), 0)) else none) else (((if 192 ≤ x3.toNat then (some ((x3 - 192#8).toNat)) else (some ((x3 - 128#8).toNat))) : Option ((Nat))).bind fun n15 => (if 1 ≤ a0.length then (((if 55 < n15 then (if (a0.drop 1).length < (n15 - 55) then (some (Lp.ret (some (false, ([] : List (BitVec 8)), ([] : List (BitVec 8)), 70)))) else (if (n15 - 55) ≤ (a0.drop 1).length then ((u256_Get ((a0.drop 1).take (n15 - 55))).bind fun (x65, x66) => ((((a0.drop 1)[0]?).bind fun x94 => (if x94 = 0#8 then (some (true)) else ((u256_From (55#64)).bind fun x99 => ((u256_Cmp x65 x99).bind fun x103 => (some ((decide (x103 ≤ (0 : Int)))))))) : Option ((Bool))).bind fun p73 => (if p73 = true then (some (Lp.ret (some (false, ([] : List (BitVec 8)), ([] : List (BitVec 8)), 72)))) else ((u256_From (BitVec.ofNat 64 (((a0.drop 1).drop (n15 - 55)).length))).bind fun x83 => ((u256_Cmp x65 x83).bind fun x87 => (if (0 : Int) < x87 then (some (Lp.ret (some (false, ([] : List (BitVec 8)), ([] : List (BitVec 8)), 70)))) else (if (x65[0]).toNat ≤ 9223372036854775807 then (some (Lp.go (((a0.drop 1).drop (n15 - 55)), (x65[0]).toNat))) else none))))))) else none)) else (some (Lp.go ((a0.drop 1), n15)))) : Option (Lp ((Bool) × (List (BitVec 8)) × (List (BitVec 8)) × (Nat)) ((List (BitVec 8)) × (Nat)))).bind fun | .ret o => o | .go (l27, n31) => (if l27.length < n31 then (some (false, ([] : List (BitVec 8)), ([] : List (BitVec 8)), 70)) else (((if 192 ≤ x3.toNat then (some (false)) else (if n31 = 1 then (l27[0]?).bind fun x56 => (some ((decide (x56.toNat < 128)))) else (some (false)))) : Option ((Bool))).bind fun p42 => (if p42 = true then (some (false, ([] : List (BitVec 8)), ([] : List (BitVec 8)), 71)) else (if n31 ≤ l27.length then (some ((decide (192 ≤ x3.toNat)), (l27.take n31), (l27.drop n31), 0)) else none))))) else none))))
end Go.Fw
namespace Go.Fw
open Go
set_option linter.unusedVariables false
set_option maxRecDepth 10000
structure Rdr where
  err : Int
def Rdr.C (s : Rdr) : List Value := [.int .i64 s.err]
theorem Rdr.C_length (s : Rdr) : s.C.length = 1 := by simp [Rdr.C]
theorem Rdr.C_one (s : Rdr) : ∀ u ∈ s.C, u.oneCell' = true := by
  intro u hu
  simp only [Rdr.C, List.mem_append, List.mem_singleton] at hu
  rcases hu with rfl
  · rfl
theorem Rdr.C_err (s : Rdr) : s.C[0]? = some (.int .i64 s.err) := by
  rw [show 0 = 0 by rfl]; exact rfl
theorem Rdr.C_err_set (s : Rdr) (x : Int) : s.C.set 0 (.int .i64 x) = ({ s with err := x } : Rdr).C := by
  rw [show 0 = 0 by rfl]; exact rfl
end Go.Fw
namespace Go.Fw
open Go
set_option linter.unusedVariables false
theorem fillL_cons {pl : List (Nat × Nat)} {l vs : List Value} {i off size : Nat} {r : List (Nat × List Value)} (h : pl[i]? = some (off, size)) (hl : vs.length = size) (hb : off + size ≤ l.length) : fillL pl l ((i, vs) :: r) = fillL pl (spl l off vs) r := by
  rw [fillL, h]
  dsimp only
  rw [if_pos (by simp [hl, hb])]
theorem spl_one {l : List Value} {off : Nat} {v : Value} (h : off < l.length) : spl l off [v] = l.set off v := by
  unfold spl
  rw [List.set_eq_take_append_cons_drop, if_pos h]
  simp
end Go.Fw
namespace Go.Fw
set_option linter.unusedVariables false
set_option maxRecDepth 100000
def waybilllaw17_num (a0 : Int) : Option ((Int)) := (some a0)
def receipt_Check.l1 (a0 : Rcpt) : Nat → (Nat) → Option (Lp ((Nat)) (Unit))
  | 0, _ => none
  | k43 + 1, n41 => (if n41 < a0.logs.length then (a0.logs[n41]?).bind fun x51 => (if 4 < x51.topics.length then (some (Lp.ret (some 174))) else (receipt_Check.l1 a0 k43 (n41 + 1))) else (some (Lp.go ())))
def receipt_Check (a0 : Rcpt) : Option ((Nat)) := (((if a0.kind < (0 : Int) then (some (true)) else (some ((decide ((4 : Int) < a0.kind))))) : Option ((Bool))).bind fun p13 => (if p13 = true then (some 170) else (((if a0.rooted = true then (if a0.kind = (0 : Int) then (if a0.status = 0#64 then (if a0.rooted = true then (some (false)) else (if a0.root = (Vector.replicate 32 0#8) then (some ((decide (1 < a0.status.toNat)))) else (some (true)))) else (some (true))) else (some (true))) else (if a0.rooted = true then (some (false)) else (if a0.root = (Vector.replicate 32 0#8) then (some ((decide (1 < a0.status.toNat)))) else (some (true))))) : Option ((Bool))).bind fun p22 => (if p22 = true then (some 172) else (((receipt_Check.l1 a0 (a0.logs.length - 0 + 2) 0) : Option (Lp ((Nat)) (Unit))).bind fun | .ret o => o | .go () => ((receipt_BloomOf a0.logs).bind fun x37 => (if a0.bloom = x37 then (some 0) else (some 173))))))))
def receipt_LogItem.l1 (a0 : Log) : Nat → (List (It)) → (Nat) → Option ((List (It)))
  | 0, _, _ => none
  | k157 + 1, l148, n155 => (if n155 < a0.topics.length then (a0.topics[n155]?).bind fun x166 => ((rlp_Text x166.toList).bind fun x177 => (if (l148.length + ([x177] : List (It)).length) * 56 ≤ 140737488355328 then (receipt_LogItem.l1 a0 k157 (l148 ++ ([x177] : List (It))) (n155 + 1)) else none)) else (some (l148)))
def receipt_LogItem (a0 : Log) : Option ((It) × (Nat)) := (if 4 < a0.topics.length then (some ((It.mk false ([] : List (BitVec 8)) ([] : List (It))), 174)) else (((receipt_LogItem.l1 a0 (a0.topics.length - 0 + 2) ([] : List (It)) 0) : Option ((List (It)))).bind fun l22 => ((rlp_Text a0.address.toList).bind fun x39 => ((rlp_List l22).bind fun x62 => ((rlp_Text a0.data).bind fun x85 => ((rlp_List ([x39, x62, x85] : List (It))).bind fun x113 => ((rlp_Size x113).bind fun (x137, x138) => (if x138 = 0 then (some (x113, 0)) else (some ((It.mk false ([] : List (BitVec 8)) ([] : List (It))), x138))))))))))
def receipt_Encode.l1 (a0 : Rcpt) : Nat → (List (It)) → (Nat) → Option (Lp ((List (BitVec 8)) × (Nat)) ((List (It))))
  | 0, _, _ => none
  | k229 + 1, l220, n227 => (if n227 < a0.logs.length then (a0.logs[n227]?).bind fun x238 => ((receipt_LogItem x238).bind fun (x258, x259) => (if x259 = 0 then (if (l220.length + ([x258] : List (It)).length) * 56 ≤ 140737488355328 then (receipt_Encode.l1 a0 k229 (l220 ++ ([x258] : List (It))) (n227 + 1)) else none) else (some (Lp.ret (some (([] : List (BitVec 8)), x259)))))) else (some (Lp.go l220)))
def receipt_Encode (a0 : Rcpt) : Option ((List (BitVec 8)) × (Nat)) := ((receipt_Check a0).bind fun x13 => (if x13 = 0 then ((rlp_Small a0.status).bind fun x19 => (((if a0.rooted = true then ((rlp_Text a0.root.toList).bind fun x298 => (some (((x298.list), x298.data, x298.items)))) else (some (((x19.list), x19.data, x19.items)))) : Option ((Bool) × (List (BitVec 8)) × (List (It)))).bind fun (p46, l47, l51) => (((receipt_Encode.l1 a0 (a0.logs.length - 0 + 2) ([] : List (It)) 0) : Option (Lp ((List (BitVec 8)) × (Nat)) ((List (It))))).bind fun | .ret o => o | .go l68 => ((rlp_Small a0.used).bind fun x83 => ((rlp_Text a0.bloom.toList).bind fun x106 => ((rlp_List l68).bind fun x130 => ((rlp_List ([(It.mk (p46) l47 l51), x83, x106, x130] : List (It))).bind fun x158 => ((rlp_Encode x158).bind fun (x181, x182) => (if x182 = 0 then (((if a0.kind = (0 : Int) then (some (x181)) else (if ([(BitVec.ofInt 8 a0.kind)] : List (BitVec 8)).length + x181.length ≤ 140737488355328 then (some ((([(BitVec.ofInt 8 a0.kind)] : List (BitVec 8)) ++ x181))) else none)) : Option ((List (BitVec 8)))).bind fun l197 => (if 16777216 < l197.length then (some (([] : List (BitVec 8)), 2)) else (some (l197, 0)))) else (some (([] : List (BitVec 8)), x182))))))))))) else (some (([] : List (BitVec 8)), x13))))
def waybilllaw17_same.l1 (a0 : List (BitVec 8)) (a1 : List (BitVec 8)) : Nat → (Nat) → Option (Lp ((Bool)) (Unit))
  | 0, _ => none
  | k13 + 1, n11 => (if n11 < a0.length then (a0[n11]?).bind fun x21 => (a1[n11]?).bind fun x24 => (if x21 = x24 then (waybilllaw17_same.l1 a0 a1 k13 (n11 + 1)) else (some (Lp.ret (some false)))) else (some (Lp.go ())))
def waybilllaw17_same (a0 : List (BitVec 8)) (a1 : List (BitVec 8)) : Option ((Bool)) := (if a0.length = a1.length then (((waybilllaw17_same.l1 a0 a1 (a0.length - 0 + 2) 0) : Option (Lp ((Bool)) (Unit))).bind fun | .ret o => o | .go () => (some true)) else (some false))
def waybilllaw17_sameLog.l1 (a0 : Log) (a1 : Log) : Nat → (Nat) → Option (Lp ((Bool)) (Unit))
  | 0, _ => none
  | k49 + 1, n47 => (if n47 < a0.topics.length then (a0.topics[n47]?).bind fun x57 => (a1.topics[n47]?).bind fun x63 => (if x57 = x63 then (waybilllaw17_sameLog.l1 a0 a1 k49 (n47 + 1)) else (some (Lp.ret (some false)))) else (some (Lp.go ())))
def waybilllaw17_sameLog (a0 : Log) (a1 : Log) : Option ((Bool)) := (((if a0.address = a1.address then (some ((!decide (a0.topics.length = a1.topics.length)))) else (some (true))) : Option ((Bool))).bind fun p29 => (if p29 = true then (some false) else (((waybilllaw17_sameLog.l1 a0 a1 (a0.topics.length - 0 + 2) 0) : Option (Lp ((Bool)) (Unit))).bind fun | .ret o => o | .go () => ((waybilllaw17_same a0.data a1.data).bind fun x44 => (some (x44))))))
def waybilllaw17_sameLogs.l1 (a0 : List (Log)) (a1 : List (Log)) : Nat → (Nat) → Option (Lp ((Bool)) (Unit))
  | 0, _ => none
  | k13 + 1, n11 => (if n11 < a0.length then (a0[n11]?).bind fun x21 => (a1[n11]?).bind fun x39 => ((waybilllaw17_sameLog x21 x39).bind fun x58 => (if x58 = true then (waybilllaw17_sameLogs.l1 a0 a1 k13 (n11 + 1)) else (some (Lp.ret (some false))))) else (some (Lp.go ())))
def waybilllaw17_sameLogs (a0 : List (Log)) (a1 : List (Log)) : Option ((Bool)) := (if a0.length = a1.length then (((waybilllaw17_sameLogs.l1 a0 a1 (a0.length - 0 + 2) 0) : Option (Lp ((Bool)) (Unit))).bind fun | .ret o => o | .go () => (some true)) else (some false))
def waybilllaw17_sameReceipt (a0 : Rcpt) (a1 : Rcpt) : Option ((Bool)) := (((if a0.kind = a1.kind then (if (a0.rooted) = (a1.rooted) then (if a0.root = a1.root then (if a0.status = a1.status then (some ((!decide (a0.used = a1.used)))) else (some (true))) else (some (true))) else (some (true))) else (some (true))) : Option ((Bool))).bind fun p23 => (if p23 = true then (some false) else (((if a0.bloom = a1.bloom then ((waybilllaw17_sameLogs a0.logs a1.logs).bind fun x40 => (some ((x40)))) else (some (false))) : Option ((Bool))).bind fun p32 => (some (p32)))))
def waybill_receipt_reader_refuse (a0 : Rdr) (a1 : Int) : Option ((Rdr)) := (((if a0.err = (0 : Int) then (some (({ a0 with err := a1 } : Rdr))) else (some (a0))) : Option ((Rdr))).bind fun w3 => (some w3))
def waybill_receipt_reader_list (a0 : Rdr) (a1 : It) : Option ((List (It)) × (Rdr)) := (if a0.err = (0 : Int) then ((rlp_GetList a1).bind fun (x16, x17) => (((if x17 = 0 then (some (a0)) else ((waybill_receipt_reader_refuse a0 (172 : Int)).bind fun x44 => (some (x44)))) : Option ((Rdr))).bind fun w35 => (some (x16, w35)))) else (some (([] : List (It)), a0)))
def waybill_receipt_reader_text (a0 : Rdr) (a1 : It) (a2 : Int) : Option ((List (BitVec 8)) × (Rdr)) := (if a0.err = (0 : Int) then ((rlp_GetText a1).bind fun (x16, x17) => (((if x17 = 0 then (if (0 : Int) ≤ a2 then (some ((!decide (((x16.length : Nat) : Int) = a2)))) else (some (false))) else (some (true))) : Option ((Bool))).bind fun p31 => (if p31 = true then ((waybill_receipt_reader_refuse a0 (172 : Int)).bind fun x40 => (some (([] : List (BitVec 8)), x40))) else (some (x16, a0))))) else (some (([] : List (BitVec 8)), a0)))
end Go.Fw
namespace Go.Fw
set_option linter.unusedVariables false
abbrev It.zero : It := It.mk false [] []
def dec : Nat → Nat → List (BitVec 8) → It → List (List It × List (BitVec 8)) → Option (It × Nat)
  | 0, _, _, _, _ => none
  | k + 1, 1, b, _, st => (rlp_cut b).bind fun (x1, x2, x3, x4) => (if x4 = 0 then (if x1 = true then (if st.length = 1024 then some (It.zero, 74) else (if (st.length + 1) * 48 ≤ 140737488355328 then dec k 3 x2 It.zero (([], x3) :: st) else none)) else ((rlp_Text x2).bind fun x => dec k 2 x3 x st)) else some (It.zero, x4))
  | _ + 1, 2, b, it, [] => if 0 < b.length then some (It.zero, 73) else some (it, 0)
  | k + 1, 2, b, it, (l, bh) :: st => if (l.length + 1) * 56 ≤ 140737488355328 then dec k 3 b It.zero ((l ++ [it], bh) :: st) else none
  | k + 1, 3, b, _, st => if 0 < b.length then dec k 1 b It.zero st else (match st with
    | [] => none
    | (l, bh) :: st => dec k 2 bh (It.mk true [] l) st)
  | _ + 1, _, _, _, _ => none
theorem dec_1 (k : Nat) (b : List (BitVec 8)) (it : It) (st : List (List It × List (BitVec 8))) : dec (k + 1) 1 b it st = (rlp_cut b).bind fun (x1, x2, x3, x4) => (if x4 = 0 then (if x1 = true then (if st.length = 1024 then some (It.zero, 74) else (if (st.length + 1) * 48 ≤ 140737488355328 then dec k 3 x2 It.zero (([], x3) :: st) else none)) else ((rlp_Text x2).bind fun x => dec k 2 x3 x st)) else some (It.zero, x4)) := by rw [dec]
theorem dec_2n (k : Nat) (b : List (BitVec 8)) (it : It) : dec (k + 1) 2 b it [] = if 0 < b.length then some (It.zero, 73) else some (it, 0) := by rw [dec]
theorem dec_2c (k : Nat) (b : List (BitVec 8)) (it : It) (l : List It) (bh : List (BitVec 8)) (st : List (List It × List (BitVec 8))) : dec (k + 1) 2 b it ((l, bh) :: st) = if (l.length + 1) * 56 ≤ 140737488355328 then dec k 3 b It.zero ((l ++ [it], bh) :: st) else none := by rw [dec]
theorem dec_3 (k : Nat) (b : List (BitVec 8)) (it : It) (st : List (List It × List (BitVec 8))) : dec (k + 1) 3 b it st = if 0 < b.length then dec k 1 b It.zero st else (match st with
    | [] => none
    | (l, bh) :: st => dec k 2 bh (It.mk true [] l) st) := by cases st <;> rfl
def rlp_Decode (a0 : List (BitVec 8)) : Option (It × Nat) := if 16777216 < a0.length then some (It.zero, 2) else dec (4 * a0.length + 8) 1 a0 It.zero []
end Go.Fw
namespace Go.Fw
open Go
set_option linter.unusedVariables false
def MkRd (m : List (BitVec 8)) (Φ : Ctx) (cs : List Value) (x : List (BitVec 8)) : Prop := ∃ A c, cs = [.slice A x.length c] ∧ View Φ A (x ++ m).length c 1 (u8s (x ++ m))
theorem MkRd.mono' {m : List (BitVec 8)} {Φ Ψ : Ctx} (hh : ∀ w, Ψ w → Φ w) (cs : List Value) (x : List (BitVec 8)) : MkRd m Φ cs x → MkRd m Ψ cs x := fun ⟨A, c, h1, h2⟩ => ⟨A, c, h1, h2.mono hh⟩
theorem MkRd.len' {m : List (BitVec 8)} {Φ : Ctx} (cs : List Value) (x : List (BitVec 8)) (h : MkRd m Φ cs x) : cs.length = 1 := by obtain ⟨A, c, rfl, _⟩ := h; rfl
theorem MkRd.bs' {m : List (BitVec 8)} {Φ : Ctx} (cs : List Value) (x : List (BitVec 8)) (h : MkRd m Φ cs x) : BsRd Φ cs x := by
  obtain ⟨A, c, h1, h2⟩ := h
  exact ⟨A, c, h1, MRoom.view h2⟩
abbrev MkRd02 : Ctx → List Value → List (BitVec 8) → Prop := MkRd (List.replicate 200 195#8)
theorem MkRd02.mono {Φ Ψ : Ctx} (hh : ∀ w, Ψ w → Φ w) (cs : List Value) (x : List (BitVec 8)) : MkRd02 Φ cs x → MkRd02 Ψ cs x := MkRd.mono' hh cs x
theorem MkRd02.len {Φ : Ctx} (cs : List Value) (x : List (BitVec 8)) (h : MkRd02 Φ cs x) : cs.length = 1 := MkRd.len' cs x h
abbrev MkRd03 : Ctx → List Value → List (BitVec 8) → Prop := MkRd (List.replicate 70 165#8)
theorem MkRd03.mono {Φ Ψ : Ctx} (hh : ∀ w, Ψ w → Φ w) (cs : List Value) (x : List (BitVec 8)) : MkRd03 Φ cs x → MkRd03 Ψ cs x := MkRd.mono' hh cs x
theorem MkRd03.len {Φ : Ctx} (cs : List Value) (x : List (BitVec 8)) (h : MkRd03 Φ cs x) : cs.length = 1 := MkRd.len' cs x h
def MRooms (m : List (BitVec 8)) (k : List (List (BitVec 8))) (Φ : Ctx) (A : Option Addr) (c : Nat) (x : List (List (BitVec 8))) : Prop :=
  ∃ cs mk : List Value, View Φ A (x ++ k).length c 1 (cs ++ mk) ∧ Reps (MkRd m Φ) cs x ∧ Reps (BsRd Φ) (cs ++ mk) (x ++ k)
theorem MRooms.mono {m : List (BitVec 8)} {k : List (List (BitVec 8))} {Φ Ψ : Ctx} {A : Option Addr} {c : Nat} {x : List (List (BitVec 8))} (h : MRooms m k Φ A c x) (hh : ∀ w, Ψ w → Φ w) : MRooms m k Ψ A c x := by
  obtain ⟨cs, mk, v, r, rb⟩ := h
  exact ⟨cs, mk, v.mono hh, r.mono (MkRd.mono' hh), rb.mono (BsRd.mono hh)⟩
structure Lt where
  b : Nat
  t : List (BitVec 8)
  c : Nat
  r : List Value
def Lt.ent (te : TypeId) (m : List (BitVec 8)) (x : Lt) : Ent := (some x.b, blk (u8s x.t ++ (u8s m ++ x.r)) te)
def Lt.cell (x : Lt) : Value := .slice (some ⟨x.b, 0, none⟩) x.t.length x.c
structure Lt.Ok (m : List (BitVec 8)) (x : Lt) : Prop where
  own : OwnS (some x.b) x.t.length x.c 1 (u8s x.t) (u8s m ++ x.r)
  mx : x.t.length + m.length ≤ 140737488355328
theorem Reps.bs {m : List (BitVec 8)} {Φ : Ctx} {cs : List Value} {xs : List (List (BitVec 8))} (h : Reps (MkRd m Φ) cs xs) : Reps (BsRd Φ) cs xs := h.mono MkRd.bs'
end Go.Fw
namespace Go.Fw
open Go
set_option linter.unusedVariables false
def restOf (w0 w : World) (E : List Ent) : List Ent := (allEnts w0 w).filter fun e => E.all fun x => decide (x.1 ≠ e.1)
theorem Mem.restOf {w0 w : World} {E : List Ent} (m : Mem w0 w E) : Mem w0 w (E ++ Go.Fw.restOf w0 w E) := by
  have ma := m.all
  have hf : ∀ e ∈ Go.Fw.restOf w0 w E, ∀ x ∈ E, x.1 ≠ e.1 := fun e he x hx => of_decide_eq_true (List.all_eq_true.1 (List.mem_filter.1 he).2 x hx)
  refine ⟨m.os, m.tape, m.output, m.size, m.old, fun e he b hb => ?_, List.pairwise_append.2 ⟨m.apart, ma.apart.sublist List.filter_sublist, fun x hx e he b h1 h2 => hf e he x hx (h1.trans h2.symm)⟩⟩
  rcases List.mem_append.1 he with he | he
  · exact m.ents e he b hb
  · exact ma.ents e (List.mem_filter.1 he).1 b hb
theorem Mem.unrest {w0 w w2 : World} {E N : List Ent} (mE : Mem w0 w E) (mN : Mem w0 w N) (m : Mem w0 w2 (E ++ Go.Fw.restOf w0 w E)) : Mem w0 w2 N := by
  refine ⟨m.os, m.tape, m.output, m.size, m.old, fun e he b hb => ?_, mN.apart⟩
  obtain ⟨h1, h2⟩ := mN.ents e he b hb
  refine ⟨h1, ?_⟩
  by_cases hE : ∃ x ∈ E, x.1 = some b
  · obtain ⟨x, hx, hxb⟩ := hE
    have q1 := (mE.ents x hx b hxb).2
    have q2 := (m.ents x (List.mem_append_left _ hx) b hxb).2
    rw [q2, ← q1, h2]
  · have hlt : b < w.heap.size := (Array.getElem?_eq_some_iff.1 h2).1
    have hall : ((some b, e.2) : Ent) ∈ allEnts w0 w := by
      refine List.mem_map.2 ⟨b - w0.heap.size, List.mem_range.2 (by omega), ?_⟩
      have e1 : w0.heap.size + (b - w0.heap.size) = b := by omega
      simp [e1, h2]
    have hin : ((some b, e.2) : Ent) ∈ Go.Fw.restOf w0 w E := List.mem_filter.2 ⟨hall, List.all_eq_true.2 fun x hx => decide_eq_true fun h => hE ⟨x, hx, h⟩⟩
    exact (m.ents _ (List.mem_append_right _ hin) b rfl).2
theorem DoesG.ro {P : Program} {f : FuncId} {args : List Value} {w0 : World} {E N : List Ent} {R : Value → Prop} (h : ∀ N0, DoesG P f args w0 E N0 (fun v G => R v ∧ G = E)) (hN : ∀ w, Mem w0 w N → Mem w0 w E) : DoesG P f args w0 [] N (fun v _ => R v) := fun w m => by
  have mE := hN w m
  refine (h (restOf w0 w E) w mE.restOf).mono ?_
  rintro e w2 ⟨q, ⟨G, ⟨h1, rfl⟩, h2⟩, h3, h4⟩
  have h4 : Mem w0 w2 q.2 := h4
  rw [h2] at h4
  exact ⟨(q.1, [] ++ N), ⟨[], h1, rfl⟩, h3, mE.unrest m h4⟩
end Go.Fw
namespace Go.Fw
open Go
set_option linter.unusedVariables false
section
variable {w0 w : World} {A N : List Ent} {e0 e1 e2 e3 : Ent}
theorem Mem.sk0 (m : Mem w0 w (A ++ (e1 :: N))) : Mem w0 w (e1 :: (A ++ N)) := m.perm List.perm_middle
theorem Mem.sk1 (m : Mem w0 w (e0 :: (A ++ (e1 :: N)))) : Mem w0 w (e0 :: e1 :: (A ++ N)) := m.perm (List.Perm.cons _ List.perm_middle)
theorem Mem.sk2 (m : Mem w0 w (e0 :: e1 :: (A ++ (e2 :: N)))) : Mem w0 w (e0 :: e1 :: e2 :: (A ++ N)) := m.perm (List.Perm.cons _ (List.Perm.cons _ List.perm_middle))
theorem Mem.sk3 (m : Mem w0 w (e0 :: e1 :: e2 :: (A ++ (e3 :: N)))) : Mem w0 w (e0 :: e1 :: e2 :: e3 :: (A ++ N)) := m.perm (List.Perm.cons _ (List.Perm.cons _ (List.Perm.cons _ List.perm_middle)))
theorem Mem.sk4 {e4 : Ent} (m : Mem w0 w (e0 :: e1 :: e2 :: e3 :: (A ++ (e4 :: N)))) : Mem w0 w (e0 :: e1 :: e2 :: e3 :: e4 :: (A ++ N)) := m.perm (List.Perm.cons _ (List.Perm.cons _ (List.Perm.cons _ (List.Perm.cons _ List.perm_middle))))
theorem Mem.sk5 {e4 e5 : Ent} (m : Mem w0 w (e0 :: e1 :: e2 :: e3 :: e4 :: (A ++ (e5 :: N)))) : Mem w0 w (e0 :: e1 :: e2 :: e3 :: e4 :: e5 :: (A ++ N)) := m.perm (List.Perm.cons _ (List.Perm.cons _ (List.Perm.cons _ (List.Perm.cons _ (List.Perm.cons _ List.perm_middle)))))
end
section
variable {P : Program} {n : Nat} {Q : Exit → Act → World → Prop} {w0 : World} {L : Slots} {M E N : List Ent} {f : FuncId} {args : List Value} {R R' : Value → List Ent → Prop}
end
end Go.Fw
namespace Go.Fw
open Go Go.RowKit
theorem View.of_rd {W : World} {A : Option Addr} {cap len s : Nat} {cells : List Value} (rd : Rd W A cells) (hn : cells.length = len * s) (hle : len ≤ cap) (hmx : cap ≤ 140737488355328) : View (fun w => Mem W w []) A len cap s cells :=
  ⟨fun w q => rd.old q, rd.1, hn, hle, by omega⟩
theorem View.of8 {W : World} {A : Option Addr} {cap : Nat} {xs : List (BitVec 8)} (rd : Rd W A (u8s xs)) (hle : xs.length ≤ cap) (hmx : cap ≤ 140737488351232) : View (fun w => Mem W w []) A xs.length cap 1 (u8s xs) :=
  View.of_rd rd (by rw [u8s_length, Nat.mul_one]) hle (by omega)
end Go.Fw
namespace Go.Fw
open Go Go.RowKit Go.Deep Go.WideShapes
set_option linter.unusedVariables false
theorem Reps.of_list {α T : Type} {R : List Value → T → Prop} (cells : α → List Value) (pr : α → T) : ∀ (l : List α), (∀ x ∈ l, R (cells x) (pr x)) → Reps R (l.flatMap cells) (l.map pr)
  | [], _ => .nil
  | x :: l, h => by
    rw [List.flatMap_cons, List.map_cons]
    exact .cons (h x (List.mem_cons_self ..)) (Reps.of_list cells pr l (fun y hy => h y (List.mem_cons_of_mem _ hy)))
section
variable {H : Type} {enc : TypeId × Value → H} {P : Program} {W : World} {t e e2 : TypeId} {v : Value}
theorem reads_bs (ht : P.underlying e = some (.slice e2)) (he : P.underlying e2 = some (.int .u8)) (hs : P.cellsOf e2 = 1) (hb : P.bytesOf e2 = 1) {n : Nat} {u : Value} {r : DataW H × List MemPlace} (h : reads enc P W n e [u] = some r) (hz : Fits P e r.1) :
    ∃ (A : Option Addr) (cap : Nat) (x : List (BitVec 8)), u = .slice A x.length cap ∧ View (fun w => Mem W w []) A x.length cap 1 (u8s x) ∧ x.length ≤ 140737488351232 ∧ ∃ el sp, Els r.1 el sp ∧ el.length = x.length := by
  obtain ⟨A, cap, xs, el, sp, h1, h2, h3, h4, h5, h6, h7, h8, h9, h10⟩ := cells_of_slice (α := BitVec 8) (fun x => [U8 x]) (fun _ _ => True) 1 hs (by omega) (fun n cs r _ hr => by
    obtain ⟨x, rfl⟩ := reads_u8 he hr; exact ⟨x, rfl, trivial⟩) ht h
  rw [flat1] at h6
  have hw := (hz.slice ht h7).1
  rw [hb, h9] at hw
  have hc : cap ≤ 140737488351232 := by simpa [reachBytes] using hw
  exact ⟨A, cap, xs, h1, View.of8 h6 h2 hc, by omega, el, sp, h7, h8⟩
end
end Go.Fw
namespace Go.Fw
open Go
set_option linter.unusedVariables false
theorem bulk_len {H : Type} (ub : DataW H → Nat) (uba : List (DataW H) → Nat) (h0 : uba [] = 0) (h1 : ∀ d r, uba (d :: r) = ub d + uba r) (h2 : ∀ el sp, ub (.slice el sp) = uba el + uba sp + 1) (hp : ∀ d : DataW H, 1 ≤ ub d)
    {d : DataW H} {el sp : List (DataW H)} (he : Els d el sp) : el.length ≤ ub d := by
  have hlen : ∀ l : List (DataW H), l.length ≤ uba l := fun l => by
    induction l with
    | nil => simp
    | cons x r ih => rw [h1]; have := hp x; simp; omega
  rcases he with ⟨_, rfl, _⟩ | rfl
  · simp
  · rw [h2]; have := hlen el; omega
end Go.Fw
namespace Go.Fw
open Go
set_option linter.unusedVariables false
structure BulkFn {H : Type} (ub : DataW H → Nat) (uba : List (DataW H) → Nat) : Prop where
  h0 : uba [] = 0
  h1 : ∀ d r, uba (d :: r) = ub d + uba r
  hs : ∀ el sp, ub (.slice el sp) = uba el + uba sp + 1
  ha : ∀ l, ub (.agg l) = uba l + 1
  hp : ∀ d : DataW H, 1 ≤ ub d
namespace BulkFn
variable {H : Type} {ub : DataW H → Nat} {uba : List (DataW H) → Nat} (B : BulkFn ub uba)
include B
theorem mem {d : DataW H} : ∀ {l : List (DataW H)}, d ∈ l → ub d ≤ uba l
  | x :: l, h => by
    rw [B.h1]
    rcases List.mem_cons.1 h with rfl | h
    · omega
    · have := mem h; omega
theorem els {d : DataW H} {el sp : List (DataW H)} (h : Els d el sp) : uba el ≤ ub d := by
  rcases h with ⟨_, rfl, _⟩ | rfl
  · rw [B.h0]; omega
  · rw [B.hs]; omega
theorem len {d : DataW H} {el sp : List (DataW H)} (h : Els d el sp) : el.length ≤ ub d := bulk_len ub uba B.h0 B.h1 B.hs B.hp h
theorem sum {α : Type} (f : α → Nat) : ∀ (xs : List α) (el : List (DataW H)), el.length = xs.length → (∀ (i : Nat) x d, xs[i]? = some x → el[i]? = some d → f x ≤ ub d) → (xs.map f).sum ≤ uba el
  | [], el, hl, h => by simp
  | x :: xs, [], hl, h => by simp at hl
  | x :: xs, d :: el, hl, h => by
    rw [List.map_cons, List.sum_cons, B.h1]
    have h1 := h 0 x d rfl rfl
    have h2 := sum f xs el (by simpa using hl) (fun i y e hy he => h (i + 1) y e (by simpa using hy) (by simpa using he))
    omega
end BulkFn
end Go.Fw
namespace Go.Fw
open Go Go.RowKit Go.Deep Go.WideShapes
set_option linter.unusedVariables false
section
variable {H : Type} {enc : TypeId × Value → H} {P : Program} {W : World} {t e e2 : TypeId}
theorem reads_hs {n : Nat} (ht : P.underlying t = some (.slice e)) (he : P.underlying e = some (.array n e2)) (he2 : P.underlying e2 = some (.int .u8)) (hs2 : P.cellsOf e2 = 1) (hs : P.cellsOf e = n) (hpos : 0 < n) (hb : P.bytesOf e = n) {m : Nat} {u : Value} {r : DataW H × List MemPlace} (h : reads enc P W m t [u] = some r) (hz : Fits P t r.1) :
    ∃ (A : Option Addr) (cap : Nat) (cells : List Value) (xs : List (Vector (BitVec 8) n)), u = .slice A xs.length cap ∧ View (fun w => Mem W w []) A xs.length cap n cells ∧ Reps (Ar8Rd (fun w => Mem W w [])) cells xs ∧ (∃ el sp, Els r.1 el sp ∧ el.length = xs.length) ∧ xs.length * n ≤ 140737488351232 := by
  obtain ⟨A, cap, xs, el, sp, h1, h2, h3, h4, h5, h6, h7, h8, h9, h10⟩ := cells_of_slice (α := Vector (BitVec 8) n) (fun x => u8s x.toList) (fun _ _ => True) n hs hpos (fun k cs r hl hr => by
    obtain ⟨x, rfl, hl⟩ := reads_arr8 he he2 hs2 hs hr
    exact ⟨⟨x.toArray, by simpa using hl⟩, rfl, trivial⟩) ht h
  have hw := (hz.slice ht h7).1
  rw [hb, h9] at hw
  have hc : cap * n ≤ 140737488351232 := by simpa [reachBytes] using hw
  have hle : xs.length * n ≤ cap * n := Nat.mul_le_mul_right n h2
  have hcap : cap ≤ cap * n := Nat.le_mul_of_pos_right _ hpos
  have hlen : ∀ l : List (Vector (BitVec 8) n), (l.flatMap fun x => u8s x.toList).length = l.length * n := fun l => by
    induction l with
    | nil => simp
    | cons x l ih => rw [List.flatMap_cons, List.length_append, ih, u8s_length, Vector.length_toList, List.length_cons, Nat.add_mul]; omega
  refine ⟨A, cap, _, xs, h1, View.of_rd h6 (hlen xs) h2 (by omega), ?_, ⟨el, sp, h7, h8⟩, by omega⟩
  have := Reps.of_list (R := Ar8Rd (n := n) (fun w => Mem W w [])) (fun x : Vector (BitVec 8) n => u8s x.toList) (fun x => x) xs (fun x _ => rfl)
  rwa [List.map_id'] at this
structure LogTypes (P : Program) (tL tA tS tH tB t8 : TypeId) where
  fs : Array Field
  f0 : Field
  f1 : Field
  f2 : Field
  hL : P.underlying tL = some (.struct fs)
  h0 : fs[0]? = some f0
  h1 : fs[1]? = some f1
  h2 : fs[2]? = some f2
  o0 : f0.offset = 0
  o1 : f1.offset = 20
  o2 : f2.offset = 21
  y0 : f0.type = tA
  y1 : f1.type = tS
  y2 : f2.type = tB
  uA : P.underlying tA = some (.array 20 t8)
  uS : P.underlying tS = some (.slice tH)
  uH : P.underlying tH = some (.array 32 t8)
  uB : P.underlying tB = some (.slice t8)
  u8 : P.underlying t8 = some (.int .u8)
  cA : P.cellsOf tA = 20
  cS : P.cellsOf tS = 1
  cH : P.cellsOf tH = 32
  cB : P.cellsOf tB = 1
  c8 : P.cellsOf t8 = 1
  cL : P.cellsOf tL = 22
  b8 : P.bytesOf t8 = 1
  bH : P.bytesOf tH = 32
  bL : P.bytesOf tL = 72
def LogD (d : DataW H) (x : Log) : Prop := ∃ ds d0 d1 d2 el sp el2 sp2, d = .agg (d0 :: d1 :: d2 :: ds) ∧ Els d1 el sp ∧ el.length = x.topics.length ∧ Els d2 el2 sp2 ∧ el2.length = x.data.length
theorem LogD.bulk2 {ub : DataW H → Nat} {uba : List (DataW H) → Nat} (B : BulkFn ub uba) {d : DataW H} {x : Log} (h : LogD d x) : x.topics.length + x.data.length + 1 ≤ ub d := by
  obtain ⟨ds, d0, d1, d2, el, sp, el2, sp2, rfl, he, hl, he2, hl2⟩ := h
  have h1 := B.len he
  have h2 := B.len he2
  rw [B.ha, B.h1, B.h1, B.h1]
  omega
theorem LogD.bulk {ub : DataW H → Nat} {uba : List (DataW H) → Nat} (B : BulkFn ub uba) {d : DataW H} {x : Log} (h : LogD d x) : x.topics.length + 1 ≤ ub d := by
  have := h.bulk2 B; omega
variable {tL tA tS tH tB t8 : TypeId}
theorem reads_log (T : LogTypes P tL tA tS tH tB t8) {n : Nat} {cs : List Value} {d : DataW H} {ps : List MemPlace} (hl : cs.length = 22) (hr : reads enc P W n tL cs = some (d, ps)) (hz : Fits P tL d) :
    ∃ x : Log, LogRd (fun w => Mem W w []) cs x ∧ LogD d x ∧ x.topics.length * 32 ≤ 140737488351232 ∧ x.data.length ≤ 140737488351232 := by
  obtain ⟨xs, m, hn, hx, hcl, hxl, hf⟩ := DataW.trod_struct T.hL hr
  have g0 := hf 0 T.f0 T.h0
  have g1 := hf 1 T.f1 T.h1
  have g2 := hf 2 T.f2 T.h2
  rw [T.o0, T.y0, T.cA] at g0
  rw [T.o1, T.y1, T.cS] at g1
  rw [T.o2, T.y2, T.cB] at g2
  have hsz : 2 < T.fs.size := (Array.getElem?_eq_some_iff.1 T.h2).1
  obtain ⟨x0, e0⟩ : ∃ x, xs[0]? = some x := ⟨_, List.getElem?_eq_getElem (by omega)⟩
  obtain ⟨x1, e1⟩ : ∃ x, xs[1]? = some x := ⟨_, List.getElem?_eq_getElem (by omega)⟩
  obtain ⟨x2, e2⟩ : ∃ x, xs[2]? = some x := ⟨_, List.getElem?_eq_getElem (by omega)⟩
  rw [e0, List.drop_zero] at g0; rw [e1] at g1; rw [e2] at g2
  have hd2 : d = .agg (xs.map (·.1)) := congrArg Prod.fst hx
  subst hd2
  have hz1 : Fits P tS x1.1 := by have := Fits.struct T.hL hz T.h1 (d := x1.1) (by simp [e1]); rwa [T.y1] at this
  have hz2 : Fits P tB x2.1 := by have := Fits.struct T.hL hz T.h2 (d := x2.1) (by simp [e2]); rwa [T.y2] at this
  obtain ⟨ad, ea, la⟩ := reads_arr8 T.uA T.u8 T.c8 T.cA g0
  obtain ⟨u1, hu1⟩ : ∃ u, (cs.drop 20).take 1 = [u] := List.length_eq_one_iff.1 (by rw [List.length_take, List.length_drop]; omega)
  obtain ⟨u2, hu2⟩ : ∃ u, (cs.drop 21).take 1 = [u] := List.length_eq_one_iff.1 (by rw [List.length_take, List.length_drop]; omega)
  rw [hu1] at g1; rw [hu2] at g2
  obtain ⟨A1, c1, cells1, ts, rfl, v1, r1, ⟨el, sp, hel, hlen⟩, m1⟩ := reads_hs T.uS T.uH T.u8 T.c8 T.cH (by decide) T.bH g1 hz1
  obtain ⟨A2, c2, x, rfl, v2, m2, el2, sp2, hel2, hlen2⟩ := reads_bs T.uB T.u8 T.c8 T.b8 g2 hz2
  obtain ⟨av, rfl⟩ : ∃ v : Vector (BitVec 8) 20, ad = v.toList := ⟨⟨ad.toArray, by simpa using la⟩, rfl⟩
  have hcs : cs = (⟨av, .slice A1 ts.length c1, .slice A2 x.length c2⟩ : LogC).C := by
    have h1 : cs = cs.take 20 ++ ((cs.drop 20).take 1 ++ (cs.drop 21).take 1) := by
      have h2 : (cs.drop 21).take 1 = cs.drop 21 := List.take_of_length_le (by rw [List.length_drop]; omega)
      have h3 : cs.drop 21 = (cs.drop 20).drop 1 := by rw [List.drop_drop]
      rw [h2, h3, List.take_append_drop, List.take_append_drop]
    rw [h1, ea, hu1, hu2]
    rfl
  have hD : LogD (H := H) (.agg (xs.map (·.1))) ⟨av, ts, x⟩ := by
    match xs, e0, e1, e2 with
    | [], e, _, _ => simp at e
    | [_], _, e, _ => simp at e
    | [_, _], _, _, e => simp at e
    | y0 :: y1 :: y2 :: r, _, e1, e2 =>
      simp at e1 e2
      subst e1 e2
      exact ⟨r.map (·.1), y0.1, _, _, el, sp, el2, sp2, rfl, hel, hlen, hel2, hlen2⟩
  refine ⟨⟨av, ts, x⟩, ?_, hD, m1, m2⟩
  rw [hcs]
  exact LogRd.mk v1 r1 v2
theorem reads_logs {tLs : TypeId} (T : LogTypes P tL tA tS tH tB t8) (uL : P.underlying tLs = some (.slice tL)) {n : Nat} {u : Value} {r : DataW H × List MemPlace} (h : reads enc P W n tLs [u] = some r) (hz : Fits P tLs r.1) :
    ∃ (A : Option Addr) (cap : Nat) (cells : List Value) (xs : List Log) (el sp : List (DataW H)), u = .slice A xs.length cap ∧ View (fun w => Mem W w []) A xs.length cap 22 cells ∧ Reps (LogRd (fun w => Mem W w [])) cells xs ∧ Els r.1 el sp ∧ el.length = xs.length ∧ xs.length * 72 ≤ 140737488351232 ∧
      (∀ x ∈ xs, x.topics.length * 32 ≤ 140737488351232 ∧ x.data.length ≤ 140737488351232) ∧ ∀ (i : Nat) x d, xs[i]? = some x → el[i]? = some d → LogD d x := by
  obtain ⟨A, cap, ys, el, sp, h1, h2, h3, h4, h5, h6, h7, h8, h9, h10⟩ := cells_of_slice (α := List Value) (fun u => u) (fun cs d => ∃ n ps, cs.length = 22 ∧ reads enc P W n tL cs = some (d, ps)) 22 T.cL (by omega) (fun n cs r hl hr => ⟨cs, rfl, n, r.2, hl, hr⟩) uL h
  have hw := hz.slice uL h7
  rw [T.bL, h9] at hw
  obtain ⟨xs, hlen, hq⟩ := list_of (Q := fun i x => ∃ cs d, ys[i]? = some cs ∧ el[i]? = some d ∧ LogRd (fun w => Mem W w []) cs x ∧ LogD d x ∧ x.topics.length * 32 ≤ 140737488351232 ∧ x.data.length ≤ 140737488351232) ys.length (fun i hi => by
    have hu : ys[i]? = some ys[i] := List.getElem?_eq_getElem hi
    have hd : el[i]? = some (el[i]'(by omega)) := List.getElem?_eq_getElem (by omega)
    obtain ⟨n, ps', hl, hr⟩ := h10 i _ _ hu hd
    obtain ⟨x, e1, e2, e3, e4⟩ := reads_log T hl hr (hw.2 _ (List.mem_of_getElem? hd))
    exact ⟨x, _, _, hu, hd, e1, e2, e3, e4⟩)
  have hreps : ∀ (ys : List (List Value)) (xs : List Log), xs.length = ys.length → (∀ (i : Nat) (x : Log), xs[i]? = some x → ∃ cs, ys[i]? = some cs ∧ LogRd (fun w => Mem W w []) cs x) → Reps (LogRd (fun w => Mem W w [])) (ys.flatMap fun u => u) xs := by
    intro ys
    induction ys with
    | nil => intro its hl _; cases its with | nil => exact .nil | cons _ _ => simp at hl
    | cons y ys ih =>
      intro its hl hq
      cases its with
      | nil => simp at hl
      | cons it its =>
        obtain ⟨cs, e1, e2⟩ := hq 0 it rfl
        simp at e1
        subst e1
        rw [List.flatMap_cons]
        exact .cons e2 (ih its (by simpa using hl) (fun i x hx => by simpa using hq (i + 1) x (by simpa using hx)))
  have hc : cap * 72 ≤ 140737488351232 := by simpa [reachBytes] using hw.1
  have hR := hreps ys xs hlen (fun i x hx => by obtain ⟨cs, d, e1, _, e3, _⟩ := hq i x hx; exact ⟨cs, e1, e3⟩)
  refine ⟨A, cap, _, xs, el, sp, by rw [hlen]; exact h1, View.of_rd h6 (hR.len LogRd.len) (by omega) (by omega), hR, h7, by omega, by omega, fun x hx => ?_, fun i x d hx hd => ?_⟩
  · obtain ⟨i, hi⟩ := List.getElem?_of_mem hx
    obtain ⟨_, _, _, _, _, _, e5, e6⟩ := hq i x hi
    exact ⟨e5, e6⟩
  · obtain ⟨cs, d', _, e2', _, e4, _⟩ := hq i x hx
    obtain rfl : d = d' := Option.some.inj (hd.symm.trans e2')
    exact e4
theorem arg_logs {tLs : TypeId} (T : LogTypes P tL tA tS tH tB t8) (uL : P.underlying tLs = some (.slice tL)) {b0 : Nat} {v : Value} (hval : Value.okWide P W .any b0 tLs v) {d : DataW H} {ps : List MemPlace} (h : DataW.Trod enc P W 0 (fun _ => true) true tLs v d ps) (hz : Fits P tLs d) :
    ∃ (A : Option Addr) (cap : Nat) (cells : List Value) (xs : List Log) (el sp : List (DataW H)), v = .slice A xs.length cap ∧ View (fun w => Mem W w []) A xs.length cap 22 cells ∧ Reps (LogRd (fun w => Mem W w [])) cells xs ∧ Els d el sp ∧ el.length = xs.length ∧ xs.length * 72 ≤ 140737488351232 ∧
      (∀ x ∈ xs, x.topics.length * 32 ≤ 140737488351232 ∧ x.data.length ≤ 140737488351232) ∧ ∀ (i : Nat) x d, xs[i]? = some x → el[i]? = some d → LogD d x := by
  obtain ⟨a, l, c, rfl⟩ := okWide_slice uL hval
  obtain ⟨fuel, hf⟩ := h
  have hr : reads enc P W fuel tLs [.slice a l c] = some (d, ps) := by simpa [Value.cells] using hf
  exact reads_logs T uL hr hz
end
end Go.Fw
namespace Go.Fw
open Go
set_option linter.unusedVariables false
set_option maxRecDepth 10000
abbrev hs32 (l : List (Vector (BitVec 8) 32)) : List Value := l.flatMap fun x => u8s x.toList
theorem hs32_one (l : List (Vector (BitVec 8) 32)) : ∀ u ∈ hs32 l, u.oneCell' = true := by
  intro u hu
  obtain ⟨x, _, hx⟩ := List.mem_flatMap.1 hu
  exact u8s_one _ u hx
theorem hs32_app (a b : List (Vector (BitVec 8) 32)) : hs32 (a ++ b) = hs32 a ++ hs32 b := List.flatMap_append ..
theorem hs32_reps {Φ : Ctx} (l : List (Vector (BitVec 8) 32)) : Reps (Ar8Rd Φ) (hs32 l) l := by
  have := Reps.of_list (R := Ar8Rd (n := 32) Φ) (fun x : Vector (BitVec 8) 32 => u8s x.toList) (fun x => x) l (fun x _ => rfl)
  rwa [List.map_id'] at this
theorem hs32_of {Φ : Ctx} : ∀ {cs : List Value} {l : List (Vector (BitVec 8) 32)}, Reps (Ar8Rd Φ) cs l → cs = hs32 l
  | _, [], h => by cases h; rfl
  | _, x :: l, h => by
    cases h with
    | cons h1 h2 =>
      have e1 : _ = u8s x.toList := h1
      rw [e1, hs32_of h2]
      rfl
structure Lg where
  a : Vector (BitVec 8) 20
  tb : Option Nat
  t : List (Vector (BitVec 8) 32)
  tc : Nat
  tr : List Value
  db : Option Nat
  d : List (BitVec 8)
  dc : Nat
  dr : List Value
def Lg.val (g : Lg) : Log := ⟨g.a, g.t, g.d⟩
def Lg.cell (g : Lg) : LogC := ⟨g.a, sl g.tb 0 g.t.length g.tc, sl g.db 0 g.d.length g.dc⟩
def Lg.cells (g : Lg) : List Value := g.cell.C
def Lg.ents (tH tB : TypeId) (g : Lg) : List Ent := [(g.tb, blk (hs32 g.t ++ g.tr) tH), (g.db, blk (u8s g.d ++ g.dr) tB)]
structure Lg.Ok (g : Lg) : Prop where
  t : OwnS g.tb g.t.length g.tc 32 (hs32 g.t) g.tr
  d : OwnS g.db g.d.length g.dc 1 (u8s g.d) g.dr
theorem Lg.cells_length (g : Lg) : g.cells.length = 22 := LogC.C_length _
theorem Lg.cells_one (g : Lg) : ∀ u ∈ g.cells, u.oneCell' = true := LogC.C_one _ rfl rfl
theorem Lg.rd {w0 : World} {Φ : Ctx} {tH tB : TypeId} {g : Lg} (ok : g.Ok) (h : ∀ w, Φ w → Mem w0 w (g.ents tH tB)) : LogRd Φ g.cells g.val := by
  have h1 := ok.t.view (te := tH) (w0 := w0) (Ψ := Φ) (by decide) (fun w q => (h w q).sublist (by unfold Lg.ents; exact List.Sublist.cons_cons _ (List.nil_sublist _)))
  have h2 := ok.d.view (te := tB) (w0 := w0) (Ψ := Φ) (by decide) (fun w q => (h w q).tail)
  exact LogRd.mk h1 (hs32_reps _) h2
def lgs (tH tB : TypeId) (l : List Lg) : List Ent := l.flatMap (Lg.ents tH tB)
def lgC (l : List Lg) : List Value := l.flatMap Lg.cells
theorem lgC_app (a b : List Lg) : lgC (a ++ b) = lgC a ++ lgC b := List.flatMap_append ..
theorem lgC_one1 (g : Lg) : lgC [g] = g.cells := by simp [lgC]
theorem lgs_app (tH tB : TypeId) (a b : List Lg) : lgs tH tB (a ++ b) = lgs tH tB a ++ lgs tH tB b := List.flatMap_append ..
theorem lgs_one1 (tH tB : TypeId) (g : Lg) : lgs tH tB [g] = g.ents tH tB := by simp [lgs]
theorem lgs_reps {w0 : World} {Φ : Ctx} {tH tB : TypeId} : ∀ {l : List Lg}, (∀ g ∈ l, g.Ok) → (∀ w, Φ w → Mem w0 w (lgs tH tB l)) → Reps (LogRd Φ) (lgC l) (l.map Lg.val)
  | [], _, _ => .nil
  | g :: l, ok, h => by
    have h1 : LogRd Φ g.cells g.val := Lg.rd (tH := tH) (tB := tB) (ok g (List.mem_cons_self ..)) (fun w q => (h w q).appL)
    have h2 := lgs_reps (l := l) (fun x hx => ok x (List.mem_cons_of_mem _ hx)) (fun w q => (h w q).appR)
    exact .cons h1 h2
theorem lgs_snoc {w0 w : World} {tH tB : TypeId} {l : List Lg} {g : Lg} {X K : List Ent} (m : Mem w0 w (X ++ (g.ents tH tB ++ (lgs tH tB l ++ K)))) : Mem w0 w (X ++ (lgs tH tB (l ++ [g]) ++ K)) := by
  refine m.perm (List.Perm.append_left X ?_)
  rw [lgs_app, lgs_one1, ← List.append_assoc]
  exact List.Perm.append_right K List.perm_append_comm
end Go.Fw
namespace Go.Fw
set_option linter.unusedVariables false
def rsmall (r : Rdr) (old : BitVec 64) (it : It) : Option (BitVec 64 × Rdr) :=
  if r.err = 0 then (rlp_GetSmall it).bind fun p => if p.2 = 0 then some (p.1, r) else (waybill_receipt_reader_refuse r 172).bind fun q => some (p.1, q)
  else some (old, r)
def rbloom (r : Rdr) (old : Vector (BitVec 8) 256) (it : It) : Option (Vector (BitVec 8) 256 × Rdr) :=
  (waybill_receipt_reader_text r it 256).bind fun p => if p.2.err = 0 then (toVec 256 p.1).bind fun v => some (v, p.2) else some (old, p.2)
def rroot (r : Rdr) (o : RcptC) (b : List (BitVec 8)) : Option (RcptC × Rdr) :=
  if b.length = 32 ∧ o.kind = 0 then (toVec 32 b).bind fun v => some ({ { o with rooted := true } with root := v }, r)
  else (waybill_receipt_reader_refuse r 172).bind fun q => some (o, q)
def routcome (r : Rdr) (o : RcptC) (it : It) : Option (RcptC × Rdr) :=
  (waybill_receipt_reader_text r it (-1)).bind fun p =>
    if p.2.err = 0 then
      if p.1.length = 0 then some (o, p.2)
      else if p.1.length = 1 then (p.1[0]?).bind fun x => if x = 1#8 then some ({ o with status := 1#64 }, p.2) else rroot p.2 o p.1
      else rroot p.2 o p.1
    else some (o, p.2)
def rtopicsF : Rdr → List (Vector (BitVec 8) 32) → List It → Option (List (Vector (BitVec 8) 32) × Rdr)
  | r, l, [] => some (l, r)
  | r, l, it :: its => (waybill_receipt_reader_text r it 32).bind fun p =>
      if p.2.err = 0 then if (l.length + 1) * 32 ≤ 140737488355328 then (toVec 32 p.1).bind fun v => rtopicsF p.2 (l ++ [v]) its else none
      else rtopicsF p.2 l its
def rtopics (r : Rdr) (l : List (Vector (BitVec 8) 32)) (it : It) : Option (List (Vector (BitVec 8) 32) × Rdr) :=
  (waybill_receipt_reader_list r it).bind fun p => rtopicsF p.2 l p.1
def Log.zero : Log := ⟨Vector.replicate 20 0#8, [], []⟩
def receipt_ParseLog (it : It) : Option (Log × Int) :=
  (waybill_receipt_reader_list ⟨0⟩ it).bind fun p =>
    if p.2.err = 0 ∧ p.1.length = 3 then
      (p.1[0]?).bind fun x0 => (waybill_receipt_reader_text p.2 x0 20).bind fun a =>
      (if a.2.err = 0 then toVec 20 a.1 else some (Vector.replicate 20 0#8)).bind fun ad =>
      (p.1[1]?).bind fun x1 => (rtopics a.2 [] x1).bind fun t =>
      (p.1[2]?).bind fun x2 => (waybill_receipt_reader_text t.2 x2 (-1)).bind fun d =>
      if d.2.err = 0 then if 4 < t.1.length then some (Log.zero, 174) else some (⟨ad, t.1, d.1⟩, 0)
      else some (Log.zero, d.2.err)
    else some (Log.zero, 172)
def rlogsF : Rdr → List Log → List It → Option (List Log × Rdr)
  | r, l, [] => some (l, r)
  | r, l, it :: its => (receipt_ParseLog it).bind fun p =>
      if p.2 = 0 then if (l.length + 1) * 72 ≤ 140737488355328 then rlogsF r (l ++ [p.1]) its else none
      else (waybill_receipt_reader_refuse r p.2).bind fun q => some (l, q)
def rlogs (r : Rdr) (l : List Log) (it : It) : Option (List Log × Rdr) :=
  (waybill_receipt_reader_list r it).bind fun p => rlogsF p.2 l p.1
def Rdr.bd (r : Rdr) : Prop := 0 ≤ r.err ∧ r.err ≤ 1000
theorem refuse_eq (r : Rdr) (e : Int) : waybill_receipt_reader_refuse r e = some (if r.err = 0 then ⟨e⟩ else r) := by
  unfold waybill_receipt_reader_refuse
  split <;> rfl
theorem refuse_bd {r q : Rdr} {e : Int} (h : r.bd) (he : 0 ≤ e ∧ e ≤ 1000) (hf : waybill_receipt_reader_refuse r e = some q) : q.bd := by
  rw [refuse_eq] at hf
  obtain rfl := Option.some.inj hf
  split
  · exact he
  · exact h
theorem list_bd {r q : Rdr} {it : It} {l : List It} (h : r.bd) (hf : waybill_receipt_reader_list r it = some (l, q)) : q.bd := by
  unfold waybill_receipt_reader_list at hf
  split at hf
  · obtain ⟨⟨a, b⟩, h1, h2⟩ := Option.bind_eq_some_iff.1 hf
    dsimp only at h2
    obtain ⟨w, h3, h4⟩ := Option.bind_eq_some_iff.1 h2
    have h5 := Option.some.inj h4
    obtain ⟨rfl, rfl⟩ := Prod.mk.inj h5
    split at h3
    · obtain rfl := Option.some.inj h3; exact h
    · obtain ⟨y, h6, h7⟩ := Option.bind_eq_some_iff.1 h3
      obtain rfl := Option.some.inj h7
      exact refuse_bd h (by omega) h6
  · have h5 := Option.some.inj hf
    obtain ⟨rfl, rfl⟩ := Prod.mk.inj h5
    exact h
theorem text_bd {r q : Rdr} {it : It} {n : Int} {l : List (BitVec 8)} (h : r.bd) (hf : waybill_receipt_reader_text r it n = some (l, q)) : q.bd := by
  unfold waybill_receipt_reader_text at hf
  split at hf
  · obtain ⟨⟨a, b⟩, h1, h2⟩ := Option.bind_eq_some_iff.1 hf
    dsimp only at h2
    obtain ⟨w, h3, h4⟩ := Option.bind_eq_some_iff.1 h2
    split at h4
    · obtain ⟨y, h6, h7⟩ := Option.bind_eq_some_iff.1 h4
      have h5 := Option.some.inj h7
      obtain ⟨rfl, rfl⟩ := Prod.mk.inj h5
      exact refuse_bd h (by omega) h6
    · have h5 := Option.some.inj h4
      obtain ⟨rfl, rfl⟩ := Prod.mk.inj h5
      exact h
  · have h5 := Option.some.inj hf
    obtain ⟨rfl, rfl⟩ := Prod.mk.inj h5
    exact h
theorem topicsF_bd : ∀ {its : List It} {r q : Rdr} {l l2 : List (Vector (BitVec 8) 32)}, r.bd → rtopicsF r l its = some (l2, q) → q.bd
  | [], r, q, l, l2, h, hf => by
    have h5 := Option.some.inj hf
    obtain ⟨rfl, rfl⟩ := Prod.mk.inj h5
    exact h
  | it :: its, r, q, l, l2, h, hf => by
    unfold rtopicsF at hf
    obtain ⟨⟨a, b⟩, h1, h2⟩ := Option.bind_eq_some_iff.1 hf
    have hb := text_bd h h1
    dsimp only at h2
    split at h2
    · split at h2
      · obtain ⟨v, h3, h4⟩ := Option.bind_eq_some_iff.1 h2
        exact topicsF_bd hb h4
      · cases h2
    · exact topicsF_bd hb h2
theorem topics_bd {r q : Rdr} {it : It} {l0 l : List (Vector (BitVec 8) 32)} (h : r.bd) (hf : rtopics r l0 it = some (l, q)) : q.bd := by
  unfold rtopics at hf
  obtain ⟨⟨a, b⟩, h1, h2⟩ := Option.bind_eq_some_iff.1 hf
  exact topicsF_bd (list_bd h h1) h2
def Rcpt.zero : Rcpt := ⟨0, false, Vector.replicate 32 0#8, 0#64, 0#64, Vector.replicate 256 0#8, []⟩
abbrev RcptZ : RcptC := ⟨0, false, Vector.replicate 32 0#8, 0#64, 0#64, Vector.replicate 256 0#8, .slice none 0 0⟩
def dkind (d : List (BitVec 8)) (b : BitVec 8) : Option (Int × List (BitVec 8)) :=
  if 192 ≤ b.toNat then some (0, d) else if 1 ≤ b.toNat ∧ b.toNat ≤ 4 then some ((b.toNat : Int), d.drop 1) else none
def rfields (k : Int) (f : List It) : Option (Rcpt × Int) :=
  (f[0]?).bind fun x0 => (routcome ⟨0⟩ { RcptZ with kind := k } x0).bind fun o =>
  (f[1]?).bind fun x1 => (rsmall o.2 o.1.used x1).bind fun u =>
  (f[2]?).bind fun x2 => (rbloom u.2 o.1.bloom x2).bind fun bl =>
  (f[3]?).bind fun x3 => (rlogs bl.2 [] x3).bind fun l =>
  if l.2.err = 0 then (receipt_BloomOf l.1).bind fun y => if bl.1 = y then some (⟨o.1.kind, o.1.rooted, o.1.root, o.1.status, u.1, bl.1, l.1⟩, 0) else some (Rcpt.zero, 173)
  else some (Rcpt.zero, l.2.err)
def rdecode2 (k : Int) (d : List (BitVec 8)) : Option (Rcpt × Int) :=
  (rlp_Decode d).bind fun p => if p.2 = 0 then (rlp_GetList p.1).bind fun q => if q.2 = 0 ∧ q.1.length = 4 then rfields k q.1 else some (Rcpt.zero, 171) else some (Rcpt.zero, (p.2 : Int))
def receipt_Decode (d : List (BitVec 8)) : Option (Rcpt × Int) :=
  if 16777216 < d.length then some (Rcpt.zero, 2) else if d.length = 0 then some (Rcpt.zero, 70)
  else (d[0]?).bind fun b => match dkind d b with
    | none => some (Rcpt.zero, 170)
    | some p => rdecode2 p.1 p.2
theorem rroot_keep {r q : Rdr} {o o2 : RcptC} {b : List (BitVec 8)} (hf : rroot r o b = some (o2, q)) : o2.kind = o.kind ∧ o2.used = o.used ∧ o2.bloom = o.bloom ∧ o2.logs = o.logs := by
  unfold rroot at hf
  split at hf
  · obtain ⟨v, _, h⟩ := Option.bind_eq_some_iff.1 hf
    obtain ⟨rfl, rfl⟩ := Prod.mk.inj (Option.some.inj h)
    exact ⟨rfl, rfl, rfl, rfl⟩
  · obtain ⟨v, _, h⟩ := Option.bind_eq_some_iff.1 hf
    obtain ⟨rfl, rfl⟩ := Prod.mk.inj (Option.some.inj h)
    exact ⟨rfl, rfl, rfl, rfl⟩
theorem routcome_keep {r q : Rdr} {o o2 : RcptC} {it : It} (hf : routcome r o it = some (o2, q)) : o2.kind = o.kind ∧ o2.used = o.used ∧ o2.bloom = o.bloom ∧ o2.logs = o.logs := by
  unfold routcome at hf
  obtain ⟨p, _, hf⟩ := Option.bind_eq_some_iff.1 hf
  split at hf
  · split at hf
    · obtain ⟨rfl, rfl⟩ := Prod.mk.inj (Option.some.inj hf)
      exact ⟨rfl, rfl, rfl, rfl⟩
    · split at hf
      · obtain ⟨x, _, hf⟩ := Option.bind_eq_some_iff.1 hf
        split at hf
        · obtain ⟨rfl, rfl⟩ := Prod.mk.inj (Option.some.inj hf)
          exact ⟨rfl, rfl, rfl, rfl⟩
        · exact rroot_keep hf
      · exact rroot_keep hf
  · obtain ⟨rfl, rfl⟩ := Prod.mk.inj (Option.some.inj hf)
    exact ⟨rfl, rfl, rfl, rfl⟩
theorem rroot_bd {r q : Rdr} {o o2 : RcptC} {b : List (BitVec 8)} (h : r.bd) (hf : rroot r o b = some (o2, q)) : q.bd := by
  unfold rroot at hf
  split at hf
  · obtain ⟨v, _, h2⟩ := Option.bind_eq_some_iff.1 hf
    obtain ⟨rfl, rfl⟩ := Prod.mk.inj (Option.some.inj h2)
    exact h
  · obtain ⟨v, h1, h2⟩ := Option.bind_eq_some_iff.1 hf
    obtain ⟨rfl, rfl⟩ := Prod.mk.inj (Option.some.inj h2)
    exact refuse_bd h (by omega) h1
theorem routcome_bd {r q : Rdr} {o o2 : RcptC} {it : It} (h : r.bd) (hf : routcome r o it = some (o2, q)) : q.bd := by
  unfold routcome at hf
  obtain ⟨p, hp, hf⟩ := Option.bind_eq_some_iff.1 hf
  have hb := text_bd h hp
  split at hf
  · split at hf
    · obtain ⟨rfl, rfl⟩ := Prod.mk.inj (Option.some.inj hf)
      exact hb
    · split at hf
      · obtain ⟨x, _, hf⟩ := Option.bind_eq_some_iff.1 hf
        split at hf
        · obtain ⟨rfl, rfl⟩ := Prod.mk.inj (Option.some.inj hf)
          exact hb
        · exact rroot_bd hb hf
      · exact rroot_bd hb hf
  · obtain ⟨rfl, rfl⟩ := Prod.mk.inj (Option.some.inj hf)
    exact hb
theorem rsmall_bd {r q : Rdr} {o v : BitVec 64} {it : It} (h : r.bd) (hf : rsmall r o it = some (v, q)) : q.bd := by
  unfold rsmall at hf
  split at hf
  · obtain ⟨p, hp, hf⟩ := Option.bind_eq_some_iff.1 hf
    split at hf
    · obtain ⟨rfl, rfl⟩ := Prod.mk.inj (Option.some.inj hf)
      exact h
    · obtain ⟨x, hx, hf⟩ := Option.bind_eq_some_iff.1 hf
      obtain ⟨rfl, rfl⟩ := Prod.mk.inj (Option.some.inj hf)
      exact refuse_bd h (by omega) hx
  · obtain ⟨rfl, rfl⟩ := Prod.mk.inj (Option.some.inj hf)
    exact h
theorem rbloom_bd {r q : Rdr} {o v : Vector (BitVec 8) 256} {it : It} (h : r.bd) (hf : rbloom r o it = some (v, q)) : q.bd := by
  unfold rbloom at hf
  obtain ⟨p, hp, hf⟩ := Option.bind_eq_some_iff.1 hf
  have hb := text_bd h hp
  split at hf
  · obtain ⟨x, hx, hf⟩ := Option.bind_eq_some_iff.1 hf
    obtain ⟨rfl, rfl⟩ := Prod.mk.inj (Option.some.inj hf)
    exact hb
  · obtain ⟨rfl, rfl⟩ := Prod.mk.inj (Option.some.inj hf)
    exact hb
theorem parselog_bd {it : It} {x : Log} {e : Int} (hf : receipt_ParseLog it = some (x, e)) : 0 ≤ e ∧ e ≤ 1000 := by
  unfold receipt_ParseLog at hf
  obtain ⟨p, hp, hf⟩ := Option.bind_eq_some_iff.1 hf
  have hb := list_bd (r := ⟨0⟩) ⟨Int.le_refl _, by decide⟩ hp
  split at hf
  · obtain ⟨x0, _, hf⟩ := Option.bind_eq_some_iff.1 hf
    obtain ⟨a, ha, hf⟩ := Option.bind_eq_some_iff.1 hf
    have hb2 := text_bd hb ha
    obtain ⟨ad, _, hf⟩ := Option.bind_eq_some_iff.1 hf
    obtain ⟨x1, _, hf⟩ := Option.bind_eq_some_iff.1 hf
    obtain ⟨t, ht, hf⟩ := Option.bind_eq_some_iff.1 hf
    have hb3 := topics_bd hb2 ht
    obtain ⟨x2, _, hf⟩ := Option.bind_eq_some_iff.1 hf
    obtain ⟨d, hd, hf⟩ := Option.bind_eq_some_iff.1 hf
    have hb4 := text_bd hb3 hd
    split at hf
    · split at hf
      · obtain ⟨rfl, rfl⟩ := Prod.mk.inj (Option.some.inj hf); omega
      · obtain ⟨rfl, rfl⟩ := Prod.mk.inj (Option.some.inj hf); omega
    · obtain ⟨rfl, rfl⟩ := Prod.mk.inj (Option.some.inj hf); exact hb4
  · obtain ⟨rfl, rfl⟩ := Prod.mk.inj (Option.some.inj hf); omega
theorem logsF_bd : ∀ {its : List It} {r q : Rdr} {l l2 : List Log}, r.bd → rlogsF r l its = some (l2, q) → q.bd
  | [], r, q, l, l2, h, hf => by
    obtain ⟨rfl, rfl⟩ := Prod.mk.inj (Option.some.inj hf)
    exact h
  | it :: its, r, q, l, l2, h, hf => by
    unfold rlogsF at hf
    obtain ⟨p, hp, hf⟩ := Option.bind_eq_some_iff.1 hf
    split at hf
    · split at hf
      · exact logsF_bd h hf
      · cases hf
    · obtain ⟨x, hx, hf⟩ := Option.bind_eq_some_iff.1 hf
      obtain ⟨rfl, rfl⟩ := Prod.mk.inj (Option.some.inj hf)
      exact refuse_bd h (parselog_bd hp) hx
theorem logs_bd {r q : Rdr} {it : It} {l0 l : List Log} (h : r.bd) (hf : rlogs r l0 it = some (l, q)) : q.bd := by
  unfold rlogs at hf
  obtain ⟨p, hp, hf⟩ := Option.bind_eq_some_iff.1 hf
  exact logsF_bd (list_bd h hp) hf
def mkfit (logs : List Log) : Bool := logs.all (fun x => decide (x.topics.length * 32 ≤ 140737488355328)) && decide (logs.length * 72 ≤ 140737488355328)
def receipt_Make (kind : Int) (status used : BitVec 64) (logs : List Log) : Option (Rcpt × Int) :=
  (receipt_BloomOf logs).bind fun b => if mkfit logs = true then (receipt_Check ⟨kind, false, Vector.replicate 32 0#8, status, used, b, logs⟩).bind fun e =>
    if e = 0 then some (⟨kind, false, Vector.replicate 32 0#8, status, used, b, logs⟩, 0) else some (Rcpt.zero, (e : Int)) else none
end Go.Fw
namespace Go.Fw.Tryd
open Go Go.Proofs Go.Fw
set_option maxRecDepth 100000
set_option linter.unusedVariables false
set_option maxHeartbeats 1000000
theorem set_here {l : List Value} {i : Nat} {v : Value} (h : l[i]? = some v) : l.set i v = l := by
  obtain ⟨h1, h2⟩ := List.getElem?_eq_some_iff.1 h
  subst h2
  exact List.set_getElem_self h1
theorem spl_here {l vs : List Value} {off : Nat} (h : ∀ k u, vs[k]? = some u → l[off + k]? = some u) (hb : off + vs.length ≤ l.length) : spl l off vs = l := by
  apply List.ext_getElem?
  intro i
  unfold spl
  by_cases h1 : i < off
  · rw [List.append_assoc, List.getElem?_append_left (by rw [List.length_take]; omega), List.getElem?_take, if_pos h1]
  · by_cases h2 : i < off + vs.length
    · rw [List.append_assoc, List.getElem?_append_right (by rw [List.length_take]; omega), List.length_take, Nat.min_eq_left (by omega), List.getElem?_append_left (by omega)]
      have h3 := h (i - off) (vs[i - off]'(by omega)) (List.getElem?_eq_getElem (by omega))
      rw [show off + (i - off) = i by omega] at h3
      rw [h3, List.getElem?_eq_getElem]
    · rw [List.getElem?_append_right (by rw [List.length_append, List.length_take]; omega), List.length_append, List.length_take, Nat.min_eq_left (by omega), List.getElem?_drop, show off + vs.length + (i - (off + vs.length)) = i by omega]
abbrev LogZ : LogC := ⟨Vector.replicate 20 0#8, .slice none 0 0, .slice none 0 0⟩
def LgZ : Lg := ⟨Vector.replicate 20 0#8, none, [], 0, [], none, [], 0, []⟩
theorem LgZ_ok : LgZ.Ok := ⟨OwnS.nil, OwnS.nil⟩
theorem nil2 {w0 w : World} {M : List Ent} {o o2 : Obj} (m : Mem w0 w M) : Mem w0 w ((none, o) :: (none, o2) :: M) := (m.nil_ent _).nil_ent _
def DecO (w0 : World) (x : Rcpt) (e : Int) : Value → List Ent → Prop := fun v G => ∃ (gs : List Lg) (ob : Option Nat) (c : Nat) (r : List Value) (B : List Ent), (∀ g ∈ gs, g.Ok) ∧ OwnS ob gs.length c 22 (lgC gs) r ∧ gs.map Lg.val = x.logs ∧ (-9223372036854775808 ≤ e ∧ e ≤ 9223372036854775807) ∧ (-9223372036854775808 ≤ x.kind ∧ x.kind ≤ 9223372036854775807) ∧
  v = .tuple #[.agg (⟨x.kind, x.rooted, x.root, x.status, x.used, x.bloom, sl ob 0 gs.length c⟩ : RcptC).C.toArray, .int .i64 e] ∧ G = (ob, blk (lgC gs ++ r) 63) :: (lgs 24 5 gs ++ B)
theorem DecO.zero {w0 : World} {e : Int} (he : -9223372036854775808 ≤ e ∧ e ≤ 9223372036854775807) (B : List Ent) : DecO w0 Rcpt.zero e (.tuple #[.agg RcptZ.C.toArray, .int .i64 e]) ((none, blk [] 63) :: B) :=
  ⟨[], none, 0, [], B, (fun g hg => by cases hg), OwnS.nil, rfl, he, (by show _ ≤ (0 : Int) ∧ (0 : Int) ≤ _; omega), rfl, rfl⟩
theorem DecO.rd {w0 : World} {Φ : Ctx} {x : Rcpt} {e : Int} {v : Value} {G : List Ent} (h : DecO w0 x e v G) : ∃ B : List Ent, ∃ cr0 : List Value, RcptRd (More w0 Φ B) cr0 x ∧ (-9223372036854775808 ≤ e ∧ e ≤ 9223372036854775807) ∧ v = .tuple #[.agg cr0.toArray, .int .i64 e] ∧ G = B := by
  obtain ⟨gs, ob, c, r, B, hok, ho, hv, he, hk, rfl, rfl⟩ := h
  refine ⟨_, _, ?_, he, rfl, rfl⟩
  have hvl := ho.view (te := 63) (w0 := w0) (Ψ := More w0 Φ ((ob, blk (lgC gs ++ r) 63) :: (lgs 24 5 gs ++ B))) (by decide) (fun w q => q.2.sublist (List.singleton_sublist.2 (List.mem_cons_self ..)))
  have hrl := lgs_reps (w0 := w0) (Φ := More w0 Φ ((ob, blk (lgC gs ++ r) 63) :: (lgs 24 5 gs ++ B))) (tH := 24) (tB := 5) hok (fun w q => q.2.tail.appL)
  obtain ⟨k, ro, rt, st, us, bl, lg⟩ := x
  dsimp only at hv hk ⊢
  subst hv
  have hvl2 : View (More w0 Φ ((ob, blk (lgC gs ++ r) 63) :: (lgs 24 5 gs ++ B))) (ob.map fun k => ⟨k, 0, none⟩) (gs.map Lg.val).length c 22 (lgC gs) := by rw [List.length_map]; exact hvl
  have := RcptRd.mk (kind := k) (rooted := ro) (root := rt) (status := st) (used := us) (bloom := bl) (logs := gs.map Lg.val) hk hvl2 hrl
  rw [List.length_map] at this
  exact this
end Go.Fw.Tryd
namespace Go.Fw
open Go
set_option linter.unusedVariables false
theorem CW.sub {P : Program} {n : Nat} {Q : Exit → Act → World → Prop} {w0 : World} {L : Slots} {M : List Ent} {L' : Slots} {c : Code} (hL : Sub L L') (h : CW P n Q w0 c L' M) : CW P n Q w0 c L M := CW.intro fun a w f m => h.elim a w (f.weaken hL) m
def scopeOf (o : Option Code) : Code := match o with
  | some (.seq _ (.scope c)) => c
  | _ => .skip
def afterL (c : Code) (l : Nat) : Code := match findLabel c l with
  | some (.seq _ y) => y
  | _ => .skip
structure Frm where
  ob : Option Nat
  c : Nat
  cells : List Value
  r : List Value
  A : Option Addr
  cb : Nat
  items : List It
  behind : List (BitVec 8)
def Frm.ent (te : TypeId) (f : Frm) : Ent := (f.ob, blk (f.cells ++ f.r) te)
def Frm.cs (f : Frm) : List Value := [sl f.ob 0 f.items.length f.c, .slice f.A f.behind.length f.cb]
def Frm.pure (f : Frm) : List It × List (BitVec 8) := (f.items, f.behind)
structure Frm.Ok (Φ : Ctx) (f : Frm) : Prop where
  o : OwnS f.ob f.items.length f.c 3 f.cells f.r
  h : Reps (ItRd Φ) f.cells f.items
  v : View Φ f.A f.behind.length f.cb 1 (u8s f.behind)
theorem Frm.Ok.mono {Φ Ψ : Ctx} (hh : ∀ w, Ψ w → Φ w) {f : Frm} (h : f.Ok Φ) : f.Ok Ψ := ⟨h.o, h.h.mono (ItRd.mono hh), h.v.mono hh⟩
def stC : List Frm → List Value
  | [] => []
  | f :: F => stC F ++ f.cs
theorem stC_len : ∀ F : List Frm, (stC F).length = F.length * 2
  | [] => rfl
  | f :: F => by rw [stC, List.length_append, stC_len F, List.length_cons, Frm.cs]; simp; omega
theorem stC_pop (F : List Frm) (f : Frm) (r : List Value) : stC (f :: F) ++ r = stC F ++ (f.cs ++ r) := by rw [stC, List.append_assoc]
theorem stC_at0 (F : List Frm) (f : Frm) (r : List Value) : (stC (f :: F) ++ r)[0 + F.length * 2 + 0]? = some (sl f.ob 0 f.items.length f.c) := by
  rw [stC_pop, List.getElem?_append_right (by rw [stC_len]; omega), stC_len, show 0 + F.length * 2 + 0 - F.length * 2 = 0 by omega]; rfl
theorem stC_at1 (F : List Frm) (f : Frm) (r : List Value) : (stC (f :: F) ++ r)[0 + F.length * 2 + 1]? = some (.slice f.A f.behind.length f.cb) := by
  rw [stC_pop, List.getElem?_append_right (by rw [stC_len]; omega), stC_len, show 0 + F.length * 2 + 1 - F.length * 2 = 1 by omega]; rfl
theorem stC_set0 (F : List Frm) (f g : Frm) (r : List Value) (hA : g.A = f.A) (hb : g.behind = f.behind) (hc : g.cb = f.cb) : (stC (f :: F) ++ r).set (0 + F.length * 2 + 0) (sl g.ob 0 g.items.length g.c) = stC (g :: F) ++ r := by
  rw [stC_pop, stC_pop, List.set_append_right _ _ (by rw [stC_len]; omega), stC_len, show 0 + F.length * 2 + 0 - F.length * 2 = 0 by omega]
  simp [Frm.cs, hA, hb, hc]
theorem OwnS.pop {ob : Option Nat} {n c : Nat} {F : List Frm} {f : Frm} {r : List Value} (h : OwnS ob (n + 1) c 2 (stC (f :: F)) r) (hn : F.length = n) : OwnS ob n c 2 (stC F) (f.cs ++ r) := by
  have h1 := h.hr
  have h2 := h.mx
  rw [stC_pop] at h1
  exact ⟨by rw [stC_len, hn], h1, h.hn, by omega⟩
theorem OwnS.swap {ob : Option Nat} {n c : Nat} {F : List Frm} {f g : Frm} {r : List Value} (h : OwnS ob n c 2 (stC (f :: F)) r) : OwnS ob n c 2 (stC (g :: F)) r := by
  have h1 := h.hr
  have h0 := h.n
  rw [List.length_append, stC_len] at h1
  rw [stC_len] at h0
  exact ⟨by rw [stC_len]; exact h0, by rw [List.length_append, stC_len]; exact h1, h.hn, h.mx⟩
theorem Frm.one {f : Frm} : ∀ u ∈ f.cs, u.oneCell' = true := by
  intro u hu
  simp [Frm.cs] at hu
  rcases hu with rfl | rfl <;> rfl
theorem spl_last (a z cs r : List Value) (i : Nat) (hi : 0 + i = a.length) (hz : z.length = cs.length) : spl ((a ++ z) ++ r) (0 + i) cs = (a ++ cs) ++ r := by
  have h1 : List.take (0 + i) ((a ++ z) ++ r) = a := by rw [hi, List.append_assoc, List.take_left' rfl]
  have h2 : List.drop (0 + i + cs.length) ((a ++ z) ++ r) = r := by rw [hi, ← hz, ← List.length_append, List.drop_left' rfl]
  unfold spl
  rw [h1, h2]
theorem Mem.deep {w0 w : World} {A B N : List Ent} (P X : List Ent) (m : Mem w0 w (A ++ (P ++ (X ++ (B ++ N))))) : Mem w0 w (P ++ (X ++ ((A ++ B) ++ N))) := by
  refine m.perm ?_
  have h1 : (A ++ (P ++ (X ++ (B ++ N)))).Perm ((P ++ X) ++ (A ++ (B ++ N))) := by
    have := (List.perm_append_comm (l₁ := A) (l₂ := P ++ X)).append_right (B ++ N)
    simpa only [List.append_assoc] using this
  simpa only [List.append_assoc] using h1
theorem Mem.underB {w0 w : World} {e : Ent} {B N : List Ent} (P X : List Ent) (m : Mem w0 w (P ++ (e :: (X ++ (B ++ N))))) : Mem w0 w (P ++ (X ++ ((e :: B) ++ N))) := by
  refine m.perm ?_
  refine List.Perm.append_left P ?_
  have h1 : (e :: (X ++ (B ++ N))).Perm (X ++ (e :: (B ++ N))) := List.perm_middle.symm
  simpa only [List.append_assoc, List.cons_append] using h1
theorem Mem.low {w0 w : World} {B N : List Ent} (P X : List Ent) (m : Mem w0 w (P ++ (X ++ (B ++ N)))) : Mem w0 w (B ++ N) := m.appR.appR
theorem More.low {w0 : World} {Φ : Ctx} {B N : List Ent} (hΦ : ∀ w, Mem w0 w N → Φ w) (P X : List Ent) {w : World} (m : Mem w0 w (P ++ (X ++ (B ++ N)))) : More w0 Φ B w := ⟨hΦ w (m.low P X).appR, (m.low P X).appL⟩
end Go.Fw
namespace Go.Fw
set_option linter.unusedVariables false
set_option maxRecDepth 100000
def waybilllaw17_little : Option ((Bool)) := ((receipt_Make (0 : Int) (1#64) (21000#64) ([] : List (Log))).bind fun (x2, x3) => ((receipt_Encode x2).bind fun (x24, x25) => ((receipt_Decode x24).bind fun (x39, x40) => ((((waybilllaw17_num x3).bind fun x69 => (if x69 = (0 : Int) then ((waybilllaw17_num ((x25 : Nat) : Int)).bind fun x75 => (if x75 = (0 : Int) then ((waybilllaw17_num x40).bind fun x81 => (if x81 = (0 : Int) then (if x2.status = 1#64 then (if x24.length = 267 then ((waybilllaw17_sameReceipt x2 x39).bind fun x89 => (some ((x89)))) else (some (false))) else (some (false))) else (some (false)))) else (some (false)))) else (some (false)))) : Option ((Bool))).bind fun p62 => (some (p62))))))
def waybilllaw17_ReceiptSpoilt (a0 : Int) (a1 : BitVec 64) (a2 : List (Log)) (a3 : Int) : Option ((Bool)) := ((receipt_Make a0 a1 (7#64) a2).bind fun (x3, x4) => ((waybilllaw17_num x4).bind fun x25 => (if x25 = (0 : Int) then (((if ((a3).tmod 2048) < (0 : Int) then (if -9223372036854775808 ≤ (((a3).tmod 2048) + (2048 : Int)) ∧ (((a3).tmod 2048) + (2048 : Int)) ≤ 9223372036854775807 then (some ((((a3).tmod 2048) + (2048 : Int)))) else none) else (some (((a3).tmod 2048)))) : Option ((Int))).bind fun z33 => (if 0 ≤ z33 then (if ((z33).toNat / 8) < 256 then (x3.bloom[((z33).toNat / 8)]?).bind fun x43 => ((receipt_Encode (Rcpt.mk x3.kind (x3.rooted) x3.root x3.status x3.used (x3.bloom.setIfInBounds ((z33).toNat / 8) (x43 ^^^ (1#8 <<< (BitVec.ofInt 64 ((z33).tmod 8)).toNat))) x3.logs)).bind fun (x48, x49) => ((((receipt_Check x3).bind fun x70 => ((waybilllaw17_num ((x70 : Nat) : Int)).bind fun x75 => (if x75 = (0 : Int) then ((receipt_Check (Rcpt.mk x3.kind (x3.rooted) x3.root x3.status x3.used (x3.bloom.setIfInBounds ((z33).toNat / 8) (x43 ^^^ (1#8 <<< (BitVec.ofInt 64 ((z33).tmod 8)).toNat))) x3.logs)).bind fun x82 => ((waybilllaw17_num ((x82 : Nat) : Int)).bind fun x87 => (if x87 = (173 : Int) then ((waybilllaw17_num ((x49 : Nat) : Int)).bind fun x93 => (some ((decide (x93 = (173 : Int)))))) else (some (false))))) else (some (false))))) : Option ((Bool))).bind fun p63 => (some (p63)))) else none) else none)) else ((waybilllaw17_little).bind fun x100 => (some (x100))))))
end Go.Fw
