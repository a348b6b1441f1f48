/- Part of a proof: rules that its law uses. -/
import Derived.Test.YtpkcehpoohmbfaaDoorItL
namespace Go.Fw
set_option linter.unusedVariables false
set_option maxRecDepth 100000
def u256_From (a0 : BitVec 64) : Option ((Vector (BitVec 64) 4)) := (some ((Vector.replicate 4 0#64).setIfInBounds 0 a0))
def waybillref01_From (a0 : BitVec 64) : Option ((Vector (BitVec 64) 4)) := (some (((((Vector.replicate 4 0#64).setIfInBounds 0 a0).setIfInBounds 1 (0#64)).setIfInBounds 2 (0#64)).setIfInBounds 3 (0#64)))
def rlp_clone (a0 : List (BitVec 8)) : Option ((List (BitVec 8))) := (some a0)
def waybillref07_bytes (a0 : List (BitVec 8)) : Option ((List (BitVec 8))) := (some a0)
def rlp_Text (a0 : List (BitVec 8)) : Option ((It)) := ((rlp_clone a0).bind fun x4 => (some (It.mk false x4 ([] : List (It)))))
def waybillref07_Text (a0 : List (BitVec 8)) : Option ((It)) := ((waybillref07_bytes a0).bind fun x4 => (some (It.mk false x4 ([] : List (It)))))
def waybilllaw07_num (a0 : Int) : Option ((Int)) := (some a0)
def rlp_odd (a0 : It) : Option ((Bool)) := (((if a0.list = true then (if 0 < a0.data.length then (some (true)) else (if a0.list = true then (some (false)) else (some ((decide (0 < a0.items.length)))))) else (if a0.list = true then (some (false)) else (some ((decide (0 < a0.items.length)))))) : Option ((Bool))).bind fun p16 => (some (p16)))
def waybillref07_odd (a0 : It) : Option ((Bool)) := (if a0.list = true then (some (decide (0 < a0.data.length))) else (some (decide (0 < a0.items.length))))
def rlp_kind (a0 : It) (a1 : Bool) : Option ((Nat)) := ((rlp_odd a0).bind fun x15 => (if x15 = true then (some 78) else (if (a0.list) = (a1) then (some 0) else (some 75))))
def waybillref07_wanted (a0 : It) (a1 : Bool) : Option ((Nat)) := ((waybillref07_odd a0).bind fun x15 => (if x15 = true then (some 78) else (if (a0.list) = (a1) then (some 0) else (some 75))))
def math_bits_Len64 (a0 : BitVec 64) : Option ((Nat)) := (((if 4294967296 ≤ a0.toNat then (some (((a0 >>> 32), 32))) else (some ((a0, 0)))) : Option ((BitVec 64) × (Nat))).bind fun (w3, n4) => (((if 65536 ≤ w3.toNat then (if (n4 + 16) ≤ 9223372036854775807 then (some (((w3 >>> 16), (n4 + 16)))) else none) else (some ((w3, n4)))) : Option ((BitVec 64) × (Nat))).bind fun (w13, n14) => (((if 256 ≤ w13.toNat then (if (n14 + 8) ≤ 9223372036854775807 then (some (((w13 >>> 8), (n14 + 8)))) else none) else (some ((w13, n14)))) : Option ((BitVec 64) × (Nat))).bind fun (w23, n24) => (if (n24 + (BitVec.ofNat 8 (lenB (w23.setWidth 8))).toNat) ≤ 9223372036854775807 then (some (n24 + (BitVec.ofNat 8 (lenB (w23.setWidth 8))).toNat)) else none))))
def u256_Len.l1 (a0 : Vector (BitVec 64) 4) : Nat → (Int) → Option (Lp ((Int)) (Unit))
  | 0, _ => none
  | k11 + 1, z9 => (if (0 : Int) ≤ z9 then (if (z9).toNat < 4 then (a0[(z9).toNat]?).bind fun x20 => (if x20 = 0#64 then (if -9223372036854775808 ≤ (z9 - (1 : Int)) ∧ (z9 - (1 : Int)) ≤ 9223372036854775807 then (u256_Len.l1 a0 k11 (z9 - (1 : Int))) else none) else (if -9223372036854775808 ≤ ((64 : Int) * z9) ∧ ((64 : Int) * z9) ≤ 9223372036854775807 then (a0[(z9).toNat]?).bind fun x25 => ((math_bits_Len64 x25).bind fun x28 => (if -9223372036854775808 ≤ (((64 : Int) * z9) + ((x28 : Nat) : Int)) ∧ (((64 : Int) * z9) + ((x28 : Nat) : Int)) ≤ 9223372036854775807 then (some (Lp.ret (some (((64 : Int) * z9) + ((x28 : Nat) : Int))))) else none)) else none)) else none) else (some (Lp.go ())))
def u256_Len (a0 : Vector (BitVec 64) 4) : Option ((Int)) := (((u256_Len.l1 a0 5 (3 : Int)) : Option (Lp ((Int)) (Unit))).bind fun | .ret o => o | .go () => (some (0 : Int)))
def u256_Sub.l1 (a0 : Vector (BitVec 64) 4) (a1 : Vector (BitVec 64) 4) : Nat → (BitVec 64) → (Nat) → (Vector (BitVec 64) 4) → Option ((BitVec 64) × (Vector (BitVec 64) 4))
  | 0, _, _, _ => none
  | k18 + 1, w14, n15, w17 => (if n15 < 4 then (a0[n15]?).bind fun x26 => (a1[n15]?).bind fun x28 => ((sub64c x26 x28 w14).bind fun (w30, w31) => (u256_Sub.l1 a0 a1 k18 w31 (n15 + 1) (w17.setIfInBounds n15 w30))) else (some ((w14, w17))))
def u256_Sub (a0 : Vector (BitVec 64) 4) (a1 : Vector (BitVec 64) 4) : Option ((Vector (BitVec 64) 4) × (BitVec 64)) := (((u256_Sub.l1 a0 a1 (4 - 0 + 2) (0#64) 0 (Vector.replicate 4 0#64)) : Option ((BitVec 64) × (Vector (BitVec 64) 4))).bind fun (w7, w8) => (some (w8, w7)))
def u256_Cmp (a0 : Vector (BitVec 64) 4) (a1 : Vector (BitVec 64) 4) : Option ((Int)) := (if a0 = a1 then (some (0 : Int)) else ((u256_Sub a0 a1).bind fun (x5, x6) => (if x6 = 1#64 then (some (-1 : Int)) else (some (1 : Int)))))
def waybillref01_Cmp.l1 (a0 : Vector (BitVec 64) 4) (a1 : Vector (BitVec 64) 4) : Nat → (Int) → Option (Lp ((Int)) (Unit))
  | 0, _ => none
  | k12 + 1, z10 => (if (0 : Int) ≤ z10 then (if (z10).toNat < 4 then (a0[(z10).toNat]?).bind fun x21 => (a1[(z10).toNat]?).bind fun x23 => (if x21.toNat < x23.toNat then (some (Lp.ret (some (-1 : Int)))) else (a0[(z10).toNat]?).bind fun x26 => (a1[(z10).toNat]?).bind fun x28 => (if x28.toNat < x26.toNat then (some (Lp.ret (some (1 : Int)))) else (if -9223372036854775808 ≤ (z10 - (1 : Int)) ∧ (z10 - (1 : Int)) ≤ 9223372036854775807 then (waybillref01_Cmp.l1 a0 a1 k12 (z10 - (1 : Int))) else none))) else none) else (some (Lp.go ())))
def waybillref01_Cmp (a0 : Vector (BitVec 64) 4) (a1 : Vector (BitVec 64) 4) : Option ((Int)) := (((waybillref01_Cmp.l1 a0 a1 5 (3 : Int)) : Option (Lp ((Int)) (Unit))).bind fun | .ret o => o | .go () => (some (0 : Int)))
def u256_Put.l1 (a0 : Vector (BitVec 64) 4) : Nat → (Nat) → (Vector (BitVec 8) 32) → Option ((Vector (BitVec 8) 32))
  | 0, _, _ => none
  | k15 + 1, n12, w14 => (if n12 < 32 then (if n12 ≤ 31 then (if (n12 / 8) < 4 then (a0[(n12 / 8)]?).bind fun x25 => (if (31 - n12) < 32 then (u256_Put.l1 a0 k15 (n12 + 1) (w14.setIfInBounds (31 - n12) ((x25 >>> (8 * (n12 % 8))).setWidth 8))) else none) else none) else none) else (some (w14)))
def u256_Put (a0 : Vector (BitVec 64) 4) : Option ((Vector (BitVec 8) 32)) := (((u256_Put.l1 a0 (32 - 0 + 2) 0 (Vector.replicate 32 0#8)) : Option ((Vector (BitVec 8) 32))).bind fun w6 => (some w6))
def waybillref01_Put.l1 (a0 : Vector (BitVec 64) 4) : Nat → (Nat) → (Vector (BitVec 8) 32) → Option ((Vector (BitVec 8) 32))
  | 0, _, _ => none
  | k15 + 1, n12, w14 => (if n12 < 32 then (if n12 ≤ 31 then (if (n12 / 8) < 4 then (a0[(n12 / 8)]?).bind fun x25 => (if (31 - n12) < 32 then (waybillref01_Put.l1 a0 k15 (n12 + 1) (w14.setIfInBounds (31 - n12) ((x25 >>> (BitVec.ofNat 64 (8 * (n12 % 8))).toNat).setWidth 8))) else none) else none) else none) else (some (w14)))
def waybillref01_Put (a0 : Vector (BitVec 64) 4) : Option ((Vector (BitVec 8) 32)) := (((waybillref01_Put.l1 a0 (32 - 0 + 2) 0 (Vector.replicate 32 0#8)) : Option ((Vector (BitVec 8) 32))).bind fun w6 => (some w6))
def u256_Bytes (a0 : Vector (BitVec 64) 4) : Option ((List (BitVec 8))) := ((u256_Put a0).bind fun x3 => ((u256_Len a0).bind fun x8 => (if -9223372036854775808 ≤ (x8 + (7 : Int)) ∧ (x8 + (7 : Int)) ≤ 9223372036854775807 then (if 0 ≤ (x8 + (7 : Int)) then (if 0 ≤ ((32 : Int) - ((((x8 + (7 : Int))).toNat / 8 : Nat) : Int)) then (if (((32 : Int) - ((((x8 + (7 : Int))).toNat / 8 : Nat) : Int))).toNat ≤ 32 then (some (x3.toList.drop ((((32 : Int) - ((((x8 + (7 : Int))).toNat / 8 : Nat) : Int))).toNat))) else none) else none) else none) else none)))
def waybillref01_Bytes.l1 (x3 : Vector (BitVec 8) 32) : Nat → (List (BitVec 8)) → (Nat) → Option ((List (BitVec 8)))
  | 0, _, _ => none
  | k27 + 1, l20, n25 => (if n25 < 32 then (if 0 < l20.length then (((x3[n25]?).bind fun x50 => (if l20.length + ([x50] : List (BitVec 8)).length ≤ 140737488355328 then (some ((l20 ++ ([x50] : List (BitVec 8))))) else none) : Option ((List (BitVec 8)))).bind fun l39 => (waybillref01_Bytes.l1 x3 k27 l39 (n25 + 1))) else (x3[n25]?).bind fun x60 => (((if x60 = 0#8 then (some (l20)) else (x3[n25]?).bind fun x76 => (if l20.length + ([x76] : List (BitVec 8)).length ≤ 140737488355328 then (some ((l20 ++ ([x76] : List (BitVec 8))))) else none)) : Option ((List (BitVec 8)))).bind fun l64 => (waybillref01_Bytes.l1 x3 k27 l64 (n25 + 1)))) else (some (l20)))
def waybillref01_Bytes (a0 : Vector (BitVec 64) 4) : Option ((List (BitVec 8))) := ((waybillref01_Put a0).bind fun x3 => (((waybillref01_Bytes.l1 x3 40 ([] : List (BitVec 8)) 0) : Option ((List (BitVec 8)))).bind fun l9 => (some l9)))
end Go.Fw
