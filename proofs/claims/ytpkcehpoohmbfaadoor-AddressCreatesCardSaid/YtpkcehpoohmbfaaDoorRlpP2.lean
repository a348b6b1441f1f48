/- Part of a proof: rules that its law uses. -/
import Derived.Test.YtpkcehpoohmbfaaDoorRlpP1
namespace Go.Fw
set_option linter.unusedVariables false
set_option maxRecDepth 100000
def u256_Get.l1 (a0 : List (BitVec 8)) : Nat → (Nat) → (Vector (BitVec 64) 4) → Option ((Vector (BitVec 64) 4))
  | 0, _, _ => none
  | k16 + 1, n13, w15 => (if n13 < a0.length then (if 1 ≤ a0.length then (if n13 ≤ (a0.length - 1) then (if (((a0.length - 1) - n13) / 8) < 4 then (w15[(((a0.length - 1) - n13) / 8)]?).bind fun x27 => (a0[n13]?).bind fun x29 => (u256_Get.l1 a0 k16 (n13 + 1) (w15.setIfInBounds (((a0.length - 1) - n13) / 8) (x27 ||| ((x29.setWidth 64) <<< (8 * (((a0.length - 1) - n13) % 8)))))) else none) else none) else none) else (some (w15)))
def u256_Get (a0 : List (BitVec 8)) : Option ((Vector (BitVec 64) 4) × (Nat)) := (if 32 < a0.length then (some ((Vector.replicate 4 0#64), 11)) else (((u256_Get.l1 a0 (a0.length - 0 + 2) 0 (Vector.replicate 4 0#64)) : Option ((Vector (BitVec 64) 4))).bind fun w7 => (some (w7, 0))))
def waybillref01_Get.l1 (a0 : List (BitVec 8)) : Nat → (Nat) → (Vector (BitVec 64) 4) → Option ((Vector (BitVec 64) 4))
  | 0, _, _ => none
  | k16 + 1, n13, w15 => (if n13 < a0.length then (if 1 ≤ a0.length then (if n13 ≤ (a0.length - 1) then (if (((a0.length - 1) - n13) / 8) < 4 then (w15[(((a0.length - 1) - n13) / 8)]?).bind fun x27 => (a0[n13]?).bind fun x29 => (waybillref01_Get.l1 a0 k16 (n13 + 1) (w15.setIfInBounds (((a0.length - 1) - n13) / 8) (x27 + ((x29.setWidth 64) <<< (BitVec.ofNat 64 (8 * (((a0.length - 1) - n13) % 8))).toNat)))) else none) else none) else none) else (some (w15)))
def waybillref01_Get (a0 : List (BitVec 8)) : Option ((Vector (BitVec 64) 4) × (Nat)) := (if 32 < a0.length then (some ((Vector.replicate 4 0#64), 11)) else (((waybillref01_Get.l1 a0 (a0.length - 0 + 2) 0 (Vector.replicate 4 0#64)) : Option ((Vector (BitVec 64) 4))).bind fun w7 => (some (w7, 0))))
def u256_Strict (a0 : List (BitVec 8)) : Option ((Vector (BitVec 64) 4) × (Nat)) := ((u256_Get a0).bind fun (x4, x5) => (((if x5 = 0 then (if 0 < a0.length then (a0[0]?).bind fun x21 => (some ((decide (x21 = 0#8)))) else (some (false))) else (some (false))) : Option ((Bool))).bind fun p12 => (if p12 = true then (some ((Vector.replicate 4 0#64), 13)) else (some (x4, x5)))))
def rlp_head (a0 : BitVec 8) (a1 : Nat) : Option ((List (BitVec 8))) := (if a1 ≤ 55 then (some ([(a0 + (BitVec.ofNat 8 a1))] : List (BitVec 8))) else ((u256_From (BitVec.ofNat 64 a1)).bind fun x5 => ((u256_Bytes x5).bind fun x9 => (if ([((a0 + 55#8) + (BitVec.ofNat 8 x9.length))] : List (BitVec 8)).length + x9.length ≤ 140737488355328 then (some (([((a0 + 55#8) + (BitVec.ofNat 8 x9.length))] : List (BitVec 8)) ++ x9)) else none))))
def waybillref07_before (a0 : Nat) (a1 : Nat) : Option ((List (BitVec 8))) := (if a0 ≤ 55 then (if (a1 + a0) ≤ 9223372036854775807 then (some ([(BitVec.ofNat 8 (a1 + a0))] : List (BitVec 8))) else none) else ((waybillref01_From (BitVec.ofNat 64 a0)).bind fun x6 => ((waybillref01_Bytes x6).bind fun x10 => (if (a1 + 55) ≤ 9223372036854775807 then (if ((a1 + 55) + x10.length) ≤ 9223372036854775807 then (if ([(BitVec.ofNat 8 ((a1 + 55) + x10.length))] : List (BitVec 8)).length + x10.length ≤ 140737488355328 then (some (([(BitVec.ofNat 8 ((a1 + 55) + x10.length))] : List (BitVec 8)) ++ x10)) else none) else none) else none))))
def waybillref07_Same.l1 (a0 : It) (a1 : It) (rc : (It) → (It) → Option ((Bool))) : Nat → (Nat) → Option (Lp ((Bool)) (Unit))
  | 0, _ => none
  | k52 + 1, n50 => (if n50 < a0.items.length then (a0.items[n50]?).bind fun x60 => (a1.items[n50]?).bind fun x78 => ((rc x60 x78).bind fun x97 => (if x97 = true then (waybillref07_Same.l1 a0 a1 rc k52 (n50 + 1)) else (some (Lp.ret (some false))))) else (some (Lp.go ())))
def waybillref07_Same.l2 (a0 : It) (a1 : It) : Nat → (Nat) → Option (Lp ((Bool)) (Unit))
  | 0, _ => none
  | k103 + 1, n101 => (if n101 < a0.data.length then (a0.data[n101]?).bind fun x111 => (a1.data[n101]?).bind fun x114 => (if x111 = x114 then (waybillref07_Same.l2 a0 a1 k103 (n101 + 1)) else (some (Lp.ret (some false)))) else (some (Lp.go ())))
def waybillref07_Same.r : Nat → (It) → (It) → Option ((Bool))
  | 0, _, _ => none
  | kf + 1, a0, a1 => (((if (a0.list) = (a1.list) then (if a0.data.length = a1.data.length then (some ((!decide (a0.items.length = a1.items.length)))) else (some (true))) else (some (true))) : Option ((Bool))).bind fun p29 => (if p29 = true then (some false) else (((waybillref07_Same.l2 a0 a1 (a0.data.length - 0 + 2) 0) : Option (Lp ((Bool)) (Unit))).bind fun | .ret o => o | .go () => (((waybillref07_Same.l1 a0 a1 (waybillref07_Same.r kf) (a0.items.length - 0 + 2) 0) : Option (Lp ((Bool)) (Unit))).bind fun | .ret o => o | .go () => (some true)))))
def waybillref07_Same (a0 : It) (a1 : It) : Option ((Bool)) := waybillref07_Same.r (It.sz a0 + 1) a0 a1
def rlp_twin.l1 (a0 : List (It)) (rc : (List (It)) → Option ((List (It)))) : Nat → (List (It)) → (Nat) → Option ((List (It)))
  | 0, _, _ => none
  | k30 + 1, l21, n28 => (if n28 < a0.length then (a0[n28]?).bind fun x39 => ((rlp_clone x39.data).bind fun x59 => ((rc x39.items).bind fun x71 => (if (l21.length + ([(It.mk (x39.list) x59 x71)] : List (It)).length) * 56 ≤ 140737488355328 then (rlp_twin.l1 a0 rc k30 (l21 ++ ([(It.mk (x39.list) x59 x71)] : List (It))) (n28 + 1)) else none))) else (some (l21)))
def rlp_twin.r : Nat → (List (It)) → Option ((List (It)))
  | 0, _ => none
  | kf + 1, a0 => (((rlp_twin.l1 a0 (rlp_twin.r kf) (a0.length - 0 + 2) ([] : List (It)) 0) : Option ((List (It)))).bind fun l6 => (some l6))
def rlp_twin (a0 : List (It)) : Option ((List (It))) := rlp_twin.r (Its.sz a0 + 1) a0
def waybillref07_Copy.l1 (a0 : List (It)) (rc : (List (It)) → Option ((List (It)))) : Nat → (List (It)) → (Nat) → Option ((List (It)))
  | 0, _, _ => none
  | k30 + 1, l21, n28 => (if n28 < a0.length then (a0[n28]?).bind fun x39 => ((waybillref07_bytes x39.data).bind fun x59 => ((rc x39.items).bind fun x71 => (if (l21.length + ([(It.mk (x39.list) x59 x71)] : List (It)).length) * 56 ≤ 140737488355328 then (waybillref07_Copy.l1 a0 rc k30 (l21 ++ ([(It.mk (x39.list) x59 x71)] : List (It))) (n28 + 1)) else none))) else (some (l21)))
def waybillref07_Copy.r : Nat → (List (It)) → Option ((List (It)))
  | 0, _ => none
  | kf + 1, a0 => (((waybillref07_Copy.l1 a0 (waybillref07_Copy.r kf) (a0.length - 0 + 2) ([] : List (It)) 0) : Option ((List (It)))).bind fun l6 => (some l6))
def waybillref07_Copy (a0 : List (It)) : Option ((List (It))) := waybillref07_Copy.r (Its.sz a0 + 1) a0
def rlp_size.l1 (a0 : It) (rc : (It) → Option ((Nat))) : Nat → (Nat) → (Nat) → Option ((Nat))
  | 0, _, _ => none
  | k41 + 1, n37, n39 => (if n39 < a0.items.length then (a0.items[n39]?).bind fun x49 => ((rc x49).bind fun x69 => (if (n37 + x69) ≤ 9223372036854775807 then (rlp_size.l1 a0 rc k41 (n37 + x69) (n39 + 1)) else none)) else (some (n37)))
def rlp_size.r : Nat → (It) → Option ((Nat))
  | 0, _ => none
  | kf + 1, a0 => (if a0.list = true then (((rlp_size.l1 a0 (rlp_size.r kf) (a0.items.length - 0 + 2) 0 0) : Option ((Nat))).bind fun n17 => ((rlp_head (192#8) n17).bind fun x25 => (if (x25.length + n17) ≤ 9223372036854775807 then (some (x25.length + n17)) else none))) else (((if a0.data.length = 1 then (a0.data[0]?).bind fun x96 => (some ((decide (x96.toNat < 128)))) else (some (false))) : Option ((Bool))).bind fun p76 => (if p76 = true then (some 1) else ((rlp_head (128#8) a0.data.length).bind fun x84 => (some (x84.length + a0.data.length))))))
def rlp_size (a0 : It) : Option ((Nat)) := rlp_size.r (It.sz a0 + 1) a0
def waybillref07_size.l1 (a0 : It) (rc : (It) → Option ((Nat))) : Nat → (Nat) → (Nat) → Option ((Nat))
  | 0, _, _ => none
  | k49 + 1, n45, n47 => (if n47 < a0.items.length then (a0.items[n47]?).bind fun x57 => ((rc x57).bind fun x76 => (if (n45 + x76) ≤ 9223372036854775807 then (waybillref07_size.l1 a0 rc k49 (n45 + x76) (n47 + 1)) else none)) else (some (n45)))
def waybillref07_size.r : Nat → (It) → Option ((Nat))
  | 0, _ => none
  | kf + 1, a0 => (((if a0.list = true then (some (false)) else (if a0.data.length = 1 then (a0.data[0]?).bind fun x83 => (some ((decide (x83.toNat < 128)))) else (some (false)))) : Option ((Bool))).bind fun p16 => (if p16 = true then (some 1) else (((waybillref07_size.l1 a0 (waybillref07_size.r kf) (a0.items.length - 0 + 2) a0.data.length 0) : Option ((Nat))).bind fun n25 => ((waybillref07_before n25 128).bind fun x33 => (if (x33.length + n25) ≤ 9223372036854775807 then (some (x33.length + n25)) else none)))))
def waybillref07_size (a0 : It) : Option ((Nat)) := waybillref07_size.r (It.sz a0 + 1) a0
def rlp_sound.l1 (a0 : It) (rc : (It) → Option ((Nat) × (Bool))) : Nat → (Nat) → (Nat) → Option (Lp ((Nat) × (Bool)) ((Nat)))
  | 0, _, _ => none
  | k34 + 1, n30, n32 => (if n32 < a0.items.length then (a0.items[n32]?).bind fun x42 => ((rc x42).bind fun (x62, x63) => (if x63 = true then (rlp_sound.l1 a0 rc k34 (max n30 x62) (n32 + 1)) else (some (Lp.ret (some (0, false)))))) else (some (Lp.go n30)))
def rlp_sound.r : Nat → (It) → Option ((Nat) × (Bool))
  | 0, _ => none
  | kf + 1, a0 => ((rlp_odd a0).bind fun x15 => (if x15 = true then (some (0, false)) else (if a0.list = true then (((rlp_sound.l1 a0 (rlp_sound.r kf) (a0.items.length - 0 + 2) 0 0) : Option (Lp ((Nat) × (Bool)) ((Nat)))).bind fun | .ret o => o | .go n22 => (if (n22 + 1) ≤ 9223372036854775807 then (some ((n22 + 1), true)) else none)) else (some (0, true)))))
def rlp_sound (a0 : It) : Option ((Nat) × (Bool)) := rlp_sound.r (It.sz a0 + 1) a0
def waybillref07_oddly.l1 (a0 : It) (rc : (It) → Option ((Bool))) : Nat → (Nat) → Option (Lp ((Bool)) (Unit))
  | 0, _ => none
  | k28 + 1, n26 => (if n26 < a0.items.length then (a0.items[n26]?).bind fun x36 => ((rc x36).bind fun x55 => (if x55 = true then (some (Lp.ret (some true))) else (waybillref07_oddly.l1 a0 rc k28 (n26 + 1)))) else (some (Lp.go ())))
def waybillref07_oddly.r : Nat → (It) → Option ((Bool))
  | 0, _ => none
  | kf + 1, a0 => ((waybillref07_odd a0).bind fun x15 => (if x15 = true then (some true) else (((waybillref07_oddly.l1 a0 (waybillref07_oddly.r kf) (a0.items.length - 0 + 2) 0) : Option (Lp ((Bool)) (Unit))).bind fun | .ret o => o | .go () => (some false))))
def waybillref07_oddly (a0 : It) : Option ((Bool)) := waybillref07_oddly.r (It.sz a0 + 1) a0
def waybillref07_depth.l1 (a0 : It) (rc : (It) → Option ((Nat))) : Nat → (Nat) → (Nat) → Option ((Nat))
  | 0, _, _ => none
  | k29 + 1, n25, n27 => (if n27 < a0.items.length then (a0.items[n27]?).bind fun x37 => ((rc x37).bind fun x56 => (waybillref07_depth.l1 a0 rc k29 (max n25 x56) (n27 + 1))) else (some (n25)))
def waybillref07_depth.r : Nat → (It) → Option ((Nat))
  | 0, _ => none
  | kf + 1, a0 => (if a0.list = true then (((waybillref07_depth.l1 a0 (waybillref07_depth.r kf) (a0.items.length - 0 + 2) 0 0) : Option ((Nat))).bind fun n17 => (if (1 + n17) ≤ 9223372036854775807 then (some (1 + n17)) else none)) else (some 0))
def waybillref07_depth (a0 : It) : Option ((Nat)) := waybillref07_depth.r (It.sz a0 + 1) a0
def rlp_lay.l1 (a1 : It) (rc : (List (BitVec 8)) → (It) → Option ((List (BitVec 8)))) : Nat → (List (BitVec 8)) → (Nat) → Option ((List (BitVec 8)))
  | 0, _, _ => none
  | k65 + 1, l58, n63 => (if n63 < a1.items.length then (a1.items[n63]?).bind fun x75 => ((rc l58 x75).bind fun x95 => (rlp_lay.l1 a1 rc k65 x95 (n63 + 1))) else (some (l58)))
def rlp_lay.r : Nat → (List (BitVec 8)) → (It) → Option ((List (BitVec 8)))
  | 0, _, _ => none
  | kf + 1, a0, a1 => (if a1.list = true then (((rlp_lay.l1 a1 (rlp_lay.r kf) (a1.items.length - 0 + 2) ([] : List (BitVec 8)) 0) : Option ((List (BitVec 8)))).bind fun l20 => ((rlp_head (192#8) l20.length).bind fun x33 => (if a0.length + x33.length ≤ 140737488355328 then (if (a0 ++ x33).length + l20.length ≤ 140737488355328 then (some ((a0 ++ x33) ++ l20)) else none) else none))) else (((if a1.data.length = 1 then (a1.data[0]?).bind fun x156 => (some ((decide (128 ≤ x156.toNat)))) else (some (true))) : Option ((Bool))).bind fun p108 => (((if p108 = true then ((rlp_head (128#8) a1.data.length).bind fun x138 => (if a0.length + x138.length ≤ 140737488355328 then (some ((a0 ++ x138))) else none)) else (some (a0))) : Option ((List (BitVec 8)))).bind fun l119 => (if l119.length + a1.data.length ≤ 140737488355328 then (some (l119 ++ a1.data)) else none))))
def rlp_lay (a0 : List (BitVec 8)) (a1 : It) : Option ((List (BitVec 8))) := rlp_lay.r (It.sz a1 + 1) a0 a1
def waybillref07_put.l1 (a1 : It) (rc : (List (BitVec 8)) → (It) → Option ((List (BitVec 8)))) : Nat → (List (BitVec 8)) → (Nat) → Option ((List (BitVec 8)))
  | 0, _, _ => none
  | k68 + 1, l61, n66 => (if n66 < a1.items.length then (a1.items[n66]?).bind fun x77 => ((rc l61 x77).bind fun x96 => (waybillref07_put.l1 a1 rc k68 x96 (n66 + 1))) else (some (l61)))
def waybillref07_put.l2 (a1 : It) : Nat → (Nat) → (Nat) → Option ((Nat))
  | 0, _, _ => none
  | k111 + 1, n107, n109 => (if n109 < a1.items.length then (a1.items[n109]?).bind fun x120 => ((waybillref07_size x120).bind fun x139 => (if (n107 + x139) ≤ 9223372036854775807 then (waybillref07_put.l2 a1 k111 (n107 + x139) (n109 + 1)) else none)) else (some (n107)))
def waybillref07_put.r : Nat → (List (BitVec 8)) → (It) → Option ((List (BitVec 8)))
  | 0, _, _ => none
  | kf + 1, a0, a1 => (if a1.list = true then (((waybillref07_put.l2 a1 (a1.items.length - 0 + 2) 0 0) : Option ((Nat))).bind fun n18 => ((waybillref07_before n18 192).bind fun x27 => (if a0.length + x27.length ≤ 140737488355328 then (((waybillref07_put.l1 a1 (waybillref07_put.r kf) (a1.items.length - 0 + 2) (a0 ++ x27) 0) : Option ((List (BitVec 8)))).bind fun l48 => (some l48)) else none))) else (((if a1.data.length = 1 then (a1.data[0]?).bind fun x194 => (some ((decide (128 ≤ x194.toNat)))) else (some (true))) : Option ((Bool))).bind fun p146 => (((if p146 = true then ((waybillref07_before a1.data.length 128).bind fun x176 => (if a0.length + x176.length ≤ 140737488355328 then (some ((a0 ++ x176))) else none)) else (some (a0))) : Option ((List (BitVec 8)))).bind fun l157 => (if l157.length + a1.data.length ≤ 140737488355328 then (some (l157 ++ a1.data)) else none))))
def waybillref07_put (a0 : List (BitVec 8)) (a1 : It) : Option ((List (BitVec 8))) := waybillref07_put.r (It.sz a1 + 1) a0 a1
end Go.Fw
