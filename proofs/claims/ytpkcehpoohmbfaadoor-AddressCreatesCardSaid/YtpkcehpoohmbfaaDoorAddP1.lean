/- Part of a proof: rules that its law uses. -/
import Derived.Test.YtpkcehpoohmbfaaDoorRlpP3
import Derived.Test.YtpkcehpoohmbfaaDoorKecP3
import Derived.Test.YtpkcehpoohmbfaaDoorKecP2
import Derived.Test.YtpkcehpoohmbfaaDoorFwD
namespace Go.Fw
set_option linter.unusedVariables false
set_option maxRecDepth 100000
def waybillref02_Of (a0 : List (BitVec 8)) : Option ((Vector (BitVec 8) 32)) := ((waybillref02_Digest a0 (1#8)).bind fun x4 => (some x4))
def address_last (a0 : Vector (BitVec 8) 32) : Option ((Vector (BitVec 8) 20)) := (if 12 ≤ 32 then ((toVec 20 (a0.toList.drop 12)).bind fun x7 => (some x7)) else none)
def address_Create (a0 : Vector (BitVec 8) 20) (a1 : BitVec 64) : Option ((Vector (BitVec 8) 20)) := ((rlp_Text a0.toList).bind fun x7 => ((rlp_Small a1).bind fun x30 => ((rlp_List ([x7, x30] : List (It))).bind fun x58 => ((rlp_Encode x58).bind fun (x81, x82) => ((keccak_Sum ([x81] : List (List (BitVec 8)))).bind fun x101 => ((address_last x101).bind fun x105 => (some x105)))))))
def address_Create2 (a0 : Vector (BitVec 8) 20) (a1 : Vector (BitVec 8) 32) (a2 : List (BitVec 8)) : Option ((Vector (BitVec 8) 20)) := ((keccak_Sum ([a2] : List (List (BitVec 8)))).bind fun x11 => ((keccak_Sum ([([255#8] : List (BitVec 8)), a0.toList, a1.toList, x11.toList] : List (List (BitVec 8)))).bind fun x33 => ((address_last x33).bind fun x37 => (some x37))))
def waybillref09_last.l1 (x4 : Vector (BitVec 8) 32) : Nat → (Nat) → (Vector (BitVec 8) 20) → Option ((Vector (BitVec 8) 20))
  | 0, _, _ => none
  | k20 + 1, n17, w19 => (if n17 < 20 then (if (12 + n17) < 32 then (x4[(12 + n17)]?).bind fun x29 => (waybillref09_last.l1 x4 k20 (n17 + 1) (w19.setIfInBounds n17 x29)) else none) else (some (w19)))
def waybillref09_last (a0 : List (List (BitVec 8))) : Option ((Vector (BitVec 8) 20)) := ((waybillref02_Sum a0).bind fun x4 => (((waybillref09_last.l1 x4 (20 - 0 + 2) 0 (Vector.replicate 20 0#8)) : Option ((Vector (BitVec 8) 20))).bind fun w11 => (some w11)))
def waybillref09_Create (a0 : Vector (BitVec 8) 20) (a1 : BitVec 64) : Option ((Vector (BitVec 8) 20)) := ((waybillref07_Text a0.toList).bind fun x7 => ((waybillref07_Small a1).bind fun x30 => ((waybillref07_List ([x7, x30] : List (It))).bind fun x58 => ((waybillref07_Encode x58).bind fun (x82, x83) => ((waybillref09_last ([x82] : List (List (BitVec 8)))).bind fun x102 => (some x102))))))
def waybillref09_Create2 (a0 : Vector (BitVec 8) 20) (a1 : Vector (BitVec 8) 32) (a2 : List (BitVec 8)) : Option ((Vector (BitVec 8) 20)) := ((waybillref02_Of a2).bind fun x6 => ((waybillref09_last ([([255#8] : List (BitVec 8)), a0.toList, a1.toList, x6.toList] : List (List (BitVec 8)))).bind fun x28 => (some x28)))
def waybilllaw09_copied.l1 (a0 : List (BitVec 8)) : Nat → (List (BitVec 8)) → (Nat) → Option ((List (BitVec 8)))
  | 0, _, _ => none
  | k22 + 1, l15, n20 => (if n20 < a0.length then (a0[n20]?).bind fun x31 => (if l15.length + ([x31] : List (BitVec 8)).length ≤ 140737488355328 then (waybilllaw09_copied.l1 a0 k22 (l15 ++ ([x31] : List (BitVec 8))) (n20 + 1)) else none) else (some (l15)))
def waybilllaw09_copied (a0 : List (BitVec 8)) : Option ((List (BitVec 8))) := (((waybilllaw09_copied.l1 a0 (a0.length - 0 + 2) ([] : List (BitVec 8)) 0) : Option ((List (BitVec 8)))).bind fun l4 => (some l4))
def waybilllaw09_lent.l1 : Nat → (List (BitVec 8)) → (Nat) → Option ((List (BitVec 8)))
  | 0, _, _ => none
  | k37 + 1, l30, n35 => (if n35 < 70 then (if l30.length + ([165#8] : List (BitVec 8)).length ≤ 140737488355328 then (waybilllaw09_lent.l1 k37 (l30 ++ ([165#8] : List (BitVec 8))) (n35 + 1)) else none) else (some (l30)))
def waybilllaw09_lent (a0 : List (BitVec 8)) : Option ((List (BitVec 8))) := ((waybilllaw09_copied a0).bind fun x3 => (((waybilllaw09_lent.l1 (70 - 0 + 2) x3 0) : Option ((List (BitVec 8)))).bind fun l16 => (if a0.length ≤ l16.length then (if l16.drop a0.length = List.replicate 70 165#8 then (some (l16.take a0.length)) else none) else none)))
def waybilllaw09_still.l1 (a0 : List (BitVec 8)) (a1 : List (BitVec 8)) : Nat → (Nat) → Option (Lp ((Bool)) (Unit))
  | 0, _ => none
  | k17 + 1, n15 => (if n15 < ((a0 ++ List.replicate 70 165#8).take (a1.length + 70)).length then (((if n15 < a1.length then (((a0 ++ List.replicate 70 165#8).take (a1.length + 70))[n15]?).bind fun x35 => (a1[n15]?).bind fun x38 => (if x35 = x38 then (if a1.length ≤ n15 then (((a0 ++ List.replicate 70 165#8).take (a1.length + 70))[n15]?).bind fun x43 => (some ((!decide (x43 = 165#8)))) else (some (false))) else (some (true))) else (if a1.length ≤ n15 then (((a0 ++ List.replicate 70 165#8).take (a1.length + 70))[n15]?).bind fun x47 => (some ((!decide (x47 = 165#8)))) else (some (false)))) : Option ((Bool))).bind fun p27 => (if p27 = true then (some (Lp.ret (some false))) else (waybilllaw09_still.l1 a0 a1 k17 (n15 + 1)))) else (some (Lp.go ())))
def waybilllaw09_still (a0 : List (BitVec 8)) (a1 : List (BitVec 8)) : Option ((Bool)) := (if a0.length = a1.length then (if (a1.length + 70) ≤ (a0 ++ List.replicate 70 165#8).length then (((waybilllaw09_still.l1 a0 a1 ((((a0 ++ List.replicate 70 165#8).take (a1.length + 70)).length) - 0 + 2) 0) : Option (Lp ((Bool)) (Unit))).bind fun | .ret o => o | .go () => (some true)) else none) else (some false))
def waybilllaw09_AddressCreates.l1 : Nat → (List (BitVec 8)) → (Nat) → Option ((List (BitVec 8)))
  | 0, _, _ => none
  | k73 + 1, l66, n71 => (if n71 < l66.length then (l66[n71]?).bind fun x82 => (l66[n71]?).bind fun x85 => (waybilllaw09_AddressCreates.l1 k73 (l66.set n71 (x82 ^^^ 255#8)) (n71 + 1)) else (some (l66)))
def waybilllaw09_AddressCreates (a0 : Vector (BitVec 8) 20) (a1 : BitVec 64) (a2 : Vector (BitVec 8) 32) (a3 : List (BitVec 8)) : Option ((Bool)) := ((waybilllaw09_lent a3).bind fun x5 => ((address_Create2 a0 a2 x5).bind fun x18 => ((((address_Create a0 a1).bind fun x90 => ((waybillref09_Create a0 a1).bind fun x94 => (if x90 = x94 then ((waybillref09_Create2 a0 a2 a3).bind fun x99 => (if x18 = x99 then ((waybilllaw09_still x5 a3).bind fun x104 => (some ((!x104)))) else (some (true)))) else (some (true))))) : Option ((Bool))).bind fun p24 => (if p24 = true then (some false) else (((waybilllaw09_AddressCreates.l1 (x5.length - 0 + 2) x5 0) : Option ((List (BitVec 8)))).bind fun l34 => ((address_Create2 a0 a2 l34).bind fun x46 => ((waybilllaw09_copied l34).bind fun x51 => ((waybillref09_Create2 a0 a2 x51).bind fun x63 => (some (decide (x46 = x63)))))))))))
end Go.Fw
