/- Part of a proof: rules that its law uses. -/
import Derived.Test.YtogfjkomkpbjpaaDoorKecP5
import Derived.Test.YtogfjkomkpbjpaaDoorFw35
namespace Go.Fw
set_option linter.unusedVariables false
set_option maxRecDepth 100000
def waybilllaw02_still.l1 (a0 : List (BitVec 8)) (a1 : List (BitVec 8)) : Nat → (Nat) → Option (Lp ((Bool)) (Unit))
  | 0, _ => none
  | k17 + 1, n15 => (if n15 < ((a0 ++ List.replicate 200 195#8).take (a1.length + 200)).length then (((if n15 < a1.length then (((a0 ++ List.replicate 200 195#8).take (a1.length + 200))[n15]?).bind fun x35 => (a1[n15]?).bind fun x38 => (if x35 = x38 then (if a1.length ≤ n15 then (((a0 ++ List.replicate 200 195#8).take (a1.length + 200))[n15]?).bind fun x43 => (some ((!decide (x43 = 195#8)))) else (some (false))) else (some (true))) else (if a1.length ≤ n15 then (((a0 ++ List.replicate 200 195#8).take (a1.length + 200))[n15]?).bind fun x47 => (some ((!decide (x47 = 195#8)))) else (some (false)))) : Option ((Bool))).bind fun p27 => (if p27 = true then (some (Lp.ret (some false))) else (waybilllaw02_still.l1 a0 a1 k17 (n15 + 1)))) else (some (Lp.go ())))
def waybilllaw02_still (a0 : List (BitVec 8)) (a1 : List (BitVec 8)) : Option ((Bool)) := (if a0.length = a1.length then (if (a1.length + 200) ≤ (a0 ++ List.replicate 200 195#8).length then (((waybilllaw02_still.l1 a0 a1 ((((a0 ++ List.replicate 200 195#8).take (a1.length + 200)).length) - 0 + 2) 0) : Option (Lp ((Bool)) (Unit))).bind fun | .ret o => o | .go () => (some true)) else none) else (some false))
def waybilllaw02_stillAll.l1 (a0 : List (List (BitVec 8))) (a1 : List (List (BitVec 8))) : Nat → (Nat) → Option (Lp ((Bool)) (Unit))
  | 0, _ => none
  | k34 + 1, n32 => (if n32 < a1.length then (a0[n32]?).bind fun x42 => (a1[n32]?).bind fun x54 => ((waybilllaw02_still x42 x54).bind fun x66 => (if x66 = true then (waybilllaw02_stillAll.l1 a0 a1 k34 (n32 + 1)) else (some (Lp.ret (some false))))) else (some (Lp.go ())))
def waybilllaw02_stillAll (a0 : List (List (BitVec 8))) (a1 : List (List (BitVec 8))) : Option ((Bool)) := (if a0.length = a1.length then (if (a1.length + 1) ≤ (a0 ++ ([[195#8]] : List (List (BitVec 8)))).length then (((((a0 ++ ([[195#8]] : List (List (BitVec 8)))).take (a1.length + 1))[a1.length]?).bind fun x70 => (if x70.length = 1 then (((a0 ++ ([[195#8]] : List (List (BitVec 8)))).take (a1.length + 1))[a1.length]?).bind fun x82 => (x82[0]?).bind fun x93 => (some ((!decide (x93 = 195#8)))) else (some (true))) : Option ((Bool))).bind fun p18 => (if p18 = true then (some false) else (((waybilllaw02_stillAll.l1 a0 a1 (a1.length - 0 + 2) 0) : Option (Lp ((Bool)) (Unit))).bind fun | .ret o => o | .go () => (some true)))) else none) else (some false))
def waybilllaw02_backward.l1 (a0 : List (BitVec 8)) : Nat → (List (BitVec 8)) → (Int) → Option ((List (BitVec 8)))
  | 0, _, _ => none
  | k22 + 1, l15, z20 => (if (0 : Int) ≤ z20 then (a0[(z20).toNat]?).bind fun x31 => (if l15.length + ([x31] : List (BitVec 8)).length ≤ 140737488355328 then (if -9223372036854775808 ≤ (z20 - (1 : Int)) ∧ (z20 - (1 : Int)) ≤ 9223372036854775807 then (waybilllaw02_backward.l1 a0 k22 (l15 ++ ([x31] : List (BitVec 8))) (z20 - (1 : Int))) else none) else none) else (some (l15)))
def waybilllaw02_backward (a0 : List (BitVec 8)) : Option ((List (BitVec 8))) := (((waybilllaw02_backward.l1 a0 ((((((a0.length : Nat) : Int) - (1 : Int))) - ((0 : Int)) + 2).toNat) ([] : List (BitVec 8)) (((a0.length : Nat) : Int) - (1 : Int))) : Option ((List (BitVec 8)))).bind fun l4 => (some l4))
def waybilllaw02_turnedAll.l1 (a0 : List (List (BitVec 8))) : Nat → (List (List (BitVec 8))) → (Nat) → Option ((List (List (BitVec 8))))
  | 0, _, _ => none
  | k30 + 1, l21, n28 => (if n28 < a0.length then (a0[n28]?).bind fun x39 => ((waybilllaw02_backward x39).bind fun x51 => (if (l21.length + ([x51] : List (List (BitVec 8))).length) * 24 ≤ 140737488355328 then (waybilllaw02_turnedAll.l1 a0 k30 (l21 ++ ([x51] : List (List (BitVec 8)))) (n28 + 1)) else none)) else (some (l21)))
def waybilllaw02_turnedAll (a0 : List (List (BitVec 8))) : Option ((List (List (BitVec 8)))) := (((waybilllaw02_turnedAll.l1 a0 (a0.length - 0 + 2) ([] : List (List (BitVec 8))) 0) : Option ((List (List (BitVec 8))))).bind fun l6 => (some l6))
end Go.Fw
