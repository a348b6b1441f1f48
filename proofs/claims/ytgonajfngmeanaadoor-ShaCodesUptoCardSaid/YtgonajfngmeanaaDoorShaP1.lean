/- Part of a proof: rules that its law uses. -/
import Derived.Test.YtgonajfngmeanaaDoorShaM
import Derived.Test.YtgonajfngmeanaaDoorItL
import Derived.Test.YtgonajfngmeanaaDoorFwD
namespace Go.Fw
set_option linter.unusedVariables false
set_option maxRecDepth 100000
def waybilllaw03_num (a0 : Int) : Option ((Int)) := (some a0)
def waybilllaw03_same.l1 (a0 : List (BitVec 8)) (a1 : List (BitVec 8)) : Nat → (Nat) → Option (Lp ((Bool)) (Unit))
  | 0, _ => none
  | k13 + 1, n11 => (if n11 < a0.length then (a0[n11]?).bind fun x21 => (a1[n11]?).bind fun x24 => (if x21 = x24 then (waybilllaw03_same.l1 a0 a1 k13 (n11 + 1)) else (some (Lp.ret (some false)))) else (some (Lp.go ())))
def waybilllaw03_same (a0 : List (BitVec 8)) (a1 : List (BitVec 8)) : Option ((Bool)) := (if a0.length = a1.length then (((waybilllaw03_same.l1 a0 a1 (a0.length - 0 + 2) 0) : Option (Lp ((Bool)) (Unit))).bind fun | .ret o => o | .go () => (some true)) else (some false))
def waybilllaw03_copied.l1 (a0 : List (BitVec 8)) : Nat → (List (BitVec 8)) → (Nat) → Option ((List (BitVec 8)))
  | 0, _, _ => none
  | k22 + 1, l15, n20 => (if n20 < a0.length then (a0[n20]?).bind fun x31 => (if l15.length + ([x31] : List (BitVec 8)).length ≤ 140737488355328 then (waybilllaw03_copied.l1 a0 k22 (l15 ++ ([x31] : List (BitVec 8))) (n20 + 1)) else none) else (some (l15)))
def waybilllaw03_copied (a0 : List (BitVec 8)) : Option ((List (BitVec 8))) := (((waybilllaw03_copied.l1 a0 (a0.length - 0 + 2) ([] : List (BitVec 8)) 0) : Option ((List (BitVec 8)))).bind fun l4 => (some l4))
def waybilllaw03_joined.l2 (a0 : List (List (BitVec 8))) (n20 : Nat) : Nat → (List (BitVec 8)) → (Nat) → Option ((List (BitVec 8)))
  | 0, _, _ => none
  | k51 + 1, l44, n49 => (a0[n20]?).bind fun x59 => (if n49 < x59.length then (a0[n20]?).bind fun x71 => (x71[n49]?).bind fun x82 => (if l44.length + ([x82] : List (BitVec 8)).length ≤ 140737488355328 then (waybilllaw03_joined.l2 a0 n20 k51 (l44 ++ ([x82] : List (BitVec 8))) (n49 + 1)) else none) else (some (l44)))
def waybilllaw03_joined.l1 (a0 : List (List (BitVec 8))) : Nat → (List (BitVec 8)) → (Nat) → Option ((List (BitVec 8)))
  | 0, _, _ => none
  | k22 + 1, l15, n20 => (if n20 < a0.length then (((waybilllaw03_joined.l2 a0 n20 ((a0).flatten.length + 2) l15 0) : Option ((List (BitVec 8)))).bind fun l33 => (waybilllaw03_joined.l1 a0 k22 l33 (n20 + 1))) else (some (l15)))
def waybilllaw03_joined (a0 : List (List (BitVec 8))) : Option ((List (BitVec 8))) := (((waybilllaw03_joined.l1 a0 (a0.length - 0 + 2) ([] : List (BitVec 8)) 0) : Option ((List (BitVec 8)))).bind fun l4 => (some l4))
def waybilllaw03_which (a0 : Int) (a1 : Int) : Option ((Int)) := (if 0 < a1 then (((if ((a0).tmod a1) < (0 : Int) then (if -9223372036854775808 ≤ (((a0).tmod a1) + a1) ∧ (((a0).tmod a1) + a1) ≤ 9223372036854775807 then (some ((((a0).tmod a1) + a1))) else none) else (some (((a0).tmod a1)))) : Option ((Int))).bind fun z5 => (some z5)) else none)
def waybilllaw03_folded.l1 (w54 : Vector (BitVec 32) 8) : Nat → (Nat) → (Vector (BitVec 8) 32) → Option ((Vector (BitVec 8) 32))
  | 0, _, _ => none
  | k72 + 1, n69, w71 => (if n69 < 32 then (if (n69 / 4) < 8 then (w54[(n69 / 4)]?).bind fun x81 => (waybilllaw03_folded.l1 w54 k72 (n69 + 1) (w71.setIfInBounds n69 ((x81 >>> (BitVec.ofInt 64 ((24 : Int) - (((8 * (n69 % 4)) : Nat) : Int))).toNat).setWidth 8))) else none) else (some (w71)))
def waybilllaw03_folded.l2 : Nat → (List (BitVec 8)) → (Nat) → (Vector (BitVec 32) 8) → Option (Lp ((Vector (BitVec 8) 32) × (Bool)) ((Vector (BitVec 32) 8)))
  | 0, _, _, _ => none
  | k92 + 1, l97, n101, w103 => (if n101 < l97.length then (if n101 ≤ (n101 + 64) then (if (n101 + 64) ≤ l97.length then ((waybilllaw03_copied ((l97.take (n101 + 64)).drop n101)).bind fun x116 => ((sha_Compress w103 x116).bind fun (x129, x130) => (if x130 = (0 : Int) then (waybilllaw03_folded.l2 k92 l97 (n101 + 64) x129) else (some (Lp.ret (some ((Vector.replicate 32 0#8), false))))))) else none) else none) else (some (Lp.go w103)))
def waybilllaw03_folded (a0 : List (BitVec 8)) : Option ((Vector (BitVec 8) 32) × (Bool)) := ((sha_Pad ((a0.length : Nat) : Int)).bind fun (x4, x5) => ((waybilllaw03_joined ([a0, x4] : List (List (BitVec 8)))).bind fun x24 => (((if x5 = 0 then (if (x24.length % 64) = 0 then (if x4.length < 9 then (some (true)) else (some ((decide (72 < x4.length))))) else (some (true))) else (some (true))) : Option ((Bool))).bind fun p37 => (if p37 = true then (some ((Vector.replicate 32 0#8), false)) else ((sha_Start).bind fun x46 => (((waybilllaw03_folded.l2 (x24.length - 0 + 2) x24 0 x46) : Option (Lp ((Vector (BitVec 8) 32) × (Bool)) ((Vector (BitVec 32) 8)))).bind fun | .ret o => o | .go w54 => (((waybilllaw03_folded.l1 w54 (32 - 0 + 2) 0 (Vector.replicate 32 0#8)) : Option ((Vector (BitVec 8) 32))).bind fun w63 => (some (w63, true)))))))))
def waybilllaw03_ShaHangs (a0 : List (BitVec 8)) (a1 : List (BitVec 8)) (a2 : Int) : Option ((Bool)) := ((waybilllaw03_folded a0).bind fun (x4, x5) => ((waybilllaw03_copied a0).bind fun x10 => ((sha_Sum ([x10] : List (List (BitVec 8)))).bind fun x28 => ((waybilllaw03_copied a1).bind fun x33 => ((sha_Sum ([x33] : List (List (BitVec 8)))).bind fun x51 => ((waybilllaw03_copied a0).bind fun x55 => ((sha_Sum ([x55] : List (List (BitVec 8)))).bind fun x73 => (((if x5 = true then (if x28 = x4 then (some ((!decide (x73 = x4)))) else (some (true))) else (some (true))) : Option ((Bool))).bind fun p79 => (if p79 = true then (some false) else (if a0.length = 0 then (some true) else ((waybilllaw03_copied a0).bind fun x88 => (if -9223372036854775808 ≤ a2 ∧ a2 ≤ 9223372036854775807 then ((waybilllaw03_which a2 (((8 * a0.length) : Nat) : Int)).bind fun x101 => (if 0 ≤ x101 then (x88[((x101).toNat / 8)]?).bind fun x106 => (x88[((x101).toNat / 8)]?).bind fun x109 => ((waybilllaw03_folded (x88.set ((x101).toNat / 8) (x106 ^^^ (1#8 <<< (BitVec.ofNat 64 ((x101).toNat % 8)).toNat)))).bind fun (x115, x116) => (((if x116 = true then ((sha_Sum ([(x88.set ((x101).toNat / 8) (x106 ^^^ (1#8 <<< (BitVec.ofNat 64 ((x101).toNat % 8)).toNat)))] : List (List (BitVec 8)))).bind fun x137 => (some ((decide (x137 = x115))))) else (some (false))) : Option ((Bool))).bind fun p124 => (some (p124)))) else none)) else none))))))))))))
end Go.Fw
