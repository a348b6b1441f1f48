/- Part of a proof: rules that its law uses. -/
import Derived.Test.YtogfjkomkpbjpaaDoorKecP2
namespace Go.Fw
set_option linter.unusedVariables false
set_option maxRecDepth 100000
def waybillref02_filled.l1 : Nat → (List (BitVec 8)) → Option ((List (BitVec 8)))
  | 0, _ => none
  | k41 + 1, l36 => (if (l36.length % 136) = 0 then (some (l36)) else (if l36.length + ([0#8] : List (BitVec 8)).length ≤ 140737488355328 then (waybillref02_filled.l1 k41 (l36 ++ ([0#8] : List (BitVec 8)))) else none))
def waybillref02_filled (a0 : List (BitVec 8)) (a1 : BitVec 8) : Option ((List (BitVec 8))) := (if a0.length + ([a1] : List (BitVec 8)).length ≤ 140737488355328 then (((waybillref02_filled.l1 140 (a0 ++ ([a1] : List (BitVec 8)))) : Option ((List (BitVec 8)))).bind fun l17 => (if 0 ≤ (((l17.length : Nat) : Int) - (1 : Int)) then (l17[((((l17.length : Nat) : Int) - (1 : Int))).toNat]?).bind fun x29 => (l17[((((l17.length : Nat) : Int) - (1 : Int))).toNat]?).bind fun x32 => (some (l17.set (((((l17.length : Nat) : Int) - (1 : Int))).toNat) (x29 ||| 128#8))) else none)) else none)
def waybillref02_joined.l1 (a0 : List (List (BitVec 8))) : Nat → (List (BitVec 8)) → (Nat) → Option ((List (BitVec 8)))
  | 0, _, _ => none
  | k22 + 1, l15, n20 => (if n20 < a0.length then (a0[n20]?).bind fun x31 => (if l15.length + x31.length ≤ 140737488355328 then (waybillref02_joined.l1 a0 k22 (l15 ++ x31) (n20 + 1)) else none) else (some (l15)))
def waybillref02_joined (a0 : List (List (BitVec 8))) : Option ((List (BitVec 8))) := (((waybillref02_joined.l1 a0 (a0.length - 0 + 2) ([] : List (BitVec 8)) 0) : Option ((List (BitVec 8)))).bind fun l4 => (some l4))
def waybillref02_Digest.l1 (w18 : Vector (BitVec 64) 25) : Nat → (Nat) → (Vector (BitVec 8) 32) → Option ((Vector (BitVec 8) 32))
  | 0, _, _ => none
  | k36 + 1, n33, w35 => (if n33 < 32 then (if (n33 / 8) < 25 then (w18[(n33 / 8)]?).bind fun x45 => (waybillref02_Digest.l1 w18 k36 (n33 + 1) (w35.setIfInBounds n33 ((x45 >>> (BitVec.ofNat 64 (8 * (n33 % 8))).toNat).setWidth 8))) else none) else (some (w35)))
def waybillref02_Digest.l3 (x4 : List (BitVec 8)) (n47 : Nat) : Nat → (Nat) → (Vector (BitVec 64) 25) → Option ((Vector (BitVec 64) 25))
  | 0, _, _ => none
  | k75 + 1, n72, w74 => (if n72 < 136 then (if (n72 / 8) < 25 then (w74[(n72 / 8)]?).bind fun x85 => (x4[(n47 + n72)]?).bind fun x87 => (waybillref02_Digest.l3 x4 n47 k75 (n72 + 1) (w74.setIfInBounds (n72 / 8) (x85 ^^^ ((x87.setWidth 64) <<< (BitVec.ofNat 64 (8 * (n72 % 8))).toNat)))) else none) else (some (w74)))
def waybillref02_Digest.l2 (x4 : List (BitVec 8)) : Nat → (Nat) → (Vector (BitVec 64) 25) → Option ((Vector (BitVec 64) 25))
  | 0, _, _ => none
  | k50 + 1, n47, w49 => (if n47 < x4.length then (((waybillref02_Digest.l3 x4 n47 (136 - 0 + 2) 0 w49) : Option ((Vector (BitVec 64) 25))).bind fun w61 => ((keccak_Permute w61).bind fun x69 => (waybillref02_Digest.l2 x4 k50 (n47 + 136) x69))) else (some (w49)))
def waybillref02_Digest (a0 : List (BitVec 8)) (a1 : BitVec 8) : Option ((Vector (BitVec 8) 32)) := ((waybillref02_filled a0 a1).bind fun x4 => (((waybillref02_Digest.l2 x4 (x4.length - 0 + 2) 0 (Vector.replicate 25 0#64)) : Option ((Vector (BitVec 64) 25))).bind fun w18 => (((waybillref02_Digest.l1 w18 (32 - 0 + 2) 0 (Vector.replicate 32 0#8)) : Option ((Vector (BitVec 8) 32))).bind fun w27 => (some w27))))
def waybillref02_Sum (a0 : List (List (BitVec 8))) : Option ((Vector (BitVec 8) 32)) := ((waybillref02_joined a0).bind fun x4 => ((waybillref02_Digest x4 (1#8)).bind fun x17 => (some x17)))
end Go.Fw
