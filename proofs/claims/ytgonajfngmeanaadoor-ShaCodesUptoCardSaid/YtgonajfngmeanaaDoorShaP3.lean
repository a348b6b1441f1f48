/- Part of a proof: rules that its law uses. -/
import Derived.Test.YtgonajfngmeanaaDoorShaQ
namespace Go.Fw
set_option linter.unusedVariables false
set_option maxRecDepth 100000
def waybillref03_bytesOf.l1 (a0 : Vector (BitVec 8) 32) : Nat → (List (BitVec 8)) → (Nat) → Option ((List (BitVec 8)))
  | 0, _, _ => none
  | k22 + 1, l15, n20 => (if n20 < 32 then (a0[n20]?).bind fun x31 => (if l15.length + ([x31] : List (BitVec 8)).length ≤ 140737488355328 then (waybillref03_bytesOf.l1 a0 k22 (l15 ++ ([x31] : List (BitVec 8))) (n20 + 1)) else none) else (some (l15)))
def waybillref03_bytesOf (a0 : Vector (BitVec 8) 32) : Option ((List (BitVec 8))) := (((waybillref03_bytesOf.l1 a0 (32 - 0 + 2) ([] : List (BitVec 8)) 0) : Option ((List (BitVec 8)))).bind fun l4 => (some l4))
def waybillref03_HMAC.l1 (l38 : List (BitVec 8)) : Nat → (List (BitVec 8)) → (List (BitVec 8)) → (Nat) → Option ((List (BitVec 8)) × (List (BitVec 8)))
  | 0, _, _, _ => none
  | k153 + 1, l141, l146, n151 => (if n151 < 64 then (l38[n151]?).bind fun x164 => (if l141.length + ([(x164 ^^^ 54#8)] : List (BitVec 8)).length ≤ 140737488355328 then (l38[n151]?).bind fun x175 => (if l146.length + ([(x175 ^^^ 92#8)] : List (BitVec 8)).length ≤ 140737488355328 then (waybillref03_HMAC.l1 l38 k153 (l141 ++ ([(x164 ^^^ 54#8)] : List (BitVec 8))) (l146 ++ ([(x175 ^^^ 92#8)] : List (BitVec 8))) (n151 + 1)) else none) else none) else (some ((l141, l146))))
def waybillref03_HMAC.l2 : Nat → (List (BitVec 8)) → Option ((List (BitVec 8)))
  | 0, _ => none
  | k191 + 1, l186 => (if l186.length < 64 then (if l186.length + ([0#8] : List (BitVec 8)).length ≤ 140737488355328 then (waybillref03_HMAC.l2 k191 (l186 ++ ([0#8] : List (BitVec 8)))) else none) else (some (l186)))
def waybillref03_HMAC (a0 : List (BitVec 8)) (a1 : List (List (BitVec 8))) : Option ((Vector (BitVec 8) 32)) := ((waybillref03_joined ([a0] : List (List (BitVec 8)))).bind fun x10 => (((if 64 < x10.length then ((waybillref03_digest x10).bind fun x211 => ((waybillref03_bytesOf x211).bind fun x216 => (some (x216)))) else (some (x10))) : Option ((List (BitVec 8)))).bind fun l25 => (((waybillref03_HMAC.l2 (64 - l25.length + 2) l25) : Option ((List (BitVec 8)))).bind fun l38 => (((waybillref03_HMAC.l1 l38 (64 - 0 + 2) ([] : List (BitVec 8)) ([] : List (BitVec 8)) 0) : Option ((List (BitVec 8)) × (List (BitVec 8)))).bind fun (l51, l56) => ((waybillref03_joined a1).bind fun x69 => ((waybillref03_joined ([l51, x69] : List (List (BitVec 8)))).bind fun x88 => ((waybillref03_digest x88).bind fun x101 => ((waybillref03_bytesOf x101).bind fun x106 => ((waybillref03_joined ([l56, x106] : List (List (BitVec 8)))).bind fun x125 => ((waybillref03_digest x125).bind fun x138 => (some x138)))))))))))
end Go.Fw
