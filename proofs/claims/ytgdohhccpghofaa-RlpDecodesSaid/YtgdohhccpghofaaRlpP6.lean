/- Part of a proof over Ytgdohhccpghofaa: rules and contracts that the law's text uses. No condition. -/
import Derived.Test.YtgdohhccpghofaaRlpP5
import Derived.Test.YtgdohhccpghofaaRlpD
namespace Go.Fw
set_option linter.unusedVariables false
set_option maxRecDepth 100000
def waybilllaw07_RlpDecodes (a0 : List (BitVec 8)) : Option ((Bool)) := ((waybilllaw07_roomy a0).bind fun x3 => ((rlp_Decode x3).bind fun (x14, x15) => ((waybillref07_Decode a0).bind fun (x40, x41) => ((((waybilllaw07_num ((x15 : Nat) : Int)).bind fun x74 => (if x74 = ((x41 : Nat) : Int) then ((waybillref07_Same x14 x40).bind fun x80 => (if x80 = true then ((waybilllaw07_same x3 a0).bind fun x85 => (if x85 = true then ((waybilllaw07_spared x3).bind fun x90 => (some ((x90)))) else (some (false)))) else (some (false)))) else (some (false)))) : Option ((Bool))).bind fun p67 => (some (p67))))))
end Go.Fw
