/- Part of a proof over Ytogfjkomkpbjpaa: rules and contracts that the law's text uses. No condition. -/
import Derived.Test.YtogfjkomkpbjpaaKecV
namespace Go.Fw
set_option linter.unusedVariables false
set_option maxRecDepth 100000
def waybilllaw02_KeccakUnlike (a0 : Vector (BitVec 64) 25) (a1 : Int) (a2 : BitVec 64) : Option ((Bool)) := (((if ((a1).tmod 25) < (0 : Int) then (if -9223372036854775808 ≤ (((a1).tmod 25) + (25 : Int)) ∧ (((a1).tmod 25) + (25 : Int)) ≤ 9223372036854775807 then (some ((((a1).tmod 25) + (25 : Int)))) else none) else (some (((a1).tmod 25)))) : Option ((Int))).bind fun z6 => (if 0 ≤ z6 then (if (z6).toNat < 25 then (a0[(z6).toNat]?).bind fun x15 => ((keccak_Permute a0).bind fun x18 => ((keccak_Permute (a0.setIfInBounds ((z6).toNat) (x15 ^^^ a2))).bind fun x23 => (((if (decide (x18 = x23)) = (decide (a2 = 0#64)) then ((keccak_Permute a0).bind fun x37 => (some ((decide (x18 = x37))))) else (some (false))) : Option ((Bool))).bind fun p29 => (some (p29))))) else none) else none))
end Go.Fw
