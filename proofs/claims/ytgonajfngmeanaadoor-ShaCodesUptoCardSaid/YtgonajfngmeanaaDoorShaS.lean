/- Part of a proof: rules that its law uses. -/
import Derived.Test.YtgonajfngmeanaaDoorShaN
import Derived.Test.YtgonajfngmeanaaDoorFwE
namespace Go.Fw
open Go
set_option linter.unusedVariables false
def waybillref03_Start : Option (Vector (BitVec 32) 8) := some (toV8 startL)
def waybillref03_Roots (n k : Int) : Option (List (BitVec 32)) := if n = 64 ∧ k = 3 then some constL else none
def waybillref03_rounds (s : Vector (BitVec 32) 8) (b : List (BitVec 8)) (k : List (BitVec 32)) : Option (Vector (BitVec 32) 8) := if b.length = 64 ∧ k = constL then some (toV8 (behindL constL s.toList b)) else none
end Go.Fw
