/- Part of a proof over Ytgdohhccpghofaa: rules and contracts that the law's text uses. No condition. -/
import Derived.Test.YtgdohhccpghofaaRlpDs
import Derived.Test.YtgdohhccpghofaaRlpP6
namespace Go.Fw
set_option linter.unusedVariables false
set_option linter.unusedSimpArgs false
theorem decodes_law (a : List (BitVec 8)) (ha : a.length + 9 ≤ 140737488355328) : waybilllaw07_RlpDecodes a = some true := by
  unfold waybilllaw07_RlpDecodes waybilllaw07_roomy waybilllaw07_num waybilllaw07_spared
  rw [if_pos ha, Option.bind_some, decode_eq, Option.bind_some, rdecode_eq, Option.bind_some]
  simp [same_eq, Same_refl]
end Go.Fw
