/- Part of a proof over YtogfjkomkpbjpaaDoor: rules and contracts that the law's text uses. No condition. -/
import Derived.Test.YtogfjkomkpbjpaaDoorKecU
import Derived.Test.YtogfjkomkpbjpaaDoorFwC
namespace Go.Fw
/-- The permutation over a vector. -/
def keccak_Permute (v : Vector (BitVec 64) 25) : Option (Vector (BitVec 64) 25) := some ⟨(permL v.toList).toArray, by simp only [List.size_toArray]; exact permTo_length Vector.length_toList 24⟩
theorem keccak_Permute_list {v r : Vector (BitVec 64) 25} (h : keccak_Permute v = some r) : r.toList = permL v.toList := by
  cases h
  rfl
/-- The byte behind a text, by the kind. -/
def firstL : List (BitVec 8) := [1#8, 6#8]
end Go.Fw
