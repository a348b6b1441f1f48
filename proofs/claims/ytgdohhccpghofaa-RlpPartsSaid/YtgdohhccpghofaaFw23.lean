/- Part of a proof over Ytgdohhccpghofaa: rules and contracts that the law's text uses. No condition. -/
import Derived.Test.YtgdohhccpghofaaFw22
import Derived.Laws.Externs
namespace Go.Fw
set_option maxRecDepth 100000
/-- The table of the bytes' lengths in bits. -/
def lenTable : ByteArray := { data := List.toArray (List.append (List.append [0, 1, 2, 2, 3, 3, 3, 3, 4, 4, 4, 4, 4, 4, 4, 4, 5, 5, 5, 5, 5, 5, 5, 5, 5, 5, 5, 5, 5, 5, 5, 5, 6, 6, 6, 6, 6, 6, 6, 6, 6, 6, 6, 6, 6, 6, 6, 6, 6, 6, 6, 6, 6, 6, 6, 6, 6, 6, 6, 6, 6, 6, 6, 6] [7, 7, 7, 7, 7, 7, 7, 7, 7, 7, 7, 7, 7, 7, 7, 7, 7, 7, 7, 7, 7, 7, 7, 7, 7, 7, 7, 7, 7, 7, 7, 7, 7, 7, 7, 7, 7, 7, 7, 7, 7, 7, 7, 7, 7, 7, 7, 7, 7, 7, 7, 7, 7, 7, 7, 7, 7, 7, 7, 7, 7, 7, 7, 7]) (List.append [8, 8, 8, 8, 8, 8, 8, 8, 8, 8, 8, 8, 8, 8, 8, 8, 8, 8, 8, 8, 8, 8, 8, 8, 8, 8, 8, 8, 8, 8, 8, 8, 8, 8, 8, 8, 8, 8, 8, 8, 8, 8, 8, 8, 8, 8, 8, 8, 8, 8, 8, 8, 8, 8, 8, 8, 8, 8, 8, 8, 8, 8, 8, 8] [8, 8, 8, 8, 8, 8, 8, 8, 8, 8, 8, 8, 8, 8, 8, 8, 8, 8, 8, 8, 8, 8, 8, 8, 8, 8, 8, 8, 8, 8, 8, 8, 8, 8, 8, 8, 8, 8, 8, 8, 8, 8, 8, 8, 8, 8, 8, 8, 8, 8, 8, 8, 8, 8, 8, 8, 8, 8, 8, 8, 8, 8, 8, 8])) }
def lenB (x : BitVec 8) : Nat := if x = 0#8 then 0 else x.toNat.log2 + 1
theorem lenB_le (x : BitVec 8) : lenB x ≤ 8 := by
  unfold lenB
  split
  · omega
  · have h := x.isLt
    have : x.toNat.log2 < 8 := (Nat.log2_lt (by intro e; exact ‹¬ x = 0#8› (BitVec.eq_of_toNat_eq e))).2 h
    omega
theorem len_all : ∀ (x : Fin 256), ((lenTable[x.val]?).map (fun c => c.toNat) == some (lenB (BitVec.ofFin (w := 8) x))) = true := by decide +kernel
theorem len_table (x : BitVec 8) : (Option.map (fun c => c.toNat) (lenTable[x.toNat]?)) = some (BitVec.ofNat 8 (lenB x)).toNat := by
  have h2 : (BitVec.ofNat 8 (lenB x)).toNat = lenB x := by have := lenB_le x; rw [BitVec.toNat_ofNat]; omega
  rw [h2]
  have := len_all x.toFin
  simpa using this
end Go.Fw
