/- Part of a proof over Ytgdohhccpghofaa: rules and contracts that the law's text uses. No condition. -/
import Derived.Test.YtgdohhccpghofaaRlpP4
namespace Go.Fw
set_option linter.unusedVariables false
/-! Decode: what the loop with labels computes (1: an item begins; 2: an item has ended; 3: the innermost list goes on, or has ended). -/
abbrev It.zero : It := It.mk false [] []
def dec : Nat → Nat → List (BitVec 8) → It → List (List It × List (BitVec 8)) → Option (It × Nat)
  | 0, _, _, _, _ => none
  | k + 1, 1, b, _, st => (rlp_cut b).bind fun (x1, x2, x3, x4) => (if x4 = 0 then (if x1 = true then (if st.length = 1024 then some (It.zero, 74) else (if (st.length + 1) * 48 ≤ 140737488355328 then dec k 3 x2 It.zero (([], x3) :: st) else none)) else ((rlp_Text x2).bind fun x => dec k 2 x3 x st)) else some (It.zero, x4))
  | _ + 1, 2, b, it, [] => if 0 < b.length then some (It.zero, 73) else some (it, 0)
  | k + 1, 2, b, it, (l, bh) :: st => if (l.length + 1) * 56 ≤ 140737488355328 then dec k 3 b It.zero ((l ++ [it], bh) :: st) else none
  | k + 1, 3, b, _, st => if 0 < b.length then dec k 1 b It.zero st else (match st with
    | [] => none
    | (l, bh) :: st => dec k 2 bh (It.mk true [] l) st)
  | _ + 1, _, _, _, _ => none
theorem dec_1 (k : Nat) (b : List (BitVec 8)) (it : It) (st : List (List It × List (BitVec 8))) : dec (k + 1) 1 b it st = (rlp_cut b).bind fun (x1, x2, x3, x4) => (if x4 = 0 then (if x1 = true then (if st.length = 1024 then some (It.zero, 74) else (if (st.length + 1) * 48 ≤ 140737488355328 then dec k 3 x2 It.zero (([], x3) :: st) else none)) else ((rlp_Text x2).bind fun x => dec k 2 x3 x st)) else some (It.zero, x4)) := by rw [dec]
theorem dec_2n (k : Nat) (b : List (BitVec 8)) (it : It) : dec (k + 1) 2 b it [] = if 0 < b.length then some (It.zero, 73) else some (it, 0) := by rw [dec]
theorem dec_2c (k : Nat) (b : List (BitVec 8)) (it : It) (l : List It) (bh : List (BitVec 8)) (st : List (List It × List (BitVec 8))) : dec (k + 1) 2 b it ((l, bh) :: st) = if (l.length + 1) * 56 ≤ 140737488355328 then dec k 3 b It.zero ((l ++ [it], bh) :: st) else none := by rw [dec]
theorem dec_3 (k : Nat) (b : List (BitVec 8)) (it : It) (st : List (List It × List (BitVec 8))) : dec (k + 1) 3 b it st = if 0 < b.length then dec k 1 b It.zero st else (match st with
    | [] => none
    | (l, bh) :: st => dec k 2 bh (It.mk true [] l) st) := by cases st <;> rfl
def rlp_Decode (a0 : List (BitVec 8)) : Option (It × Nat) := if 16777216 < a0.length then some (It.zero, 2) else dec (4 * a0.length + 8) 1 a0 It.zero []
end Go.Fw
