/- Part of a proof: rules that its law uses. -/
import Derived.Test.YtgonajfngmeanaaDoorSpongeL
import Derived.Test.YtgonajfngmeanaaDoorRmL
import Derived.Test.YtgonajfngmeanaaDoorFwD
namespace Go.Fw
open Go
set_option linter.unusedVariables false
def lentN (n : Nat) (x : List (BitVec 8)) : Option (List (BitVec 8)) := if x.length + n ≤ 140737488355328 then some x else none
def waybilllaw02_lent (x : List (BitVec 8)) : Option (List (BitVec 8)) := lentN 200 x
def mkd (n : Nat) (m : BitVec 8) (x : List (BitVec 8)) (i : Nat) : List (BitVec 8) := x ++ (List.replicate (i - x.length) m ++ List.replicate (x.length + n - i) 0#8)
theorem mkd_length {n : Nat} {m : BitVec 8} {x : List (BitVec 8)} {i : Nat} (h1 : x.length ≤ i) (h2 : i ≤ x.length + n) : (mkd n m x i).length = x.length + n := by simp [mkd]; omega
theorem mkd_end (n : Nat) (m : BitVec 8) (x : List (BitVec 8)) : mkd n m x (x.length + n) = x ++ List.replicate n m := by simp [mkd]
theorem mkd_set {n : Nat} {m : BitVec 8} {x : List (BitVec 8)} {i : Nat} (h1 : x.length ≤ i) (h2 : i < x.length + n) : (mkd n m x i).set i m = mkd n m x (i + 1) := by
  unfold mkd
  rw [List.set_append_right _ _ h1, List.set_append_right _ _ (by simp), List.length_replicate]
  congr 1
  rw [show i - x.length - (i - x.length) = 0 by omega, show x.length + n - i = (x.length + n - (i + 1)) + 1 by omega, List.replicate_succ, List.set_cons_zero, show i + 1 - x.length = (i - x.length) + 1 by omega, List.replicate_succ' (n := i - x.length)]
  simp
theorem mkd_copy {n : Nat} {m : BitVec 8} {x : List (BitVec 8)} {k : Nat} (hk : k = x.length) : spl (List.replicate (x.length + n) (Value.int .u8 0)) 0 ((u8s x).take k) = u8s (mkd n m x x.length) := by
  subst hk
  have h1 : (u8s x).take x.length = u8s x := List.take_of_length_le (by rw [u8s_length]; omega)
  rw [h1, spl_front _ _ (by simp [u8s]), u8s_length]
  simp [mkd, u8s, U8]
end Go.Fw
