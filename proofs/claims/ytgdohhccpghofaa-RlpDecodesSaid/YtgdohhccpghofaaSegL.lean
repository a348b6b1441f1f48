/- Part of a proof over Ytgdohhccpghofaa: rules and contracts that the law's text uses. No condition. -/
import Derived.Test.YtgdohhccpghofaaFwC
namespace Go.Fw
open Go
set_option linter.unusedVariables false
/-! Cells of a struct, part by part. -/
theorem skip_get {A L : List Value} {n m : Nat} {v : Value} (hA : A.length = n) (h : L[m]? = some v) : (A ++ L)[n + m]? = some v := by
  rw [List.getElem?_append_right (by omega), show n + m - A.length = m by omega]; exact h
theorem here_get {B C : List Value} {i : Nat} {v : Value} (h : B[i]? = some v) : (B ++ C)[i]? = some v := by
  have := (List.getElem?_eq_some_iff.1 h).1
  rw [List.getElem?_append_left this]; exact h
theorem skip_set {A L L' : List Value} {n m : Nat} {v : Value} (hA : A.length = n) (h : L.set m v = L') : (A ++ L).set (n + m) v = A ++ L' := by
  subst hA; subst h
  rw [List.set_append_right _ _ (by omega), show A.length + m - A.length = m by omega]
theorem here_set {B B' C : List Value} {i : Nat} {v : Value} (hi : i < B.length) (h : B.set i v = B') : (B ++ C).set i v = B' ++ C := by
  subst h
  rw [List.set_append_left _ _ hi]
theorem skip_spl {A L L' cs : List Value} {n m : Nat} (hA : A.length = n) (h : spl L m cs = L') : spl (A ++ L) (n + m) cs = A ++ L' := by
  subst hA; subst h
  unfold spl
  rw [List.take_length_add_append, show A.length + m + cs.length = A.length + (m + cs.length) by omega, List.drop_length_add_append]
  simp [List.append_assoc]
theorem here_spl {B C cs : List Value} (h : cs.length = B.length) : spl (B ++ C) 0 cs = cs ++ C := by
  unfold spl
  rw [List.take_zero, List.nil_append, Nat.zero_add, h, List.drop_left]
theorem last_spl {B cs : List Value} (h : cs.length = B.length) : spl B 0 cs = cs := by
  unfold spl
  rw [List.take_zero, List.nil_append, Nat.zero_add, h, List.drop_length, List.append_nil]
end Go.Fw
