/- Part of a proof: rules that its law uses. -/
import Derived.Test.YtogfjkomkpbjpaaDoorKecP6
import Derived.Test.YtogfjkomkpbjpaaDoorKecC1
namespace Go.Fw
open Go
set_option linter.unusedVariables false
set_option linter.unusedSimpArgs false
set_option maxRecDepth 20000
theorem still02_loop (a : List (BitVec 8)) : ∀ (d i k : Nat), i + d = a.length + 200 → d < k → waybilllaw02_still.l1 a a k i = some (Lp.go ())
  | 0, i, k, h, hk => by
    obtain ⟨k, rfl⟩ : ∃ m, k = m + 1 := ⟨k - 1, by omega⟩
    rw [waybilllaw02_still.l1, if_neg (by rw [List.length_take, List.length_append, List.length_replicate]; omega)]
  | d + 1, i, k, h, hk => by
    obtain ⟨k, rfl⟩ : ∃ m, k = m + 1 := ⟨k - 1, by omega⟩
    have hT : (a ++ List.replicate 200 195#8).take (a.length + 200) = a ++ List.replicate 200 195#8 := List.take_of_length_le (by rw [List.length_append, List.length_replicate]; omega)
    have hl : (a ++ List.replicate 200 195#8).length = a.length + 200 := by rw [List.length_append, List.length_replicate]
    rw [waybilllaw02_still.l1, hT, if_pos (by omega)]
    by_cases h1 : i < a.length
    · rw [if_pos h1, List.getElem?_append_left h1, List.getElem?_eq_getElem h1, Option.bind_some, Option.bind_some, if_pos rfl, if_neg (by omega), Option.bind_some, if_neg (by decide)]
      exact still02_loop a d (i + 1) k (by omega) (by omega)
    · rw [if_neg h1, if_pos (by omega), List.getElem?_append_right (by omega), List.getElem?_replicate, if_pos (by omega), Option.bind_some, decide_eq_true rfl, Option.bind_some, if_neg (by decide)]
      exact still02_loop a d (i + 1) k (by omega) (by omega)
theorem still02_eq (a : List (BitVec 8)) : waybilllaw02_still a a = some true := by
  have hT : ((a ++ List.replicate 200 195#8).take (a.length + 200)).length = a.length + 200 := by rw [List.length_take, List.length_append, List.length_replicate]; omega
  have hl : (a ++ List.replicate 200 195#8).length = a.length + 200 := by rw [List.length_append, List.length_replicate]
  unfold waybilllaw02_still
  rw [if_pos rfl, if_pos (by omega), still02_loop a (a.length + 200) 0 _ (by omega) (by rw [hT]; omega), Option.bind_some]
theorem stillAll_loop (a : List (List (BitVec 8))) : ∀ (d i k : Nat), i + d = a.length → d < k → waybilllaw02_stillAll.l1 a a k i = some (Lp.go ())
  | 0, i, k, h, hk => by
    obtain ⟨k, rfl⟩ : ∃ m, k = m + 1 := ⟨k - 1, by omega⟩
    rw [waybilllaw02_stillAll.l1, if_neg (by omega)]
  | d + 1, i, k, h, hk => by
    obtain ⟨k, rfl⟩ : ∃ m, k = m + 1 := ⟨k - 1, by omega⟩
    have h1 : i < a.length := by omega
    rw [waybilllaw02_stillAll.l1, if_pos h1, List.getElem?_eq_getElem h1, Option.bind_some, Option.bind_some, still02_eq, Option.bind_some, if_pos rfl]
    exact stillAll_loop a d (i + 1) k (by omega) (by omega)
theorem stillAll_eq (a : List (List (BitVec 8))) : waybilllaw02_stillAll a a = some true := by
  have hl : (a ++ ([[195#8]] : List (List (BitVec 8)))).length = a.length + 1 := by rw [List.length_append]; rfl
  have hT : (a ++ ([[195#8]] : List (List (BitVec 8)))).take (a.length + 1) = a ++ [[195#8]] := List.take_of_length_le (by omega)
  have hg : (a ++ ([[195#8]] : List (List (BitVec 8))))[a.length]? = some [195#8] := by rw [List.getElem?_append_right (Nat.le_refl _), Nat.sub_self]; rfl
  unfold waybilllaw02_stillAll
  rw [if_pos rfl, if_pos (by omega), hT, hg, Option.bind_some, if_pos (show ([195#8] : List (BitVec 8)).length = 1 from rfl), Option.bind_some]
  rw [show ([195#8] : List (BitVec 8))[0]? = some 195#8 by rfl, Option.bind_some, decide_eq_true rfl, Option.bind_some, if_neg (by decide), stillAll_loop a a.length 0 _ (by omega) (by omega), Option.bind_some]
theorem backward_loop (a : List (BitVec 8)) (ha : a.length ≤ 140737488355328) : ∀ (i k : Nat) (l : List (BitVec 8)), i ≤ a.length → i < k → l.length + i ≤ 140737488355328 → waybilllaw02_backward.l1 a k l (((i : Nat) : Int) - 1) = some (l ++ (a.take i).reverse)
  | 0, k, l, hi, hk, hb => by
    obtain ⟨k, rfl⟩ : ∃ m, k = m + 1 := ⟨k - 1, by omega⟩
    rw [waybilllaw02_backward.l1, if_neg (by omega)]; simp
  | i + 1, k, l, hi, hk, hb => by
    obtain ⟨k, rfl⟩ : ∃ m, k = m + 1 := ⟨k - 1, by omega⟩
    have h1 : i < a.length := by omega
    have hz : (((i + 1 : Nat) : Int) - 1).toNat = i := by omega
    rw [waybilllaw02_backward.l1, if_pos (by omega), hz, List.getElem?_eq_getElem h1, Option.bind_some, if_pos (by simp; omega), if_pos (by omega), show (((i + 1 : Nat) : Int) - 1 - 1) = ((i : Nat) : Int) - 1 by omega, backward_loop a ha i k _ (by omega) (by omega) (by simp; omega)]
    rw [List.append_assoc, List.singleton_append, List.take_add_one, List.getElem?_eq_getElem h1, Option.toList_some, List.reverse_append, List.reverse_singleton, List.singleton_append]
theorem backward_eq (a : List (BitVec 8)) (ha : a.length ≤ 140737488355328) : waybilllaw02_backward a = some a.reverse := by
  unfold waybilllaw02_backward
  rw [backward_loop a ha a.length _ [] (Nat.le_refl _) (by omega) (by simpa using ha), Option.bind_some, List.take_length, List.nil_append]
theorem turnedAll_loop (a : List (List (BitVec 8))) (ha : ∀ t ∈ a, t.length ≤ 140737488355328) : ∀ (d i k : Nat) (l : List (List (BitVec 8))), i + d = a.length → d < k → (l.length + d) * 24 ≤ 140737488355328 → waybilllaw02_turnedAll.l1 a k l i = some (l ++ (a.drop i).map List.reverse)
  | 0, i, k, l, h, hk, hb => by
    obtain ⟨k, rfl⟩ : ∃ m, k = m + 1 := ⟨k - 1, by omega⟩
    rw [waybilllaw02_turnedAll.l1, if_neg (by omega), List.drop_eq_nil_of_le (by omega)]; simp
  | d + 1, i, k, l, h, hk, hb => by
    obtain ⟨k, rfl⟩ : ∃ m, k = m + 1 := ⟨k - 1, by omega⟩
    have h1 : i < a.length := by omega
    rw [waybilllaw02_turnedAll.l1, if_pos h1, List.getElem?_eq_getElem h1, Option.bind_some, backward_eq _ (ha _ (List.getElem_mem h1)), Option.bind_some, if_pos (by simp; omega), turnedAll_loop a ha d (i + 1) k _ (by omega) (by omega) (by simp; omega), List.append_assoc, List.singleton_append, List.drop_eq_getElem_cons h1, List.map_cons]
theorem turnedAll_eq (a : List (List (BitVec 8))) (ha : ∀ t ∈ a, t.length ≤ 140737488355328) (hb : a.length * 24 ≤ 140737488355328) : waybilllaw02_turnedAll a = some (a.map List.reverse) := by
  unfold waybilllaw02_turnedAll
  rw [turnedAll_loop a ha a.length 0 _ [] (by omega) (by omega) (by simpa using hb), Option.bind_some, List.drop_zero, List.nil_append]
theorem rsha3_eq (a : List (List (BitVec 8))) (hb : a.flatten.length + 137 ≤ 140737488355328) : waybillref02_Sha3 a = some (digestR a.flatten 6#8) := by
  unfold waybillref02_Sha3
  rw [joined_eq a (by omega), Option.bind_some, rdigest_eq _ _ hb, Option.bind_some]
theorem flat_rev (a : List (List (BitVec 8))) : (a.map List.reverse).flatten.length = a.flatten.length := by
  rw [List.length_flatten, List.length_flatten, List.map_map]
  congr 1
  exact List.map_congr_left fun x _ => by simp
theorem mem_flat {a : List (List (BitVec 8))} {t : List (BitVec 8)} (h : t ∈ a) : t.length ≤ a.flatten.length := by
  obtain ⟨s, u, e⟩ := List.append_of_mem h
  rw [e, List.flatten_append, List.flatten_cons, List.length_append, List.length_append]; omega
end Go.Fw
