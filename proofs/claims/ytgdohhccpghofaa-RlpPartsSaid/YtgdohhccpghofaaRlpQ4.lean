/- Part of a proof over Ytgdohhccpghofaa: rules and contracts that the law's text uses. No condition. -/
import Derived.Test.YtgdohhccpghofaaRlpQ3
namespace Go.Fw
set_option linter.unusedVariables false
set_option linter.unusedSimpArgs false
set_option maxRecDepth 100000
theorem drop_cons_at {α : Type} {l : List α} {i : Nat} (h : i < l.length) : l.drop i = l[i] :: l.drop (i + 1) := List.drop_eq_getElem_cons h
theorem same_loop (a b : List (BitVec 8)) (hl : a.length = b.length) : ∀ (d i k : Nat), i + d = a.length → d < k → waybilllaw07_same.l1 a b k i = some (if a.drop i = b.drop i then Lp.go () else Lp.ret (some false))
  | 0, i, k, h, hk => by
    obtain ⟨k, rfl⟩ : ∃ m, k = m + 1 := ⟨k - 1, by omega⟩
    rw [waybilllaw07_same.l1, if_neg (by omega), List.drop_of_length_le (by omega), List.drop_of_length_le (by omega), if_pos rfl]
  | d + 1, i, k, h, hk => by
    obtain ⟨k, rfl⟩ : ∃ m, k = m + 1 := ⟨k - 1, by omega⟩
    have h1 : i < a.length := by omega
    have h2 : i < b.length := by omega
    rw [waybilllaw07_same.l1, if_pos h1, List.getElem?_eq_getElem h1, List.getElem?_eq_getElem h2, Option.bind_some, Option.bind_some, drop_cons_at h1, drop_cons_at h2]
    by_cases he : a[i] = b[i]
    · rw [if_pos he, same_loop a b hl d (i + 1) k (by omega) (by omega)]
      by_cases h3 : a.drop (i + 1) = b.drop (i + 1)
      · rw [if_pos h3, if_pos (by rw [he, h3])]
      · rw [if_neg h3, if_neg (fun e => h3 (List.cons.inj e).2)]
    · rw [if_neg he, if_neg (fun e => he (List.cons.inj e).1)]
theorem same_eq (a b : List (BitVec 8)) : waybilllaw07_same a b = some (decide (a = b)) := by
  unfold waybilllaw07_same
  by_cases hl : a.length = b.length
  · rw [if_pos hl, same_loop a b hl a.length 0 _ (by omega) (by omega), List.drop_zero, List.drop_zero]
    by_cases h : a = b
    · rw [if_pos h, decide_eq_true h]; rfl
    · rw [if_neg h, decide_eq_false h]; rfl
  · rw [if_neg hl, decide_eq_false (fun e => hl (by rw [e]))]
theorem alike_loop (a b : List (List (BitVec 8))) (hl : a.length = b.length) : ∀ (d i k : Nat), i + d = a.length → d < k → waybilllaw07_alike.l1 a b k i = some (if a.drop i = b.drop i then Lp.go () else Lp.ret (some false))
  | 0, i, k, h, hk => by
    obtain ⟨k, rfl⟩ : ∃ m, k = m + 1 := ⟨k - 1, by omega⟩
    rw [waybilllaw07_alike.l1, if_neg (by omega), List.drop_of_length_le (by omega), List.drop_of_length_le (by omega), if_pos rfl]
  | d + 1, i, k, h, hk => by
    obtain ⟨k, rfl⟩ : ∃ m, k = m + 1 := ⟨k - 1, by omega⟩
    have h1 : i < a.length := by omega
    have h2 : i < b.length := by omega
    rw [waybilllaw07_alike.l1, if_pos h1, List.getElem?_eq_getElem h1, List.getElem?_eq_getElem h2, Option.bind_some, Option.bind_some, same_eq, Option.bind_some, drop_cons_at h1, drop_cons_at h2]
    by_cases he : a[i] = b[i]
    · rw [if_pos (decide_eq_true he), alike_loop a b hl d (i + 1) k (by omega) (by omega)]
      by_cases h3 : a.drop (i + 1) = b.drop (i + 1)
      · rw [if_pos h3, if_pos (by rw [he, h3])]
      · rw [if_neg h3, if_neg (fun e => h3 (List.cons.inj e).2)]
    · rw [if_neg (by simpa using he), if_neg (fun e => he (List.cons.inj e).1)]
theorem alike_eq (a b : List (List (BitVec 8))) : waybilllaw07_alike a b = some (decide (a = b)) := by
  unfold waybilllaw07_alike
  by_cases hl : a.length = b.length
  · rw [if_pos hl, alike_loop a b hl a.length 0 _ (by omega) (by omega), List.drop_zero, List.drop_zero]
    by_cases h : a = b
    · rw [if_pos h, decide_eq_true h]; rfl
    · rw [if_neg h, decide_eq_false h]; rfl
  · rw [if_neg hl, decide_eq_false (fun e => hl (by rw [e]))]
theorem splits_law (a : List (BitVec 8)) (ha : a.length + 9 ≤ 140737488355328) : waybilllaw07_RlpSplits a = some true := by
  unfold waybilllaw07_RlpSplits waybilllaw07_roomy waybilllaw07_num waybilllaw07_spared
  rw [if_pos ha, Option.bind_some, split_eq, rsplit_eq, parts_eq, rparts_eq]
  simp [same_eq, alike_eq]
end Go.Fw
