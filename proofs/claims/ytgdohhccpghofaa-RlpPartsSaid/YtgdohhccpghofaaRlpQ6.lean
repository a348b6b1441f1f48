/- Part of a proof over Ytgdohhccpghofaa: rules and contracts that the law's text uses. No condition. -/
import Derived.Test.YtgdohhccpghofaaRlpQ5
namespace Go.Fw
set_option linter.unusedVariables false
set_option linter.unusedSimpArgs false
set_option maxRecDepth 100000
theorem rjoin_sum (a : List (List (BitVec 8))) (ha : sumL a ≤ 16777216) : ∀ (d i k n : Nat), i + d = a.length → d < k → n + sumL (a.drop i) = sumL a → waybillref07_Join.l2 a k n i = some (sumL a)
  | 0, i, k, n, h, hk, hn => by
    obtain ⟨k, rfl⟩ : ∃ m, k = m + 1 := ⟨k - 1, by omega⟩
    rw [List.drop_of_length_le (by omega)] at hn
    have e : sumL [] = 0 := rfl
    rw [waybillref07_Join.l2, if_neg (by omega), show n = sumL a by omega]
  | d + 1, i, k, n, h, hk, hn => by
    obtain ⟨k, rfl⟩ : ∃ m, k = m + 1 := ⟨k - 1, by omega⟩
    have h1 : i < a.length := by omega
    rw [sumL_drop h1] at hn
    rw [waybillref07_Join.l2, if_pos h1, List.getElem?_eq_getElem h1, Option.bind_some, if_pos (by omega)]
    exact rjoin_sum a ha d (i + 1) k _ (by omega) (by omega) (by omega)
theorem rjoin_app (a : List (List (BitVec 8))) (ha : sumL a ≤ 16777216) : ∀ (d i k : Nat) (l : List (BitVec 8)), i + d = a.length → d < k → l.length + sumL (a.drop i) ≤ 16777216 + 16777216 → waybillref07_Join.l1 a k l i = some (l ++ (a.drop i).flatten)
  | 0, i, k, l, h, hk, hl => by
    obtain ⟨k, rfl⟩ : ∃ m, k = m + 1 := ⟨k - 1, by omega⟩
    rw [waybillref07_Join.l1, if_neg (by omega), List.drop_of_length_le (by omega)]; simp
  | d + 1, i, k, l, h, hk, hl => by
    obtain ⟨k, rfl⟩ : ∃ m, k = m + 1 := ⟨k - 1, by omega⟩
    have h1 : i < a.length := by omega
    rw [sumL_drop h1] at hl
    rw [waybillref07_Join.l1, if_pos h1, List.getElem?_eq_getElem h1, Option.bind_some, if_pos (by omega), rjoin_app a ha d (i + 1) k _ (by omega) (by omega) (by rw [List.length_append]; omega), flat_drop h1, List.append_assoc]
theorem rjoin_eq (a : List (List (BitVec 8))) (ha : sumL a ≤ 16777216) : waybillref07_Join a = some (joinR a) := by
  have hh := headB_length (c := 192) (n := sumL a) (by omega)
  unfold waybillref07_Join joinR
  rw [rjoin_sum a ha a.length 0 _ 0 (by omega) (by omega) (by rw [List.drop_zero]; omega), Option.bind_some, before_spec 192 _ (by omega) (by omega), Option.bind_some, if_pos (by omega)]
  by_cases h : 16777216 < (headB 192 (sumL a)).length + sumL a
  · rw [if_pos h, if_pos h]
  · rw [if_neg h, if_neg h, rjoin_app a ha a.length 0 _ _ (by omega) (by omega) (by rw [List.drop_zero]; omega), List.drop_zero, Option.bind_some]
theorem joins_make (a : List (List (BitVec 8))) (h1 : a.length * 24 ≤ 140737488351232) (h2 : ∀ x ∈ a, x.length ≤ 140737488351232) : ∀ (d i k : Nat) (l : List (List (BitVec 8))), i + d = a.length → d < k → l = a.take i → waybilllaw07_RlpJoins.l2 a k l i = some a
  | 0, i, k, l, h, hk, hl => by
    obtain ⟨k, rfl⟩ : ∃ m, k = m + 1 := ⟨k - 1, by omega⟩
    rw [waybilllaw07_RlpJoins.l2, if_neg (by omega), hl, List.take_of_length_le (by omega)]
  | d + 1, i, k, l, h, hk, hl => by
    obtain ⟨k, rfl⟩ : ∃ m, k = m + 1 := ⟨k - 1, by omega⟩
    have h3 : i < a.length := by omega
    have h4 := h2 a[i] (List.getElem_mem h3)
    have h5 : l.length = i := by rw [hl, List.length_take]; omega
    rw [waybilllaw07_RlpJoins.l2, if_pos h3, List.getElem?_eq_getElem h3, Option.bind_some, waybilllaw07_roomy, if_pos (by omega), Option.bind_some, if_pos (by simp only [List.length_cons, List.length_nil]; omega)]
    exact joins_make a h1 h2 d (i + 1) k _ (by omega) (by omega) (by rw [List.take_add_one, List.getElem?_eq_getElem h3, hl]; rfl)
theorem joins_spared (a : List (List (BitVec 8))) : ∀ (d i k : Nat), i + d = a.length → d < k → waybilllaw07_RlpJoins.l1 a k i = some (Lp.go ())
  | 0, i, k, h, hk => by
    obtain ⟨k, rfl⟩ : ∃ m, k = m + 1 := ⟨k - 1, by omega⟩
    rw [waybilllaw07_RlpJoins.l1, if_neg (by omega)]
  | d + 1, i, k, h, hk => by
    obtain ⟨k, rfl⟩ : ∃ m, k = m + 1 := ⟨k - 1, by omega⟩
    have h3 : i < a.length := by omega
    rw [waybilllaw07_RlpJoins.l1, if_pos h3, List.getElem?_eq_getElem h3, Option.bind_some, waybilllaw07_spared, Option.bind_some, if_pos rfl]
    exact joins_spared a d (i + 1) k (by omega) (by omega)
theorem joins_law (a : List (List (BitVec 8))) (h1 : a.length * 24 ≤ 140737488351232) (h2 : ∀ x ∈ a, x.length ≤ 140737488351232) (ha : sumL a ≤ 16777216) : waybilllaw07_RlpJoins a = some true := by
  unfold waybilllaw07_RlpJoins
  rw [joins_make a h1 h2 a.length 0 _ _ (by omega) (by omega) (by simp), Option.bind_some, if_pos (by simp only [List.length_cons, List.length_nil]; omega), if_pos rfl, join_eq a ha, Option.bind_some]
  try dsimp only
  rw [rjoin_eq a ha, Option.bind_some]
  try dsimp only
  have hx : ((a ++ [[164#8]]).take (a.length + 1))[a.length]? = some [164#8] := by
    rw [List.getElem?_take, if_pos (by omega), List.getElem?_append_right (by omega)]; simp
  rw [waybilllaw07_num, Option.bind_some]
  rw [if_pos rfl, same_eq, Option.bind_some, if_pos (by simp), alike_eq, Option.bind_some, Option.bind_some, if_neg (by simp), joins_spared a a.length 0 _ (by omega) (by omega), Option.bind_some]
  try dsimp only
  rw [if_pos (by simp), hx, Option.bind_some, same_eq, Option.bind_some]
  simp
/-- The bulk of a reading of texts. -/
theorem bulk_bss {H : Type} (ub : DataW H → Nat) (uba : List (DataW H) → Nat) (h0 : uba [] = 0) (h1 : ∀ d r, uba (d :: r) = ub d + uba r) (h2 : ∀ el sp, ub (.slice el sp) = uba el + uba sp + 1) (hp : ∀ d : DataW H, 1 ≤ ub d)
    {d : DataW H} {el sp : List (DataW H)} (he : Els d el sp) {xs : List (List (BitVec 8))} (hl : el.length = xs.length) (hx : ∀ (i : Nat) x d, xs[i]? = some x → el[i]? = some d → ∃ el2 sp2, Els d el2 sp2 ∧ el2.length = x.length) : sumL xs ≤ ub d := by
  have hlen : ∀ l : List (DataW H), l.length ≤ uba l := fun l => by
    induction l with
    | nil => simp
    | cons x r ih => rw [h1]; have := hp x; simp; omega
  have key : ∀ (el : List (DataW H)) (xs : List (List (BitVec 8))), el.length = xs.length → (∀ (i : Nat) x d, xs[i]? = some x → el[i]? = some d → ∃ el2 sp2, Els d el2 sp2 ∧ el2.length = x.length) → sumL xs ≤ uba el := by
    intro el
    induction el with
    | nil => intro xs hl _; cases xs with | nil => exact Nat.zero_le _ | cons _ _ => simp at hl
    | cons d r ih =>
      intro xs hl hx
      cases xs with
      | nil => exact Nat.zero_le _
      | cons x xs =>
        have h3 := ih xs (by simpa using hl) (fun i y e hy he => hx (i + 1) y e (by simpa using hy) (by simpa using he))
        obtain ⟨el2, sp2, h4, h5⟩ := hx 0 x d rfl rfl
        rw [sumL_cons, h1]
        have : x.length ≤ ub d := by
          rcases h4 with ⟨_, rfl, _⟩ | rfl
          · simp at h5; omega
          · rw [h2]; have := hlen el2; omega
        omega
  have h3 := key el xs hl hx
  rcases he with ⟨_, rfl, _⟩ | rfl
  · have : xs = [] := List.length_eq_zero_iff.1 (by simpa using hl.symm)
    subst this
    exact Nat.zero_le _
  · rw [h2]; omega
end Go.Fw
