/- Part of a proof: rules that its law uses. -/
import Derived.Test.YtpkcehpoohmbfaaDoorRlpQa
namespace Go.Fw
set_option linter.unusedVariables false
set_option linter.unusedSimpArgs false
set_option maxRecDepth 100000
theorem drop_cons_at {α : Type} {l : List α} {i : Nat} (h : i < l.length) : l.drop i = l[i] :: l.drop (i + 1) := List.drop_eq_getElem_cons h
theorem same_loop (a b : List (BitVec 8)) (hl : a.length = b.length) : ∀ (d i k : Nat), i + d = a.length → d < k → waybilllaw07_same.l1 a b k i = some (if a.drop i = b.drop i then Lp.go () else Lp.ret (some false))
  | 0, i, k, h, hk => by
    obtain ⟨k, rfl⟩ : ∃ m, k = m + 1 := ⟨k - 1, by omega⟩
    rw [waybilllaw07_same.l1, if_neg (by omega), List.drop_of_length_le (by omega), List.drop_of_length_le (by omega), if_pos rfl]
  | d + 1, i, k, h, hk => by
    obtain ⟨k, rfl⟩ : ∃ m, k = m + 1 := ⟨k - 1, by omega⟩
    have h1 : i < a.length := by omega
    have h2 : i < b.length := by omega
    rw [waybilllaw07_same.l1, if_pos h1, List.getElem?_eq_getElem h1, List.getElem?_eq_getElem h2, Option.bind_some, Option.bind_some, drop_cons_at h1, drop_cons_at h2]
    by_cases he : a[i] = b[i]
    · rw [if_pos he, same_loop a b hl d (i + 1) k (by omega) (by omega)]
      by_cases h3 : a.drop (i + 1) = b.drop (i + 1)
      · rw [if_pos h3, if_pos (by rw [he, h3])]
      · rw [if_neg h3, if_neg (fun e => h3 (List.cons.inj e).2)]
    · rw [if_neg he, if_neg (fun e => he (List.cons.inj e).1)]
theorem same_eq (a b : List (BitVec 8)) : waybilllaw07_same a b = some (decide (a = b)) := by
  unfold waybilllaw07_same
  by_cases hl : a.length = b.length
  · rw [if_pos hl, same_loop a b hl a.length 0 _ (by omega) (by omega), List.drop_zero, List.drop_zero]
    by_cases h : a = b
    · rw [if_pos h, decide_eq_true h]; rfl
    · rw [if_neg h, decide_eq_false h]; rfl
  · rw [if_neg hl, decide_eq_false (fun e => hl (by rw [e]))]
theorem alike_loop (a b : List (List (BitVec 8))) (hl : a.length = b.length) : ∀ (d i k : Nat), i + d = a.length → d < k → waybilllaw07_alike.l1 a b k i = some (if a.drop i = b.drop i then Lp.go () else Lp.ret (some false))
  | 0, i, k, h, hk => by
    obtain ⟨k, rfl⟩ : ∃ m, k = m + 1 := ⟨k - 1, by omega⟩
    rw [waybilllaw07_alike.l1, if_neg (by omega), List.drop_of_length_le (by omega), List.drop_of_length_le (by omega), if_pos rfl]
  | d + 1, i, k, h, hk => by
    obtain ⟨k, rfl⟩ : ∃ m, k = m + 1 := ⟨k - 1, by omega⟩
    have h1 : i < a.length := by omega
    have h2 : i < b.length := by omega
    rw [waybilllaw07_alike.l1, if_pos h1, List.getElem?_eq_getElem h1, List.getElem?_eq_getElem h2, Option.bind_some, Option.bind_some, same_eq, Option.bind_some, drop_cons_at h1, drop_cons_at h2]
    by_cases he : a[i] = b[i]
    · rw [if_pos (decide_eq_true he), alike_loop a b hl d (i + 1) k (by omega) (by omega)]
      by_cases h3 : a.drop (i + 1) = b.drop (i + 1)
      · rw [if_pos h3, if_pos (by rw [he, h3])]
      · rw [if_neg h3, if_neg (fun e => h3 (List.cons.inj e).2)]
    · rw [if_neg (by simpa using he), if_neg (fun e => he (List.cons.inj e).1)]
theorem alike_eq (a b : List (List (BitVec 8))) : waybilllaw07_alike a b = some (decide (a = b)) := by
  unfold waybilllaw07_alike
  by_cases hl : a.length = b.length
  · rw [if_pos hl, alike_loop a b hl a.length 0 _ (by omega) (by omega), List.drop_zero, List.drop_zero]
    by_cases h : a = b
    · rw [if_pos h, decide_eq_true h]; rfl
    · rw [if_neg h, decide_eq_false h]; rfl
  · rw [if_neg hl, decide_eq_false (fun e => hl (by rw [e]))]
theorem splits_law (a : List (BitVec 8)) (ha : a.length + 9 ≤ 140737488355328) : waybilllaw07_RlpSplits a = some true := by
  unfold waybilllaw07_RlpSplits waybilllaw07_roomy waybilllaw07_num waybilllaw07_spared
  rw [if_pos ha, Option.bind_some, split_eq, rsplit_eq, parts_eq, rparts_eq]
  simp [same_eq, alike_eq]
end Go.Fw
namespace Go.Fw
set_option linter.unusedVariables false
set_option linter.unusedSimpArgs false
set_option maxRecDepth 100000
def headB (c n : Nat) : List (BitVec 8) := if n ≤ 55 then [BitVec.ofNat 8 (c + n)] else BitVec.ofNat 8 (c + 55 + nb n) :: bytesN n
theorem bytesN_length (n : Nat) : (bytesN n).length = nb n := be_length _ _
theorem nb_8 {n : Nat} (h : n < 2 ^ 64) : nb n ≤ 8 := by have := bl_le (k := 64) h; unfold nb; omega
theorem headB_length {c n : Nat} (h : n < 2 ^ 64) : (headB c n).length ≤ 9 ∧ 0 < (headB c n).length := by
  unfold headB
  split
  · simp
  · rw [List.length_cons, bytesN_length]; have := nb_8 h; omega
theorem ofNat_toNat64 {n : Nat} (h : n < 2 ^ 64) : (BitVec.ofNat 64 n).toNat = n := by rw [BitVec.toNat_ofNat, Nat.mod_eq_of_lt h]
theorem head_spec (c n : Nat) (hn : n ≤ 9223372036854775807) : rlp_head (BitVec.ofNat 8 c) n = some (headB c n) := by
  unfold rlp_head headB
  by_cases h : n ≤ 55
  · rw [if_pos h, if_pos h, BitVec.ofNat_add]
  · have h64 : n < 2 ^ 64 := by omega
    have h8 := nb_8 h64
    rw [if_neg h, if_neg h, from_eq, Option.bind_some, bytes_eq, Option.bind_some, val4_lim' (BitVec.isLt _), ofNat_toNat64 h64, bytesN_length, if_pos (by simp only [List.length_cons, List.length_nil]; omega)]
    congr 1
    rw [List.singleton_append, BitVec.ofNat_add, BitVec.ofNat_add]
theorem before_spec (c n : Nat) (hc : c ≤ 255) (hn : n ≤ 9223372036854775807) : waybillref07_before n c = some (headB c n) := by
  unfold waybillref07_before headB
  by_cases h : n ≤ 55
  · rw [if_pos h, if_pos h, if_pos (by omega)]
  · have h64 : n < 2 ^ 64 := by omega
    have h8 := nb_8 h64
    rw [if_neg h, if_neg h, rfrom_eq, Option.bind_some, rbytes_eq, Option.bind_some, val4_lim' (BitVec.isLt _), ofNat_toNat64 h64, bytesN_length, if_pos (by omega), if_pos (by omega), if_pos (by simp only [List.length_cons, List.length_nil]; omega)]
    rfl
def sumL (a : List (List (BitVec 8))) : Nat := (a.map List.length).sum
theorem sumL_cons (x : List (BitVec 8)) (a : List (List (BitVec 8))) : sumL (x :: a) = x.length + sumL a := by simp [sumL]
theorem sumL_drop {a : List (List (BitVec 8))} {i : Nat} (h : i < a.length) : sumL (a.drop i) = a[i].length + sumL (a.drop (i + 1)) := by rw [drop_cons_at h, sumL_cons]
theorem sumL_drop_le (a : List (List (BitVec 8))) (i : Nat) : sumL (a.drop i) ≤ sumL a := by
  have : sumL a = sumL (a.take i) + sumL (a.drop i) := by
    unfold sumL
    rw [← List.sum_append_nat, ← List.map_append, List.take_append_drop]
  omega
theorem flat_drop {a : List (List (BitVec 8))} {i : Nat} (h : i < a.length) : (a.drop i).flatten = a[i] ++ (a.drop (i + 1)).flatten := by rw [drop_cons_at h, List.flatten_cons]
theorem join_sum (a : List (List (BitVec 8))) (ha : sumL a ≤ 16777216) : ∀ (d i k n : Nat), i + d = a.length → d < k → n + sumL (a.drop i) = sumL a → rlp_Join.l2 a k n i = some (Lp.go (sumL a))
  | 0, i, k, n, h, hk, hn => by
    obtain ⟨k, rfl⟩ : ∃ m, k = m + 1 := ⟨k - 1, by omega⟩
    rw [List.drop_of_length_le (by omega)] at hn
    have e : sumL [] = 0 := rfl
    rw [rlp_Join.l2, if_neg (by omega), show n = sumL a by omega]
  | d + 1, i, k, n, h, hk, hn => by
    obtain ⟨k, rfl⟩ : ∃ m, k = m + 1 := ⟨k - 1, by omega⟩
    have h1 : i < a.length := by omega
    rw [sumL_drop h1] at hn
    rw [rlp_Join.l2, if_pos h1, List.getElem?_eq_getElem h1, Option.bind_some, if_pos (by omega), if_neg (by omega)]
    exact join_sum a ha d (i + 1) k _ (by omega) (by omega) (by omega)
theorem join_app (a : List (List (BitVec 8))) (ha : sumL a ≤ 16777216) : ∀ (d i k : Nat) (l : List (BitVec 8)), i + d = a.length → d < k → l.length + sumL (a.drop i) ≤ 16777216 + 16777216 → rlp_Join.l1 a k l i = some (l ++ (a.drop i).flatten)
  | 0, i, k, l, h, hk, hl => by
    obtain ⟨k, rfl⟩ : ∃ m, k = m + 1 := ⟨k - 1, by omega⟩
    rw [rlp_Join.l1, if_neg (by omega), List.drop_of_length_le (by omega)]; simp
  | d + 1, i, k, l, h, hk, hl => by
    obtain ⟨k, rfl⟩ : ∃ m, k = m + 1 := ⟨k - 1, by omega⟩
    have h1 : i < a.length := by omega
    rw [sumL_drop h1] at hl
    rw [rlp_Join.l1, if_pos h1, List.getElem?_eq_getElem h1, Option.bind_some, if_pos (by omega), join_app a ha d (i + 1) k _ (by omega) (by omega) (by rw [List.length_append]; omega), flat_drop h1, List.append_assoc]
def joinR (a : List (List (BitVec 8))) : List (BitVec 8) × Nat := if 16777216 < (headB 192 (sumL a)).length + sumL a then ([], 2) else (headB 192 (sumL a) ++ a.flatten, 0)
theorem join_eq (a : List (List (BitVec 8))) (ha : sumL a ≤ 16777216) : rlp_Join a = some (joinR a) := by
  have hh := headB_length (c := 192) (n := sumL a) (by omega)
  unfold rlp_Join joinR
  rw [join_sum a ha a.length 0 _ 0 (by omega) (by omega) (by rw [List.drop_zero]; omega), Option.bind_some]
  dsimp only
  rw [show (192#8 : BitVec 8) = BitVec.ofNat 8 192 by rfl, head_spec 192 _ (by omega), Option.bind_some, if_pos (by omega)]
  by_cases h : 16777216 < (headB 192 (sumL a)).length + sumL a
  · rw [if_pos h, if_pos h]
  · rw [if_neg h, if_neg h, join_app a ha a.length 0 _ _ (by omega) (by omega) (by rw [List.drop_zero]; omega), List.drop_zero, Option.bind_some]
end Go.Fw
namespace Go.Fw
set_option linter.unusedVariables false
set_option linter.unusedSimpArgs false
set_option maxRecDepth 100000
theorem rjoin_sum (a : List (List (BitVec 8))) (ha : sumL a ≤ 16777216) : ∀ (d i k n : Nat), i + d = a.length → d < k → n + sumL (a.drop i) = sumL a → waybillref07_Join.l2 a k n i = some (sumL a)
  | 0, i, k, n, h, hk, hn => by
    obtain ⟨k, rfl⟩ : ∃ m, k = m + 1 := ⟨k - 1, by omega⟩
    rw [List.drop_of_length_le (by omega)] at hn
    have e : sumL [] = 0 := rfl
    rw [waybillref07_Join.l2, if_neg (by omega), show n = sumL a by omega]
  | d + 1, i, k, n, h, hk, hn => by
    obtain ⟨k, rfl⟩ : ∃ m, k = m + 1 := ⟨k - 1, by omega⟩
    have h1 : i < a.length := by omega
    rw [sumL_drop h1] at hn
    rw [waybillref07_Join.l2, if_pos h1, List.getElem?_eq_getElem h1, Option.bind_some, if_pos (by omega)]
    exact rjoin_sum a ha d (i + 1) k _ (by omega) (by omega) (by omega)
theorem rjoin_app (a : List (List (BitVec 8))) (ha : sumL a ≤ 16777216) : ∀ (d i k : Nat) (l : List (BitVec 8)), i + d = a.length → d < k → l.length + sumL (a.drop i) ≤ 16777216 + 16777216 → waybillref07_Join.l1 a k l i = some (l ++ (a.drop i).flatten)
  | 0, i, k, l, h, hk, hl => by
    obtain ⟨k, rfl⟩ : ∃ m, k = m + 1 := ⟨k - 1, by omega⟩
    rw [waybillref07_Join.l1, if_neg (by omega), List.drop_of_length_le (by omega)]; simp
  | d + 1, i, k, l, h, hk, hl => by
    obtain ⟨k, rfl⟩ : ∃ m, k = m + 1 := ⟨k - 1, by omega⟩
    have h1 : i < a.length := by omega
    rw [sumL_drop h1] at hl
    rw [waybillref07_Join.l1, if_pos h1, List.getElem?_eq_getElem h1, Option.bind_some, if_pos (by omega), rjoin_app a ha d (i + 1) k _ (by omega) (by omega) (by rw [List.length_append]; omega), flat_drop h1, List.append_assoc]
theorem rjoin_eq (a : List (List (BitVec 8))) (ha : sumL a ≤ 16777216) : waybillref07_Join a = some (joinR a) := by
  have hh := headB_length (c := 192) (n := sumL a) (by omega)
  unfold waybillref07_Join joinR
  rw [rjoin_sum a ha a.length 0 _ 0 (by omega) (by omega) (by rw [List.drop_zero]; omega), Option.bind_some, before_spec 192 _ (by omega) (by omega), Option.bind_some, if_pos (by omega)]
  by_cases h : 16777216 < (headB 192 (sumL a)).length + sumL a
  · rw [if_pos h, if_pos h]
  · rw [if_neg h, if_neg h, rjoin_app a ha a.length 0 _ _ (by omega) (by omega) (by rw [List.drop_zero]; omega), List.drop_zero, Option.bind_some]
theorem joins_make (a : List (List (BitVec 8))) (h1 : a.length * 24 ≤ 140737488351232) (h2 : ∀ x ∈ a, x.length ≤ 140737488351232) : ∀ (d i k : Nat) (l : List (List (BitVec 8))), i + d = a.length → d < k → l = a.take i → waybilllaw07_RlpJoins.l2 a k l i = some a
  | 0, i, k, l, h, hk, hl => by
    obtain ⟨k, rfl⟩ : ∃ m, k = m + 1 := ⟨k - 1, by omega⟩
    rw [waybilllaw07_RlpJoins.l2, if_neg (by omega), hl, List.take_of_length_le (by omega)]
  | d + 1, i, k, l, h, hk, hl => by
    obtain ⟨k, rfl⟩ : ∃ m, k = m + 1 := ⟨k - 1, by omega⟩
    have h3 : i < a.length := by omega
    have h4 := h2 a[i] (List.getElem_mem h3)
    have h5 : l.length = i := by rw [hl, List.length_take]; omega
    rw [waybilllaw07_RlpJoins.l2, if_pos h3, List.getElem?_eq_getElem h3, Option.bind_some, waybilllaw07_roomy, if_pos (by omega), Option.bind_some, if_pos (by simp only [List.length_cons, List.length_nil]; omega)]
    exact joins_make a h1 h2 d (i + 1) k _ (by omega) (by omega) (by rw [List.take_add_one, List.getElem?_eq_getElem h3, hl]; rfl)
theorem joins_spared (a : List (List (BitVec 8))) : ∀ (d i k : Nat), i + d = a.length → d < k → waybilllaw07_RlpJoins.l1 a k i = some (Lp.go ())
  | 0, i, k, h, hk => by
    obtain ⟨k, rfl⟩ : ∃ m, k = m + 1 := ⟨k - 1, by omega⟩
    rw [waybilllaw07_RlpJoins.l1, if_neg (by omega)]
  | d + 1, i, k, h, hk => by
    obtain ⟨k, rfl⟩ : ∃ m, k = m + 1 := ⟨k - 1, by omega⟩
    have h3 : i < a.length := by omega
    rw [waybilllaw07_RlpJoins.l1, if_pos h3, List.getElem?_eq_getElem h3, Option.bind_some, waybilllaw07_spared, Option.bind_some, if_pos rfl]
    exact joins_spared a d (i + 1) k (by omega) (by omega)
theorem joins_law (a : List (List (BitVec 8))) (h1 : a.length * 24 ≤ 140737488351232) (h2 : ∀ x ∈ a, x.length ≤ 140737488351232) (ha : sumL a ≤ 16777216) : waybilllaw07_RlpJoins a = some true := by
  unfold waybilllaw07_RlpJoins
  rw [joins_make a h1 h2 a.length 0 _ _ (by omega) (by omega) (by simp), Option.bind_some, if_pos (by simp only [List.length_cons, List.length_nil]; omega), if_pos rfl, join_eq a ha, Option.bind_some]
  try dsimp only
  rw [rjoin_eq a ha, Option.bind_some]
  try dsimp only
  have hx : ((a ++ [[164#8]]).take (a.length + 1))[a.length]? = some [164#8] := by
    rw [List.getElem?_take, if_pos (by omega), List.getElem?_append_right (by omega)]; simp
  rw [waybilllaw07_num, Option.bind_some]
  rw [if_pos rfl, same_eq, Option.bind_some, if_pos (by simp), alike_eq, Option.bind_some, Option.bind_some, if_neg (by simp), joins_spared a a.length 0 _ (by omega) (by omega), Option.bind_some]
  try dsimp only
  rw [if_pos (by simp), hx, Option.bind_some, same_eq, Option.bind_some]
  simp
theorem bulk_bss {H : Type} (ub : DataW H → Nat) (uba : List (DataW H) → Nat) (h0 : uba [] = 0) (h1 : ∀ d r, uba (d :: r) = ub d + uba r) (h2 : ∀ el sp, ub (.slice el sp) = uba el + uba sp + 1) (hp : ∀ d : DataW H, 1 ≤ ub d)
    {d : DataW H} {el sp : List (DataW H)} (he : Els d el sp) {xs : List (List (BitVec 8))} (hl : el.length = xs.length) (hx : ∀ (i : Nat) x d, xs[i]? = some x → el[i]? = some d → ∃ el2 sp2, Els d el2 sp2 ∧ el2.length = x.length) : sumL xs ≤ ub d := by
  have hlen : ∀ l : List (DataW H), l.length ≤ uba l := fun l => by
    induction l with
    | nil => simp
    | cons x r ih => rw [h1]; have := hp x; simp; omega
  have key : ∀ (el : List (DataW H)) (xs : List (List (BitVec 8))), el.length = xs.length → (∀ (i : Nat) x d, xs[i]? = some x → el[i]? = some d → ∃ el2 sp2, Els d el2 sp2 ∧ el2.length = x.length) → sumL xs ≤ uba el := by
    intro el
    induction el with
    | nil => intro xs hl _; cases xs with | nil => exact Nat.zero_le _ | cons _ _ => simp at hl
    | cons d r ih =>
      intro xs hl hx
      cases xs with
      | nil => exact Nat.zero_le _
      | cons x xs =>
        have h3 := ih xs (by simpa using hl) (fun i y e hy he => hx (i + 1) y e (by simpa using hy) (by simpa using he))
        obtain ⟨el2, sp2, h4, h5⟩ := hx 0 x d rfl rfl
        rw [sumL_cons, h1]
        have : x.length ≤ ub d := by
          rcases h4 with ⟨_, rfl, _⟩ | rfl
          · simp at h5; omega
          · rw [h2]; have := hlen el2; omega
        omega
  have h3 := key el xs hl hx
  rcases he with ⟨_, rfl, _⟩ | rfl
  · have : xs = [] := List.length_eq_zero_iff.1 (by simpa using hl.symm)
    subst this
    exact Nat.zero_le _
  · rw [h2]; omega
end Go.Fw
