/- Part of a proof: rules that its law uses. -/
import Derived.Test.YtpkcehpoohmbfaaDoorRlpI1
import Derived.Test.YtpkcehpoohmbfaaDoorRlpQs
namespace Go.Fw
set_option linter.unusedVariables false
set_option linter.unusedSimpArgs false
set_option maxRecDepth 100000
theorem Its.len_wt : ∀ l : List It, l.length ≤ Its.wt l
  | [] => by simp
  | x :: l => by
    have := Its.len_wt l
    have := It.wt_eq x
    simp only [Its.wt, List.length_cons]; omega
theorem Its.wt_items {l : List It} {x : It} (h : x ∈ l) : Its.wt x.items ≤ Its.wt l := by
  have := Its.wt_mem h
  have := It.wt_eq x
  omega
theorem Its.sz_items {l : List It} {x : It} (h : x ∈ l) : Its.sz x.items < Its.sz l := by
  have := Its.sz_mem h
  have := It.sz_eq x
  omega
theorem copy_loop (a : List It) (rc : List It → Option (List It)) (ha : a.length ≤ 2147483647) (hrc : ∀ x ∈ a, rc x.items = some x.items) : ∀ (d i k : Nat) (l : List It), i + d = a.length → d < k → l = a.take i → waybillref07_Copy.l1 a rc k l i = some a
  | 0, i, k, l, h, hk, hl => by
    obtain ⟨k, rfl⟩ : ∃ m, k = m + 1 := ⟨k - 1, by omega⟩
    rw [waybillref07_Copy.l1, if_neg (by omega), hl, List.take_of_length_le (by omega)]
  | d + 1, i, k, l, h, hk, hl => by
    obtain ⟨k, rfl⟩ : ∃ m, k = m + 1 := ⟨k - 1, by omega⟩
    have h1 : i < a.length := by omega
    have h5 : l.length = i := by rw [hl, List.length_take]; omega
    rw [waybillref07_Copy.l1, if_pos h1, List.getElem?_eq_getElem h1, Option.bind_some, waybillref07_bytes, Option.bind_some, hrc _ (List.getElem_mem h1), Option.bind_some, if_pos (by simp only [List.length_cons, List.length_nil]; omega), ← It.eta]
    exact copy_loop a rc ha hrc d (i + 1) k _ (by omega) (by omega) (by rw [List.take_add_one, List.getElem?_eq_getElem h1, hl]; rfl)
theorem copy_r : ∀ (k : Nat) (a : List It), Its.sz a < k → Its.wt a ≤ 2147483647 → waybillref07_Copy.r k a = some a
  | 0, a, h, _ => by omega
  | k + 1, a, h, hw => by
    rw [waybillref07_Copy.r, copy_loop a _ (by have := Its.len_wt a; omega) (fun x hx => copy_r k x.items (by have := Its.sz_items hx; omega) (by have := Its.wt_items hx; omega)) a.length 0 _ _ (by omega) (by omega) (by simp), Option.bind_some]
theorem copy_eq {a : List It} (h : Its.wt a ≤ 2147483647) : waybillref07_Copy a = some a := copy_r _ a (by omega) h
theorem twin_loop (a : List It) (rc : List It → Option (List It)) (ha : a.length ≤ 2147483647) (hrc : ∀ x ∈ a, rc x.items = some x.items) : ∀ (d i k : Nat) (l : List It), i + d = a.length → d < k → l = a.take i → rlp_twin.l1 a rc k l i = some a
  | 0, i, k, l, h, hk, hl => by
    obtain ⟨k, rfl⟩ : ∃ m, k = m + 1 := ⟨k - 1, by omega⟩
    rw [rlp_twin.l1, if_neg (by omega), hl, List.take_of_length_le (by omega)]
  | d + 1, i, k, l, h, hk, hl => by
    obtain ⟨k, rfl⟩ : ∃ m, k = m + 1 := ⟨k - 1, by omega⟩
    have h1 : i < a.length := by omega
    have h5 : l.length = i := by rw [hl, List.length_take]; omega
    rw [rlp_twin.l1, if_pos h1, List.getElem?_eq_getElem h1, Option.bind_some, rlp_clone, Option.bind_some, hrc _ (List.getElem_mem h1), Option.bind_some, if_pos (by simp only [List.length_cons, List.length_nil]; omega), ← It.eta]
    exact twin_loop a rc ha hrc d (i + 1) k _ (by omega) (by omega) (by rw [List.take_add_one, List.getElem?_eq_getElem h1, hl]; rfl)
theorem twin_r : ∀ (k : Nat) (a : List It), Its.sz a < k → Its.wt a ≤ 2147483647 → rlp_twin.r k a = some a
  | 0, a, h, _ => by omega
  | k + 1, a, h, hw => by
    rw [rlp_twin.r, twin_loop a _ (by have := Its.len_wt a; omega) (fun x hx => twin_r k x.items (by have := Its.sz_items hx; omega) (by have := Its.wt_items hx; omega)) a.length 0 _ _ (by omega) (by omega) (by simp), Option.bind_some]
theorem twin_eq {a : List It} (h : Its.wt a ≤ 2147483647) : rlp_twin a = some a := twin_r _ a (by omega) h
theorem Same_data (x : It) : ∀ (d i k : Nat), i + d = x.data.length → d < k → waybillref07_Same.l2 x x k i = some (Lp.go ())
  | 0, i, k, h, hk => by
    obtain ⟨k, rfl⟩ : ∃ m, k = m + 1 := ⟨k - 1, by omega⟩
    rw [waybillref07_Same.l2, if_neg (by omega)]
  | d + 1, i, k, h, hk => by
    obtain ⟨k, rfl⟩ : ∃ m, k = m + 1 := ⟨k - 1, by omega⟩
    have h1 : i < x.data.length := by omega
    rw [waybillref07_Same.l2, if_pos h1, List.getElem?_eq_getElem h1, Option.bind_some, Option.bind_some, if_pos rfl]
    exact Same_data x d (i + 1) k (by omega) (by omega)
theorem Same_items (x : It) (rc : It → It → Option Bool) (hrc : ∀ y ∈ x.items, rc y y = some true) : ∀ (d i k : Nat), i + d = x.items.length → d < k → waybillref07_Same.l1 x x rc k i = some (Lp.go ())
  | 0, i, k, h, hk => by
    obtain ⟨k, rfl⟩ : ∃ m, k = m + 1 := ⟨k - 1, by omega⟩
    rw [waybillref07_Same.l1, if_neg (by omega)]
  | d + 1, i, k, h, hk => by
    obtain ⟨k, rfl⟩ : ∃ m, k = m + 1 := ⟨k - 1, by omega⟩
    have h1 : i < x.items.length := by omega
    rw [waybillref07_Same.l1, if_pos h1, List.getElem?_eq_getElem h1, Option.bind_some, Option.bind_some, hrc _ (List.getElem_mem h1), Option.bind_some, if_pos rfl]
    exact Same_items x rc hrc d (i + 1) k (by omega) (by omega)
theorem Same_r : ∀ (k : Nat) (x : It), x.sz < k → waybillref07_Same.r k x x = some true
  | 0, x, h => by omega
  | k + 1, x, h => by
    rw [waybillref07_Same.r, if_pos rfl, if_pos rfl, Option.bind_some, if_neg (by simp), Same_data x x.data.length 0 _ (by omega) (by omega), Option.bind_some]
    try dsimp only
    rw [Same_items x _ (fun y hy => Same_r k y (by have := Its.sz_mem hy; have := It.sz_eq x; omega)) x.items.length 0 _ (by omega) (by omega), Option.bind_some]
theorem Same_refl (x : It) : waybillref07_Same x x = some true := Same_r _ x (by omega)
theorem items_refl (l : List It) : waybilllaw07_items l l = some true := by
  unfold waybilllaw07_items; rw [Same_refl, Option.bind_some]
theorem number_eq (v : Vector (BitVec 64) 4) : rlp_Number v = some (.mk false (bytesN (val4 v)) []) := by unfold rlp_Number; rw [bytes_eq, Option.bind_some]
theorem rnumber_eq (v : Vector (BitVec 64) 4) : waybillref07_Number v = some (.mk false (bytesN (val4 v)) []) := by unfold waybillref07_Number; rw [rbytes_eq, Option.bind_some]
theorem small_eq (x : BitVec 64) : rlp_Small x = some (.mk false (bytesN (val4 (lim x.toNat))) []) := by unfold rlp_Small; rw [from_eq, Option.bind_some, number_eq, Option.bind_some]
theorem rsmall_eq (x : BitVec 64) : waybillref07_Small x = some (.mk false (bytesN (val4 (lim x.toNat))) []) := by unfold waybillref07_Small; rw [rfrom_eq, Option.bind_some, rnumber_eq, Option.bind_some]
theorem text_eq (x : List (BitVec 8)) : rlp_Text x = some (.mk false x []) := by unfold rlp_Text; rw [rlp_clone, Option.bind_some]
theorem rtext_eq (x : List (BitVec 8)) : waybillref07_Text x = some (.mk false x []) := by unfold waybillref07_Text; rw [waybillref07_bytes, Option.bind_some]
theorem list_eq {l : List It} (h : Its.wt l ≤ 2147483647) : rlp_List l = some (.mk true [] l) := by unfold rlp_List; rw [twin_eq h, Option.bind_some]
theorem rlist_eq {l : List It} (h : Its.wt l ≤ 2147483647) : waybillref07_List l = some (.mk true [] l) := by unfold waybillref07_List; rw [copy_eq h, Option.bind_some]
theorem makes_law (a0 : List (BitVec 8)) (a1 : Vector (BitVec 64) 4) (a2 : List It) (h0 : a0.length ≤ 140737488351232) (h2 : Its.lens a2) (h3 : a2.length ≤ 140737488355328) : waybilllaw07_RlpMakes a0 a1 a2 = some true := by
  unfold waybilllaw07_RlpMakes
  obtain ⟨b, e1, e2⟩ := beyond_ok (.mk true [] a2) (by simp only [It.lens]; exact ⟨by simp, h3, h2⟩)
  rw [e1, Option.bind_some]
  by_cases hb : b = true
  · rw [if_pos hb]
  have hw := e2 (by simpa using hb)
  simp only [It.wt, List.length_nil] at hw
  have hw2 : Its.wt a2 ≤ 2147483647 := by omega
  have hl := Its.len_wt a2
  rw [if_neg hb, waybilllaw07_roomy, if_pos (by omega), Option.bind_some, copy_eq hw2, Option.bind_some, if_pos (by simp only [List.length_cons, List.length_nil]; omega), if_pos (by simp)]
  rw [text_eq, Option.bind_some, rtext_eq, Option.bind_some, Same_refl, Option.bind_some, if_pos rfl, number_eq, Option.bind_some, rnumber_eq, Option.bind_some, Same_refl, Option.bind_some, if_pos rfl, small_eq, Option.bind_some, rsmall_eq, Option.bind_some, Same_refl, Option.bind_some, Option.bind_some, if_neg (by simp)]
  have ht : (a2 ++ [It.mk false [164#8] []]).take a2.length = a2 := by rw [List.take_left]
  have hx : ((a2 ++ [It.mk false [164#8] []]).take (a2.length + 1))[a2.length]? = some (It.mk false [164#8] []) := by
    rw [List.getElem?_take, if_pos (by omega), List.getElem?_append_right (by omega)]; simp
  rw [ht, list_eq hw2, Option.bind_some, rlist_eq hw2, Option.bind_some, Same_refl, Option.bind_some, if_pos rfl, same_eq, Option.bind_some, if_pos (by simp), waybilllaw07_spared, Option.bind_some, if_pos rfl, items_refl, Option.bind_some, Option.bind_some, if_pos rfl, if_pos (by simp), hx, Option.bind_some, It.data, same_eq, Option.bind_some, Option.bind_some]
  simp
end Go.Fw
