/- Part of a proof: rules that its law uses. -/
import Derived.Test.YtpkcehpoohmbfaaDoorRlpTs
import Derived.Test.YtpkcehpoohmbfaaDoorKecSs
import Derived.Test.YtpkcehpoohmbfaaDoorAddP1
namespace Go.Fw
set_option linter.unusedVariables false
set_option linter.unusedSimpArgs false
set_option maxRecDepth 10000
def lastV (h : Vector (BitVec 8) 32) : Vector (BitVec 8) 20 := Vector.ofFn fun i => h[12 + i.val]
theorem last_eq (h : Vector (BitVec 8) 32) : address_last h = some (lastV h) := by
  unfold address_last
  obtain ⟨x, hx⟩ := toVec_some (n := 20) (l := h.toList.drop 12) (by rw [List.length_drop, Vector.length_toList]; omega)
  rw [if_pos (by decide), hx, Option.bind_some]
  refine congrArg some ?_
  refine Vector.ext fun i hi => ?_
  have h1 := (toVec_list hx).1
  have h2 : x.toList[i]? = some x[i] := by rw [Vector.getElem?_toList, Vector.getElem?_eq_getElem hi]
  rw [h1, List.getElem?_take, if_pos hi, List.getElem?_drop, Vector.getElem?_toList, Vector.getElem?_eq_getElem (by omega)] at h2
  rw [← Option.some.inj h2]
  simp [lastV]
theorem rlast_loop (h : Vector (BitVec 8) 32) : ∀ (d n k : Nat) (w : Vector (BitVec 8) 20), n + d = 20 → d < k → ∃ w', waybillref09_last.l1 h k n w = some w' ∧ ∀ (i : Nat) (hi : i < 20), w'[i] = if n ≤ i then h[12 + i] else w[i]
  | 0, n, k, w, hn, hk => by
    obtain ⟨k, rfl⟩ : ∃ m, k = m + 1 := ⟨k - 1, by omega⟩
    exact ⟨w, by rw [waybillref09_last.l1, if_neg (by omega)], fun i hi => by rw [if_neg (by omega)]⟩
  | d + 1, n, k, w, hn, hk => by
    obtain ⟨k, rfl⟩ : ∃ m, k = m + 1 := ⟨k - 1, by omega⟩
    obtain ⟨w', e1, e2⟩ := rlast_loop h d (n + 1) k (w.setIfInBounds n h[12 + n]) (by omega) (by omega)
    refine ⟨w', by rw [waybillref09_last.l1, if_pos (by omega), if_pos (by omega), Vector.getElem?_eq_getElem (by omega), Option.bind_some, e1], fun i hi => ?_⟩
    rw [e2 i hi, Vector.getElem_setIfInBounds]
    by_cases c : n = i
    · subst c
      rw [if_neg (by omega), if_pos rfl, if_pos (Nat.le_refl _)]
    · rw [if_neg c]
      by_cases c2 : n + 1 ≤ i
      · rw [if_pos c2, if_pos (by omega)]
      · rw [if_neg c2, if_neg (by omega)]
theorem rlast_eq (a : List (List (BitVec 8))) (ha : a.flatten.length + 137 ≤ 140737488355328) : waybillref09_last a = some (lastV (digestR a.flatten 1#8)) := by
  unfold waybillref09_last
  obtain ⟨w, e1, e2⟩ := rlast_loop (digestR a.flatten 1#8) 20 0 (20 - 0 + 2) (Vector.replicate 20 0#8) (by omega) (by omega)
  rw [rsum_eq a ha, Option.bind_some, e1, Option.bind_some]
  refine congrArg some ?_
  refine Vector.ext fun i hi => ?_
  rw [e2 i hi, if_pos (Nat.zero_le _)]
  simp [lastV]
theorem create_eq (a : Vector (BitVec 8) 20) (n : BitVec 64) : ∃ r, address_Create a n = some r ∧ waybillref09_Create a n = some r := by
  have hv : val4 (lim n.toNat) = n.toNat := val4_lim' n.isLt
  have hnb := nb_8 n.isLt
  generalize hx : It.mk true [] [It.mk false a.toList [], It.mk false (bytesN (val4 (lim n.toNat))) []] = x
  have hw : x.w9 ≤ 1000 := by
    rw [← hx]
    simp only [It.w9, Its.w9, List.length_nil, Vector.length_toList, bytesN_length, hv]
    omega
  have hg : x.good := by rw [← hx]; simp [It.good, Its.good]
  have hd : x.dep ≤ 1024 := by rw [← hx]; simp [It.dep, Its.dep]
  have hwt := It.wt_w9 x
  have h1 := encode_eq hg hd (by omega)
  obtain ⟨b, e, f1, f2⟩ := encodes_all x (by omega)
  rw [h1] at f1
  obtain ⟨rfl, rfl⟩ := Prod.mk.inj (Option.some.inj f1)
  have hle := It.enc_le x (by omega)
  have hwl : Its.wt [It.mk false a.toList [], It.mk false (bytesN (val4 (lim n.toNat))) []] ≤ 2147483647 := by
    have := It.wt_eq x
    rw [← hx] at this hwt hw
    simp only [It.items] at this
    omega
  refine ⟨lastV (digestR x.enc 1#8), ?_, ?_⟩
  · unfold address_Create
    rw [text_eq, Option.bind_some, small_eq, Option.bind_some, list_eq hwl, Option.bind_some, hx, h1, Option.bind_some]
    dsimp only
    rw [ksum_eq [x.enc] (by simp; omega), Option.bind_some, last_eq, Option.bind_some]
    simp
  · unfold waybillref09_Create
    rw [rtext_eq, Option.bind_some, rsmall_eq, Option.bind_some, rlist_eq hwl, Option.bind_some, hx, f2, Option.bind_some]
    dsimp only
    rw [rlast_eq [x.enc] (by simp; omega), Option.bind_some]
    simp
theorem create2_eq (a : Vector (BitVec 8) 20) (s : Vector (BitVec 8) 32) (c : List (BitVec 8)) (hc : c.length + 137 ≤ 140737488355328) : ∃ r, address_Create2 a s c = some r ∧ waybillref09_Create2 a s c = some r := by
  have hl : ∀ h : Vector (BitVec 8) 32, ([([255#8] : List (BitVec 8)), a.toList, s.toList, h.toList] : List (List (BitVec 8))).flatten.length = 85 := fun h => by simp
  refine ⟨lastV (digestR ([([255#8] : List (BitVec 8)), a.toList, s.toList, (digestR c 1#8).toList] : List (List (BitVec 8))).flatten 1#8), ?_, ?_⟩
  · unfold address_Create2
    rw [ksum_eq [c] (by simp; omega), Option.bind_some, show [c].flatten = c by simp, ksum_eq _ (by rw [hl]; omega), Option.bind_some, last_eq, Option.bind_some]
  · unfold waybillref09_Create2 waybillref02_Of
    rw [rdigest_eq c 1#8 hc, Option.bind_some, Option.bind_some, rlast_eq _ (by rw [hl]; omega), Option.bind_some]
theorem copied_loop (a : List (BitVec 8)) (ha : a.length ≤ 140737488355328) : ∀ (d i k : Nat) (l : List (BitVec 8)), i + d = a.length → d < k → l = a.take i → waybilllaw09_copied.l1 a k l i = some a
  | 0, i, k, l, h, hk, hl => by
    obtain ⟨k, rfl⟩ : ∃ m, k = m + 1 := ⟨k - 1, by omega⟩
    rw [waybilllaw09_copied.l1, if_neg (by omega), hl, List.take_of_length_le (by omega)]
  | d + 1, i, k, l, h, hk, hl => by
    obtain ⟨k, rfl⟩ : ∃ m, k = m + 1 := ⟨k - 1, by omega⟩
    have h1 : i < a.length := by omega
    have h3 : l.length ≤ i := by rw [hl, List.length_take]; omega
    rw [waybilllaw09_copied.l1, if_pos h1, List.getElem?_eq_getElem h1, Option.bind_some, if_pos (by simp only [List.length_cons, List.length_nil]; omega)]
    exact copied_loop a ha d (i + 1) k _ (by omega) (by omega) (by rw [hl, List.take_add_one, List.getElem?_eq_getElem h1]; rfl)
theorem copied_eq (a : List (BitVec 8)) (ha : a.length ≤ 140737488355328) : waybilllaw09_copied a = some a := by
  unfold waybilllaw09_copied
  rw [copied_loop a ha a.length 0 _ [] (by omega) (by omega) (by simp), Option.bind_some]
theorem lent_loop : ∀ (d i k : Nat) (l : List (BitVec 8)), i + d = 70 → d < k → l.length + d ≤ 140737488355328 → waybilllaw09_lent.l1 k l i = some (l ++ List.replicate d 165#8)
  | 0, i, k, l, h, hk, hl => by
    obtain ⟨k, rfl⟩ : ∃ m, k = m + 1 := ⟨k - 1, by omega⟩
    rw [waybilllaw09_lent.l1, if_neg (by omega)]
    simp
  | d + 1, i, k, l, h, hk, hl => by
    obtain ⟨k, rfl⟩ : ∃ m, k = m + 1 := ⟨k - 1, by omega⟩
    rw [waybilllaw09_lent.l1, if_pos (by omega), if_pos (by simp only [List.length_cons, List.length_nil]; omega), lent_loop d (i + 1) k _ (by omega) (by omega) (by simp only [List.length_append, List.length_cons, List.length_nil]; omega), List.append_assoc, List.replicate_succ]
    rfl
theorem lent_eq (a : List (BitVec 8)) (ha : a.length + 70 ≤ 140737488355328) : waybilllaw09_lent a = some a := by
  unfold waybilllaw09_lent
  rw [copied_eq a (by omega), Option.bind_some, lent_loop 70 0 (70 - 0 + 2) a (by omega) (by omega) (by omega), Option.bind_some, if_pos (by rw [List.length_append]; omega), if_pos (by rw [List.drop_left' rfl]), List.take_left' rfl]
theorem still_loop (a : List (BitVec 8)) : ∀ (d i k : Nat), i + d = a.length + 70 → d < k → waybilllaw09_still.l1 a a k i = some (Lp.go ())
  | 0, i, k, h, hk => by
    obtain ⟨k, rfl⟩ : ∃ m, k = m + 1 := ⟨k - 1, by omega⟩
    rw [waybilllaw09_still.l1, if_neg (by rw [List.length_take, List.length_append, List.length_replicate]; omega)]
  | d + 1, i, k, h, hk => by
    obtain ⟨k, rfl⟩ : ∃ m, k = m + 1 := ⟨k - 1, by omega⟩
    have hT : (a ++ List.replicate 70 165#8).take (a.length + 70) = a ++ List.replicate 70 165#8 := List.take_of_length_le (Nat.le_of_eq (by rw [List.length_append, List.length_replicate]))
    have hl : (a ++ List.replicate 70 165#8).length = a.length + 70 := by rw [List.length_append, List.length_replicate]
    rw [waybilllaw09_still.l1, hT, if_pos (by omega)]
    by_cases h1 : i < a.length
    · rw [if_pos h1, List.getElem?_append_left h1, List.getElem?_eq_getElem h1, Option.bind_some, Option.bind_some, if_pos rfl, if_neg (by omega), Option.bind_some, if_neg (by decide)]
      exact still_loop a d (i + 1) k (by omega) (by omega)
    · have h2 : (a ++ List.replicate 70 165#8)[i]? = some 165#8 := by rw [List.getElem?_append_right (by omega), List.getElem?_replicate, if_pos (by omega)]
      rw [if_neg h1, if_pos (by omega), h2, Option.bind_some, Option.bind_some, if_neg (by decide)]
      exact still_loop a d (i + 1) k (by omega) (by omega)
theorem still_eq (a : List (BitVec 8)) : waybilllaw09_still a a = some true := by
  have hT : (a ++ List.replicate 70 165#8).take (a.length + 70) = a ++ List.replicate 70 165#8 := List.take_of_length_le (Nat.le_of_eq (by rw [List.length_append, List.length_replicate]))
  have hl : (a ++ List.replicate 70 165#8).length = a.length + 70 := by rw [List.length_append, List.length_replicate]
  unfold waybilllaw09_still
  rw [if_pos rfl, if_pos (by omega), still_loop a (a.length + 70) 0 _ (by omega) (by rw [hT]; omega), Option.bind_some]
theorem turn_loop : ∀ (d i k : Nat) (l : List (BitVec 8)), i + d = l.length → d < k → ∃ l', waybilllaw09_AddressCreates.l1 k l i = some l' ∧ l'.length = l.length
  | 0, i, k, l, h, hk => by
    obtain ⟨k, rfl⟩ : ∃ m, k = m + 1 := ⟨k - 1, by omega⟩
    exact ⟨l, by rw [waybilllaw09_AddressCreates.l1, if_neg (by omega)], rfl⟩
  | d + 1, i, k, l, h, hk => by
    obtain ⟨k, rfl⟩ : ∃ m, k = m + 1 := ⟨k - 1, by omega⟩
    have h1 : i < l.length := by omega
    obtain ⟨l', e1, e2⟩ := turn_loop d (i + 1) k (l.set i (l[i] ^^^ 255#8)) (by rw [List.length_set]; omega) (by omega)
    exact ⟨l', by rw [waybilllaw09_AddressCreates.l1, if_pos h1, List.getElem?_eq_getElem h1, Option.bind_some, Option.bind_some, e1], by rw [e2, List.length_set]⟩
theorem creates_law (a : Vector (BitVec 8) 20) (n : BitVec 64) (s : Vector (BitVec 8) 32) (c : List (BitVec 8)) (hc : c.length + 137 ≤ 140737488355328) : waybilllaw09_AddressCreates a n s c = some true := by
  obtain ⟨r, e1, e2⟩ := create_eq a n
  obtain ⟨q, f1, f2⟩ := create2_eq a s c hc
  obtain ⟨l, g1, g2⟩ := turn_loop c.length 0 (c.length - 0 + 2) c (by omega) (by omega)
  obtain ⟨p, h1, h2⟩ := create2_eq a s l (by omega)
  unfold waybilllaw09_AddressCreates
  rw [lent_eq c (by omega), Option.bind_some, f1, Option.bind_some, e1, Option.bind_some, e2, Option.bind_some, if_pos rfl, f2, Option.bind_some, if_pos rfl, still_eq, Option.bind_some, Option.bind_some, if_neg (by decide), g1, Option.bind_some, h1, Option.bind_some, copied_eq l (by omega), Option.bind_some, h2, Option.bind_some, decide_eq_true rfl]
end Go.Fw
