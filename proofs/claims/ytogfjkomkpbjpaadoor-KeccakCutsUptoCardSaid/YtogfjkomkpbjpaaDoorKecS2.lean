/- Part of a proof over YtogfjkomkpbjpaaDoor: rules and contracts that the law's text uses. No condition. -/
import Derived.Test.YtogfjkomkpbjpaaDoorKecS1
namespace Go.Fw
set_option linter.unusedVariables false
set_option linter.unusedSimpArgs false
set_option maxRecDepth 10000
theorem filled_loop : ∀ (d k : Nat) (l : List (BitVec 8)), (l.length + d) % 136 = 0 → d < 136 → d < k → l.length + d ≤ 140737488355328 → waybillref02_filled.l1 k l = some (l ++ List.replicate d 0#8)
  | 0, k, l, h, hd, hk, hb => by
    obtain ⟨k, rfl⟩ : ∃ m, k = m + 1 := ⟨k - 1, by omega⟩
    rw [waybillref02_filled.l1, if_pos (by omega)]
    simp
  | d + 1, k, l, h, hd, hk, hb => by
    obtain ⟨k, rfl⟩ : ∃ m, k = m + 1 := ⟨k - 1, by omega⟩
    rw [waybillref02_filled.l1, if_neg (by omega), if_pos (by simp; omega), filled_loop d k _ (by simp; omega) (by omega) (by omega) (by simp; omega), List.append_assoc, List.replicate_succ]
    rfl
theorem padB_len (r : List (BitVec 8)) (f : BitVec 8) (h : r.length ≤ 135) : (padB r f).length = 136 := by unfold padB; simp; omega
theorem filled_eq (t : List (BitVec 8)) (f : BitVec 8) (ht : t.length + 137 ≤ 140737488355328) : waybillref02_filled t f = some (t.take (136 * (t.length / 136)) ++ padB (t.drop (136 * (t.length / 136))) f) := by
  have hm : t.length % 136 < 136 := Nat.mod_lt _ (by decide)
  have hq : t.length = 136 * (t.length / 136) + t.length % 136 := (Nat.div_add_mod _ _).symm
  have hr : (t.drop (136 * (t.length / 136))).length = t.length % 136 := by rw [List.length_drop]; omega
  have hlen : (t ++ [f]).length = t.length + 1 := by simp
  unfold waybillref02_filled
  rw [if_pos (by simp; omega), filled_loop (135 - t.length % 136) 140 (t ++ [f]) (by omega) (by omega) (by omega) (by omega), Option.bind_some]
  have hL : t ++ [f] ++ List.replicate (135 - t.length % 136) 0#8 = t.take (136 * (t.length / 136)) ++ (t.drop (136 * (t.length / 136)) ++ f :: List.replicate (135 - t.length % 136) 0#8) := by
    rw [← List.append_assoc, List.take_append_drop, List.append_assoc]
    rfl
  have hLl : (t ++ [f] ++ List.replicate (135 - t.length % 136) 0#8).length = 136 * (t.length / 136) + 136 := by simp; omega
  have hi : ((((t ++ [f] ++ List.replicate (135 - t.length % 136) 0#8).length : Nat) : Int) - (1 : Int)).toNat = 136 * (t.length / 136) + 135 := by rw [hLl]; omega
  have htk : (t.take (136 * (t.length / 136))).length = 136 * (t.length / 136) := by rw [List.length_take]; omega
  have hx : (t ++ [f] ++ List.replicate (135 - t.length % 136) 0#8)[136 * (t.length / 136) + 135]? = some (if t.length % 136 = 135 then f else 0#8) := by
    rw [hL, List.getElem?_append_right (by omega), htk, show 136 * (t.length / 136) + 135 - 136 * (t.length / 136) = 135 by omega, List.getElem?_append_right (by omega), hr]
    by_cases c : t.length % 136 = 135
    · rw [if_pos c, c]; rfl
    · rw [if_neg c]
      obtain ⟨j, hj⟩ : ∃ j, 135 - t.length % 136 = j + 1 := ⟨135 - t.length % 136 - 1, by omega⟩
      rw [hj, List.getElem?_cons_succ, List.getElem?_replicate, if_pos (by omega)]
  rw [if_pos (by omega), hi, hx, Option.bind_some, Option.bind_some, hL, List.set_append_right _ _ (by omega), htk, show 136 * (t.length / 136) + 135 - 136 * (t.length / 136) = 135 by omega]
  unfold padB
  rw [hr]
theorem rin_loop (F : List (BitVec 8)) (n : Nat) (hn : n + 136 ≤ F.length) : ∀ (d i k : Nat) (w : V25), i + d = 136 → d < k → waybillref02_Digest.l3 F n k i w = some (xin ((F.drop n).take 136) d i w)
  | 0, i, k, w, h, hk => by
    obtain ⟨k, rfl⟩ : ∃ m, k = m + 1 := ⟨k - 1, by omega⟩
    rw [waybillref02_Digest.l3, if_neg (by omega)]
    rfl
  | d + 1, i, k, w, h, hk => by
    obtain ⟨k, rfl⟩ : ∃ m, k = m + 1 := ⟨k - 1, by omega⟩
    have h2 : i / 8 < 25 := by omega
    have h3 : n + i < F.length := by omega
    have h4 : ((F.drop n).take 136)[i]? = some F[n + i] := by rw [List.getElem?_take, if_pos (by omega), List.getElem?_drop, List.getElem?_eq_getElem h3]
    have h5 : (BitVec.ofNat 64 (8 * (i % 8))).toNat = 8 * (i % 8) := by rw [BitVec.toNat_ofNat]; omega
    rw [waybillref02_Digest.l3, if_pos (by omega), if_pos h2, Vector.getElem?_eq_getElem h2, Option.bind_some, List.getElem?_eq_getElem h3, Option.bind_some, rin_loop F n hn d (i + 1) k _ (by omega) (by omega), h5]
    simp only [xin, h4, Vector.getElem?_eq_getElem h2, Option.getD_some]
theorem rblk_loop (F : List (BitVec 8)) : ∀ (d j k : Nat) (w : V25), 136 * (j + d) = F.length → d < k → waybillref02_Digest.l2 F k (136 * j) w = some (soak d (F.drop (136 * j)) w)
  | 0, j, k, w, h, hk => by
    obtain ⟨k, rfl⟩ : ∃ m, k = m + 1 := ⟨k - 1, by omega⟩
    rw [waybillref02_Digest.l2, if_neg (by omega)]
    rfl
  | d + 1, j, k, w, h, hk => by
    obtain ⟨k, rfl⟩ : ∃ m, k = m + 1 := ⟨k - 1, by omega⟩
    rw [waybillref02_Digest.l2, if_pos (by omega), rin_loop F _ (by omega) 136 0 (136 - 0 + 2) w (by omega) (by omega), Option.bind_some, perm_eq, Option.bind_some, show 136 * j + 136 = 136 * (j + 1) by omega, rblk_loop F d (j + 1) k _ (by omega) (by omega), soak, List.drop_drop, show 136 * j + 136 = 136 * (j + 1) by omega]
    rfl
theorem rsq_loop (x : V25) : ∀ (d i k : Nat) (w : Vector (BitVec 8) 32), i + d = 32 → d < k → waybillref02_Digest.l1 x k i w = some (sq x d i w)
  | 0, i, k, w, h, hk => by
    obtain ⟨k, rfl⟩ : ∃ m, k = m + 1 := ⟨k - 1, by omega⟩
    rw [waybillref02_Digest.l1, if_neg (by omega)]
    rfl
  | d + 1, i, k, w, h, hk => by
    obtain ⟨k, rfl⟩ : ∃ m, k = m + 1 := ⟨k - 1, by omega⟩
    have h2 : i / 8 < 25 := by omega
    have h5 : (BitVec.ofNat 64 (8 * (i % 8))).toNat = 8 * (i % 8) := by rw [BitVec.toNat_ofNat]; omega
    rw [waybillref02_Digest.l1, if_pos (by omega), if_pos h2, Vector.getElem?_eq_getElem h2, Option.bind_some, rsq_loop x d (i + 1) k _ (by omega) (by omega), h5]
    simp only [sq, Vector.getElem?_eq_getElem h2, Option.getD_some]
theorem rdigest_eq (t : List (BitVec 8)) (f : BitVec 8) (ht : t.length + 137 ≤ 140737488355328) : waybillref02_Digest t f = some (digestR t f) := by
  have hm : t.length % 136 < 136 := Nat.mod_lt _ (by decide)
  have hq : t.length = 136 * (t.length / 136) + t.length % 136 := (Nat.div_add_mod _ _).symm
  have hr : (t.drop (136 * (t.length / 136))).length = t.length % 136 := by rw [List.length_drop]; omega
  have htk : (t.take (136 * (t.length / 136))).length = 136 * (t.length / 136) := by rw [List.length_take]; omega
  have hp := padB_len (t.drop (136 * (t.length / 136))) f (by omega)
  unfold waybillref02_Digest
  rw [filled_eq t f ht, Option.bind_some]
  generalize hF : t.take (136 * (t.length / 136)) ++ padB (t.drop (136 * (t.length / 136))) f = F
  have hFl : F.length = 136 * (t.length / 136 + 1) := by rw [← hF, List.length_append, htk, hp]; omega
  have h2 := rblk_loop F (t.length / 136 + 1) 0 (F.length - 0 + 2) zeroV (by omega) (by omega)
  rw [Nat.mul_zero, List.drop_zero] at h2
  have h2' : waybillref02_Digest.l2 F (F.length - 0 + 2) 0 (Vector.replicate 25 0#64) = some (soak (t.length / 136 + 1) F zeroV) := h2
  rw [h2', Option.bind_some, rsq_loop _ 32 0 (32 - 0 + 2) _ (by omega) (by omega), Option.bind_some, soak_snoc]
  have h3 : (F.drop (136 * (t.length / 136))).take 136 = padB (t.drop (136 * (t.length / 136))) f := by
    rw [← hF, List.drop_left' htk, List.take_of_length_le (by omega)]
  have h4 : soak (t.length / 136) F zeroV = soak (t.length / 136) t zeroV := soak_congr _ _ _ _ (by rw [← hF, List.take_left' htk])
  rw [h3, h4]
  rfl
theorem joined_loop (a : List (List (BitVec 8))) : ∀ (d i k : Nat) (l : List (BitVec 8)), i + d = a.length → d < k → l.length + (a.drop i).flatten.length ≤ 140737488355328 → waybillref02_joined.l1 a k l i = some (l ++ (a.drop i).flatten)
  | 0, i, k, l, h, hk, hb => by
    obtain ⟨k, rfl⟩ : ∃ m, k = m + 1 := ⟨k - 1, by omega⟩
    rw [waybillref02_joined.l1, if_neg (by omega), List.drop_eq_nil_of_le (by omega)]
    simp
  | d + 1, i, k, l, h, hk, hb => by
    obtain ⟨k, rfl⟩ : ∃ m, k = m + 1 := ⟨k - 1, by omega⟩
    have h1 : i < a.length := by omega
    rw [List.drop_eq_getElem_cons h1, List.flatten_cons, List.length_append] at hb
    rw [waybillref02_joined.l1, if_pos h1, List.getElem?_eq_getElem h1, Option.bind_some, if_pos (by omega), joined_loop a d (i + 1) k _ (by omega) (by omega) (by rw [List.length_append]; omega), List.drop_eq_getElem_cons h1, List.flatten_cons, List.append_assoc]
theorem joined_eq (a : List (List (BitVec 8))) (hb : a.flatten.length ≤ 140737488355328) : waybillref02_joined a = some a.flatten := by
  unfold waybillref02_joined
  rw [joined_loop a a.length 0 (a.length - 0 + 2) [] (by omega) (by omega) (by rw [List.drop_zero, List.length_nil]; omega), Option.bind_some, List.drop_zero, List.nil_append]
theorem rsum_eq (a : List (List (BitVec 8))) (hb : a.flatten.length + 137 ≤ 140737488355328) : waybillref02_Sum a = some (digestR a.flatten 1#8) := by
  unfold waybillref02_Sum
  rw [joined_eq a (by omega), Option.bind_some, rdigest_eq _ _ hb, Option.bind_some]
end Go.Fw
