/- Part of a proof over Ytgdohhccpghofaa: rules and contracts that the law's text uses. No condition. -/
import Derived.Test.YtgdohhccpghofaaRlpQ4
namespace Go.Fw
set_option linter.unusedVariables false
set_option linter.unusedSimpArgs false
set_option maxRecDepth 100000
/-! The head of so many bytes; joined parts. -/
def headB (c n : Nat) : List (BitVec 8) := if n ≤ 55 then [BitVec.ofNat 8 (c + n)] else BitVec.ofNat 8 (c + 55 + nb n) :: bytesN n
theorem bytesN_length (n : Nat) : (bytesN n).length = nb n := be_length _ _
theorem nb_8 {n : Nat} (h : n < 2 ^ 64) : nb n ≤ 8 := by have := bl_le (k := 64) h; unfold nb; omega
theorem headB_length {c n : Nat} (h : n < 2 ^ 64) : (headB c n).length ≤ 9 ∧ 0 < (headB c n).length := by
  unfold headB
  split
  · simp
  · rw [List.length_cons, bytesN_length]; have := nb_8 h; omega
theorem ofNat_toNat64 {n : Nat} (h : n < 2 ^ 64) : (BitVec.ofNat 64 n).toNat = n := by rw [BitVec.toNat_ofNat, Nat.mod_eq_of_lt h]
theorem head_spec (c n : Nat) (hn : n ≤ 9223372036854775807) : rlp_head (BitVec.ofNat 8 c) n = some (headB c n) := by
  unfold rlp_head headB
  by_cases h : n ≤ 55
  · rw [if_pos h, if_pos h, BitVec.ofNat_add]
  · have h64 : n < 2 ^ 64 := by omega
    have h8 := nb_8 h64
    rw [if_neg h, if_neg h, from_eq, Option.bind_some, bytes_eq, Option.bind_some, val4_lim' (BitVec.isLt _), ofNat_toNat64 h64, bytesN_length, if_pos (by simp only [List.length_cons, List.length_nil]; omega)]
    congr 1
    rw [List.singleton_append, BitVec.ofNat_add, BitVec.ofNat_add]
theorem before_spec (c n : Nat) (hc : c ≤ 255) (hn : n ≤ 9223372036854775807) : waybillref07_before n c = some (headB c n) := by
  unfold waybillref07_before headB
  by_cases h : n ≤ 55
  · rw [if_pos h, if_pos h, if_pos (by omega)]
  · have h64 : n < 2 ^ 64 := by omega
    have h8 := nb_8 h64
    rw [if_neg h, if_neg h, rfrom_eq, Option.bind_some, rbytes_eq, Option.bind_some, val4_lim' (BitVec.isLt _), ofNat_toNat64 h64, bytesN_length, if_pos (by omega), if_pos (by omega), if_pos (by simp only [List.length_cons, List.length_nil]; omega)]
    rfl
def sumL (a : List (List (BitVec 8))) : Nat := (a.map List.length).sum
theorem sumL_cons (x : List (BitVec 8)) (a : List (List (BitVec 8))) : sumL (x :: a) = x.length + sumL a := by simp [sumL]
theorem sumL_drop {a : List (List (BitVec 8))} {i : Nat} (h : i < a.length) : sumL (a.drop i) = a[i].length + sumL (a.drop (i + 1)) := by rw [drop_cons_at h, sumL_cons]
theorem sumL_drop_le (a : List (List (BitVec 8))) (i : Nat) : sumL (a.drop i) ≤ sumL a := by
  have : sumL a = sumL (a.take i) + sumL (a.drop i) := by
    unfold sumL
    rw [← List.sum_append_nat, ← List.map_append, List.take_append_drop]
  omega
theorem flat_drop {a : List (List (BitVec 8))} {i : Nat} (h : i < a.length) : (a.drop i).flatten = a[i] ++ (a.drop (i + 1)).flatten := by rw [drop_cons_at h, List.flatten_cons]
theorem join_sum (a : List (List (BitVec 8))) (ha : sumL a ≤ 16777216) : ∀ (d i k n : Nat), i + d = a.length → d < k → n + sumL (a.drop i) = sumL a → rlp_Join.l2 a k n i = some (Lp.go (sumL a))
  | 0, i, k, n, h, hk, hn => by
    obtain ⟨k, rfl⟩ : ∃ m, k = m + 1 := ⟨k - 1, by omega⟩
    rw [List.drop_of_length_le (by omega)] at hn
    have e : sumL [] = 0 := rfl
    rw [rlp_Join.l2, if_neg (by omega), show n = sumL a by omega]
  | d + 1, i, k, n, h, hk, hn => by
    obtain ⟨k, rfl⟩ : ∃ m, k = m + 1 := ⟨k - 1, by omega⟩
    have h1 : i < a.length := by omega
    rw [sumL_drop h1] at hn
    rw [rlp_Join.l2, if_pos h1, List.getElem?_eq_getElem h1, Option.bind_some, if_pos (by omega), if_neg (by omega)]
    exact join_sum a ha d (i + 1) k _ (by omega) (by omega) (by omega)
theorem join_app (a : List (List (BitVec 8))) (ha : sumL a ≤ 16777216) : ∀ (d i k : Nat) (l : List (BitVec 8)), i + d = a.length → d < k → l.length + sumL (a.drop i) ≤ 16777216 + 16777216 → rlp_Join.l1 a k l i = some (l ++ (a.drop i).flatten)
  | 0, i, k, l, h, hk, hl => by
    obtain ⟨k, rfl⟩ : ∃ m, k = m + 1 := ⟨k - 1, by omega⟩
    rw [rlp_Join.l1, if_neg (by omega), List.drop_of_length_le (by omega)]; simp
  | d + 1, i, k, l, h, hk, hl => by
    obtain ⟨k, rfl⟩ : ∃ m, k = m + 1 := ⟨k - 1, by omega⟩
    have h1 : i < a.length := by omega
    rw [sumL_drop h1] at hl
    rw [rlp_Join.l1, if_pos h1, List.getElem?_eq_getElem h1, Option.bind_some, if_pos (by omega), join_app a ha d (i + 1) k _ (by omega) (by omega) (by rw [List.length_append]; omega), flat_drop h1, List.append_assoc]
def joinR (a : List (List (BitVec 8))) : List (BitVec 8) × Nat := if 16777216 < (headB 192 (sumL a)).length + sumL a then ([], 2) else (headB 192 (sumL a) ++ a.flatten, 0)
theorem join_eq (a : List (List (BitVec 8))) (ha : sumL a ≤ 16777216) : rlp_Join a = some (joinR a) := by
  have hh := headB_length (c := 192) (n := sumL a) (by omega)
  unfold rlp_Join joinR
  rw [join_sum a ha a.length 0 _ 0 (by omega) (by omega) (by rw [List.drop_zero]; omega), Option.bind_some]
  dsimp only
  rw [show (192#8 : BitVec 8) = BitVec.ofNat 8 192 by rfl, head_spec 192 _ (by omega), Option.bind_some, if_pos (by omega)]
  by_cases h : 16777216 < (headB 192 (sumL a)).length + sumL a
  · rw [if_pos h, if_pos h]
  · rw [if_neg h, if_neg h, join_app a ha a.length 0 _ _ (by omega) (by omega) (by rw [List.drop_zero]; omega), List.drop_zero, Option.bind_some]
end Go.Fw
