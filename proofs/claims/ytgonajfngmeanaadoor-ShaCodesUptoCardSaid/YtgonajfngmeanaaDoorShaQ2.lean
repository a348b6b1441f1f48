/- Part of a proof: rules that its law uses. -/
import Derived.Test.YtgonajfngmeanaaDoorShaP3
namespace Go.Fw
open Go
set_option linter.unusedVariables false
set_option linter.unusedSimpArgs false
set_option maxRecDepth 20000
def key0 (k : List (BitVec 8)) : List (BitVec 8) := if 64 < k.length then shaR k ++ List.replicate 32 0#8 else k ++ List.replicate (64 - k.length) 0#8
theorem key0_length (k : List (BitVec 8)) : (key0 k).length = 64 := by
  unfold key0
  split
  · rw [List.length_append, shaR_length, List.length_replicate]
  · rw [List.length_append, List.length_replicate]; omega
def xorA (c : BitVec 8) (l : List (BitVec 8)) : List (BitVec 8) := l.map (· ^^^ c)
theorem xorA_length (c : BitVec 8) (l : List (BitVec 8)) : (xorA c l).length = l.length := List.length_map ..
def hmacV (k t : List (BitVec 8)) : Vector (BitVec 8) 32 := shaV (xorA 92#8 (key0 k) ++ (shaV (xorA 54#8 (key0 k) ++ t)).toList)
theorem bytesOf_loop (a : Vector (BitVec 8) 32) : ∀ (d i k : Nat) (l : List (BitVec 8)), i + d = 32 → d < k → l.length + d ≤ 140737488355328 → waybillref03_bytesOf.l1 a k l i = some (l ++ a.toList.drop i)
  | 0, i, k, l, h, hk, hb => by
    obtain ⟨k, rfl⟩ : ∃ m, k = m + 1 := ⟨k - 1, by omega⟩
    rw [waybillref03_bytesOf.l1, if_neg (by omega), List.drop_eq_nil_of_le (by rw [Vector.length_toList]; omega), List.append_nil]
  | d + 1, i, k, l, h, hk, hb => by
    obtain ⟨k, rfl⟩ : ∃ m, k = m + 1 := ⟨k - 1, by omega⟩
    have h1 : i < a.toList.length := by rw [Vector.length_toList]; omega
    have hx : a[i]? = some (a.toList[i]) := by rw [← Vector.getElem?_toList]; exact List.getElem?_eq_getElem h1
    rw [waybillref03_bytesOf.l1, if_pos (by omega), hx, Option.bind_some, if_pos (by simp; omega), bytesOf_loop a d (i + 1) k _ (by omega) (by omega) (by simp; omega), List.append_assoc, List.singleton_append, ← List.drop_eq_getElem_cons h1]
theorem bytesOf_eq (a : Vector (BitVec 8) 32) : waybillref03_bytesOf a = some a.toList := by
  unfold waybillref03_bytesOf
  rw [bytesOf_loop a 32 0 _ [] (by omega) (by omega) (by simp), Option.bind_some, List.drop_zero, List.nil_append]
theorem hfill_loop : ∀ (d k : Nat) (l : List (BitVec 8)), l.length + d = 64 → d < k → waybillref03_HMAC.l2 k l = some (l ++ List.replicate d 0#8)
  | 0, k, l, h, hk => by
    obtain ⟨k, rfl⟩ : ∃ m, k = m + 1 := ⟨k - 1, by omega⟩
    rw [waybillref03_HMAC.l2, if_neg (by omega)]; simp
  | d + 1, k, l, h, hk => by
    obtain ⟨k, rfl⟩ : ∃ m, k = m + 1 := ⟨k - 1, by omega⟩
    rw [waybillref03_HMAC.l2, if_pos (by omega), if_pos (by simp; omega), hfill_loop d k _ (by simp; omega) (by omega), List.append_assoc]
    rfl
theorem hxor_loop (K : List (BitVec 8)) (hK : K.length = 64) : ∀ (d i k : Nat) (p q : List (BitVec 8)), i + d = 64 → d < k → p.length = i → q.length = i → waybillref03_HMAC.l1 K k p q i = some (p ++ xorA 54#8 (K.drop i), q ++ xorA 92#8 (K.drop i))
  | 0, i, k, p, q, h, hk, hp, hq => by
    obtain ⟨k, rfl⟩ : ∃ m, k = m + 1 := ⟨k - 1, by omega⟩
    rw [waybillref03_HMAC.l1, if_neg (by omega), List.drop_eq_nil_of_le (by omega)]; simp [xorA]
  | d + 1, i, k, p, q, h, hk, hp, hq => by
    obtain ⟨k, rfl⟩ : ∃ m, k = m + 1 := ⟨k - 1, by omega⟩
    have h1 : i < K.length := by omega
    rw [waybillref03_HMAC.l1, if_pos (by omega), List.getElem?_eq_getElem h1, Option.bind_some, if_pos (by simp; omega), Option.bind_some, if_pos (by simp; omega), hxor_loop K hK d (i + 1) k _ _ (by omega) (by omega) (by simp [hp]) (by simp [hq]), List.drop_eq_getElem_cons h1]
    simp only [xorA, List.map_cons, List.append_assoc, List.singleton_append]
theorem rhmac_eq (key : List (BitVec 8)) (a : List (List (BitVec 8))) (hk : key.length ≤ 140737488351232) (hb : a.flatten.length + 200 ≤ 140737488351232) : waybillref03_HMAC key a = some (hmacV key a.flatten) := by
  have f1 : ([key] : List (List (BitVec 8))).flatten = key := by simp
  have hl0 := key0_length key
  unfold waybillref03_HMAC
  rw [rjoined3_eq _ (by rw [f1]; omega), f1, Option.bind_some]
  have e1 : ((if 64 < key.length then (waybillref03_digest key).bind fun x211 => (waybillref03_bytesOf x211).bind fun x216 => some x216 else some key) : Option (List (BitVec 8))) = some (if 64 < key.length then shaR key else key) := by
    by_cases h : 64 < key.length
    · rw [if_pos h, if_pos h, rdig_eq _ hk, Option.bind_some, bytesOf_eq, Option.bind_some, shaV_list]
    · rw [if_neg h, if_neg h]
  rw [e1, Option.bind_some]
  have e2 : ∃ d, (if 64 < key.length then shaR key else key).length + d = 64 ∧ (if 64 < key.length then shaR key else key) ++ List.replicate d 0#8 = key0 key := by
    unfold key0
    by_cases h : 64 < key.length
    · rw [if_pos h, if_pos h]; exact ⟨32, by rw [shaR_length], rfl⟩
    · rw [if_neg h, if_neg h]; exact ⟨64 - key.length, by omega, rfl⟩
  obtain ⟨d, hd, e3⟩ := e2
  rw [hfill_loop d _ _ hd (by omega), Option.bind_some, e3, hxor_loop _ hl0 64 0 _ [] [] (by omega) (by omega) rfl rfl, Option.bind_some]
  dsimp only
  rw [List.drop_zero, List.nil_append, List.nil_append, rjoined3_eq a (by omega), Option.bind_some]
  have f2 : ([xorA 54#8 (key0 key), a.flatten] : List (List (BitVec 8))).flatten = xorA 54#8 (key0 key) ++ a.flatten := by simp
  have l2 : (xorA 54#8 (key0 key) ++ a.flatten).length = 64 + a.flatten.length := by rw [List.length_append, xorA_length, hl0]
  rw [rjoined3_eq _ (by rw [f2]; omega), f2, Option.bind_some, rdig_eq _ (by omega), Option.bind_some, bytesOf_eq, Option.bind_some]
  have f3 : ([xorA 92#8 (key0 key), (shaV (xorA 54#8 (key0 key) ++ a.flatten)).toList] : List (List (BitVec 8))).flatten = xorA 92#8 (key0 key) ++ (shaV (xorA 54#8 (key0 key) ++ a.flatten)).toList := by simp
  have l3 : (xorA 92#8 (key0 key) ++ (shaV (xorA 54#8 (key0 key) ++ a.flatten)).toList).length = 96 := by rw [List.length_append, xorA_length, hl0, Vector.length_toList]
  rw [rjoined3_eq _ (by rw [f3]; omega), f3, Option.bind_some, rdig_eq _ (by omega), Option.bind_some]
  rfl
def xorTo (c : BitVec 8) (K : List (BitVec 8)) (i : Nat) : List (BitVec 8) := xorA c (K.take i) ++ K.drop i
theorem xorTo_length (c : BitVec 8) (K : List (BitVec 8)) (i : Nat) : (xorTo c K i).length = K.length := by rw [xorTo, List.length_append, xorA_length, ← List.length_append, List.take_append_drop]
theorem xorTo_zero (c : BitVec 8) (K : List (BitVec 8)) : xorTo c K 0 = K := by simp [xorTo, xorA]
theorem xorTo_all (c : BitVec 8) {K : List (BitVec 8)} {n : Nat} (h : K.length = n) : xorTo c K n = xorA c K := by subst h; simp [xorTo]
theorem xorTo_get (c : BitVec 8) (K : List (BitVec 8)) {i : Nat} (h : i < K.length) : (xorTo c K i)[i]? = some K[i] := by
  unfold xorTo
  rw [List.getElem?_append_right (by rw [xorA_length, List.length_take]; omega), xorA_length, List.length_take, Nat.min_eq_left (by omega), Nat.sub_self, List.getElem?_drop, Nat.add_zero, List.getElem?_eq_getElem h]
theorem xorTo_set (c : BitVec 8) (K : List (BitVec 8)) {i : Nat} (h : i < K.length) : (xorTo c K i).set i (K[i] ^^^ c) = xorTo c K (i + 1) := by
  unfold xorTo
  rw [List.set_append_right _ _ (by rw [xorA_length, List.length_take]; omega), xorA_length, List.length_take, Nat.min_eq_left (by omega), Nat.sub_self, List.drop_eq_getElem_cons h, List.set_cons_zero, List.take_add_one, List.getElem?_eq_getElem h, Option.toList_some]
  simp only [xorA, List.map_append, List.map_cons, List.map_nil, List.append_assoc, List.singleton_append]
end Go.Fw
