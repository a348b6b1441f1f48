/- Part of a proof: rules that its law uses. -/
import Derived.Test.YtgonajfngmeanaaDoorShaP2
namespace Go.Fw
open Go
set_option linter.unusedVariables false
set_option linter.unusedSimpArgs false
set_option maxRecDepth 20000
theorem rjoined3_in (a : List (List (BitVec 8))) (n : Nat) (x : List (BitVec 8)) (hx : a[n]? = some x) : ∀ (d i k : Nat) (l : List (BitVec 8)), i + d = x.length → d < k → l.length + d ≤ 140737488355328 → waybillref03_joined.l2 a n k l i = some (l ++ x.drop i)
  | 0, i, k, l, h, hk, hb => by
    obtain ⟨k, rfl⟩ : ∃ m, k = m + 1 := ⟨k - 1, by omega⟩
    rw [waybillref03_joined.l2, hx, Option.bind_some, if_neg (by omega), List.drop_eq_nil_of_le (by omega), List.append_nil]
  | d + 1, i, k, l, h, hk, hb => by
    obtain ⟨k, rfl⟩ : ∃ m, k = m + 1 := ⟨k - 1, by omega⟩
    have h1 : i < x.length := by omega
    rw [waybillref03_joined.l2, hx, Option.bind_some, if_pos h1, Option.bind_some, List.getElem?_eq_getElem h1, Option.bind_some, if_pos (by simp; omega), rjoined3_in a n x hx d (i + 1) k _ (by omega) (by omega) (by simp; omega), List.append_assoc, List.singleton_append, ← List.drop_eq_getElem_cons h1]
theorem rjoined3_loop (a : List (List (BitVec 8))) : ∀ (d i k : Nat) (l : List (BitVec 8)), i + d = a.length → d < k → l.length + (a.drop i).flatten.length ≤ 140737488355328 → waybillref03_joined.l1 a k l i = some (l ++ (a.drop i).flatten)
  | 0, i, k, l, h, hk, hb => by
    obtain ⟨k, rfl⟩ : ∃ m, k = m + 1 := ⟨k - 1, by omega⟩
    rw [waybillref03_joined.l1, if_neg (by omega), List.drop_eq_nil_of_le (by omega)]
    simp
  | d + 1, i, k, l, h, hk, hb => by
    obtain ⟨k, rfl⟩ : ∃ m, k = m + 1 := ⟨k - 1, by omega⟩
    have h1 : i < a.length := by omega
    rw [List.drop_eq_getElem_cons h1, List.flatten_cons, List.length_append] at hb
    have hx : a[i]? = some a[i] := List.getElem?_eq_getElem h1
    have hl := flat_len hx
    rw [waybillref03_joined.l1, if_pos h1, rjoined3_in a i _ hx _ 0 _ l (Nat.zero_add _) (by omega) (by omega), Option.bind_some, List.drop_zero, rjoined3_loop a d (i + 1) k _ (by omega) (by omega) (by rw [List.length_append]; omega), List.drop_eq_getElem_cons h1, List.flatten_cons, List.append_assoc]
theorem rjoined3_eq (a : List (List (BitVec 8))) (hb : a.flatten.length ≤ 140737488355328) : waybillref03_joined a = some a.flatten := by
  unfold waybillref03_joined
  rw [rjoined3_loop a a.length 0 (a.length - 0 + 2) [] (by omega) (by omega) (by simpa using hb), Option.bind_some, List.drop_zero, List.nil_append]
theorem rfold_in {s : List (BitVec 32)} (hs : s.length = 8) : ∀ (d i k : Nat), i + d = 32 → d < k → waybillref03_digest.l1 (toV8 s) k i (sqV s i) = some (sqV s 32)
  | 0, i, k, h, hk => by
    obtain ⟨k, rfl⟩ : ∃ m, k = m + 1 := ⟨k - 1, by omega⟩
    obtain rfl : i = 32 := by omega
    rw [waybillref03_digest.l1, if_neg (by omega)]
  | d + 1, i, k, h, hk => by
    obtain ⟨k, rfl⟩ : ∃ m, k = m + 1 := ⟨k - 1, by omega⟩
    have hsh : (BitVec.ofInt 64 ((24 : Int) - (((8 * (i % 4)) : Nat) : Int))).toNat = 24 - 8 * (i % 4) := by
      rw [show ((24 : Int) - (((8 * (i % 4)) : Nat) : Int)) = ((24 - 8 * (i % 4) : Nat) : Int) by omega, BitVec.ofInt_natCast, BitVec.toNat_ofNat]
      exact Nat.mod_eq_of_lt (by omega)
    rw [waybillref03_digest.l1, if_pos (by omega), if_pos (by omega), toV8_get hs (by omega), Option.bind_some, hsh, sqV_set s (by omega) _ rfl]
    exact rfold_in hs d (i + 1) k (by omega) (by omega)
theorem rfold_out (l : List (BitVec 8)) : ∀ (d i k : Nat), 64 * (i + d) = l.length → d < k → l.length ≤ 140737488355328 → waybillref03_digest.l2 k l constL (64 * i) (toV8 (soakS i l startL)) = some (toV8 (soakS (i + d) l startL))
  | 0, i, k, h, hk, hb => by
    obtain ⟨k, rfl⟩ : ∃ m, k = m + 1 := ⟨k - 1, by omega⟩
    rw [waybillref03_digest.l2, if_neg (by omega), Nat.add_zero]
  | d + 1, i, k, h, hk, hb => by
    obtain ⟨k, rfl⟩ : ∃ m, k = m + 1 := ⟨k - 1, by omega⟩
    have hl : ((l.take (64 * i + 64)).drop (64 * i)).length = 64 := by rw [List.length_drop, List.length_take]; omega
    have hd : (l.take (64 * i + 64)).drop (64 * i) = (l.drop (64 * i)).take 64 := by rw [List.drop_take]; congr 1; omega
    have h8 : (soakS i l startL).length = 8 := soakS_length _ _ _ rfl
    rw [waybillref03_digest.l2, if_pos (by omega), if_pos (by omega), if_pos (by omega)]
    unfold waybillref03_rounds
    rw [if_pos ⟨hl, rfl⟩, Option.bind_some, toV8_list h8, hd, ← soakS_snoc, show 64 * i + 64 = 64 * (i + 1) by omega, rfold_out l d (i + 1) k (by omega) (by omega) hb, show i + 1 + d = i + (d + 1) by omega]
theorem rpz_loop (n : Nat) : ∀ (d j k : Nat), j + d + 9 = padLen (n : Int) → d < k → waybillref03_Pad.l2 (n : Int) k (128#8 :: List.replicate j 0#8) = some (128#8 :: List.replicate (j + d) 0#8)
  | 0, j, k, h, hk => by
    obtain ⟨k, rfl⟩ : ∃ m, k = m + 1 := ⟨k - 1, by omega⟩
    have h3 := (padLen_ge n).2.2
    have hl : (128#8 :: List.replicate j 0#8).length = j + 1 := by simp
    rw [waybillref03_Pad.l2, if_pos (by rw [hl, Int.toNat_natCast]; omega), Nat.add_zero]
  | d + 1, j, k, h, hk => by
    obtain ⟨k, rfl⟩ : ∃ m, k = m + 1 := ⟨k - 1, by omega⟩
    have hl : (128#8 :: List.replicate j 0#8).length = j + 1 := by simp
    have hz : padLen (n : Int) = 9 + (64 - (n % 64 + 9) % 64) % 64 := by unfold padLen; omega
    rw [waybillref03_Pad.l2, if_neg (by rw [hl, Int.toNat_natCast]; omega), if_pos (by rw [hl, List.length_singleton]; have := padLen_ge n; omega)]
    rw [List.cons_append, ← List.replicate_succ', rpz_loop n d (j + 1) k (by omega) (by omega), show j + 1 + d = j + (d + 1) by omega]
theorem rpb_loop (n : Int) (P : List (BitVec 8)) (hP : P.length ≤ 1000) : ∀ (i k : Nat), i ≤ 8 → i < k → waybillref03_Pad.l1 n k (P ++ beL (BitVec.ofInt 64 n * 8#64) (8 - i)) (((i : Nat) : Int) - 1) = some (P ++ beL (BitVec.ofInt 64 n * 8#64) 8)
  | 0, k, hi, hk => by
    obtain ⟨k, rfl⟩ : ∃ m, k = m + 1 := ⟨k - 1, by omega⟩
    rw [waybillref03_Pad.l1, if_neg (by omega)]
  | i + 1, k, hi, hk => by
    obtain ⟨k, rfl⟩ : ∃ m, k = m + 1 := ⟨k - 1, by omega⟩
    have hl : (beL (BitVec.ofInt 64 n * 8#64) (8 - (i + 1))).length = 8 - (i + 1) := by simp [beL]
    have hsh : (BitVec.ofInt 64 ((8 : Int) * (((i + 1 : Nat) : Int) - 1))).toNat = 8 * i := by
      rw [show ((8 : Int) * (((i + 1 : Nat) : Int) - 1)) = ((8 * i : Nat) : Int) by omega, BitVec.ofInt_natCast, BitVec.toNat_ofNat]
      exact Nat.mod_eq_of_lt (by omega)
    rw [waybillref03_Pad.l1, if_pos (by omega), if_pos (by omega), if_pos (by rw [List.length_append, hl, List.length_singleton]; omega), if_pos (by omega), hsh, List.append_assoc]
    have e : beL (BitVec.ofInt 64 n * 8#64) (8 - (i + 1)) ++ [((BitVec.ofInt 64 n * 8#64) >>> (8 * i)).setWidth 8] = beL (BitVec.ofInt 64 n * 8#64) (8 - i) := by
      rw [show 8 - i = 8 - (i + 1) + 1 by omega, beL_succ, show 7 - (8 - (i + 1)) = i by omega]
    rw [e, show (((i + 1 : Nat) : Int) - 1 - 1) = ((i : Nat) : Int) - 1 by omega]
    exact rpb_loop n P hP i k (by omega) (by omega)
theorem rpad_eq (n : Nat) : waybillref03_Pad (n : Int) = some (padL (n : Int), 0) := by
  obtain ⟨h1, h2, h3⟩ := padLen_ge n
  have hp := rpb_loop (n : Int) (128#8 :: List.replicate (padLen (n : Int) - 9) 0#8) (by simp; omega) 8 80 (by omega) (by omega)
  rw [show (8 : Nat) - 8 = 0 by rfl, show beL (BitVec.ofInt 64 (n : Int) * 8#64) 0 = [] by rfl, List.append_nil, padL_parts h1] at hp
  unfold waybillref03_Pad
  rw [if_neg (by omega)]
  have hz := rpz_loop n (padLen (n : Int) - 9) 0 80 (by omega) (by omega)
  rw [Nat.zero_add] at hz
  rw [show ([128#8] : List (BitVec 8)) = 128#8 :: List.replicate 0 0#8 by rfl, hz, Option.bind_some]
  rw [show (7 : Int) = ((8 : Nat) : Int) - 1 by rfl, hp, Option.bind_some]
theorem rdig_eq (t : List (BitVec 8)) (hb : t.length ≤ 140737488351232) : waybillref03_digest t = some (shaV t) := by
  obtain ⟨h1, h2, h3⟩ := padLen_ge t.length
  have hl : (t ++ padL (t.length : Int)).length = t.length + padLen (t.length : Int) := by rw [List.length_append, padL_length]
  have hf : ([t, padL (t.length : Int)] : List (List (BitVec 8))).flatten = t ++ padL (t.length : Int) := by simp
  unfold waybillref03_digest
  rw [rpad_eq, Option.bind_some]
  dsimp only
  rw [rjoined3_eq _ (by rw [hf, hl]; omega), hf, Option.bind_some]
  unfold waybillref03_Roots waybillref03_Start
  rw [if_pos ⟨rfl, rfl⟩, Option.bind_some, Option.bind_some]
  have hq : 64 * (0 + (t ++ padL (t.length : Int)).length / 64) = (t ++ padL (t.length : Int)).length := by rw [hl]; omega
  have := rfold_out (t ++ padL (t.length : Int)) ((t ++ padL (t.length : Int)).length / 64) 0 ((t ++ padL (t.length : Int)).length - 0 + 2) hq (by omega) (by rw [hl]; omega)
  rw [Nat.mul_zero, soakS] at this
  rw [this, Option.bind_some]
  have h8 : (soakS (0 + (t ++ padL (t.length : Int)).length / 64) (t ++ padL (t.length : Int)) startL).length = 8 := soakS_length _ _ _ rfl
  have h0 : sqV (soakS (0 + (t ++ padL (t.length : Int)).length / 64) (t ++ padL (t.length : Int)) startL) 0 = Vector.replicate 32 0#8 := by
    apply Vector.toList_inj.1
    rw [sqV_list _ (by omega)]
    simp [sqTo]
  rw [← h0, rfold_in h8 32 0 (32 - 0 + 2) (by omega) (by omega), Option.bind_some]
  congr 1
  apply Vector.toList_inj.1
  rw [sqV_list _ (by omega), sqTo_all, shaV_list, shaR, Nat.zero_add]
theorem rsum3_eq (a : List (List (BitVec 8))) (hb : a.flatten.length ≤ 140737488351232) : waybillref03_Sum a = some (shaV a.flatten) := by
  unfold waybillref03_Sum
  rw [rjoined3_eq a (by omega), Option.bind_some, rdig_eq _ hb, Option.bind_some]
theorem ssum_eq3 (a : List (List (BitVec 8))) (hb : a.flatten.length ≤ 140737488351232) : sha_Sum a = some (shaV a.flatten) := by
  unfold sha_Sum
  rw [if_pos (by omega)]
theorem slent_loop : ∀ (d i k : Nat) (l : List (BitVec 8)), i + d = 70 → d < k → l.length + d ≤ 140737488355328 → waybilllaw03_lent.l1 k l i = some (l ++ List.replicate d 165#8)
  | 0, i, k, l, h, hk, hb => by
    obtain ⟨k, rfl⟩ : ∃ m, k = m + 1 := ⟨k - 1, by omega⟩
    rw [waybilllaw03_lent.l1, if_neg (by omega)]; simp
  | d + 1, i, k, l, h, hk, hb => by
    obtain ⟨k, rfl⟩ : ∃ m, k = m + 1 := ⟨k - 1, by omega⟩
    rw [waybilllaw03_lent.l1, if_pos (by omega), if_pos (by simp; omega), slent_loop d (i + 1) k _ (by omega) (by omega) (by simp; omega), List.append_assoc]
    rfl
theorem slent_eq (a : List (BitVec 8)) (ha : a.length + 70 ≤ 140737488355328) : waybilllaw03_lent a = some a := by
  unfold waybilllaw03_lent
  rw [scopied_eq a (by omega), Option.bind_some, slent_loop 70 0 (70 - 0 + 2) a (by omega) (by omega) (by omega), Option.bind_some, if_pos (by rw [List.length_append]; omega), if_pos (by rw [List.drop_left' rfl]), List.take_left' rfl]
theorem sstill_loop (a : List (BitVec 8)) : ∀ (d i k : Nat), i + d = a.length + 70 → d < k → waybilllaw03_still.l1 a a k i = some (Lp.go ())
  | 0, i, k, h, hk => by
    obtain ⟨k, rfl⟩ : ∃ m, k = m + 1 := ⟨k - 1, by omega⟩
    rw [waybilllaw03_still.l1, if_neg (by rw [List.length_take, List.length_append, List.length_replicate]; omega)]
  | d + 1, i, k, h, hk => by
    obtain ⟨k, rfl⟩ : ∃ m, k = m + 1 := ⟨k - 1, by omega⟩
    have hT : (a ++ List.replicate 70 165#8).take (a.length + 70) = a ++ List.replicate 70 165#8 := List.take_of_length_le (Nat.le_of_eq (by rw [List.length_append, List.length_replicate]))
    have hl : (a ++ List.replicate 70 165#8).length = a.length + 70 := by rw [List.length_append, List.length_replicate]
    rw [waybilllaw03_still.l1, hT, if_pos (by omega)]
    by_cases h1 : i < a.length
    · rw [if_pos h1, List.getElem?_append_left h1, List.getElem?_eq_getElem h1, Option.bind_some, Option.bind_some, if_pos rfl, if_neg (by omega), Option.bind_some, if_neg (by decide)]
      exact sstill_loop a d (i + 1) k (by omega) (by omega)
    · have h2 : (a ++ List.replicate 70 165#8)[i]? = some 165#8 := by rw [List.getElem?_append_right (by omega), List.getElem?_replicate, if_pos (by omega)]
      rw [if_neg h1, if_pos (by omega), h2, Option.bind_some, Option.bind_some, if_neg (by decide)]
      exact sstill_loop a d (i + 1) k (by omega) (by omega)
theorem sstill_eq (a : List (BitVec 8)) : waybilllaw03_still a a = some true := by
  have hT : (a ++ List.replicate 70 165#8).take (a.length + 70) = a ++ List.replicate 70 165#8 := List.take_of_length_le (Nat.le_of_eq (by rw [List.length_append, List.length_replicate]))
  have hl : (a ++ List.replicate 70 165#8).length = a.length + 70 := by rw [List.length_append, List.length_replicate]
  unfold waybilllaw03_still
  rw [if_pos rfl, if_pos (by omega), sstill_loop a (a.length + 70) 0 _ (by omega) (by rw [hT]; omega), Option.bind_some]
theorem whole_loop (a : List (List (BitVec 8))) : ∀ (d i k : Nat), i + d = a.length → d < k → waybilllaw03_whole.l1 a a k i = some (Lp.go ())
  | 0, i, k, h, hk => by
    obtain ⟨k, rfl⟩ : ∃ m, k = m + 1 := ⟨k - 1, by omega⟩
    rw [waybilllaw03_whole.l1, if_neg (by omega)]
  | d + 1, i, k, h, hk => by
    obtain ⟨k, rfl⟩ : ∃ m, k = m + 1 := ⟨k - 1, by omega⟩
    have h1 : i < a.length := by omega
    rw [waybilllaw03_whole.l1, if_pos h1, List.getElem?_eq_getElem h1, Option.bind_some, Option.bind_some, sstill_eq, Option.bind_some, if_pos rfl]
    exact whole_loop a d (i + 1) k (by omega) (by omega)
theorem whole_eq (a : List (List (BitVec 8))) : waybilllaw03_whole a a = some true := by
  have hl : (a ++ ([[165#8], [90#8]] : List (List (BitVec 8)))).length = a.length + 2 := by rw [List.length_append]; rfl
  have hT : (a ++ ([[165#8], [90#8]] : List (List (BitVec 8)))).take (a.length + 2) = a ++ [[165#8], [90#8]] := List.take_of_length_le (by omega)
  have hg : (a ++ ([[165#8], [90#8]] : List (List (BitVec 8))))[a.length]? = some [165#8] := by rw [List.getElem?_append_right (Nat.le_refl _), Nat.sub_self]; rfl
  have hg2 : (a ++ ([[165#8], [90#8]] : List (List (BitVec 8))))[a.length + 1]? = some [90#8] := by rw [List.getElem?_append_right (by omega), show a.length + 1 - a.length = 1 by omega]; rfl
  have s1 : waybilllaw03_same [165#8] [165#8] = some true := rfl
  have s2 : waybilllaw03_same [90#8] [90#8] = some true := rfl
  unfold waybilllaw03_whole
  rw [if_pos rfl, whole_loop a a.length 0 _ (by omega) (by omega), Option.bind_some]
  dsimp only
  rw [if_pos (by omega), hT, hg, Option.bind_some, s1, Option.bind_some, if_pos rfl, hg2, Option.bind_some, s2, Option.bind_some, Option.bind_some]
theorem mem_flat3 {a : List (List (BitVec 8))} {t : List (BitVec 8)} (h : t ∈ a) : t.length ≤ a.flatten.length := by
  obtain ⟨s, u, e⟩ := List.append_of_mem h
  rw [e, List.flatten_append, List.flatten_cons, List.length_append, List.length_append]; omega
end Go.Fw
