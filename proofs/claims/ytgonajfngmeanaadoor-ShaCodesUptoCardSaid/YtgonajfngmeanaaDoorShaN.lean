/- Part of a proof: rules that its law uses. -/
import Derived.Test.YtgonajfngmeanaaDoorShaP1
namespace Go.Fw
open Go
set_option linter.unusedVariables false
set_option maxRecDepth 20000
theorem scopied_loop (a : List (BitVec 8)) : ∀ (d i k : Nat) (l : List (BitVec 8)), i + d = a.length → d < k → l.length + d ≤ 140737488355328 → waybilllaw03_copied.l1 a k l i = some (l ++ a.drop i)
  | 0, i, k, l, h, hk, hb => by
    obtain ⟨k, rfl⟩ : ∃ m, k = m + 1 := ⟨k - 1, by omega⟩
    rw [waybilllaw03_copied.l1, if_neg (by omega), List.drop_eq_nil_of_le (by omega), List.append_nil]
  | d + 1, i, k, l, h, hk, hb => by
    obtain ⟨k, rfl⟩ : ∃ m, k = m + 1 := ⟨k - 1, by omega⟩
    have h1 : i < a.length := by omega
    rw [waybilllaw03_copied.l1, if_pos h1, List.getElem?_eq_getElem h1, Option.bind_some, if_pos (by simp; omega), scopied_loop a d (i + 1) k _ (by omega) (by omega) (by simp; omega), List.append_assoc, List.singleton_append, ← List.drop_eq_getElem_cons h1]
theorem scopied_eq (a : List (BitVec 8)) (hb : a.length ≤ 140737488355328) : waybilllaw03_copied a = some a := by
  unfold waybilllaw03_copied
  rw [scopied_loop a a.length 0 (a.length - 0 + 2) [] (by omega) (by omega) (by simpa using hb), Option.bind_some, List.drop_zero, List.nil_append]
theorem sjoined_in (a : List (List (BitVec 8))) (n : Nat) (x : List (BitVec 8)) (hx : a[n]? = some x) : ∀ (d i k : Nat) (l : List (BitVec 8)), i + d = x.length → d < k → l.length + d ≤ 140737488355328 → waybilllaw03_joined.l2 a n k l i = some (l ++ x.drop i)
  | 0, i, k, l, h, hk, hb => by
    obtain ⟨k, rfl⟩ : ∃ m, k = m + 1 := ⟨k - 1, by omega⟩
    rw [waybilllaw03_joined.l2, hx, Option.bind_some, if_neg (by omega), List.drop_eq_nil_of_le (by omega), List.append_nil]
  | d + 1, i, k, l, h, hk, hb => by
    obtain ⟨k, rfl⟩ : ∃ m, k = m + 1 := ⟨k - 1, by omega⟩
    have h1 : i < x.length := by omega
    rw [waybilllaw03_joined.l2, hx, Option.bind_some, if_pos h1, Option.bind_some, List.getElem?_eq_getElem h1, Option.bind_some, if_pos (by simp; omega), sjoined_in a n x hx d (i + 1) k _ (by omega) (by omega) (by simp; omega), List.append_assoc, List.singleton_append, ← List.drop_eq_getElem_cons h1]
theorem flat_len {a : List (List (BitVec 8))} {n : Nat} {x : List (BitVec 8)} (hx : a[n]? = some x) : x.length ≤ a.flatten.length := by
  obtain ⟨s, t, e⟩ := List.append_of_mem (List.mem_of_getElem? hx)
  rw [e, List.flatten_append, List.flatten_cons, List.length_append, List.length_append]; omega
theorem sjoined_loop (a : List (List (BitVec 8))) : ∀ (d i k : Nat) (l : List (BitVec 8)), i + d = a.length → d < k → l.length + (a.drop i).flatten.length ≤ 140737488355328 → waybilllaw03_joined.l1 a k l i = some (l ++ (a.drop i).flatten)
  | 0, i, k, l, h, hk, hb => by
    obtain ⟨k, rfl⟩ : ∃ m, k = m + 1 := ⟨k - 1, by omega⟩
    rw [waybilllaw03_joined.l1, if_neg (by omega), List.drop_eq_nil_of_le (by omega)]
    simp
  | d + 1, i, k, l, h, hk, hb => by
    obtain ⟨k, rfl⟩ : ∃ m, k = m + 1 := ⟨k - 1, by omega⟩
    have h1 : i < a.length := by omega
    rw [List.drop_eq_getElem_cons h1, List.flatten_cons, List.length_append] at hb
    have hx : a[i]? = some a[i] := List.getElem?_eq_getElem h1
    have hl := flat_len hx
    rw [waybilllaw03_joined.l1, if_pos h1, sjoined_in a i _ hx _ 0 _ l (Nat.zero_add _) (by omega) (by omega), Option.bind_some, List.drop_zero, sjoined_loop a d (i + 1) k _ (by omega) (by omega) (by rw [List.length_append]; omega), List.drop_eq_getElem_cons h1, List.flatten_cons, List.append_assoc]
theorem sjoined_eq (a : List (List (BitVec 8))) (hb : a.flatten.length ≤ 140737488355328) : waybilllaw03_joined a = some a.flatten := by
  unfold waybilllaw03_joined
  rw [sjoined_loop a a.length 0 (a.length - 0 + 2) [] (by omega) (by omega) (by simpa using hb), Option.bind_some, List.drop_zero, List.nil_append]
theorem toV8_get {s : List (BitVec 32)} (h : s.length = 8) {i : Nat} (hi : i < 8) : (toV8 s)[i]? = some (s.getD i 0#32) := by
  unfold toV8
  rw [dif_pos h]
  simp [h, hi, List.getD]
def sqV (s : List (BitVec 32)) (k : Nat) : Vector (BitVec 8) 32 := if h : k ≤ 32 then ⟨(sqTo s k).toArray, by simp [sqTo_length s h]⟩ else Vector.replicate 32 0#8
theorem sqV_list (s : List (BitVec 32)) {k : Nat} (h : k ≤ 32) : (sqV s k).toList = sqTo s k := by unfold sqV; rw [dif_pos h]; rfl
theorem sqV_set (s : List (BitVec 32)) {k : Nat} (h : k < 32) (v : BitVec 8) (hv : v = ((s.getD (k / 4) 0#32) >>> (24 - 8 * (k % 4))).setWidth 8) : (sqV s k).setIfInBounds k v = sqV s (k + 1) := by
  apply Vector.toList_inj.1
  rw [Vector.toList_setIfInBounds, sqV_list s (by omega), sqV_list s (by omega), sqTo_set s h v hv]
theorem fold_in {s : List (BitVec 32)} (hs : s.length = 8) : ∀ (d i k : Nat), i + d = 32 → d < k → waybilllaw03_folded.l1 (toV8 s) k i (sqV s i) = some (sqV s 32)
  | 0, i, k, h, hk => by
    obtain ⟨k, rfl⟩ : ∃ m, k = m + 1 := ⟨k - 1, by omega⟩
    obtain rfl : i = 32 := by omega
    rw [waybilllaw03_folded.l1, if_neg (by omega)]
  | d + 1, i, k, h, hk => by
    obtain ⟨k, rfl⟩ : ∃ m, k = m + 1 := ⟨k - 1, by omega⟩
    have hsh : (BitVec.ofInt 64 ((24 : Int) - (((8 * (i % 4)) : Nat) : Int))).toNat = 24 - 8 * (i % 4) := by
      rw [show ((24 : Int) - (((8 * (i % 4)) : Nat) : Int)) = ((24 - 8 * (i % 4) : Nat) : Int) by omega, BitVec.ofInt_natCast, BitVec.toNat_ofNat]
      exact Nat.mod_eq_of_lt (by omega)
    rw [waybilllaw03_folded.l1, if_pos (by omega), if_pos (by omega), toV8_get hs (by omega), Option.bind_some, hsh, sqV_set s (by omega) _ rfl]
    exact fold_in hs d (i + 1) k (by omega) (by omega)
theorem fold_out (l : List (BitVec 8)) : ∀ (d i k : Nat), 64 * (i + d) = l.length → d < k → l.length ≤ 140737488355328 → waybilllaw03_folded.l2 k l (64 * i) (toV8 (soakS i l startL)) = some (Lp.go (toV8 (soakS (i + d) l startL)))
  | 0, i, k, h, hk, hb => by
    obtain ⟨k, rfl⟩ : ∃ m, k = m + 1 := ⟨k - 1, by omega⟩
    rw [waybilllaw03_folded.l2, if_neg (by omega), Nat.add_zero]
  | d + 1, i, k, h, hk, hb => by
    obtain ⟨k, rfl⟩ : ∃ m, k = m + 1 := ⟨k - 1, by omega⟩
    have hl : ((l.take (64 * i + 64)).drop (64 * i)).length = 64 := by rw [List.length_drop, List.length_take]; omega
    have hd : (l.take (64 * i + 64)).drop (64 * i) = (l.drop (64 * i)).take 64 := by rw [List.drop_take]; congr 1; omega
    have h8 : (soakS i l startL).length = 8 := soakS_length _ _ _ rfl
    rw [waybilllaw03_folded.l2, if_pos (by omega), if_pos (by omega), if_pos (by omega), scopied_eq _ (by omega), Option.bind_some]
    unfold sha_Compress
    rw [Option.bind_some]
    dsimp only
    rw [show compE ((l.take (64 * i + 64)).drop (64 * i)) = 0 by unfold compE; rw [if_pos hl], if_pos rfl, toV8_list h8]
    rw [show compL constL (soakS i l startL) ((l.take (64 * i + 64)).drop (64 * i)) = soakS (i + 1) l startL by
      unfold compL; rw [if_pos hl, soakS_snoc, hd]]
    rw [show 64 * i + 64 = 64 * (i + 1) by omega, fold_out l d (i + 1) k (by omega) (by omega) hb, show i + 1 + d = i + (d + 1) by omega]
theorem padLen_ge (n : Nat) : 9 ≤ padLen (n : Int) ∧ padLen (n : Int) ≤ 72 ∧ (n + padLen (n : Int)) % 64 = 0 := by
  unfold padLen
  omega
theorem folded_eq (t : List (BitVec 8)) (hb : t.length ≤ 140737488351232) : waybilllaw03_folded t = some (shaV t, true) := by
  obtain ⟨h1, h2, h3⟩ := padLen_ge t.length
  have hl : (t ++ padL (t.length : Int)).length = t.length + padLen (t.length : Int) := by rw [List.length_append, padL_length]
  have hp : (padL (t.length : Int)).length = padLen (t.length : Int) := padL_length _
  have hf : ([t, padL (t.length : Int)] : List (List (BitVec 8))).flatten = t ++ padL (t.length : Int) := by simp
  unfold waybilllaw03_folded sha_Pad
  rw [if_pos (by omega), Option.bind_some]
  dsimp only
  rw [sjoined_eq _ (by rw [hf, hl]; omega), hf, Option.bind_some, if_pos rfl, if_pos (by rw [hl]; exact h3), if_neg (by omega), Option.bind_some, show decide (72 < (padL (t.length : Int)).length) = false by rw [hp]; simp; omega]
  rw [if_neg (by decide)]
  unfold sha_Start
  rw [Option.bind_some]
  have hq : 64 * (0 + (t ++ padL (t.length : Int)).length / 64) = (t ++ padL (t.length : Int)).length := by rw [hl]; omega
  have := fold_out (t ++ padL (t.length : Int)) ((t ++ padL (t.length : Int)).length / 64) 0 ((t ++ padL (t.length : Int)).length - 0 + 2) hq (by omega) (by rw [hl]; omega)
  rw [Nat.mul_zero, soakS] at this
  rw [this, Option.bind_some]
  dsimp only
  have h8 : (soakS (0 + (t ++ padL (t.length : Int)).length / 64) (t ++ padL (t.length : Int)) startL).length = 8 := soakS_length _ _ _ rfl
  have h0 : sqV (soakS (0 + (t ++ padL (t.length : Int)).length / 64) (t ++ padL (t.length : Int)) startL) 0 = Vector.replicate 32 0#8 := by
    apply Vector.toList_inj.1
    rw [sqV_list _ (by omega)]
    simp [sqTo]
  rw [← h0, fold_in h8 32 0 (32 - 0 + 2) (by omega) (by omega), Option.bind_some]
  congr 2
  apply Vector.toList_inj.1
  rw [sqV_list _ (by omega), sqTo_all, shaV_list, shaR, Nat.zero_add]
theorem which_eq (a n : Int) (hn : 0 < n) (hn2 : n ≤ 9223372036854775807) (ha : -9223372036854775808 ≤ a ∧ a ≤ 9223372036854775807) : ∃ r, waybilllaw03_which a n = some r ∧ 0 ≤ r ∧ r < n := by
  have h1 := Int.lt_tmod_of_pos a hn
  have h2 := Int.tmod_lt_of_pos a hn
  unfold waybilllaw03_which
  rw [if_pos hn]
  by_cases h : (a).tmod n < (0 : Int)
  · rw [if_pos h, if_pos (by omega), Option.bind_some]
    exact ⟨_, rfl, by omega, by omega⟩
  · rw [if_neg h, Option.bind_some]
    exact ⟨_, rfl, by omega, by omega⟩
theorem ssum_one (t : List (BitVec 8)) (hb : t.length ≤ 140737488351232) : sha_Sum [t] = some (shaV t) := by
  unfold sha_Sum
  rw [List.flatten_cons, List.flatten_nil, List.append_nil, if_pos (by omega)]
theorem hangs_law (a b : List (BitVec 8)) (k : Int) (ha : a.length ≤ 140737488351232) (hb : b.length ≤ 140737488351232) (hk : -9223372036854775808 ≤ k ∧ k ≤ 9223372036854775807) : waybilllaw03_ShaHangs a b k = some true := by
  unfold waybilllaw03_ShaHangs
  rw [folded_eq a ha, Option.bind_some]
  dsimp only
  rw [scopied_eq a (by omega), Option.bind_some, ssum_one a ha, Option.bind_some, scopied_eq b (by omega), Option.bind_some, ssum_one b hb, Option.bind_some, Option.bind_some, ssum_one a ha, Option.bind_some, if_pos rfl, if_pos rfl, Option.bind_some, show (!decide (shaV a = shaV a)) = false by simp, if_neg (by decide)]
  by_cases h0 : a.length = 0
  · rw [if_pos h0]
  · rw [if_neg h0, Option.bind_some, if_pos hk]
    obtain ⟨r, hr, hr0, hrn⟩ := which_eq k (((8 * a.length) : Nat) : Int) (by omega) (by omega) hk
    rw [hr, Option.bind_some, if_pos hr0]
    have hi : r.toNat / 8 < a.length := by omega
    rw [List.getElem?_eq_getElem hi, Option.bind_some, Option.bind_some, folded_eq _ (by rw [List.length_set]; exact ha), Option.bind_some]
    dsimp only
    rw [if_pos rfl, ssum_one _ (by rw [List.length_set]; exact ha), Option.bind_some, Option.bind_some]
    simp
end Go.Fw
