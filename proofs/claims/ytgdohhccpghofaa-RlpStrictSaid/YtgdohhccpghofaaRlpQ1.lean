/- Part of a proof over Ytgdohhccpghofaa: rules and contracts that the law's text uses. No condition. -/
import Derived.Test.YtgdohhccpghofaaNumD
import Derived.Test.YtgdohhccpghofaaRlpP4
namespace Go.Fw
set_option linter.unusedVariables false
set_option linter.unusedSimpArgs false
set_option maxRecDepth 100000
/-! The head of an item: both texts, one answer: (error, list, where the content begins, its length). -/
def small (s : List (BitVec 8)) (h : Nat) : Bool := match s[h]? with
  | some x => decide (x.toNat < 128)
  | none => false
def finS (s : List (BitVec 8)) (list : Bool) (h n : Nat) : Nat × Bool × Nat × Nat :=
  if s.length - h < n then (70, false, 0, 0) else if list = false ∧ n = 1 ∧ small s h = true then (71, false, 0, 0) else (0, list, h, n)
def cutS (s : List (BitVec 8)) : Nat × Bool × Nat × Nat := match s[0]? with
  | none => (70, false, 0, 0)
  | some c => if c.toNat < 128 then (0, false, 0, 1) else
    if 55 < c.toNat % 64 then
      (if s.length - 1 < c.toNat % 64 - 55 then (70, false, 0, 0) else
        if s[1]? = some 0#8 ∨ beV ((s.drop 1).take (c.toNat % 64 - 55)) ≤ 55 then (72, false, 0, 0) else
          if s.length - 1 - (c.toNat % 64 - 55) < beV ((s.drop 1).take (c.toNat % 64 - 55)) then (70, false, 0, 0) else
            finS s (decide (192 ≤ c.toNat)) (1 + (c.toNat % 64 - 55)) (beV ((s.drop 1).take (c.toNat % 64 - 55))))
    else finS s (decide (192 ≤ c.toNat)) 1 (c.toNat % 64)
theorem pow8 : 256 ^ 8 = 2 ^ 64 := by decide
theorem beV_small {l : List (BitVec 8)} {k : Nat} (h : l.length ≤ k) (hk : k ≤ 8) : beV l < 2 ^ 64 := by
  have h1 := beV_lt l
  have h2 : 256 ^ l.length ≤ 256 ^ 8 := Nat.pow_le_pow_right (by omega) (by omega)
  have := pow8
  omega
theorem val4_lim' {n : Nat} (h : n < 2 ^ 64) : val4 (lim n) = n := val4_lim n (Nat.lt_trans h (by decide))
theorem lim0_toNat {n : Nat} (h : n < 2 ^ 64) : ((lim n)[0]).toNat = n := by
  rw [lim_get n 0 (by omega), BitVec.toNat_ofNat, Nat.mul_zero, Nat.pow_zero, Nat.div_one, Nat.mod_eq_of_lt h]
theorem cmpN_le (a b : Nat) : cmpN a b ≤ 0 ↔ a ≤ b := by unfold cmpN; split <;> (try split) <;> omega
theorem cmpN_lt (a b : Nat) : cmpN a b < 0 ↔ a < b := by unfold cmpN; split <;> (try split) <;> omega
theorem cmpN_gt (a b : Nat) : 0 < cmpN a b ↔ b < a := by unfold cmpN; split <;> (try split) <;> omega
theorem cmpF (v n : Nat) (hv : v < 2 ^ 64) (hn : n < 2 ^ 64) : ((u256_From (BitVec.ofNat 64 n)).bind fun y => u256_Cmp (lim v) y) = some (cmpN v n) := by
  rw [from_eq, Option.bind_some, cmp_eq, val4_lim' hv, val4_lim' (BitVec.isLt _), BitVec.toNat_ofNat, Nat.mod_eq_of_lt hn]
theorem cmp_of {v n : Nat} (hv : v < 2 ^ 64) (hn : n < 2 ^ 64) : u256_Cmp (lim v) (lim (BitVec.ofNat 64 n).toNat) = some (cmpN v n) := by
  rw [cmp_eq, val4_lim' hv, BitVec.toNat_ofNat, Nat.mod_eq_of_lt hn, val4_lim' hn]
theorem rcmp_of {v n : Nat} (hv : v < 2 ^ 64) (hn : n < 2 ^ 64) : waybillref01_Cmp (lim v) (lim (BitVec.ofNat 64 n).toNat) = some (cmpN v n) := by
  rw [rcmp_eq, val4_lim' hv, BitVec.toNat_ofNat, Nat.mod_eq_of_lt hn, val4_lim' hn]
/-- What 'cut' says of a text. -/
def cutR (s : List (BitVec 8)) : Option (Bool × List (BitVec 8) × List (BitVec 8) × Nat) :=
  match cutS s with
  | (e, l, h, n) => if e = 0 then some (l, (s.drop h).take n, s.drop (h + n), 0) else some (false, [], [], e)
theorem get0 {s : List (BitVec 8)} {i : Nat} (h : i < s.length) : s[i]? = some (s[i]) := List.getElem?_eq_getElem h
/-- The end of 'cut'. -/
theorem cut_fin (s : List (BitVec 8)) (c : BitVec 8) (hc : ¬ c.toNat < 128) (h n : Nat) (hh : h ≤ s.length) :
    (if (s.drop h).length < n then (some (false, ([] : List (BitVec 8)), ([] : List (BitVec 8)), 70)) else (((if 192 ≤ c.toNat then (some (false)) else (if n = 1 then ((s.drop h)[0]?).bind fun x56 => (some ((decide (x56.toNat < 128)))) else (some (false)))) : Option ((Bool))).bind fun p42 => (if p42 = true then (some (false, ([] : List (BitVec 8)), ([] : List (BitVec 8)), 71)) else (if n ≤ (s.drop h).length then (some ((decide (192 ≤ c.toNat)), ((s.drop h).take n), ((s.drop h).drop n), 0)) else none)))) =
    (match finS s (decide (192 ≤ c.toNat)) h n with
     | (e, l, h, n) => if e = 0 then some (l, (s.drop h).take n, s.drop (h + n), 0) else some (false, [], [], e)) := by
  unfold finS
  rw [List.length_drop]
  by_cases h1 : s.length - h < n
  · rw [if_pos h1, if_pos h1]; rfl
  rw [if_neg h1, if_neg h1]
  by_cases h2 : 192 ≤ c.toNat
  · rw [if_pos h2, Option.bind_some, if_neg (by simp), if_pos (by omega), if_neg (by simp [h2])]
    simp [h2, List.drop_drop]
  · rw [if_neg h2]
    by_cases h3 : n = 1
    · subst h3
      have hlt : h < s.length := by omega
      rw [if_pos rfl, List.getElem?_drop, Nat.add_zero, get0 hlt, Option.bind_some, Option.bind_some]
      by_cases h4 : (s[h]).toNat < 128
      · rw [if_pos (by simpa using h4), if_pos ⟨by simp [h2], rfl, by simp [small, get0 hlt, h4]⟩]; rfl
      · rw [if_neg (by simpa using h4), if_pos (by omega), if_neg (by simp [small, get0 hlt, h4])]
        simp [h2, List.drop_drop]
    · rw [if_neg h3, Option.bind_some, if_neg (by simp), if_pos (by omega), if_neg (by simp [h3])]
      simp [h2, List.drop_drop]
theorem cut_eq (s : List (BitVec 8)) (hs : s.length ≤ 140737488355328) : rlp_cut s = cutR s := by
  unfold rlp_cut cutR cutS
  by_cases h0 : s.length = 0
  · rw [if_pos h0, List.getElem?_eq_none (by omega)]; rfl
  rw [if_neg h0, get0 (by omega : 0 < s.length), Option.bind_some]
  generalize hc : s[0] = c
  have hcl := c.isLt
  simp only []
  by_cases h1 : c.toNat < 128
  · rw [if_pos h1, if_pos h1, if_pos (by omega)]; simp
  rw [if_neg h1, if_neg h1]
  have hn0 : (if 192 ≤ c.toNat then (some ((c - 192#8).toNat)) else (some ((c - 128#8).toNat))) = some (c.toNat % 64) := by
    by_cases h2 : 192 ≤ c.toNat
    · rw [if_pos h2, BitVec.toNat_sub]; congr 1; simp; omega
    · rw [if_neg h2, BitVec.toNat_sub]; congr 1; simp; omega
  rw [hn0, Option.bind_some, if_pos (by omega)]
  by_cases h3 : 55 < c.toNat % 64
  · rw [if_pos h3, if_pos h3]
    generalize hk : c.toNat % 64 - 55 = k
    have hk8 : k ≤ 8 := by omega
    rw [List.length_drop]
    by_cases h4 : s.length - 1 < k
    · rw [if_pos h4, if_pos h4]; rfl
    rw [if_neg h4, if_neg h4, if_pos (by omega)]
    have hlen : ((s.drop 1).take k).length = k := by rw [List.length_take, List.length_drop]; omega
    have hv := beV_small (l := (s.drop 1).take k) (k := k) (by omega) hk8
    rw [get_eq _ (by omega), Option.bind_some]
    generalize hV : beV ((s.drop 1).take k) = v at hv
    have h1k : (s.drop 1)[0]? = some s[1] := by rw [List.getElem?_drop]; exact get0 (by omega)
    rw [h1k, Option.bind_some, get0 (by omega : 1 < s.length)]
    by_cases h5 : s[1] = 0#8
    · rw [if_pos h5, Option.bind_some, if_pos rfl, if_pos (show some s[1] = some 0#8 ∨ v ≤ 55 from .inl (by rw [h5]))]; rfl
    rw [if_neg h5, show (55#64 : BitVec 64) = BitVec.ofNat 64 55 by rfl, from_eq, Option.bind_some, cmp_of hv (by decide), Option.bind_some, Option.bind_some]
    by_cases h6 : v ≤ 55
    · rw [if_pos (by simpa using (cmpN_le v 55).2 h6), if_pos (show some s[1] = some 0#8 ∨ v ≤ 55 from .inr h6)]; rfl
    rw [if_neg (by simpa using fun h => h6 ((cmpN_le v 55).1 h)), if_neg (show ¬ (some s[1] = some 0#8 ∨ v ≤ 55) by rintro (h | h); exact h5 (by simpa using h); exact h6 h)]
    rw [from_eq, Option.bind_some, List.length_drop, List.length_drop, cmp_of hv (by omega), Option.bind_some]
    by_cases h7 : s.length - 1 - k < v
    · rw [if_pos ((cmpN_gt _ _).2 h7), if_pos h7]; rfl
    rw [if_neg (fun h => h7 ((cmpN_gt _ _).1 h)), if_neg h7, lim0_toNat hv, if_pos (by omega), Option.bind_some]
    simp only []
    rw [List.drop_drop]
    exact cut_fin s c h1 (1 + k) v (by omega)
  · rw [if_neg h3, if_neg h3, Option.bind_some]
    exact cut_fin s c h1 1 _ (by omega)
end Go.Fw
