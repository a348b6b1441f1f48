/- Part of a proof: rules that its law uses. -/
import Derived.Test.YtgonajfngmeanaaDoorFw3
namespace Go.Fw
def padLen (n : Int) : Nat := (9 + (64 - (n % 64 + 9) % 64) % 64).toNat
def padAt (L : Nat) (x : BitVec 64) (i : Nat) : List (BitVec 8) :=
  (List.range L).map fun k => if k = 0 then 128#8 else if L - 1 - k < i then (x >>> (8 * (L - 1 - k))).setWidth 8 else 0#8
def padL (n : Int) : List (BitVec 8) := padAt (padLen n) (BitVec.ofInt 64 n * 8#64) 8
@[simp] theorem padAt_length (L : Nat) (x : BitVec 64) (i : Nat) : (padAt L x i).length = L := by simp [padAt]
theorem padAt_step {L : Nat} {x : BitVec 64} {i : Nat} (hi : i < 8) (hL : 9 ≤ L) : (padAt L x i).set (L - 1 - i) ((x >>> (8 * i)).setWidth 8) = padAt L x (i + 1) := by
  apply List.ext_getElem?
  intro k
  simp only [padAt, List.getElem?_set, List.getElem?_map, List.length_map, List.length_range]
  by_cases hk : k < L
  · by_cases h1 : L - 1 - i = k
    · subst h1
      have h2 : L - 1 - i < L := by omega
      have h3 : ¬ (L - 1 - i = 0) := by omega
      have h4 : L - 1 - (L - 1 - i) = i := by omega
      simp [h2, h3, h4]
    · rw [if_neg h1]
      rw [List.getElem?_range hk]
      simp only [Option.map_some]
      by_cases h0 : k = 0
      · simp [h0]
      · have : (L - 1 - k < i) ↔ (L - 1 - k < i + 1) := by omega
        simp [h0, this]
  · have : (List.range L)[k]? = none := by simp; omega
    rw [this]
    have h1 : ¬ (L - 1 - i = k) := by omega
    simp [h1]
theorem padAt_zero {L : Nat} {x : BitVec 64} (hL : 0 < L) : (List.replicate L (0#8)).set 0 128#8 = padAt L x 0 := by
  apply List.ext_getElem?
  intro k
  simp only [padAt, List.getElem?_set, List.getElem?_map, List.length_replicate, List.getElem?_replicate]
  by_cases hk : k < L
  · rw [List.getElem?_range hk]
    by_cases h0 : 0 = k
    · subst h0; simp [hk]
    · have : ¬ k = 0 := by omega
      simp [h0, hk, this]
  · have : (List.range L)[k]? = none := by simp; omega
    rw [this]
    have h1 : ¬ (0 = k) := by omega
    simp [h1, hk]
theorem u8s_set (l : List (BitVec 8)) (i : Nat) (v : BitVec 8) : (u8s l).set i (U8 v) = u8s (l.set i v) := by simp [u8s, List.map_set]
theorem u8s_rep (n : Nat) : List.replicate n (Value.int .u8 0) = u8s (List.replicate n 0#8) := by simp [u8s, U8]
theorem shiftIn (x : BitVec 64) (k : Nat) (_hk : k + 8 ≤ 64) : (x >>> (k + 8)) <<< 8 ||| ((x >>> k).setWidth 8).setWidth 64 = x >>> k := by
  apply BitVec.eq_of_getLsbD_eq
  intro i hi
  simp only [BitVec.getLsbD_or, BitVec.getLsbD_shiftLeft, BitVec.getLsbD_ushiftRight, BitVec.getLsbD_setWidth, hi, decide_true, Bool.true_and]
  by_cases h : i < 8
  · simp [h]
  · simp [h]
    congr 1; omega
@[simp] theorem padL_length (n : Int) : (padL n).length = padLen n := padAt_length _ _ _
theorem padL_get {n : Int} {k : Nat} (h : k < padLen n) : (padL n)[k]? = some (if k = 0 then 128#8 else if padLen n - 1 - k < 8 then ((BitVec.ofInt 64 n * 8#64) >>> (8 * (padLen n - 1 - k))).setWidth 8 else 0#8) := by
  simp [padL, padAt, List.getElem?_range h]
def beL (x : BitVec 64) (k : Nat) : List (BitVec 8) := (List.range k).map fun j => (x >>> (8 * (7 - j))).setWidth 8
theorem beL_succ (x : BitVec 64) (k : Nat) : beL x (k + 1) = beL x k ++ [(x >>> (8 * (7 - k))).setWidth 8] := by simp [beL, List.range_succ]
theorem padL_parts {n : Int} (hL : 9 ≤ padLen n) : 128#8 :: List.replicate (padLen n - 9) 0#8 ++ beL (BitVec.ofInt 64 n * 8#64) 8 = padL n := by
  apply List.ext_getElem?
  intro k
  have hlen : (128#8 :: List.replicate (padLen n - 9) 0#8).length = padLen n - 8 := by simp; omega
  by_cases hk : k < padLen n
  · rw [padL_get hk]
    by_cases h1 : k < padLen n - 8
    · rw [List.getElem?_append_left (by omega)]
      cases k with
      | zero => simp
      | succ k =>
        have h2 : k < padLen n - 9 := by omega
        have h3 : ¬ (padLen n - 1 - (k + 1) < 8) := by omega
        simp [h2, h3]
    · rw [List.getElem?_append_right (by omega), hlen]
      have h2 : k - (padLen n - 8) < 8 := by omega
      have h3 : ¬ k = 0 := by omega
      have h4 : padLen n - 1 - k < 8 := by omega
      have h5 : 7 - (k - (padLen n - 8)) = padLen n - 1 - k := by omega
      simp [beL, List.getElem?_range h2, h3, h4, h5]
  · rw [List.getElem?_eq_none (by simp [beL]; omega), List.getElem?_eq_none (by simp; omega)]
theorem u8s_app (a b : List (BitVec 8)) : u8s a ++ u8s b = u8s (a ++ b) := by simp [u8s]
end Go.Fw
