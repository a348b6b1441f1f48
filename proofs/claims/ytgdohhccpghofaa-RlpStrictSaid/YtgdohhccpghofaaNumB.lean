/- Part of a proof over Ytgdohhccpghofaa: rules and contracts that the law's text uses. No condition. -/
import Derived.Test.YtgdohhccpghofaaNumL
namespace Go.Fw
set_option linter.unusedVariables false
set_option linter.unusedSimpArgs false
set_option maxRecDepth 100000
/-! Bytes of numbers. -/
def be : Nat → Nat → List (BitVec 8)
  | 0, _ => []
  | k + 1, n => BitVec.ofNat 8 (n / 256 ^ k) :: be k n
theorem be_length : ∀ (k n : Nat), (be k n).length = k
  | 0, _ => rfl
  | k + 1, n => by simp [be, be_length k n]
theorem be_drop (n : Nat) : ∀ (d j : Nat), (be (j + d) n).drop d = be j n
  | 0, j => by simp
  | d + 1, j => by
    rw [show j + (d + 1) = (j + d) + 1 by omega]
    show ((BitVec.ofNat 8 (n / 256 ^ (j + d))) :: be (j + d) n).drop (d + 1) = be j n
    rw [List.drop_succ_cons]; exact be_drop n d j
theorem be_get (n : Nat) : ∀ (k i : Nat), i < k → (be k n)[i]? = some (BitVec.ofNat 8 (n / 256 ^ (k - 1 - i)))
  | 0, i, h => by omega
  | k + 1, 0, h => by simp [be]
  | k + 1, i + 1, h => by
    simp only [be, List.getElem?_cons_succ]
    rw [be_get n k i (by omega)]
    rw [show k + 1 - 1 - (i + 1) = k - 1 - i by omega]
def bl (n : Nat) : Nat := if n = 0 then 0 else n.log2 + 1
theorem bl_eq {n k : Nat} (h1 : 2 ^ k ≤ n) (h2 : n < 2 ^ (k + 1)) : bl n = k + 1 := by
  have hp : 0 < 2 ^ k := Nat.two_pow_pos k
  unfold bl
  rw [if_neg (by omega)]
  have := (Nat.log2_lt (n := n) (k := k + 1) (by omega)).2 h2
  have := (Nat.le_log2 (n := n) (k := k) (by omega)).2 h1
  omega
theorem bl_spec {n : Nat} (h : n ≠ 0) : ∃ k, bl n = k + 1 ∧ 2 ^ k ≤ n ∧ n < 2 ^ (k + 1) := ⟨n.log2, by unfold bl; rw [if_neg h], Nat.log2_self_le h, Nat.lt_log2_self⟩
theorem bl_le {n k : Nat} (h : n < 2 ^ k) : bl n ≤ k := by
  unfold bl
  split
  · omega
  · have := (Nat.log2_lt (n := n) (k := k) (by omega)).2 h; omega
theorem lenB_bl (x : BitVec 8) : lenB x = bl x.toNat := by
  unfold lenB bl
  by_cases h : x = 0#8
  · subst h; rfl
  · rw [if_neg h, if_neg (show ¬ x.toNat = 0 from fun e => h (BitVec.eq_of_toNat_eq e))]
theorem bl_shift {n s : Nat} (h : 2 ^ s ≤ n) : bl (n / 2 ^ s) + s = bl n := by
  have hp : 0 < 2 ^ s := Nat.two_pow_pos s
  have hq : n / 2 ^ s ≠ 0 := by
    have := Nat.div_pos h hp; omega
  obtain ⟨k, h1, h2, h3⟩ := bl_spec hq
  rw [h1, bl_eq (k := k + s)]
  · omega
  · rw [Nat.pow_add]; exact (Nat.le_div_iff_mul_le hp).1 h2
  · rw [show k + s + 1 = (k + 1) + s by omega, Nat.pow_add]; exact (Nat.div_lt_iff_lt_mul hp).1 h3
theorem len64_eq (x : BitVec 64) : math_bits_Len64 x = some (bl x.toNat) := by
  have hx := x.isLt
  have fin : ∀ (w : BitVec 64) (n : Nat), w.toNat < 256 → n + bl w.toNat = bl x.toNat → n ≤ 64 →
      (if (n + (BitVec.ofNat 8 (lenB (w.setWidth 8))).toNat) ≤ 9223372036854775807 then (some (n + (BitVec.ofNat 8 (lenB (w.setWidth 8))).toNat)) else none) = some (bl x.toNat) := by
    intro w n hw hn h64
    have h1 : (w.setWidth 8).toNat = w.toNat := by rw [BitVec.toNat_setWidth]; omega
    have h2 := lenB_le (w.setWidth 8)
    have h3 : (BitVec.ofNat 8 (lenB (w.setWidth 8))).toNat = bl w.toNat := by rw [BitVec.toNat_ofNat, lenB_bl, h1]; rw [lenB_bl, h1] at h2; omega
    rw [h3, if_pos (by rw [lenB_bl, h1] at h2; omega), hn]
  have s32 : (x >>> 32).toNat = x.toNat / 2 ^ 32 := by rw [BitVec.toNat_ushiftRight, Nat.shiftRight_eq_div_pow]
  have step8 : ∀ (w : BitVec 64) (n : Nat), w.toNat < 65536 → n + bl w.toNat = bl x.toNat → n ≤ 48 →
      ((((if 256 ≤ w.toNat then (if (n + 8) ≤ 9223372036854775807 then (some (((w >>> 8), (n + 8)))) else none) else (some ((w, n)))) : Option ((BitVec 64) × (Nat))).bind fun (w23, n24) => (if (n24 + (BitVec.ofNat 8 (lenB (w23.setWidth 8))).toNat) ≤ 9223372036854775807 then (some (n24 + (BitVec.ofNat 8 (lenB (w23.setWidth 8))).toNat)) else none))) = some (bl x.toNat) := by
    intro w n hw hn h48
    have s8 : (w >>> 8).toNat = w.toNat / 2 ^ 8 := by rw [BitVec.toNat_ushiftRight, Nat.shiftRight_eq_div_pow]
    by_cases h : 256 ≤ w.toNat
    · rw [if_pos h, if_pos (by omega)]
      have := bl_shift (n := w.toNat) (s := 8) (by omega)
      rw [← s8] at this
      exact fin _ _ (by omega) (by omega) (by omega)
    · rw [if_neg h]
      exact fin _ _ (by omega) hn (by omega)
  have step16 : ∀ (w : BitVec 64) (n : Nat), w.toNat < 4294967296 → n + bl w.toNat = bl x.toNat → n ≤ 32 →
      (((if 65536 ≤ w.toNat then (if (n + 16) ≤ 9223372036854775807 then (some (((w >>> 16), (n + 16)))) else none) else (some ((w, n)))) : Option ((BitVec 64) × (Nat))).bind fun (w13, n14) => (((if 256 ≤ w13.toNat then (if (n14 + 8) ≤ 9223372036854775807 then (some (((w13 >>> 8), (n14 + 8)))) else none) else (some ((w13, n14)))) : Option ((BitVec 64) × (Nat))).bind fun (w23, n24) => (if (n24 + (BitVec.ofNat 8 (lenB (w23.setWidth 8))).toNat) ≤ 9223372036854775807 then (some (n24 + (BitVec.ofNat 8 (lenB (w23.setWidth 8))).toNat)) else none))) = some (bl x.toNat) := by
    intro w n hw hn h32
    have s16 : (w >>> 16).toNat = w.toNat / 2 ^ 16 := by rw [BitVec.toNat_ushiftRight, Nat.shiftRight_eq_div_pow]
    by_cases h : 65536 ≤ w.toNat
    · rw [if_pos h, if_pos (by omega)]
      have := bl_shift (n := w.toNat) (s := 16) (by omega)
      rw [← s16] at this
      exact step8 _ _ (by omega) (by omega) (by omega)
    · rw [if_neg h]
      exact step8 _ _ (by omega) hn (by omega)
  unfold math_bits_Len64
  by_cases h : 4294967296 ≤ x.toNat
  · rw [if_pos h]
    have := bl_shift (n := x.toNat) (s := 32) (by omega)
    rw [← s32] at this
    exact step16 _ _ (by omega) (by omega) (by omega)
  · rw [if_neg h]
    exact step16 _ _ (by omega) (by omega) (by omega)
theorem vget (v : Vector (BitVec 64) 4) (i : Nat) (h : i < 4) : v[i]? = some v[i] := Vector.getElem?_eq_getElem h
theorem bl_top {a b s : Nat} (hb : b < 2 ^ s) (ha : a ≠ 0) : bl (b + 2 ^ s * a) = s + bl a := by
  obtain ⟨k, h1, h2, h3⟩ := bl_spec ha
  have hp : 0 < 2 ^ s := Nat.two_pow_pos s
  rw [h1, bl_eq (k := s + k)]
  · omega
  · rw [Nat.pow_add]; have := Nat.mul_le_mul_left (2 ^ s) h2; omega
  · rw [show s + k + 1 = s + (k + 1) by omega, Nat.pow_add]
    have h4 : 2 ^ s * (a + 1) ≤ 2 ^ s * 2 ^ (k + 1) := Nat.mul_le_mul_left _ h3
    rw [Nat.mul_add] at h4; omega
theorem ulen_eq (v : Vector (BitVec 64) 4) : u256_Len v = some ((bl (val4 v) : Nat) : Int) := by
  have x0 := v[0].isLt; have x1 := v[1].isLt; have x2 := v[2].isLt; have x3 := v[3].isLt
  have hz : ∀ (x : BitVec 64), x = 0#64 ↔ x.toNat = 0 := fun x => ⟨fun h => by subst h; rfl, fun h => BitVec.eq_of_toNat_eq h⟩
  have b0 := bl_le x0; have b1 := bl_le x1; have b2 := bl_le x2; have b3 := bl_le x3
  unfold u256_Len
  simp only [u256_Len.l1, Int.reduceLE, if_true, Int.reduceSub, Int.reduceToNat, Int.toNat_zero, Int.reduceNeg, and_self, Nat.reduceLT, vget v 0 (by omega), vget v 1 (by omega), vget v 2 (by omega), vget v 3 (by omega), Option.bind_some, if_false, Nat.zero_lt_succ, Nat.lt_add_one, Int.reduceMul, len64_eq]
  by_cases h3 : v[3] = 0#64
  · have e3 := (hz _).1 h3
    by_cases h2 : v[2] = 0#64
    · have e2 := (hz _).1 h2
      by_cases h1 : v[1] = 0#64
      · have e1 := (hz _).1 h1
        by_cases h0 : v[0] = 0#64
        · have e0 := (hz _).1 h0
          simp [h0, h1, h2, h3, val4, bl]
        · have hv : val4 v = v[0].toNat := by unfold val4; omega
          rw [hv]
          simp only [h3, h2, h1, h0, if_true, if_false]
          rw [if_pos (by omega)]
          simp
      · have hv : val4 v = v[0].toNat + 2 ^ 64 * v[1].toNat := by unfold val4; omega
        rw [hv, bl_top x0 (fun e => h1 ((hz _).2 e))]
        simp only [h3, h2, h1, if_true, if_false]
        rw [if_pos (by omega)]
        simp
    · have hv : val4 v = (v[0].toNat + 2 ^ 64 * v[1].toNat) + 2 ^ 128 * v[2].toNat := by unfold val4; omega
      rw [hv, bl_top (by omega) (fun e => h2 ((hz _).2 e))]
      simp only [h3, h2, if_true, if_false]
      rw [if_pos (by omega)]
      simp
  · have hv : val4 v = (v[0].toNat + 2 ^ 64 * v[1].toNat + 2 ^ 128 * v[2].toNat) + 2 ^ 192 * v[3].toNat := by unfold val4; omega
    rw [hv, bl_top (by omega) (fun e => h3 ((hz _).2 e))]
    simp only [h3, if_true, if_false]
    rw [if_pos (by omega)]
    simp
end Go.Fw
