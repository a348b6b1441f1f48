/- Part of a proof: rules that its law uses. -/
import Derived.Test.YtpkcehpoohmbfaaDoorRlpP1
import Derived.Test.YtpkcehpoohmbfaaDoorRlpP2
namespace Go.Fw
set_option linter.unusedVariables false
set_option linter.unusedSimpArgs false
set_option maxRecDepth 100000
def val4 (v : Vector (BitVec 64) 4) : Nat := v[0].toNat + 2 ^ 64 * v[1].toNat + 2 ^ 128 * v[2].toNat + 2 ^ 192 * v[3].toNat
def lim (n : Nat) : Vector (BitVec 64) 4 := #v[BitVec.ofNat 64 n, BitVec.ofNat 64 (n / 2 ^ 64), BitVec.ofNat 64 (n / 2 ^ 128), BitVec.ofNat 64 (n / 2 ^ 192)]
theorem vec4_ext {a b : Vector (BitVec 64) 4} (h0 : a[0] = b[0]) (h1 : a[1] = b[1]) (h2 : a[2] = b[2]) (h3 : a[3] = b[3]) : a = b := by
  apply Vector.ext
  intro i hi
  match i, hi with
  | 0, _ => exact h0
  | 1, _ => exact h1
  | 2, _ => exact h2
  | 3, _ => exact h3
theorem val4_lt (v : Vector (BitVec 64) 4) : val4 v < 2 ^ 256 := by
  have h0 := v[0].isLt; have h1 := v[1].isLt; have h2 := v[2].isLt; have h3 := v[3].isLt
  unfold val4
  omega
theorem val4_lim (n : Nat) (h : n < 2 ^ 256) : val4 (lim n) = n := by
  simp only [val4, lim, Vector.getElem_mk, List.getElem_toArray, List.getElem_cons_zero, List.getElem_cons_succ, BitVec.toNat_ofNat]
  omega
theorem lim_val4 (v : Vector (BitVec 64) 4) : lim (val4 v) = v := by
  have h0 := v[0].isLt; have h1 := v[1].isLt; have h2 := v[2].isLt; have h3 := v[3].isLt
  apply vec4_ext <;> (apply BitVec.eq_of_toNat_eq; simp only [lim, Vector.getElem_mk, List.getElem_toArray, List.getElem_cons_zero, List.getElem_cons_succ, BitVec.toNat_ofNat, val4]; omega)
theorem val4_inj {a b : Vector (BitVec 64) 4} (h : val4 a = val4 b) : a = b := by rw [← lim_val4 a, ← lim_val4 b, h]
theorem from_eq (x : BitVec 64) : u256_From x = some (lim x.toNat) := by
  unfold u256_From
  congr 1
  have := x.isLt
  apply vec4_ext <;> (apply BitVec.eq_of_toNat_eq; simp [lim]; try omega)
theorem rfrom_eq (x : BitVec 64) : waybillref01_From x = some (lim x.toNat) := by
  unfold waybillref01_From
  congr 1
  have := x.isLt
  apply vec4_ext <;> (apply BitVec.eq_of_toNat_eq; simp [lim]; try omega)
def cmpN (a b : Nat) : Int := if a < b then -1 else if a = b then 0 else 1
theorem sub64c_eq (x y b : BitVec 64) (hb : b.toNat ≤ 1) : sub64c x y b = some (x - y - b, if x.toNat < y.toNat + b.toNat then 1#64 else 0#64) := by
  unfold sub64c; rw [if_pos hb]
theorem brw (p : Prop) [Decidable p] : (if p then 1#64 else 0#64).toNat = if p then 1 else 0 := by split <;> rfl
theorem u256_Sub_brw (x y : Vector (BitVec 64) 4) : ∃ d, u256_Sub x y = some (d, if val4 x < val4 y then 1#64 else 0#64) := by
  have g : ∀ (v : Vector (BitVec 64) 4) (i : Nat) (h : i < 4), v[i]? = some v[i] := fun v i h => Vector.getElem?_eq_getElem h
  have hb : ∀ (p : Prop) [Decidable p], (if p then 1#64 else 0#64).toNat ≤ 1 := fun p _ => by rw [brw]; split <;> omega
  have x0 := x[0].isLt; have x1 := x[1].isLt; have x2 := x[2].isLt; have x3 := x[3].isLt
  have y0 := y[0].isLt; have y1 := y[1].isLt; have y2 := y[2].isLt; have y3 := y[3].isLt
  unfold u256_Sub
  simp only [u256_Sub.l1, g x 0 (by omega), g x 1 (by omega), g x 2 (by omega), g x 3 (by omega), g y 0 (by omega), g y 1 (by omega), g y 2 (by omega), g y 3 (by omega), Option.bind_some, Nat.zero_add, Nat.reduceAdd, Nat.reduceLT, if_true, if_false, Nat.lt_irrefl, Nat.reduceSub]
  rw [sub64c_eq _ _ _ (by simp)]
  simp only [Option.bind_some]
  rw [sub64c_eq _ _ _ (hb _)]
  simp only [Option.bind_some]
  rw [sub64c_eq _ _ _ (hb _)]
  simp only [Option.bind_some]
  rw [sub64c_eq _ _ _ (hb _)]
  simp only [Option.bind_some, brw]
  have key : (x[3].toNat < y[3].toNat + if x[2].toNat < y[2].toNat + (if x[1].toNat < y[1].toNat + (if x[0].toNat < y[0].toNat + (0#64).toNat then 1 else 0) then 1 else 0) then 1 else 0) ↔ val4 x < val4 y := by
    unfold val4
    have h0 : (0#64).toNat = 0 := rfl
    rw [h0]
    split <;> split <;> split <;> omega
  simp only [key]
  exact ⟨_, rfl⟩
theorem cmp_eq (x y : Vector (BitVec 64) 4) : u256_Cmp x y = some (cmpN (val4 x) (val4 y)) := by
  unfold u256_Cmp cmpN
  by_cases h : x = y
  · subst h; simp
  · rw [if_neg h]
    obtain ⟨d, hd⟩ := u256_Sub_brw x y
    rw [hd]
    have hne : ¬ val4 x = val4 y := fun e => h (val4_inj e)
    by_cases hl : val4 x < val4 y
    · simp [hl]
    · simp [hl, hne]
theorem rcmp_eq (x y : Vector (BitVec 64) 4) : waybillref01_Cmp x y = some (cmpN (val4 x) (val4 y)) := by
  have g : ∀ (v : Vector (BitVec 64) 4) (i : Nat) (h : i < 4), v[i]? = some v[i] := fun v i h => Vector.getElem?_eq_getElem h
  have x0 := x[0].isLt; have x1 := x[1].isLt; have x2 := x[2].isLt; have x3 := x[3].isLt
  have y0 := y[0].isLt; have y1 := y[1].isLt; have y2 := y[2].isLt; have y3 := y[3].isLt
  unfold waybillref01_Cmp cmpN val4
  simp only [waybillref01_Cmp.l1, Int.reduceLE, if_true, Int.reduceSub, Int.reduceToNat, Int.toNat_zero, Int.reduceNeg, and_self, Nat.reduceLT, g x 0 (by omega), g x 1 (by omega), g x 2 (by omega), g x 3 (by omega), g y 0 (by omega), g y 1 (by omega), g y 2 (by omega), g y 3 (by omega), Option.bind_some, if_false, Nat.zero_lt_succ, Nat.lt_add_one]
  repeat' split
  all_goals first
    | rfl
    | (simp; omega)
    | (simp_all; omega)
    | omega
end Go.Fw
namespace Go.Fw
set_option linter.unusedVariables false
set_option linter.unusedSimpArgs false
set_option maxRecDepth 100000
def be : Nat → Nat → List (BitVec 8)
  | 0, _ => []
  | k + 1, n => BitVec.ofNat 8 (n / 256 ^ k) :: be k n
theorem be_length : ∀ (k n : Nat), (be k n).length = k
  | 0, _ => rfl
  | k + 1, n => by simp [be, be_length k n]
theorem be_drop (n : Nat) : ∀ (d j : Nat), (be (j + d) n).drop d = be j n
  | 0, j => by simp
  | d + 1, j => by
    rw [show j + (d + 1) = (j + d) + 1 by omega]
    show ((BitVec.ofNat 8 (n / 256 ^ (j + d))) :: be (j + d) n).drop (d + 1) = be j n
    rw [List.drop_succ_cons]; exact be_drop n d j
theorem be_get (n : Nat) : ∀ (k i : Nat), i < k → (be k n)[i]? = some (BitVec.ofNat 8 (n / 256 ^ (k - 1 - i)))
  | 0, i, h => by omega
  | k + 1, 0, h => by simp [be]
  | k + 1, i + 1, h => by
    simp only [be, List.getElem?_cons_succ]
    rw [be_get n k i (by omega)]
    rw [show k + 1 - 1 - (i + 1) = k - 1 - i by omega]
def bl (n : Nat) : Nat := if n = 0 then 0 else n.log2 + 1
theorem bl_eq {n k : Nat} (h1 : 2 ^ k ≤ n) (h2 : n < 2 ^ (k + 1)) : bl n = k + 1 := by
  have hp : 0 < 2 ^ k := Nat.two_pow_pos k
  unfold bl
  rw [if_neg (by omega)]
  have := (Nat.log2_lt (n := n) (k := k + 1) (by omega)).2 h2
  have := (Nat.le_log2 (n := n) (k := k) (by omega)).2 h1
  omega
theorem bl_spec {n : Nat} (h : n ≠ 0) : ∃ k, bl n = k + 1 ∧ 2 ^ k ≤ n ∧ n < 2 ^ (k + 1) := ⟨n.log2, by unfold bl; rw [if_neg h], Nat.log2_self_le h, Nat.lt_log2_self⟩
theorem bl_le {n k : Nat} (h : n < 2 ^ k) : bl n ≤ k := by
  unfold bl
  split
  · omega
  · have := (Nat.log2_lt (n := n) (k := k) (by omega)).2 h; omega
theorem lenB_bl (x : BitVec 8) : lenB x = bl x.toNat := by
  unfold lenB bl
  by_cases h : x = 0#8
  · subst h; rfl
  · rw [if_neg h, if_neg (show ¬ x.toNat = 0 from fun e => h (BitVec.eq_of_toNat_eq e))]
theorem bl_shift {n s : Nat} (h : 2 ^ s ≤ n) : bl (n / 2 ^ s) + s = bl n := by
  have hp : 0 < 2 ^ s := Nat.two_pow_pos s
  have hq : n / 2 ^ s ≠ 0 := by
    have := Nat.div_pos h hp; omega
  obtain ⟨k, h1, h2, h3⟩ := bl_spec hq
  rw [h1, bl_eq (k := k + s)]
  · omega
  · rw [Nat.pow_add]; exact (Nat.le_div_iff_mul_le hp).1 h2
  · rw [show k + s + 1 = (k + 1) + s by omega, Nat.pow_add]; exact (Nat.div_lt_iff_lt_mul hp).1 h3
theorem len64_eq (x : BitVec 64) : math_bits_Len64 x = some (bl x.toNat) := by
  have hx := x.isLt
  have fin : ∀ (w : BitVec 64) (n : Nat), w.toNat < 256 → n + bl w.toNat = bl x.toNat → n ≤ 64 →
      (if (n + (BitVec.ofNat 8 (lenB (w.setWidth 8))).toNat) ≤ 9223372036854775807 then (some (n + (BitVec.ofNat 8 (lenB (w.setWidth 8))).toNat)) else none) = some (bl x.toNat) := by
    intro w n hw hn h64
    have h1 : (w.setWidth 8).toNat = w.toNat := by rw [BitVec.toNat_setWidth]; omega
    have h2 := lenB_le (w.setWidth 8)
    have h3 : (BitVec.ofNat 8 (lenB (w.setWidth 8))).toNat = bl w.toNat := by rw [BitVec.toNat_ofNat, lenB_bl, h1]; rw [lenB_bl, h1] at h2; omega
    rw [h3, if_pos (by rw [lenB_bl, h1] at h2; omega), hn]
  have s32 : (x >>> 32).toNat = x.toNat / 2 ^ 32 := by rw [BitVec.toNat_ushiftRight, Nat.shiftRight_eq_div_pow]
  have step8 : ∀ (w : BitVec 64) (n : Nat), w.toNat < 65536 → n + bl w.toNat = bl x.toNat → n ≤ 48 →
      ((((if 256 ≤ w.toNat then (if (n + 8) ≤ 9223372036854775807 then (some (((w >>> 8), (n + 8)))) else none) else (some ((w, n)))) : Option ((BitVec 64) × (Nat))).bind fun (w23, n24) => (if (n24 + (BitVec.ofNat 8 (lenB (w23.setWidth 8))).toNat) ≤ 9223372036854775807 then (some (n24 + (BitVec.ofNat 8 (lenB (w23.setWidth 8))).toNat)) else none))) = some (bl x.toNat) := by
    intro w n hw hn h48
    have s8 : (w >>> 8).toNat = w.toNat / 2 ^ 8 := by rw [BitVec.toNat_ushiftRight, Nat.shiftRight_eq_div_pow]
    by_cases h : 256 ≤ w.toNat
    · rw [if_pos h, if_pos (by omega)]
      have := bl_shift (n := w.toNat) (s := 8) (by omega)
      rw [← s8] at this
      exact fin _ _ (by omega) (by omega) (by omega)
    · rw [if_neg h]
      exact fin _ _ (by omega) hn (by omega)
  have step16 : ∀ (w : BitVec 64) (n : Nat), w.toNat < 4294967296 → n + bl w.toNat = bl x.toNat → n ≤ 32 →
      (((if 65536 ≤ w.toNat then (if (n + 16) ≤ 9223372036854775807 then (some (((w >>> 16), (n + 16)))) else none) else (some ((w, n)))) : Option ((BitVec 64) × (Nat))).bind fun (w13, n14) => (((if 256 ≤ w13.toNat then (if (n14 + 8) ≤ 9223372036854775807 then (some (((w13 >>> 8), (n14 + 8)))) else none) else (some ((w13, n14)))) : Option ((BitVec 64) × (Nat))).bind fun (w23, n24) => (if (n24 + (BitVec.ofNat 8 (lenB (w23.setWidth 8))).toNat) ≤ 9223372036854775807 then (some (n24 + (BitVec.ofNat 8 (lenB (w23.setWidth 8))).toNat)) else none))) = some (bl x.toNat) := by
    intro w n hw hn h32
    have s16 : (w >>> 16).toNat = w.toNat / 2 ^ 16 := by rw [BitVec.toNat_ushiftRight, Nat.shiftRight_eq_div_pow]
    by_cases h : 65536 ≤ w.toNat
    · rw [if_pos h, if_pos (by omega)]
      have := bl_shift (n := w.toNat) (s := 16) (by omega)
      rw [← s16] at this
      exact step8 _ _ (by omega) (by omega) (by omega)
    · rw [if_neg h]
      exact step8 _ _ (by omega) hn (by omega)
  unfold math_bits_Len64
  by_cases h : 4294967296 ≤ x.toNat
  · rw [if_pos h]
    have := bl_shift (n := x.toNat) (s := 32) (by omega)
    rw [← s32] at this
    exact step16 _ _ (by omega) (by omega) (by omega)
  · rw [if_neg h]
    exact step16 _ _ (by omega) (by omega) (by omega)
theorem vget (v : Vector (BitVec 64) 4) (i : Nat) (h : i < 4) : v[i]? = some v[i] := Vector.getElem?_eq_getElem h
theorem bl_top {a b s : Nat} (hb : b < 2 ^ s) (ha : a ≠ 0) : bl (b + 2 ^ s * a) = s + bl a := by
  obtain ⟨k, h1, h2, h3⟩ := bl_spec ha
  have hp : 0 < 2 ^ s := Nat.two_pow_pos s
  rw [h1, bl_eq (k := s + k)]
  · omega
  · rw [Nat.pow_add]; have := Nat.mul_le_mul_left (2 ^ s) h2; omega
  · rw [show s + k + 1 = s + (k + 1) by omega, Nat.pow_add]
    have h4 : 2 ^ s * (a + 1) ≤ 2 ^ s * 2 ^ (k + 1) := Nat.mul_le_mul_left _ h3
    rw [Nat.mul_add] at h4; omega
theorem ulen_eq (v : Vector (BitVec 64) 4) : u256_Len v = some ((bl (val4 v) : Nat) : Int) := by
  have x0 := v[0].isLt; have x1 := v[1].isLt; have x2 := v[2].isLt; have x3 := v[3].isLt
  have hz : ∀ (x : BitVec 64), x = 0#64 ↔ x.toNat = 0 := fun x => ⟨fun h => by subst h; rfl, fun h => BitVec.eq_of_toNat_eq h⟩
  have b0 := bl_le x0; have b1 := bl_le x1; have b2 := bl_le x2; have b3 := bl_le x3
  unfold u256_Len
  simp only [u256_Len.l1, Int.reduceLE, if_true, Int.reduceSub, Int.reduceToNat, Int.toNat_zero, Int.reduceNeg, and_self, Nat.reduceLT, vget v 0 (by omega), vget v 1 (by omega), vget v 2 (by omega), vget v 3 (by omega), Option.bind_some, if_false, Nat.zero_lt_succ, Nat.lt_add_one, Int.reduceMul, len64_eq]
  by_cases h3 : v[3] = 0#64
  · have e3 := (hz _).1 h3
    by_cases h2 : v[2] = 0#64
    · have e2 := (hz _).1 h2
      by_cases h1 : v[1] = 0#64
      · have e1 := (hz _).1 h1
        by_cases h0 : v[0] = 0#64
        · have e0 := (hz _).1 h0
          simp [h0, h1, h2, h3, val4, bl]
        · have hv : val4 v = v[0].toNat := by unfold val4; omega
          rw [hv]
          simp only [h3, h2, h1, h0, if_true, if_false]
          rw [if_pos (by omega)]
          simp
      · have hv : val4 v = v[0].toNat + 2 ^ 64 * v[1].toNat := by unfold val4; omega
        rw [hv, bl_top x0 (fun e => h1 ((hz _).2 e))]
        simp only [h3, h2, h1, if_true, if_false]
        rw [if_pos (by omega)]
        simp
    · have hv : val4 v = (v[0].toNat + 2 ^ 64 * v[1].toNat) + 2 ^ 128 * v[2].toNat := by unfold val4; omega
      rw [hv, bl_top (by omega) (fun e => h2 ((hz _).2 e))]
      simp only [h3, h2, if_true, if_false]
      rw [if_pos (by omega)]
      simp
  · have hv : val4 v = (v[0].toNat + 2 ^ 64 * v[1].toNat + 2 ^ 128 * v[2].toNat) + 2 ^ 192 * v[3].toNat := by unfold val4; omega
    rw [hv, bl_top (by omega) (fun e => h3 ((hz _).2 e))]
    simp only [h3, if_true, if_false]
    rw [if_pos (by omega)]
    simp
end Go.Fw
namespace Go.Fw
set_option linter.unusedVariables false
set_option linter.unusedSimpArgs false
set_option maxRecDepth 100000
theorem limb (v : Vector (BitVec 64) 4) (q : Nat) (h : q < 4) : val4 v / 2 ^ (64 * q) % 2 ^ 64 = v[q].toNat := by
  have x0 := v[0].isLt; have x1 := v[1].isLt; have x2 := v[2].isLt; have x3 := v[3].isLt
  unfold val4
  match q, h with
  | 0, _ => simp only [Nat.mul_zero, Nat.pow_zero, Nat.div_one]; omega
  | 1, _ => simp only [Nat.mul_one]; omega
  | 2, _ => simp only [Nat.reduceMul]; omega
  | 3, _ => simp only [Nat.reduceMul]; omega
theorem byte_r (m x r : Nat) (h : r < 8) (e : m % 2 ^ 64 = x) : m / 256 ^ r % 256 = x / 256 ^ r % 256 := by
  subst e
  match r, h with
  | 0, _ => simp only [Nat.pow_zero]; omega
  | 1, _ => simp only [Nat.pow_one]; omega
  | 2, _ => simp only [Nat.reducePow]; omega
  | 3, _ => simp only [Nat.reducePow]; omega
  | 4, _ => simp only [Nat.reducePow]; omega
  | 5, _ => simp only [Nat.reducePow]; omega
  | 6, _ => simp only [Nat.reducePow]; omega
  | 7, _ => simp only [Nat.reducePow]; omega
theorem pow256 (r : Nat) : 256 ^ r = 2 ^ (8 * r) := by rw [show (256 : Nat) = 2 ^ 8 by rfl, ← Nat.pow_mul]
theorem put_byte (v : Vector (BitVec 64) 4) (n : Nat) (h : n / 8 < 4) : ((v[n / 8] >>> (8 * (n % 8))).setWidth 8) = BitVec.ofNat 8 (val4 v / 256 ^ n) := by
  apply BitVec.eq_of_toNat_eq
  rw [BitVec.toNat_setWidth, BitVec.toNat_ushiftRight, Nat.shiftRight_eq_div_pow, BitVec.toNat_ofNat, ← pow256]
  have h1 := byte_r (val4 v / 2 ^ (64 * (n / 8))) _ (n % 8) (by omega) (limb v (n / 8) h)
  rw [Nat.div_div_eq_div_mul] at h1
  have e : 2 ^ (64 * (n / 8)) * 256 ^ (n % 8) = 256 ^ n := by
    rw [pow256, pow256, ← Nat.pow_add]
    congr 1
    omega
  rw [e] at h1
  omega
def fillB (v : Vector (BitVec 64) 4) : Nat → Nat → Vector (BitVec 8) 32 → Vector (BitVec 8) 32
  | _, 0, w => w
  | n, d + 1, w => fillB v (n + 1) d (w.setIfInBounds (31 - n) (BitVec.ofNat 8 (val4 v / 256 ^ n)))
theorem put_loop (v : Vector (BitVec 64) 4) : ∀ (d n k : Nat) (w : Vector (BitVec 8) 32), n + d = 32 → d < k → u256_Put.l1 v k n w = some (fillB v n d w)
  | 0, n, k, w, h, hk => by
    obtain ⟨k, rfl⟩ : ∃ m, k = m + 1 := ⟨k - 1, by omega⟩
    simp only [u256_Put.l1]
    rw [if_neg (by omega)]; rfl
  | d + 1, n, k, w, h, hk => by
    obtain ⟨k, rfl⟩ : ∃ m, k = m + 1 := ⟨k - 1, by omega⟩
    simp only [u256_Put.l1]
    rw [if_pos (by omega), if_pos (by omega), if_pos (by omega), vget v (n / 8) (by omega)]
    simp only [Option.bind_some]
    rw [if_pos (by omega), put_byte v n (by omega)]
    exact put_loop v d (n + 1) k _ (by omega) (by omega)
theorem rput_loop (v : Vector (BitVec 64) 4) : ∀ (d n k : Nat) (w : Vector (BitVec 8) 32), n + d = 32 → d < k → waybillref01_Put.l1 v k n w = some (fillB v n d w)
  | 0, n, k, w, h, hk => by
    obtain ⟨k, rfl⟩ : ∃ m, k = m + 1 := ⟨k - 1, by omega⟩
    simp only [waybillref01_Put.l1]
    rw [if_neg (by omega)]; rfl
  | d + 1, n, k, w, h, hk => by
    obtain ⟨k, rfl⟩ : ∃ m, k = m + 1 := ⟨k - 1, by omega⟩
    simp only [waybillref01_Put.l1]
    have e : (BitVec.ofNat 64 (8 * (n % 8))).toNat = 8 * (n % 8) := by rw [BitVec.toNat_ofNat]; omega
    rw [if_pos (by omega), if_pos (by omega), if_pos (by omega), vget v (n / 8) (by omega), e]
    simp only [Option.bind_some]
    rw [if_pos (by omega), put_byte v n (by omega)]
    exact rput_loop v d (n + 1) k _ (by omega) (by omega)
theorem fillB_get (v : Vector (BitVec 64) 4) : ∀ (d n : Nat) (w : Vector (BitVec 8) 32), n + d = 32 → ∀ i (hi : i < 32), (fillB v n d w)[i] = if i ≤ 31 - n ∧ 0 < d then BitVec.ofNat 8 (val4 v / 256 ^ (31 - i)) else w[i]
  | 0, n, w, h, i, hi => by simp [fillB]
  | d + 1, n, w, h, i, hi => by
    unfold fillB
    rw [fillB_get v d (n + 1) _ (by omega) i hi]
    rw [Vector.getElem_setIfInBounds]
    by_cases h1 : i = 31 - n
    · subst h1
      rw [if_neg (by omega), if_pos (by omega), if_pos (by omega), show 31 - (31 - n) = n by omega]
    · by_cases h2 : i ≤ 31 - (n + 1) ∧ 0 < d
      · rw [if_pos h2, if_pos (by omega)]
      · rw [if_neg h2, if_neg (by omega), if_neg (by omega)]
theorem fillB_be (v : Vector (BitVec 64) 4) (w : Vector (BitVec 8) 32) : (fillB v 0 32 w).toList = be 32 (val4 v) := by
  apply List.ext_getElem?
  intro i
  rcases Nat.lt_or_ge i 32 with h | h
  · rw [be_get _ 32 i h, vat' h, fillB_get v 32 0 w (by omega) i h, if_pos (by omega)]
  · rw [List.getElem?_eq_none (by simp; omega), List.getElem?_eq_none (by rw [be_length]; omega)]
theorem put_eq (v : Vector (BitVec 64) 4) : ∃ w, u256_Put v = some w ∧ waybillref01_Put v = some w ∧ w.toList = be 32 (val4 v) := by
  refine ⟨fillB v 0 32 (Vector.replicate 32 0#8), ?_, ?_, fillB_be v _⟩
  · unfold u256_Put; rw [put_loop v 32 0 _ _ (by omega) (by omega)]; rfl
  · unfold waybillref01_Put; rw [rput_loop v 32 0 _ _ (by omega) (by omega)]; rfl
def nb (n : Nat) : Nat := (bl n + 7) / 8
def bytesN (n : Nat) : List (BitVec 8) := be (nb n) n
theorem nb_le {n : Nat} (h : n < 2 ^ 256) : nb n ≤ 32 := by have := bl_le h; unfold nb; omega
theorem be_drop' {n k j : Nat} (h : j ≤ k) : (be k n).drop (k - j) = be j n := by
  have := be_drop n (k - j) j
  rwa [show j + (k - j) = k by omega] at this
theorem bytes_eq (v : Vector (BitVec 64) 4) : u256_Bytes v = some (bytesN (val4 v)) := by
  obtain ⟨w, h1, _, h3⟩ := put_eq v
  unfold u256_Bytes
  have hb : bl (val4 v) ≤ 256 := bl_le (k := 256) (val4_lt v)
  have h32 := nb_le (val4_lt v)
  have hnb : (bl (val4 v) + 7) / 8 = nb (val4 v) := rfl
  have e : (((bl (val4 v) : Nat) : Int) + 7).toNat / 8 = nb (val4 v) := by omega
  rw [h1, Option.bind_some, ulen_eq, Option.bind_some, if_pos (by omega), if_pos (by omega), e, if_pos (by omega), show ((32 : Int) - ((nb (val4 v) : Nat) : Int)).toNat = 32 - nb (val4 v) by omega, if_pos (by omega), h3, be_drop' h32]
  rfl
theorem byte_hi {n k : Nat} (h : nb n ≤ k) : BitVec.ofNat 8 (n / 256 ^ k) = 0#8 := by
  have : n < 256 ^ k := by
    by_cases h0 : n = 0
    · subst h0; exact Nat.pow_pos (by omega)
    obtain ⟨j, h1, h2, h3⟩ := bl_spec h0
    rw [pow256]
    refine Nat.lt_of_lt_of_le h3 (Nat.pow_le_pow_right (by omega) ?_)
    unfold nb at h; omega
  rw [Nat.div_eq_of_lt this]
theorem byte_top {n : Nat} (h : n ≠ 0) : BitVec.ofNat 8 (n / 256 ^ (nb n - 1)) ≠ 0#8 := by
  obtain ⟨j, h1, h2, h3⟩ := bl_spec h
  have hnb : nb n = j / 8 + 1 := by unfold nb; omega
  rw [hnb, Nat.add_sub_cancel, pow256]
  have hp : 0 < 2 ^ (8 * (j / 8)) := Nat.two_pow_pos _
  have ha : 0 < n / 2 ^ (8 * (j / 8)) := Nat.div_pos (Nat.le_trans (Nat.pow_le_pow_right (by omega) (by omega)) h2) hp
  have hb : n / 2 ^ (8 * (j / 8)) < 256 := by
    rw [Nat.div_lt_iff_lt_mul hp]
    refine Nat.lt_of_lt_of_le h3 ?_
    rw [show (256 : Nat) = 2 ^ 8 by rfl, ← Nat.pow_add]
    exact Nat.pow_le_pow_right (by omega) (by omega)
  intro e
  have := congrArg BitVec.toNat e
  rw [BitVec.toNat_ofNat] at this
  simp at this
  omega
theorem rbytes_loop (w : Vector (BitVec 8) 32) (n : Nat) (hw : w.toList = be 32 n) (h256 : nb n ≤ 32) : ∀ (d i k : Nat) (l : List (BitVec 8)), i + d = 32 → d < k → l = ((be 32 n).take i).drop (32 - nb n) → waybillref01_Bytes.l1 w k l i = some (bytesN n)
  | 0, i, k, l, h, hk, hl => by
    obtain ⟨k, rfl⟩ : ∃ m, k = m + 1 := ⟨k - 1, by omega⟩
    simp only [waybillref01_Bytes.l1]
    rw [if_neg (by omega), hl, List.take_of_length_le (by rw [be_length]; omega)]
    rw [be_drop' h256]; rfl
  | d + 1, i, k, l, h, hk, hl => by
    obtain ⟨k, rfl⟩ : ∃ m, k = m + 1 := ⟨k - 1, by omega⟩
    have hlen : l.length = i - (32 - nb n) := by rw [hl, List.length_drop, List.length_take, be_length]; omega
    have hx : w[i]? = some (BitVec.ofNat 8 (n / 256 ^ (31 - i))) := by
      rw [← Vector.getElem?_toList, hw, be_get n 32 i (by omega)]
    have hnext : 32 - nb n ≤ i → l ++ [BitVec.ofNat 8 (n / 256 ^ (31 - i))] = ((be 32 n).take (i + 1)).drop (32 - nb n) := fun hi => by
      rw [List.take_add_one, be_get n 32 i (by omega), Option.toList_some, List.drop_append, hl]
      congr 1
      rw [List.length_take, be_length, show 32 - nb n - min i 32 = 0 by omega]; rfl
    simp only [waybillref01_Bytes.l1]
    rw [if_pos (by omega)]
    by_cases h0 : 0 < l.length
    · rw [if_pos h0, hx]
      simp only [Option.bind_some, List.length_cons, List.length_nil]
      rw [if_pos (by omega)]
      simp only [Option.bind_some]
      exact rbytes_loop w n hw h256 d (i + 1) k _ (by omega) (by omega) (hnext (by omega))
    · rw [if_neg h0, hx]
      simp only [Option.bind_some]
      by_cases hi : i < 32 - nb n
      · rw [if_pos (byte_hi (by omega))]
        simp only [Option.bind_some]
        refine rbytes_loop w n hw h256 d (i + 1) k _ (by omega) (by omega) ?_
        rw [List.drop_of_length_le (by rw [List.length_take, be_length]; omega)]
        exact List.length_eq_zero_iff.1 (by omega)
      · have hi2 : i = 32 - nb n := by omega
        have hn0 : n ≠ 0 := fun e => by subst e; simp [nb, bl] at hi2; omega
        have h31 : 31 - i = nb n - 1 := by omega
        rw [if_neg (by rw [h31]; exact byte_top hn0)]
        simp only [Option.bind_some, List.length_cons, List.length_nil]
        rw [if_pos (by omega)]
        simp only [Option.bind_some]
        exact rbytes_loop w n hw h256 d (i + 1) k _ (by omega) (by omega) (hnext (by omega))
theorem rbytes_eq (v : Vector (BitVec 64) 4) : waybillref01_Bytes v = some (bytesN (val4 v)) := by
  obtain ⟨w, _, h2, h3⟩ := put_eq v
  unfold waybillref01_Bytes
  rw [h2]
  simp only [Option.bind_some]
  rw [rbytes_loop w (val4 v) h3 (nb_le (val4_lt v)) 32 0 40 [] (by omega) (by omega) (by simp)]
  rfl
end Go.Fw
namespace Go.Fw
set_option linter.unusedVariables false
set_option linter.unusedSimpArgs false
set_option maxRecDepth 100000
def beV (l : List (BitVec 8)) : Nat := l.foldl (fun n x => n * 256 + x.toNat) 0
theorem beV_snoc (l : List (BitVec 8)) (x : BitVec 8) : beV (l ++ [x]) = beV l * 256 + x.toNat := by simp [beV]
theorem lim_get (n j : Nat) (h : j < 4) : (lim n)[j] = BitVec.ofNat 64 (n / 2 ^ (64 * j)) := by
  match j, h with
  | 0, _ => simp [lim]
  | 1, _ => simp [lim]
  | 2, _ => simp [lim]
  | 3, _ => simp [lim]
theorem or_low (A B : BitVec 64) (k a : Nat) (hA : A.toNat = 2 ^ k * a) (hB : B.toNat < 2 ^ k) : A ||| B = A + B := by
  apply BitVec.eq_of_toNat_eq
  have h1 : (A ||| B).toNat = A.toNat + B.toNat := by rw [BitVec.toNat_or, hA, ← Nat.two_pow_add_eq_or_of_lt hB]
  have h2 := (A ||| B).isLt
  rw [BitVec.toNat_add, h1, Nat.mod_eq_of_lt (by omega)]
theorem shl_toNat (x : BitVec 8) (r : Nat) (h : r < 8) : ((x.setWidth 64) <<< (8 * r)).toNat = x.toNat * 2 ^ (8 * r) := by
  have hx := x.isLt
  rw [BitVec.toNat_shiftLeft, BitVec.toNat_setWidth, Nat.shiftLeft_eq, Nat.mod_eq_of_lt (a := x.toNat) (by omega), Nat.mod_eq_of_lt]
  have h1 : 2 ^ (8 * r) ≤ 2 ^ 56 := Nat.pow_le_pow_right (by omega) (by omega)
  have h2 : x.toNat * 2 ^ (8 * r) ≤ 255 * 2 ^ 56 := Nat.mul_le_mul (by omega) h1
  omega
theorem set_byte (m p : Nat) (x : BitVec 8) (hp : p / 8 < 4) :
    (lim (m * 256 ^ (p + 1))).setIfInBounds (p / 8) ((lim (m * 256 ^ (p + 1)))[p / 8] + (x.setWidth 64) <<< (8 * (p % 8))) = lim ((m * 256 + x.toNat) * 256 ^ p) := by
  have hx := x.isLt
  have hr : p % 8 < 8 := Nat.mod_lt _ (by omega)
  have e0 : (m * 256 + x.toNat) * 256 ^ p = m * 256 ^ (p + 1) + x.toNat * 256 ^ p := by rw [Nat.add_mul, Nat.pow_succ]; rw [Nat.mul_assoc, Nat.mul_comm 256]
  have e1 : 256 ^ p = 2 ^ (64 * (p / 8)) * 2 ^ (8 * (p % 8)) := by rw [pow256, ← Nat.pow_add]; congr 1; omega
  apply Vector.ext
  intro j hj
  rw [Vector.getElem_setIfInBounds]
  by_cases hjq : p / 8 = j
  · subst hjq
    rw [if_pos rfl, lim_get _ _ hp, lim_get _ _ hp]
    apply BitVec.eq_of_toNat_eq
    rw [BitVec.toNat_add, shl_toNat x _ hr, BitVec.toNat_ofNat, BitVec.toNat_ofNat, e0, e1]
    have hpos : 0 < 2 ^ (64 * (p / 8)) := Nat.two_pow_pos _
    rw [show x.toNat * (2 ^ (64 * (p / 8)) * 2 ^ (8 * (p % 8))) = 2 ^ (64 * (p / 8)) * (x.toNat * 2 ^ (8 * (p % 8))) by rw [← Nat.mul_assoc, Nat.mul_comm x.toNat, Nat.mul_assoc], Nat.add_mul_div_left _ _ hpos]
    rw [Nat.add_mod, Nat.mod_mod, ← Nat.add_mod]
  · rw [if_neg hjq, lim_get _ _ hj, lim_get _ _ hj]
    apply BitVec.eq_of_toNat_eq
    rw [BitVec.toNat_ofNat, BitVec.toNat_ofNat, e0]
    rcases Nat.lt_or_gt_of_ne hjq with h | h
    · -- the limb lies above
      have hy : x.toNat * 256 ^ p < 256 ^ (p + 1) := by
        rw [Nat.pow_succ, Nat.mul_comm]; exact Nat.mul_lt_mul_of_pos_left hx (Nat.pow_pos (by omega))
      have hc : 2 ^ (64 * j) = 256 ^ (p + 1) * 2 ^ (64 * j - 8 * (p + 1)) := by rw [pow256, ← Nat.pow_add]; congr 1; omega
      rw [hc, ← Nat.div_div_eq_div_mul, ← Nat.div_div_eq_div_mul]
      rw [Nat.mul_comm m, Nat.mul_add_div (Nat.pow_pos (by omega)), Nat.div_eq_of_lt hy, Nat.mul_div_cancel_left _ (Nat.pow_pos (by omega))]
      rfl
    · -- the limb lies below
      have hc : x.toNat * 256 ^ p = 2 ^ (64 * j) * (2 ^ 64 * (x.toNat * 2 ^ (8 * p - 64 * j - 64))) := by
        rw [show 2 ^ (64 * j) * (2 ^ 64 * (x.toNat * 2 ^ (8 * p - 64 * j - 64))) = x.toNat * (2 ^ (64 * j) * (2 ^ 64 * 2 ^ (8 * p - 64 * j - 64))) by
          rw [Nat.mul_left_comm (2 ^ 64), Nat.mul_left_comm (2 ^ (64 * j))]]
        rw [pow256, ← Nat.pow_add, ← Nat.pow_add]
        congr 2; omega
      rw [hc, Nat.add_mul_div_left _ _ (Nat.two_pow_pos _), Nat.add_mul_mod_self_left]
theorem lim_mult (m p : Nat) (hp : p / 8 < 4) : ∃ a, ((lim (m * 256 ^ (p + 1)))[p / 8]).toNat = 2 ^ (8 * (p % 8 + 1)) * a := by
  rw [lim_get _ _ hp, BitVec.toNat_ofNat]
  have e1 : 256 ^ (p + 1) = 2 ^ (64 * (p / 8)) * 2 ^ (8 * (p % 8 + 1)) := by rw [pow256, ← Nat.pow_add]; congr 1; omega
  rw [e1, Nat.mul_left_comm, Nat.mul_div_cancel_left _ (Nat.two_pow_pos _)]
  have e2 : (2 : Nat) ^ 64 = 2 ^ (8 * (p % 8 + 1)) * 2 ^ (64 - 8 * (p % 8 + 1)) := by rw [← Nat.pow_add]; congr 1; omega
  rw [e2, Nat.mul_comm m, Nat.mul_mod_mul_left]
  exact ⟨_, rfl⟩
theorem lim0 : lim 0 = Vector.replicate 4 0#64 := by
  apply vec4_ext <;> simp [lim]
theorem take_at {l : List (BitVec 8)} {i : Nat} (h : i < l.length) : ∃ x, l[i]? = some x ∧ l.take (i + 1) = l.take i ++ [x] := by
  refine ⟨l[i], List.getElem?_eq_getElem h, ?_⟩
  rw [List.take_add_one, List.getElem?_eq_getElem h]; rfl
theorem get_loop (l : List (BitVec 8)) (hl : l.length ≤ 32) : ∀ (d i k : Nat), i + d = l.length → d < k → u256_Get.l1 l k i (lim (beV (l.take i) * 256 ^ d)) = some (lim (beV l))
  | 0, i, k, h, hk => by
    obtain ⟨k, rfl⟩ : ∃ m, k = m + 1 := ⟨k - 1, by omega⟩
    rw [u256_Get.l1, if_neg (by omega), List.take_of_length_le (by omega), Nat.pow_zero, Nat.mul_one]
  | d + 1, i, k, h, hk => by
    obtain ⟨k, rfl⟩ : ∃ m, k = m + 1 := ⟨k - 1, by omega⟩
    obtain ⟨x, hx, ht⟩ := take_at (l := l) (i := i) (by omega)
    have hp : l.length - 1 - i = d := by omega
    have hd : d / 8 < 4 := by omega
    have hr : d % 8 < 8 := Nat.mod_lt _ (by omega)
    rw [u256_Get.l1, if_pos (by omega), if_pos (by omega), if_pos (by omega), hp, if_pos hd, vget _ _ hd, Option.bind_some, hx, Option.bind_some]
    obtain ⟨a, ha⟩ := lim_mult (beV (l.take i)) d hd
    have hxl := x.isLt
    rw [or_low _ _ _ a ha (by
      rw [shl_toNat x _ hr, Nat.mul_add, Nat.pow_add, Nat.mul_comm]
      exact Nat.mul_lt_mul_of_pos_left (by omega) (Nat.two_pow_pos _)), set_byte _ _ _ hd, ← beV_snoc, ← ht]
    exact get_loop l hl d (i + 1) k (by omega) (by omega)
theorem rget_loop (l : List (BitVec 8)) (hl : l.length ≤ 32) : ∀ (d i k : Nat), i + d = l.length → d < k → waybillref01_Get.l1 l k i (lim (beV (l.take i) * 256 ^ d)) = some (lim (beV l))
  | 0, i, k, h, hk => by
    obtain ⟨k, rfl⟩ : ∃ m, k = m + 1 := ⟨k - 1, by omega⟩
    rw [waybillref01_Get.l1, if_neg (by omega), List.take_of_length_le (by omega), Nat.pow_zero, Nat.mul_one]
  | d + 1, i, k, h, hk => by
    obtain ⟨k, rfl⟩ : ∃ m, k = m + 1 := ⟨k - 1, by omega⟩
    obtain ⟨x, hx, ht⟩ := take_at (l := l) (i := i) (by omega)
    have hp : l.length - 1 - i = d := by omega
    have hd : d / 8 < 4 := by omega
    have hr : d % 8 < 8 := Nat.mod_lt _ (by omega)
    have e : (BitVec.ofNat 64 (8 * (d % 8))).toNat = 8 * (d % 8) := by rw [BitVec.toNat_ofNat]; omega
    rw [waybillref01_Get.l1, if_pos (by omega), if_pos (by omega), if_pos (by omega), hp, if_pos hd, vget _ _ hd, Option.bind_some, hx, Option.bind_some, e, set_byte _ _ _ hd, ← beV_snoc, ← ht]
    exact rget_loop l hl d (i + 1) k (by omega) (by omega)
theorem get_eq (l : List (BitVec 8)) (hl : l.length ≤ 32) : u256_Get l = some (lim (beV l), 0) := by
  have h := get_loop l hl l.length 0 (l.length - 0 + 2) (by omega) (by omega)
  rw [List.take_zero, show beV [] = 0 by rfl, Nat.zero_mul, lim0] at h
  unfold u256_Get
  rw [if_neg (by omega), h, Option.bind_some]
theorem rget_eq (l : List (BitVec 8)) (hl : l.length ≤ 32) : waybillref01_Get l = some (lim (beV l), 0) := by
  have h := rget_loop l hl l.length 0 (l.length - 0 + 2) (by omega) (by omega)
  rw [List.take_zero, show beV [] = 0 by rfl, Nat.zero_mul, lim0] at h
  unfold waybillref01_Get
  rw [if_neg (by omega), h, Option.bind_some]
theorem get_long (l : List (BitVec 8)) (hl : 32 < l.length) : u256_Get l = some (Vector.replicate 4 0#64, 11) ∧ waybillref01_Get l = some (Vector.replicate 4 0#64, 11) := by
  unfold u256_Get waybillref01_Get
  exact ⟨if_pos hl, if_pos hl⟩
theorem beV_from (l : List (BitVec 8)) : ∀ n, l.foldl (fun n x => n * 256 + x.toNat) n = n * 256 ^ l.length + beV l := by
  induction l with
  | nil => intro n; simp [beV]
  | cons x r ih =>
    intro n
    unfold beV
    rw [List.foldl_cons, List.foldl_cons, ih, ih (0 * 256 + x.toNat), List.length_cons, Nat.pow_succ, Nat.add_mul, Nat.add_mul, Nat.zero_mul]
    have e : n * 256 * 256 ^ r.length = n * (256 ^ r.length * 256) := by rw [Nat.mul_assoc, Nat.mul_comm 256]
    omega
theorem beV_append (a b : List (BitVec 8)) : beV (a ++ b) = beV a * 256 ^ b.length + beV b := by
  rw [beV, List.foldl_append, beV_from]; rfl
theorem beV_lt (l : List (BitVec 8)) : beV l < 256 ^ l.length := by
  induction l with
  | nil => simp [beV]
  | cons x r ih =>
    have hx := x.isLt
    have h := beV_append [x] r
    rw [List.singleton_append] at h
    rw [h, List.length_cons, Nat.pow_succ, Nat.mul_comm (256 ^ r.length)]
    have h1 : beV [x] = x.toNat := by simp [beV]
    rw [h1]
    have h2 : x.toNat * 256 ^ r.length + 256 ^ r.length ≤ 256 * 256 ^ r.length := by
      rw [← Nat.succ_mul]; exact Nat.mul_le_mul_right _ (by omega)
    omega
end Go.Fw
