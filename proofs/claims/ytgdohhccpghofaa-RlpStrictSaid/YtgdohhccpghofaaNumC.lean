/- Part of a proof over Ytgdohhccpghofaa: rules and contracts that the law's text uses. No condition. -/
import Derived.Test.YtgdohhccpghofaaNumB
import Derived.Test.YtgdohhccpghofaaRlpP2
namespace Go.Fw
set_option linter.unusedVariables false
set_option linter.unusedSimpArgs false
set_option maxRecDepth 100000
theorem limb (v : Vector (BitVec 64) 4) (q : Nat) (h : q < 4) : val4 v / 2 ^ (64 * q) % 2 ^ 64 = v[q].toNat := by
  have x0 := v[0].isLt; have x1 := v[1].isLt; have x2 := v[2].isLt; have x3 := v[3].isLt
  unfold val4
  match q, h with
  | 0, _ => simp only [Nat.mul_zero, Nat.pow_zero, Nat.div_one]; omega
  | 1, _ => simp only [Nat.mul_one]; omega
  | 2, _ => simp only [Nat.reduceMul]; omega
  | 3, _ => simp only [Nat.reduceMul]; omega
theorem byte_r (m x r : Nat) (h : r < 8) (e : m % 2 ^ 64 = x) : m / 256 ^ r % 256 = x / 256 ^ r % 256 := by
  subst e
  match r, h with
  | 0, _ => simp only [Nat.pow_zero]; omega
  | 1, _ => simp only [Nat.pow_one]; omega
  | 2, _ => simp only [Nat.reducePow]; omega
  | 3, _ => simp only [Nat.reducePow]; omega
  | 4, _ => simp only [Nat.reducePow]; omega
  | 5, _ => simp only [Nat.reducePow]; omega
  | 6, _ => simp only [Nat.reducePow]; omega
  | 7, _ => simp only [Nat.reducePow]; omega
theorem pow256 (r : Nat) : 256 ^ r = 2 ^ (8 * r) := by rw [show (256 : Nat) = 2 ^ 8 by rfl, ← Nat.pow_mul]
theorem put_byte (v : Vector (BitVec 64) 4) (n : Nat) (h : n / 8 < 4) : ((v[n / 8] >>> (8 * (n % 8))).setWidth 8) = BitVec.ofNat 8 (val4 v / 256 ^ n) := by
  apply BitVec.eq_of_toNat_eq
  rw [BitVec.toNat_setWidth, BitVec.toNat_ushiftRight, Nat.shiftRight_eq_div_pow, BitVec.toNat_ofNat, ← pow256]
  have h1 := byte_r (val4 v / 2 ^ (64 * (n / 8))) _ (n % 8) (by omega) (limb v (n / 8) h)
  rw [Nat.div_div_eq_div_mul] at h1
  have e : 2 ^ (64 * (n / 8)) * 256 ^ (n % 8) = 256 ^ n := by
    rw [pow256, pow256, ← Nat.pow_add]
    congr 1
    omega
  rw [e] at h1
  omega
def fillB (v : Vector (BitVec 64) 4) : Nat → Nat → Vector (BitVec 8) 32 → Vector (BitVec 8) 32
  | _, 0, w => w
  | n, d + 1, w => fillB v (n + 1) d (w.setIfInBounds (31 - n) (BitVec.ofNat 8 (val4 v / 256 ^ n)))
theorem put_loop (v : Vector (BitVec 64) 4) : ∀ (d n k : Nat) (w : Vector (BitVec 8) 32), n + d = 32 → d < k → u256_Put.l1 v k n w = some (fillB v n d w)
  | 0, n, k, w, h, hk => by
    obtain ⟨k, rfl⟩ : ∃ m, k = m + 1 := ⟨k - 1, by omega⟩
    simp only [u256_Put.l1]
    rw [if_neg (by omega)]; rfl
  | d + 1, n, k, w, h, hk => by
    obtain ⟨k, rfl⟩ : ∃ m, k = m + 1 := ⟨k - 1, by omega⟩
    simp only [u256_Put.l1]
    rw [if_pos (by omega), if_pos (by omega), if_pos (by omega), vget v (n / 8) (by omega)]
    simp only [Option.bind_some]
    rw [if_pos (by omega), put_byte v n (by omega)]
    exact put_loop v d (n + 1) k _ (by omega) (by omega)
theorem rput_loop (v : Vector (BitVec 64) 4) : ∀ (d n k : Nat) (w : Vector (BitVec 8) 32), n + d = 32 → d < k → waybillref01_Put.l1 v k n w = some (fillB v n d w)
  | 0, n, k, w, h, hk => by
    obtain ⟨k, rfl⟩ : ∃ m, k = m + 1 := ⟨k - 1, by omega⟩
    simp only [waybillref01_Put.l1]
    rw [if_neg (by omega)]; rfl
  | d + 1, n, k, w, h, hk => by
    obtain ⟨k, rfl⟩ : ∃ m, k = m + 1 := ⟨k - 1, by omega⟩
    simp only [waybillref01_Put.l1]
    have e : (BitVec.ofNat 64 (8 * (n % 8))).toNat = 8 * (n % 8) := by rw [BitVec.toNat_ofNat]; omega
    rw [if_pos (by omega), if_pos (by omega), if_pos (by omega), vget v (n / 8) (by omega), e]
    simp only [Option.bind_some]
    rw [if_pos (by omega), put_byte v n (by omega)]
    exact rput_loop v d (n + 1) k _ (by omega) (by omega)
theorem fillB_get (v : Vector (BitVec 64) 4) : ∀ (d n : Nat) (w : Vector (BitVec 8) 32), n + d = 32 → ∀ i (hi : i < 32), (fillB v n d w)[i] = if i ≤ 31 - n ∧ 0 < d then BitVec.ofNat 8 (val4 v / 256 ^ (31 - i)) else w[i]
  | 0, n, w, h, i, hi => by simp [fillB]
  | d + 1, n, w, h, i, hi => by
    unfold fillB
    rw [fillB_get v d (n + 1) _ (by omega) i hi]
    rw [Vector.getElem_setIfInBounds]
    by_cases h1 : i = 31 - n
    · subst h1
      rw [if_neg (by omega), if_pos (by omega), if_pos (by omega), show 31 - (31 - n) = n by omega]
    · by_cases h2 : i ≤ 31 - (n + 1) ∧ 0 < d
      · rw [if_pos h2, if_pos (by omega)]
      · rw [if_neg h2, if_neg (by omega), if_neg (by omega)]
theorem fillB_be (v : Vector (BitVec 64) 4) (w : Vector (BitVec 8) 32) : (fillB v 0 32 w).toList = be 32 (val4 v) := by
  apply List.ext_getElem?
  intro i
  rcases Nat.lt_or_ge i 32 with h | h
  · rw [be_get _ 32 i h, vat' h, fillB_get v 32 0 w (by omega) i h, if_pos (by omega)]
  · rw [List.getElem?_eq_none (by simp; omega), List.getElem?_eq_none (by rw [be_length]; omega)]
theorem put_eq (v : Vector (BitVec 64) 4) : ∃ w, u256_Put v = some w ∧ waybillref01_Put v = some w ∧ w.toList = be 32 (val4 v) := by
  refine ⟨fillB v 0 32 (Vector.replicate 32 0#8), ?_, ?_, fillB_be v _⟩
  · unfold u256_Put; rw [put_loop v 32 0 _ _ (by omega) (by omega)]; rfl
  · unfold waybillref01_Put; rw [rput_loop v 32 0 _ _ (by omega) (by omega)]; rfl
/-- So many bytes a number has. -/
def nb (n : Nat) : Nat := (bl n + 7) / 8
def bytesN (n : Nat) : List (BitVec 8) := be (nb n) n
theorem nb_le {n : Nat} (h : n < 2 ^ 256) : nb n ≤ 32 := by have := bl_le h; unfold nb; omega
theorem be_drop' {n k j : Nat} (h : j ≤ k) : (be k n).drop (k - j) = be j n := by
  have := be_drop n (k - j) j
  rwa [show j + (k - j) = k by omega] at this
theorem bytes_eq (v : Vector (BitVec 64) 4) : u256_Bytes v = some (bytesN (val4 v)) := by
  obtain ⟨w, h1, _, h3⟩ := put_eq v
  unfold u256_Bytes
  have hb : bl (val4 v) ≤ 256 := bl_le (k := 256) (val4_lt v)
  have h32 := nb_le (val4_lt v)
  have hnb : (bl (val4 v) + 7) / 8 = nb (val4 v) := rfl
  have e : (((bl (val4 v) : Nat) : Int) + 7).toNat / 8 = nb (val4 v) := by omega
  rw [h1, Option.bind_some, ulen_eq, Option.bind_some, if_pos (by omega), if_pos (by omega), e, if_pos (by omega), show ((32 : Int) - ((nb (val4 v) : Nat) : Int)).toNat = 32 - nb (val4 v) by omega, if_pos (by omega), h3, be_drop' h32]
  rfl
theorem byte_hi {n k : Nat} (h : nb n ≤ k) : BitVec.ofNat 8 (n / 256 ^ k) = 0#8 := by
  have : n < 256 ^ k := by
    by_cases h0 : n = 0
    · subst h0; exact Nat.pow_pos (by omega)
    obtain ⟨j, h1, h2, h3⟩ := bl_spec h0
    rw [pow256]
    refine Nat.lt_of_lt_of_le h3 (Nat.pow_le_pow_right (by omega) ?_)
    unfold nb at h; omega
  rw [Nat.div_eq_of_lt this]
theorem byte_top {n : Nat} (h : n ≠ 0) : BitVec.ofNat 8 (n / 256 ^ (nb n - 1)) ≠ 0#8 := by
  obtain ⟨j, h1, h2, h3⟩ := bl_spec h
  have hnb : nb n = j / 8 + 1 := by unfold nb; omega
  rw [hnb, Nat.add_sub_cancel, pow256]
  have hp : 0 < 2 ^ (8 * (j / 8)) := Nat.two_pow_pos _
  have ha : 0 < n / 2 ^ (8 * (j / 8)) := Nat.div_pos (Nat.le_trans (Nat.pow_le_pow_right (by omega) (by omega)) h2) hp
  have hb : n / 2 ^ (8 * (j / 8)) < 256 := by
    rw [Nat.div_lt_iff_lt_mul hp]
    refine Nat.lt_of_lt_of_le h3 ?_
    rw [show (256 : Nat) = 2 ^ 8 by rfl, ← Nat.pow_add]
    exact Nat.pow_le_pow_right (by omega) (by omega)
  intro e
  have := congrArg BitVec.toNat e
  rw [BitVec.toNat_ofNat] at this
  simp at this
  omega
theorem rbytes_loop (w : Vector (BitVec 8) 32) (n : Nat) (hw : w.toList = be 32 n) (h256 : nb n ≤ 32) : ∀ (d i k : Nat) (l : List (BitVec 8)), i + d = 32 → d < k → l = ((be 32 n).take i).drop (32 - nb n) → waybillref01_Bytes.l1 w k l i = some (bytesN n)
  | 0, i, k, l, h, hk, hl => by
    obtain ⟨k, rfl⟩ : ∃ m, k = m + 1 := ⟨k - 1, by omega⟩
    simp only [waybillref01_Bytes.l1]
    rw [if_neg (by omega), hl, List.take_of_length_le (by rw [be_length]; omega)]
    rw [be_drop' h256]; rfl
  | d + 1, i, k, l, h, hk, hl => by
    obtain ⟨k, rfl⟩ : ∃ m, k = m + 1 := ⟨k - 1, by omega⟩
    have hlen : l.length = i - (32 - nb n) := by rw [hl, List.length_drop, List.length_take, be_length]; omega
    have hx : w[i]? = some (BitVec.ofNat 8 (n / 256 ^ (31 - i))) := by
      rw [← Vector.getElem?_toList, hw, be_get n 32 i (by omega)]
    have hnext : 32 - nb n ≤ i → l ++ [BitVec.ofNat 8 (n / 256 ^ (31 - i))] = ((be 32 n).take (i + 1)).drop (32 - nb n) := fun hi => by
      rw [List.take_add_one, be_get n 32 i (by omega), Option.toList_some, List.drop_append, hl]
      congr 1
      rw [List.length_take, be_length, show 32 - nb n - min i 32 = 0 by omega]; rfl
    simp only [waybillref01_Bytes.l1]
    rw [if_pos (by omega)]
    by_cases h0 : 0 < l.length
    · rw [if_pos h0, hx]
      simp only [Option.bind_some, List.length_cons, List.length_nil]
      rw [if_pos (by omega)]
      simp only [Option.bind_some]
      exact rbytes_loop w n hw h256 d (i + 1) k _ (by omega) (by omega) (hnext (by omega))
    · rw [if_neg h0, hx]
      simp only [Option.bind_some]
      by_cases hi : i < 32 - nb n
      · rw [if_pos (byte_hi (by omega))]
        simp only [Option.bind_some]
        refine rbytes_loop w n hw h256 d (i + 1) k _ (by omega) (by omega) ?_
        rw [List.drop_of_length_le (by rw [List.length_take, be_length]; omega)]
        exact List.length_eq_zero_iff.1 (by omega)
      · have hi2 : i = 32 - nb n := by omega
        have hn0 : n ≠ 0 := fun e => by subst e; simp [nb, bl] at hi2; omega
        have h31 : 31 - i = nb n - 1 := by omega
        rw [if_neg (by rw [h31]; exact byte_top hn0)]
        simp only [Option.bind_some, List.length_cons, List.length_nil]
        rw [if_pos (by omega)]
        simp only [Option.bind_some]
        exact rbytes_loop w n hw h256 d (i + 1) k _ (by omega) (by omega) (hnext (by omega))
theorem rbytes_eq (v : Vector (BitVec 64) 4) : waybillref01_Bytes v = some (bytesN (val4 v)) := by
  obtain ⟨w, _, h2, h3⟩ := put_eq v
  unfold waybillref01_Bytes
  rw [h2]
  simp only [Option.bind_some]
  rw [rbytes_loop w (val4 v) h3 (nb_le (val4_lt v)) 32 0 40 [] (by omega) (by omega) (by simp)]
  rfl
end Go.Fw
