/- Part of a proof over Ytgdohhccpghofaa: rules and contracts that the law's text uses. No condition. -/
import Derived.Test.YtgdohhccpghofaaNumC
namespace Go.Fw
set_option linter.unusedVariables false
set_option linter.unusedSimpArgs false
set_option maxRecDepth 100000
/-- A text as a number. -/
def beV (l : List (BitVec 8)) : Nat := l.foldl (fun n x => n * 256 + x.toNat) 0
theorem beV_snoc (l : List (BitVec 8)) (x : BitVec 8) : beV (l ++ [x]) = beV l * 256 + x.toNat := by simp [beV]
theorem lim_get (n j : Nat) (h : j < 4) : (lim n)[j] = BitVec.ofNat 64 (n / 2 ^ (64 * j)) := by
  match j, h with
  | 0, _ => simp [lim]
  | 1, _ => simp [lim]
  | 2, _ => simp [lim]
  | 3, _ => simp [lim]
theorem or_low (A B : BitVec 64) (k a : Nat) (hA : A.toNat = 2 ^ k * a) (hB : B.toNat < 2 ^ k) : A ||| B = A + B := by
  apply BitVec.eq_of_toNat_eq
  have h1 : (A ||| B).toNat = A.toNat + B.toNat := by rw [BitVec.toNat_or, hA, ← Nat.two_pow_add_eq_or_of_lt hB]
  have h2 := (A ||| B).isLt
  rw [BitVec.toNat_add, h1, Nat.mod_eq_of_lt (by omega)]
theorem shl_toNat (x : BitVec 8) (r : Nat) (h : r < 8) : ((x.setWidth 64) <<< (8 * r)).toNat = x.toNat * 2 ^ (8 * r) := by
  have hx := x.isLt
  rw [BitVec.toNat_shiftLeft, BitVec.toNat_setWidth, Nat.shiftLeft_eq, Nat.mod_eq_of_lt (a := x.toNat) (by omega), Nat.mod_eq_of_lt]
  have h1 : 2 ^ (8 * r) ≤ 2 ^ 56 := Nat.pow_le_pow_right (by omega) (by omega)
  have h2 : x.toNat * 2 ^ (8 * r) ≤ 255 * 2 ^ 56 := Nat.mul_le_mul (by omega) h1
  omega
theorem set_byte (m p : Nat) (x : BitVec 8) (hp : p / 8 < 4) :
    (lim (m * 256 ^ (p + 1))).setIfInBounds (p / 8) ((lim (m * 256 ^ (p + 1)))[p / 8] + (x.setWidth 64) <<< (8 * (p % 8))) = lim ((m * 256 + x.toNat) * 256 ^ p) := by
  have hx := x.isLt
  have hr : p % 8 < 8 := Nat.mod_lt _ (by omega)
  have e0 : (m * 256 + x.toNat) * 256 ^ p = m * 256 ^ (p + 1) + x.toNat * 256 ^ p := by rw [Nat.add_mul, Nat.pow_succ]; rw [Nat.mul_assoc, Nat.mul_comm 256]
  have e1 : 256 ^ p = 2 ^ (64 * (p / 8)) * 2 ^ (8 * (p % 8)) := by rw [pow256, ← Nat.pow_add]; congr 1; omega
  apply Vector.ext
  intro j hj
  rw [Vector.getElem_setIfInBounds]
  by_cases hjq : p / 8 = j
  · subst hjq
    rw [if_pos rfl, lim_get _ _ hp, lim_get _ _ hp]
    apply BitVec.eq_of_toNat_eq
    rw [BitVec.toNat_add, shl_toNat x _ hr, BitVec.toNat_ofNat, BitVec.toNat_ofNat, e0, e1]
    have hpos : 0 < 2 ^ (64 * (p / 8)) := Nat.two_pow_pos _
    rw [show x.toNat * (2 ^ (64 * (p / 8)) * 2 ^ (8 * (p % 8))) = 2 ^ (64 * (p / 8)) * (x.toNat * 2 ^ (8 * (p % 8))) by rw [← Nat.mul_assoc, Nat.mul_comm x.toNat, Nat.mul_assoc], Nat.add_mul_div_left _ _ hpos]
    rw [Nat.add_mod, Nat.mod_mod, ← Nat.add_mod]
  · rw [if_neg hjq, lim_get _ _ hj, lim_get _ _ hj]
    apply BitVec.eq_of_toNat_eq
    rw [BitVec.toNat_ofNat, BitVec.toNat_ofNat, e0]
    rcases Nat.lt_or_gt_of_ne hjq with h | h
    · -- the limb lies above
      have hy : x.toNat * 256 ^ p < 256 ^ (p + 1) := by
        rw [Nat.pow_succ, Nat.mul_comm]; exact Nat.mul_lt_mul_of_pos_left hx (Nat.pow_pos (by omega))
      have hc : 2 ^ (64 * j) = 256 ^ (p + 1) * 2 ^ (64 * j - 8 * (p + 1)) := by rw [pow256, ← Nat.pow_add]; congr 1; omega
      rw [hc, ← Nat.div_div_eq_div_mul, ← Nat.div_div_eq_div_mul]
      rw [Nat.mul_comm m, Nat.mul_add_div (Nat.pow_pos (by omega)), Nat.div_eq_of_lt hy, Nat.mul_div_cancel_left _ (Nat.pow_pos (by omega))]
      rfl
    · -- the limb lies below
      have hc : x.toNat * 256 ^ p = 2 ^ (64 * j) * (2 ^ 64 * (x.toNat * 2 ^ (8 * p - 64 * j - 64))) := by
        rw [show 2 ^ (64 * j) * (2 ^ 64 * (x.toNat * 2 ^ (8 * p - 64 * j - 64))) = x.toNat * (2 ^ (64 * j) * (2 ^ 64 * 2 ^ (8 * p - 64 * j - 64))) by
          rw [Nat.mul_left_comm (2 ^ 64), Nat.mul_left_comm (2 ^ (64 * j))]]
        rw [pow256, ← Nat.pow_add, ← Nat.pow_add]
        congr 2; omega
      rw [hc, Nat.add_mul_div_left _ _ (Nat.two_pow_pos _), Nat.add_mul_mod_self_left]
theorem lim_mult (m p : Nat) (hp : p / 8 < 4) : ∃ a, ((lim (m * 256 ^ (p + 1)))[p / 8]).toNat = 2 ^ (8 * (p % 8 + 1)) * a := by
  rw [lim_get _ _ hp, BitVec.toNat_ofNat]
  have e1 : 256 ^ (p + 1) = 2 ^ (64 * (p / 8)) * 2 ^ (8 * (p % 8 + 1)) := by rw [pow256, ← Nat.pow_add]; congr 1; omega
  rw [e1, Nat.mul_left_comm, Nat.mul_div_cancel_left _ (Nat.two_pow_pos _)]
  have e2 : (2 : Nat) ^ 64 = 2 ^ (8 * (p % 8 + 1)) * 2 ^ (64 - 8 * (p % 8 + 1)) := by rw [← Nat.pow_add]; congr 1; omega
  rw [e2, Nat.mul_comm m, Nat.mul_mod_mul_left]
  exact ⟨_, rfl⟩
theorem lim0 : lim 0 = Vector.replicate 4 0#64 := by
  apply vec4_ext <;> simp [lim]
theorem take_at {l : List (BitVec 8)} {i : Nat} (h : i < l.length) : ∃ x, l[i]? = some x ∧ l.take (i + 1) = l.take i ++ [x] := by
  refine ⟨l[i], List.getElem?_eq_getElem h, ?_⟩
  rw [List.take_add_one, List.getElem?_eq_getElem h]; rfl
theorem get_loop (l : List (BitVec 8)) (hl : l.length ≤ 32) : ∀ (d i k : Nat), i + d = l.length → d < k → u256_Get.l1 l k i (lim (beV (l.take i) * 256 ^ d)) = some (lim (beV l))
  | 0, i, k, h, hk => by
    obtain ⟨k, rfl⟩ : ∃ m, k = m + 1 := ⟨k - 1, by omega⟩
    rw [u256_Get.l1, if_neg (by omega), List.take_of_length_le (by omega), Nat.pow_zero, Nat.mul_one]
  | d + 1, i, k, h, hk => by
    obtain ⟨k, rfl⟩ : ∃ m, k = m + 1 := ⟨k - 1, by omega⟩
    obtain ⟨x, hx, ht⟩ := take_at (l := l) (i := i) (by omega)
    have hp : l.length - 1 - i = d := by omega
    have hd : d / 8 < 4 := by omega
    have hr : d % 8 < 8 := Nat.mod_lt _ (by omega)
    rw [u256_Get.l1, if_pos (by omega), if_pos (by omega), if_pos (by omega), hp, if_pos hd, vget _ _ hd, Option.bind_some, hx, Option.bind_some]
    obtain ⟨a, ha⟩ := lim_mult (beV (l.take i)) d hd
    have hxl := x.isLt
    rw [or_low _ _ _ a ha (by
      rw [shl_toNat x _ hr, Nat.mul_add, Nat.pow_add, Nat.mul_comm]
      exact Nat.mul_lt_mul_of_pos_left (by omega) (Nat.two_pow_pos _)), set_byte _ _ _ hd, ← beV_snoc, ← ht]
    exact get_loop l hl d (i + 1) k (by omega) (by omega)
theorem rget_loop (l : List (BitVec 8)) (hl : l.length ≤ 32) : ∀ (d i k : Nat), i + d = l.length → d < k → waybillref01_Get.l1 l k i (lim (beV (l.take i) * 256 ^ d)) = some (lim (beV l))
  | 0, i, k, h, hk => by
    obtain ⟨k, rfl⟩ : ∃ m, k = m + 1 := ⟨k - 1, by omega⟩
    rw [waybillref01_Get.l1, if_neg (by omega), List.take_of_length_le (by omega), Nat.pow_zero, Nat.mul_one]
  | d + 1, i, k, h, hk => by
    obtain ⟨k, rfl⟩ : ∃ m, k = m + 1 := ⟨k - 1, by omega⟩
    obtain ⟨x, hx, ht⟩ := take_at (l := l) (i := i) (by omega)
    have hp : l.length - 1 - i = d := by omega
    have hd : d / 8 < 4 := by omega
    have hr : d % 8 < 8 := Nat.mod_lt _ (by omega)
    have e : (BitVec.ofNat 64 (8 * (d % 8))).toNat = 8 * (d % 8) := by rw [BitVec.toNat_ofNat]; omega
    rw [waybillref01_Get.l1, if_pos (by omega), if_pos (by omega), if_pos (by omega), hp, if_pos hd, vget _ _ hd, Option.bind_some, hx, Option.bind_some, e, set_byte _ _ _ hd, ← beV_snoc, ← ht]
    exact rget_loop l hl d (i + 1) k (by omega) (by omega)
theorem get_eq (l : List (BitVec 8)) (hl : l.length ≤ 32) : u256_Get l = some (lim (beV l), 0) := by
  have h := get_loop l hl l.length 0 (l.length - 0 + 2) (by omega) (by omega)
  rw [List.take_zero, show beV [] = 0 by rfl, Nat.zero_mul, lim0] at h
  unfold u256_Get
  rw [if_neg (by omega), h, Option.bind_some]
theorem rget_eq (l : List (BitVec 8)) (hl : l.length ≤ 32) : waybillref01_Get l = some (lim (beV l), 0) := by
  have h := rget_loop l hl l.length 0 (l.length - 0 + 2) (by omega) (by omega)
  rw [List.take_zero, show beV [] = 0 by rfl, Nat.zero_mul, lim0] at h
  unfold waybillref01_Get
  rw [if_neg (by omega), h, Option.bind_some]
theorem get_long (l : List (BitVec 8)) (hl : 32 < l.length) : u256_Get l = some (Vector.replicate 4 0#64, 11) ∧ waybillref01_Get l = some (Vector.replicate 4 0#64, 11) := by
  unfold u256_Get waybillref01_Get
  exact ⟨if_pos hl, if_pos hl⟩
theorem beV_from (l : List (BitVec 8)) : ∀ n, l.foldl (fun n x => n * 256 + x.toNat) n = n * 256 ^ l.length + beV l := by
  induction l with
  | nil => intro n; simp [beV]
  | cons x r ih =>
    intro n
    unfold beV
    rw [List.foldl_cons, List.foldl_cons, ih, ih (0 * 256 + x.toNat), List.length_cons, Nat.pow_succ, Nat.add_mul, Nat.add_mul, Nat.zero_mul]
    have e : n * 256 * 256 ^ r.length = n * (256 ^ r.length * 256) := by rw [Nat.mul_assoc, Nat.mul_comm 256]
    omega
theorem beV_append (a b : List (BitVec 8)) : beV (a ++ b) = beV a * 256 ^ b.length + beV b := by
  rw [beV, List.foldl_append, beV_from]; rfl
theorem beV_lt (l : List (BitVec 8)) : beV l < 256 ^ l.length := by
  induction l with
  | nil => simp [beV]
  | cons x r ih =>
    have hx := x.isLt
    have h := beV_append [x] r
    rw [List.singleton_append] at h
    rw [h, List.length_cons, Nat.pow_succ, Nat.mul_comm (256 ^ r.length)]
    have h1 : beV [x] = x.toNat := by simp [beV]
    rw [h1]
    have h2 : x.toNat * 256 ^ r.length + 256 ^ r.length ≤ 256 * 256 ^ r.length := by
      rw [← Nat.succ_mul]; exact Nat.mul_le_mul_right _ (by omega)
    omega
end Go.Fw
