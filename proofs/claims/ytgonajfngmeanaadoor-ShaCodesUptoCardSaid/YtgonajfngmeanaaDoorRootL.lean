/- Part of a proof: rules that its law uses. -/
import Derived.Test.YtgonajfngmeanaaDoorShaL
namespace Go.Fw
set_option maxRecDepth 10000
def vt (l : List Int) : Nat → Int
  | 0 => 0
  | k + 1 => vt l k + l.getD k 0 * 65536 ^ k
theorem vt_succ (l : List Int) (k : Nat) : vt l (k + 1) = vt l k + l.getD k 0 * 65536 ^ k := rfl
theorem vt_0 (l : List Int) : vt l 0 = 0 := rfl
def Norm (l : List Int) : Prop := l.length = 16 ∧ ∀ k, 0 ≤ l.getD k 0 ∧ l.getD k 0 < 65536
theorem pow_pos' (k : Nat) : (0 : Int) < 65536 ^ k := Int.pow_pos (by decide)
theorem pow_mono {i k : Nat} (h : i ≤ k) : (65536 : Int) ^ i ≤ 65536 ^ k := by
  induction k with
  | zero => have : i = 0 := by omega
            subst this; exact Int.le_refl _
  | succ k ih =>
    by_cases e : i = k + 1
    · subst e; exact Int.le_refl _
    · have a := ih (by omega)
      have b := pow_pos' k
      have c : (65536 : Int) ^ (k + 1) = 65536 ^ k * 65536 := Int.pow_succ ..
      omega
theorem vt_bound {l : List Int} (h : ∀ k, 0 ≤ l.getD k 0 ∧ l.getD k 0 < 65536) : ∀ k, 0 ≤ vt l k ∧ vt l k < 65536 ^ k
  | 0 => by simp [vt]
  | k + 1 => by
    obtain ⟨h1, h2⟩ := vt_bound h k
    obtain ⟨a, b⟩ := h k
    have hp := pow_pos' k
    have h3 : l.getD k 0 * 65536 ^ k ≤ 65535 * 65536 ^ k := Int.mul_le_mul_of_nonneg_right (by omega) (by omega)
    have h4 : 0 ≤ l.getD k 0 * 65536 ^ k := Int.mul_nonneg a (by omega)
    have h5 : (65536 : Int) ^ (k + 1) = 65536 ^ k * 65536 := Int.pow_succ ..
    simp only [vt]
    omega
theorem vt_set {l : List Int} {p : Nat} {v : Int} (hp : p < l.length) : ∀ k, vt (l.set p v) k = vt l k + (if p < k then (v - l.getD p 0) * 65536 ^ p else 0)
  | 0 => by simp [vt]
  | k + 1 => by
    simp only [vt]
    rw [vt_set hp k]
    by_cases h : p = k
    · subst h
      have e : (l.set p v).getD p 0 = v := by simp [List.getD, hp]
      rw [e, if_neg (Nat.lt_irrefl _), if_pos (Nat.lt_succ_self _)]
      grind
    · have e : (l.set p v).getD k 0 = l.getD k 0 := by simp [List.getD, List.getElem?_set, h]
      rw [e]
      by_cases h2 : p < k
      · rw [if_pos h2, if_pos (by omega)]; grind
      · rw [if_neg h2, if_neg (by omega)]; grind
theorem vt_congr {x y : List Int} : ∀ {i n : Nat}, i ≤ n → (∀ k, i ≤ k → k < n → x.getD k 0 = y.getD k 0) → vt x n - vt y n = vt x i - vt y i := by
  intro i n
  induction n with
  | zero => intro h _; have : i = 0 := by omega
            subst this; rfl
  | succ n ih =>
    intro h hk
    by_cases e : i = n + 1
    · subst e; rfl
    · have := ih (by omega) (fun k h1 h2 => hk k h1 (by omega))
      simp only [vt]
      rw [hk n (by omega) (by omega)]
      omega
theorem vt_zero {l : List Int} {i n : Nat} (h : i ≤ n) (hz : ∀ k, i ≤ k → k < n → l.getD k 0 = 0) : vt l n = vt l i := by
  have := vt_congr (x := l) (y := []) h (fun k h1 h2 => by rw [hz k h1 h2]; rfl)
  have e : ∀ k, vt [] k = 0 := fun k => by
    induction k with
    | zero => rfl
    | succ k ih => simp [vt, ih]
  rw [e, e] at this
  omega
theorem Norm.set {l : List Int} (h : Norm l) {p : Nat} {v : Int} (hv : 0 ≤ v ∧ v < 65536) : Norm (l.set p v) := by
  refine ⟨by rw [List.length_set]; exact h.1, fun k => ?_⟩
  simp only [List.getD, List.getElem?_set]
  by_cases e : p = k
  · rw [if_pos e]
    by_cases hp : p < l.length
    · rw [if_pos hp]; exact hv
    · rw [if_neg hp]; exact ⟨by decide, by decide⟩
  · rw [if_neg e]; exact h.2 k
def zL : List Int := List.replicate 16 0
theorem zL_getD (k : Nat) : zL.getD k 0 = 0 := by
  simp only [zL, List.getD, List.getElem?_replicate]; split <;> rfl
theorem zL_norm : Norm zL := ⟨List.length_replicate .., fun k => by rw [zL_getD]; decide⟩
theorem zL_vt : ∀ k, vt zL k = 0
  | 0 => rfl
  | k + 1 => by simp only [vt, zL_vt k, zL_getD]; simp
theorem small_limbs {l : List Int} (h : Norm l) {i : Nat} (hi : i ≤ 16) (hv : vt l 16 < 65536 ^ i) : ∀ k, i ≤ k → l.getD k 0 = 0 := by
  intro k hk
  by_cases h16 : k < 16
  · by_cases hz : l.getD k 0 = 0
    · exact hz
    · exfalso
      have h1 : vt l (k + 1) ≤ vt l 16 := by
        have : ∀ n, k + 1 ≤ n → vt l (k + 1) ≤ vt l n := by
          intro n
          induction n with
          | zero => intro h; omega
          | succ n ih =>
            intro hn
            by_cases e : k = n
            · subst e; exact Int.le_refl _
            · have a := ih (by omega)
              have b := Int.mul_nonneg (h.2 n).1 (Int.le_of_lt (pow_pos' n))
              simp only [vt] at a ⊢
              omega
        exact this 16 (by omega)
      have h2 : (65536 : Int) ^ i ≤ 65536 ^ k := pow_mono hk
      have h3 : 1 * (65536 : Int) ^ k ≤ l.getD k 0 * 65536 ^ k := Int.mul_le_mul_of_nonneg_right (by have := (h.2 k).1; omega) (Int.le_of_lt (pow_pos' k))
      have h4 := (vt_bound h.2 k).1
      generalize vt l 16 = V at hv h1
      simp only [vt] at h1
      omega
  · simp [List.getD, List.getElem?_eq_none (show l.length ≤ k by rw [h.1]; omega)]
theorem cmp_limbs {x y : List Int} (hx : Norm x) (hy : Norm y) {i : Nat} (hi : i < 16) (he : ∀ k, i < k → k < 16 → x.getD k 0 = y.getD k 0) (hne : x.getD i 0 ≠ y.getD i 0) : (vt x 16 ≤ vt y 16) ↔ x.getD i 0 < y.getD i 0 := by
  have h := vt_congr (x := x) (y := y) (i := i + 1) (n := 16) (by omega) (fun k h1 h2 => he k (by omega) h2)
  simp only [vt] at h
  obtain ⟨a1, a2⟩ := vt_bound hx.2 i
  obtain ⟨b1, b2⟩ := vt_bound hy.2 i
  have hp := pow_pos' i
  simp only [vt] at h ⊢
  constructor
  · intro hle
    by_cases hlt : x.getD i 0 < y.getD i 0
    · exact hlt
    · exfalso
      have h3 : (y.getD i 0 + 1) * (65536 : Int) ^ i ≤ x.getD i 0 * 65536 ^ i := Int.mul_le_mul_of_nonneg_right (by omega) (by omega)
      rw [Int.add_mul] at h3
      omega
  · intro hlt
    have h3 : (x.getD i 0 + 1) * (65536 : Int) ^ i ≤ y.getD i 0 * 65536 ^ i := Int.mul_le_mul_of_nonneg_right (by omega) (by omega)
    rw [Int.add_mul] at h3
    omega
def primeB (n : Nat) : Bool := !((List.range n).any fun d => decide (2 ≤ d) && (decide (d * d ≤ n) && decide (n % d = 0)))
theorem primeB_no {n d : Nat} (hd : 2 ≤ d) (hdd : d * d ≤ n) (hm : n % d = 0) : primeB n = false := by
  have hlt : d < n := by
    have : d * 2 ≤ d * d := Nat.mul_le_mul_left d hd
    omega
  unfold primeB
  rw [Bool.not_eq_false', List.any_eq_true]
  exact ⟨d, List.mem_range.2 hlt, by simp [hd, hdd, hm]⟩
theorem primeB_yes {n d : Nat} (hdd : n < d * d) (h : ∀ e, 2 ≤ e → e < d → n % e ≠ 0) : primeB n = true := by
  unfold primeB
  rw [Bool.not_eq_true', List.any_eq_false]
  intro e he
  simp only [Bool.and_eq_true, decide_eq_true_eq, not_and]
  intro h2 h3
  refine h e h2 ?_
  rcases Nat.lt_or_ge e d with h4 | h4
  · exact h4
  · have := Nat.mul_le_mul h4 h4
    omega
def primesTo (n : Nat) : List Nat := (List.range n).filter fun p => decide (2 ≤ p) && primeB p
theorem primesTo_succ (n : Nat) : primesTo (n + 1) = if (decide (2 ≤ n) && primeB n) = true then primesTo n ++ [n] else primesTo n := by
  unfold primesTo
  rw [List.range_succ, List.filter_append]
  cases h : (decide (2 ≤ n) && primeB n) <;> simp [h]
theorem primesTo_prefix {n top : Nat} (h : n ≤ top) : ∃ ext, primesTo top = primesTo n ++ ext := by
  induction top with
  | zero => exact ⟨[], by have : n = 0 := by omega
                          subst this; rfl⟩
  | succ t ih =>
    by_cases e : n = t + 1
    · subst e; exact ⟨[], by simp⟩
    · obtain ⟨ext, he⟩ := ih (by omega)
      rw [primesTo_succ]
      split
      · exact ⟨ext ++ [t], by rw [he, List.append_assoc]⟩
      · exact ⟨ext, he⟩
def rtGo (k N : Nat) : Nat → Nat → Nat → Nat
  | 0, lo, _ => lo
  | f + 1, lo, hi => if hi - lo ≤ 1 then lo else if ((lo + hi) / 2) ^ k ≤ N then rtGo k N f ((lo + hi) / 2) hi else rtGo k N f lo ((lo + hi) / 2)
def rt (k p : Nat) : Nat := rtGo k (p * 2 ^ (32 * k)) 50 0 (2 ^ 48)
def certB (k n : Nat) : Bool := (primesTo n).all fun p => decide (rt k p ^ k ≤ p * 2 ^ (32 * k)) && decide (p * 2 ^ (32 * k) < (rt k p + 1) ^ k)
theorem cert2 : certB 2 20 = true := by decide +kernel
theorem cert3 : certB 3 312 = true := by decide +kernel
theorem len2 : (primesTo 20).length = 8 := by decide +kernel
theorem len3 : (primesTo 312).length = 64 := by decide +kernel
theorem root_unique {a b k N : Nat} (h1 : a ^ k ≤ N) (h2 : N < (b + 1) ^ k) : a ≤ b := by
  rcases Nat.lt_or_ge b a with h | h
  · have := Nat.pow_le_pow_left (show b + 1 ≤ a by omega) k
    omega
  · exact h
def rootW (k p : Nat) : BitVec 32 := BitVec.ofNat 32 (rt k p)
def startL : List (BitVec 32) := [0x6a09e667#32, 0xbb67ae85#32, 0x3c6ef372#32, 0xa54ff53a#32, 0x510e527f#32, 0x9b05688c#32, 0x1f83d9ab#32, 0x5be0cd19#32]
theorem start_roots : (primesTo 20).map (rootW 2) = startL := by decide +kernel
def constL : List (BitVec 32) := [1116352408#32, 1899447441#32, 3049323471#32, 3921009573#32, 961987163#32, 1508970993#32, 2453635748#32, 2870763221#32, 3624381080#32, 310598401#32, 607225278#32, 1426881987#32, 1925078388#32, 2162078206#32, 2614888103#32, 3248222580#32, 3835390401#32, 4022224774#32, 264347078#32, 604807628#32, 770255983#32, 1249150122#32, 1555081692#32, 1996064986#32, 2554220882#32, 2821834349#32, 2952996808#32, 3210313671#32, 3336571891#32, 3584528711#32, 113926993#32, 338241895#32, 666307205#32, 773529912#32, 1294757372#32, 1396182291#32, 1695183700#32, 1986661051#32, 2177026350#32, 2456956037#32, 2730485921#32, 2820302411#32, 3259730800#32, 3345764771#32, 3516065817#32, 3600352804#32, 4094571909#32, 275423344#32, 430227734#32, 506948616#32, 659060556#32, 883997877#32, 958139571#32, 1322822218#32, 1537002063#32, 1747873779#32, 1955562222#32, 2024104815#32, 2227730452#32, 2361852424#32, 2428436474#32, 2756734187#32, 3204031479#32, 3329325298#32]
theorem const_roots : (primesTo 312).map (rootW 3) = constL := by decide +kernel
end Go.Fw
