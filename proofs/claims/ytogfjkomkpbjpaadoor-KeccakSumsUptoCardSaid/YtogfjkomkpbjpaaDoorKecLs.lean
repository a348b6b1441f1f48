/- Part of a proof: rules that its law uses. -/
import Derived.Test.YtogfjkomkpbjpaaDoorKecL
import Derived.Test.YtogfjkomkpbjpaaDoorFwC
namespace Go.Fw
set_option maxRecDepth 10000
set_option linter.unusedVariables false
set_option linter.unusedSimpArgs false
theorem xor_row : ∀ b0 b1 b2 b3 b4 c0 c1 c2 c3 c4 : Bool, (b0 ^^ (!b1 && b2)) = (c0 ^^ (!c1 && c2)) → (b1 ^^ (!b2 && b3)) = (c1 ^^ (!c2 && c3)) → (b2 ^^ (!b3 && b4)) = (c2 ^^ (!c3 && c4)) → (b3 ^^ (!b4 && b0)) = (c3 ^^ (!c4 && c0)) → (b4 ^^ (!b0 && b1)) = (c4 ^^ (!c0 && c1)) → b0 = c0 ∧ b1 = c1 ∧ b2 = c2 ∧ b3 = c3 ∧ b4 = c4 := by decide +kernel
theorem chi_bits (x y u x' y' u' : BitVec 64) (h : x ^^^ (~~~ y &&& u) = x' ^^^ (~~~ y' &&& u')) (z : Nat) (hz : z < 64) : (x.getLsbD z ^^ (!y.getLsbD z && u.getLsbD z)) = (x'.getLsbD z ^^ (!y'.getLsbD z && u'.getLsbD z)) := by
  have := congrArg (fun t => t.getLsbD z) h
  simpa [hz] using this
theorem chi_five {b0 b1 b2 b3 b4 c0 c1 c2 c3 c4 : BitVec 64} (h0 : b0 ^^^ (~~~ b1 &&& b2) = c0 ^^^ (~~~ c1 &&& c2)) (h1 : b1 ^^^ (~~~ b2 &&& b3) = c1 ^^^ (~~~ c2 &&& c3)) (h2 : b2 ^^^ (~~~ b3 &&& b4) = c2 ^^^ (~~~ c3 &&& c4)) (h3 : b3 ^^^ (~~~ b4 &&& b0) = c3 ^^^ (~~~ c4 &&& c0)) (h4 : b4 ^^^ (~~~ b0 &&& b1) = c4 ^^^ (~~~ c0 &&& c1)) : b0 = c0 ∧ b1 = c1 ∧ b2 = c2 ∧ b3 = c3 ∧ b4 = c4 := by
  have key : ∀ z, z < 64 → b0.getLsbD z = c0.getLsbD z ∧ b1.getLsbD z = c1.getLsbD z ∧ b2.getLsbD z = c2.getLsbD z ∧ b3.getLsbD z = c3.getLsbD z ∧ b4.getLsbD z = c4.getLsbD z := fun z hz =>
    xor_row _ _ _ _ _ _ _ _ _ _ (chi_bits _ _ _ _ _ _ h0 z hz) (chi_bits _ _ _ _ _ _ h1 z hz) (chi_bits _ _ _ _ _ _ h2 z hz) (chi_bits _ _ _ _ _ _ h3 z hz) (chi_bits _ _ _ _ _ _ h4 z hz)
  exact ⟨BitVec.eq_of_getLsbD_eq fun z hz => (key z hz).1, BitVec.eq_of_getLsbD_eq fun z hz => (key z hz).2.1, BitVec.eq_of_getLsbD_eq fun z hz => (key z hz).2.2.1, BitVec.eq_of_getLsbD_eq fun z hz => (key z hz).2.2.2.1, BitVec.eq_of_getLsbD_eq fun z hz => (key z hz).2.2.2.2⟩
theorem chi_inj {b c : List (BitVec 64)} (h : ∀ i, i < 25 → chiE b i = chiE c i) : ∀ i, i < 25 → g64 b i = g64 c i := by
  have row : ∀ r, r < 5 → g64 b (r * 5) = g64 c (r * 5) ∧ g64 b (r * 5 + 1) = g64 c (r * 5 + 1) ∧ g64 b (r * 5 + 2) = g64 c (r * 5 + 2) ∧ g64 b (r * 5 + 3) = g64 c (r * 5 + 3) ∧ g64 b (r * 5 + 4) = g64 c (r * 5 + 4) := by
    intro r hr
    have e : ∀ j, j < 5 → (r * 5 + j) / 5 = r ∧ (r * 5 + j) % 5 = j := fun j hj => by omega
    have h0 := h (r * 5 + 0) (by omega)
    have h1 := h (r * 5 + 1) (by omega)
    have h2 := h (r * 5 + 2) (by omega)
    have h3 := h (r * 5 + 3) (by omega)
    have h4 := h (r * 5 + 4) (by omega)
    unfold chiE at h0 h1 h2 h3 h4
    rw [(e 0 (by omega)).1, (e 0 (by omega)).2] at h0
    rw [(e 1 (by omega)).1, (e 1 (by omega)).2] at h1
    rw [(e 2 (by omega)).1, (e 2 (by omega)).2] at h2
    rw [(e 3 (by omega)).1, (e 3 (by omega)).2] at h3
    rw [(e 4 (by omega)).1, (e 4 (by omega)).2] at h4
    exact chi_five h0 h1 h2 h3 h4
  intro i hi
  have hr := row (i / 5) (by omega)
  have hi2 : i = i / 5 * 5 + i % 5 := by omega
  rw [hi2]
  rcases (by omega : i % 5 = 0 ∨ i % 5 = 1 ∨ i % 5 = 2 ∨ i % 5 = 3 ∨ i % 5 = 4) with e | e | e | e | e <;> rw [e]
  · exact hr.1
  · exact hr.2.1
  · exact hr.2.2.1
  · exact hr.2.2.2.1
  · exact hr.2.2.2.2
def bt (x : BitVec 64) (z : Nat) : Bool := x.getLsbD (z % 64)
theorem bt_ext {x y : BitVec 64} (h : ∀ z, bt x z = bt y z) : x = y := BitVec.eq_of_getLsbD_eq fun z hz => by
  have := h z
  unfold bt at this
  rwa [Nat.mod_eq_of_lt hz] at this
theorem bt_xor (x y : BitVec 64) (z : Nat) : bt (x ^^^ y) z = (bt x z ^^ bt y z) := by unfold bt; rw [BitVec.getLsbD_xor]
theorem bt_rotl (x : BitVec 64) {n : Nat} (hn : n < 64) (z : Nat) : bt (rotl x n) (z + n) = bt x z := by
  unfold bt rotl
  rw [BitVec.getLsbD_or, BitVec.getLsbD_shiftLeft, BitVec.getLsbD_ushiftRight]
  have hz : z % 64 < 64 := Nat.mod_lt _ (by omega)
  by_cases h : z % 64 + n < 64
  · have e : (z + n) % 64 = z % 64 + n := by omega
    have e2 : x.getLsbD (64 - n + (z % 64 + n)) = false := BitVec.getLsbD_of_ge _ _ (by omega)
    rw [e, e2]
    simp [h]
  · have e : (z + n) % 64 = z % 64 + n - 64 := by omega
    have e2 : 64 - n + (z % 64 + n - 64) = z % 64 := by omega
    rw [e, e2]
    have : z % 64 + n - 64 < n := by omega
    simp [this]
theorem rotl_inj {x y : BitVec 64} {n : Nat} (hn : n < 64) (h : rotl x n = rotl y n) : x = y := bt_ext fun z => by rw [← bt_rotl x hn z, ← bt_rotl y hn z, h]
theorem kern (D : Nat → Nat → Bool) (h5 : ∀ x z, D (x + 5) z = D x z) (h64 : ∀ x z, D x (z + 64) = D x z) (h1 : ∀ x z, D x z = (D (x + 3) (z + 1) ^^ D (x + 4) (z + 1))) : ∀ x z, D x z = false := by
  have x3 : ∀ a b c : Bool, ((a ^^ b) ^^ (b ^^ c)) = (a ^^ c) := by decide
  have x3' : ∀ a b c : Bool, ((a ^^ b) ^^ (c ^^ a)) = (b ^^ c) := by decide
  have h2 : ∀ x z, D x z = (D (x + 1) (z + 2) ^^ D (x + 3) (z + 2)) := fun x z => by
    rw [h1 x z, h1 (x + 3) (z + 1), h1 (x + 4) (z + 1)]
    show ((D (x + 1 + 5) (z + 2) ^^ D (x + 2 + 5) (z + 2)) ^^ (D (x + 2 + 5) (z + 2) ^^ D (x + 3 + 5) (z + 2))) = _
    rw [h5, h5, h5, x3]
  have h4 : ∀ x z, D x z = (D (x + 2) (z + 4) ^^ D (x + 1) (z + 4)) := fun x z => by
    rw [h2 x z, h2 (x + 1) (z + 2), h2 (x + 3) (z + 2)]
    show ((D (x + 2) (z + 4) ^^ D (x + 4) (z + 4)) ^^ (D (x + 4) (z + 4) ^^ D (x + 1 + 5) (z + 4))) = _
    rw [h5, x3]
  have h8 : ∀ x z, D x z = (D (x + 4) (z + 8) ^^ D (x + 2) (z + 8)) := fun x z => by
    rw [h4 x z, h4 (x + 2) (z + 4), h4 (x + 1) (z + 4)]
    show ((D (x + 4) (z + 8) ^^ D (x + 3) (z + 8)) ^^ (D (x + 3) (z + 8) ^^ D (x + 2) (z + 8))) = _
    rw [x3]
  have h16 : ∀ x z, D x z = (D (x + 3) (z + 16) ^^ D (x + 4) (z + 16)) := fun x z => by
    rw [h8 x z, h8 (x + 4) (z + 8), h8 (x + 2) (z + 8)]
    show ((D (x + 3 + 5) (z + 16) ^^ D (x + 1 + 5) (z + 16)) ^^ (D (x + 1 + 5) (z + 16) ^^ D (x + 4) (z + 16))) = _
    rw [h5, h5, x3]
  have h15 : ∀ x z, D x (z + 15) = D x z := fun x z => by rw [h1 x (z + 15), h16 x z]
  have hz4 : ∀ x z, D x (z + 4) = D x z := fun x z => by
    rw [← h64 x z, show z + 64 = z + 4 + 15 + 15 + 15 + 15 by omega, h15, h15, h15, h15]
  have hz1 : ∀ x z, D x (z + 1) = D x z := fun x z => by
    rw [← h15 x (z + 1), show z + 1 + 15 = z + 4 + 4 + 4 + 4 by omega, hz4, hz4, hz4, hz4]
  have hz : ∀ x z, D x z = D x 0 := fun x z => by
    induction z with
    | zero => rfl
    | succ z ih => rw [hz1, ih]
  have fin : ∀ a b c d e : Bool, a = (d ^^ e) → b = (e ^^ a) → c = (a ^^ b) → d = (b ^^ c) → e = (c ^^ d) → a = (b ^^ d) → b = (c ^^ e) → c = (d ^^ a) → a = false := by decide
  have g1 : ∀ x, D x 0 = (D (x + 3) 0 ^^ D (x + 4) 0) := fun x => by rw [← hz (x + 3) (0 + 1), ← hz (x + 4) (0 + 1)]; exact h1 x 0
  have g2 : ∀ x, D x 0 = (D (x + 1) 0 ^^ D (x + 3) 0) := fun x => by rw [← hz (x + 1) (0 + 2), ← hz (x + 3) (0 + 2)]; exact h2 x 0
  intro x z
  rw [hz]
  have a1 := g1 (x + 1)
  have a2 := g1 (x + 2)
  have a3 := g1 (x + 3)
  have a4 := g1 (x + 4)
  have b1 := g2 (x + 1)
  have b2 := g2 (x + 2)
  rw [show x + 1 + 4 = x + 5 by omega, h5] at a1
  rw [show x + 2 + 3 = x + 5 by omega, show x + 2 + 4 = x + 1 + 5 by omega, h5, h5] at a2
  rw [show x + 3 + 3 = x + 1 + 5 by omega, show x + 3 + 4 = x + 2 + 5 by omega, h5, h5] at a3
  rw [show x + 4 + 3 = x + 2 + 5 by omega, show x + 4 + 4 = x + 3 + 5 by omega, h5, h5] at a4
  rw [show x + 2 + 3 = x + 5 by omega, h5] at b2
  exact fin (D x 0) (D (x + 1) 0) (D (x + 2) 0) (D (x + 3) 0) (D (x + 4) 0) (g1 x) a1 a2 a3 a4 (g2 x) b1 b2
def dl (a b : List (BitVec 64)) (i z : Nat) : Bool := bt (g64 a i) z ^^ bt (g64 b i) z
def dc (a b : List (BitVec 64)) (x z : Nat) : Bool := bt (colS a (x % 5)) z ^^ bt (colS b (x % 5)) z
theorem dc_eq (a b : List (BitVec 64)) (x z : Nat) : dc a b x z = (dl a b (x % 5) z ^^ dl a b (x % 5 + 5) z ^^ dl a b (x % 5 + 10) z ^^ dl a b (x % 5 + 15) z ^^ dl a b (x % 5 + 20) z) := by
  unfold dc dl colS
  simp only [bt_xor]
  have : ∀ a0 a1 a2 a3 a4 b0 b1 b2 b3 b4 : Bool, ((a0 ^^ a1 ^^ a2 ^^ a3 ^^ a4) ^^ (b0 ^^ b1 ^^ b2 ^^ b3 ^^ b4)) = ((a0 ^^ b0) ^^ (a1 ^^ b1) ^^ (a2 ^^ b2) ^^ (a3 ^^ b3) ^^ (a4 ^^ b4)) := by decide +kernel
  exact this ..
theorem theta_inj {a b : List (BitVec 64)} (h : ∀ i, i < 25 → thetaE a i = thetaE b i) : ∀ i, i < 25 → g64 a i = g64 b i := by
  have hd : ∀ i z, i < 25 → dl a b i (z + 1) = (dc a b (i + 4) (z + 1) ^^ dc a b (i + 1) z) := by
    intro i z hi
    have := congrArg (fun t => bt t (z + 1)) (h i hi)
    unfold thetaE at this
    simp only [bt_xor, bt_rotl _ (by omega : 1 < 64)] at this
    unfold dl dc
    revert this
    generalize bt (g64 a i) (z + 1) = p1
    generalize bt (g64 b i) (z + 1) = p2
    generalize bt (colS a ((i + 4) % 5)) (z + 1) = p3
    generalize bt (colS b ((i + 4) % 5)) (z + 1) = p4
    generalize bt (colS a ((i + 1) % 5)) z = p5
    generalize bt (colS b ((i + 1) % 5)) z = p6
    revert p1 p2 p3 p4 p5 p6
    decide
  have per : ∀ x z, dc a b (x + 5) z = dc a b x z := fun x z => by unfold dc; rw [Nat.add_mod_right]
  have hc : ∀ x z, dc a b x (z + 1) = (dc a b (x + 4) (z + 1) ^^ dc a b (x + 1) z) := by
    intro x z
    have e4 : ∀ j, dc a b (x % 5 + 5 * j + 4) (z + 1) = dc a b (x + 4) (z + 1) := fun j => by unfold dc; rw [show (x % 5 + 5 * j + 4) % 5 = (x + 4) % 5 by omega]
    have e1 : ∀ j, dc a b (x % 5 + 5 * j + 1) z = dc a b (x + 1) z := fun j => by unfold dc; rw [show (x % 5 + 5 * j + 1) % 5 = (x + 1) % 5 by omega]
    have hm : x % 5 < 5 := Nat.mod_lt _ (by omega)
    have d0 := hd (x % 5 + 5 * 0) z (by omega)
    have d1 := hd (x % 5 + 5 * 1) z (by omega)
    have d2 := hd (x % 5 + 5 * 2) z (by omega)
    have d3 := hd (x % 5 + 5 * 3) z (by omega)
    have d4 := hd (x % 5 + 5 * 4) z (by omega)
    rw [e4 0, e1 0] at d0
    rw [e4 1, e1 1] at d1
    rw [e4 2, e1 2] at d2
    rw [e4 3, e1 3] at d3
    rw [e4 4, e1 4] at d4
    rw [dc_eq]
    show (dl a b (x % 5 + 5 * 0) (z + 1) ^^ dl a b (x % 5 + 5 * 1) (z + 1) ^^ dl a b (x % 5 + 5 * 2) (z + 1) ^^ dl a b (x % 5 + 5 * 3) (z + 1) ^^ dl a b (x % 5 + 5 * 4) (z + 1)) = _
    rw [d0, d1, d2, d3, d4]
    have : ∀ p : Bool, (p ^^ p ^^ p ^^ p ^^ p) = p := by decide
    exact this _
  have h0 := kern (dc a b) per (fun x z => by unfold dc bt; rw [Nat.add_mod_right]) (fun x z => by
    have e := hc (x + 4) z
    have e5 : dc a b (x + 4 + 1) z = dc a b x z := per x z
    have e8 : dc a b (x + 4 + 4) (z + 1) = dc a b (x + 3) (z + 1) := per (x + 3) (z + 1)
    rw [e5, e8] at e
    revert e
    generalize dc a b (x + 4) (z + 1) = p1
    generalize dc a b (x + 3) (z + 1) = p2
    generalize dc a b x z = p3
    revert p1 p2 p3
    decide)
  intro i hi
  refine bt_ext fun z => ?_
  have e : dl a b i (z + 64) = false := by
    rw [show z + 64 = z + 63 + 1 by omega, hd i _ hi, h0, h0]; rfl
  unfold dl at e
  have e2 : bt (g64 a i) (z + 64) = bt (g64 a i) z := by unfold bt; rw [Nat.add_mod_right]
  have e3 : bt (g64 b i) (z + 64) = bt (g64 b i) z := by unfold bt; rw [Nat.add_mod_right]
  rw [e2, e3] at e
  revert e
  generalize bt (g64 a i) z = p1
  generalize bt (g64 b i) z = p2
  revert p1 p2
  decide
theorem moved_inj {a b : List (BitVec 64)} (ha : a.length = 25) (hb : b.length = 25) (h : ∀ i, i < 25 → g64 (movedL a) i = g64 (movedL b) i) : a = b := by
  refine ext25 ha hb (theta_inj fun i hi => ?_)
  have h1 := h (goesN i) (goes_lt ⟨i, hi⟩)
  rw [movedL_goes a hi, movedL_goes b hi] at h1
  have ht := turns_in ⟨i, hi⟩
  simp only at ht
  exact rotl_inj (by omega) h1
theorem chiL_get (b : List (BitVec 64)) {i : Nat} (h : i < 25) : g64 (chiL b) i = chiE b i := by
  simp [g64, chiL, List.getD, List.getElem?_map, List.getElem?_range h]
theorem round_inj {a b : List (BitVec 64)} {rc : BitVec 64} (ha : a.length = 25) (hb : b.length = 25) (h : roundL a rc = roundL b rc) : a = b := by
  refine moved_inj ha hb (chi_inj fun i hi => ?_)
  have h1 := congrArg (fun l => g64 l i) h
  simp only [roundL_eq] at h1
  rw [g64_set _ _ _ _ (by simp), g64_set _ _ _ _ (by simp)] at h1
  by_cases h0 : i = 0
  · subst h0
    rw [if_pos rfl, if_pos rfl] at h1
    rw [← chiL_get _ hi, ← chiL_get _ hi]
    have h2 := congrArg (fun t => t ^^^ rc) h1
    simpa [BitVec.xor_assoc] using h2
  · rw [if_neg h0, if_neg h0, chiL_get _ hi, chiL_get _ hi] at h1
    exact h1
theorem permTo_inj {a b : List (BitVec 64)} (ha : a.length = 25) (hb : b.length = 25) : ∀ t, permTo a t = permTo b t → a = b
  | 0, h => h
  | t + 1, h => by
    rw [permTo_succ, permTo_succ] at h
    exact permTo_inj ha hb t (round_inj (permTo_length ha t) (permTo_length hb t) h)
theorem permL_inj {a b : List (BitVec 64)} (ha : a.length = 25) (hb : b.length = 25) (h : permL a = permL b) : a = b := permTo_inj ha hb 24 h
end Go.Fw
namespace Go.Fw
def keccak_Permute (v : Vector (BitVec 64) 25) : Option (Vector (BitVec 64) 25) := some ⟨(permL v.toList).toArray, by simp only [List.size_toArray]; exact permTo_length Vector.length_toList 24⟩
theorem keccak_Permute_list {v r : Vector (BitVec 64) 25} (h : keccak_Permute v = some r) : r.toList = permL v.toList := by
  cases h
  rfl
def firstL : List (BitVec 8) := [1#8, 6#8]
end Go.Fw
