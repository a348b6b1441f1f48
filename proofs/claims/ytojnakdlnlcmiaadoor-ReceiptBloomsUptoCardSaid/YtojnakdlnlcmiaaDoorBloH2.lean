/- Part of a proof: rules that its law uses. -/
import Derived.Test.YtojnakdlnlcmiaaDoorBloH1
namespace Go.Fw
set_option linter.unusedVariables false
set_option linter.unusedSimpArgs false
set_option maxRecDepth 10000
def bitV (b : Vector (BitVec 8) 256) (k : Nat) : Bool := (b[255 - k / 8]'(by omega)).getLsbD (k % 8)
theorem and_one8 (x : BitVec 8) (s : Nat) : decide ((x >>> s) &&& 1#8 = 1#8) = x.getLsbD s := by
  rw [show (1#8 : BitVec 8) = 1#8 by rfl, BitVec.and_one_eq_setWidth_ofBool_getLsbD, BitVec.getLsbD_ushiftRight, Nat.add_zero]
  cases x.getLsbD s <;> decide
theorem place_eq (k : Nat) (hk : k < 2048) : ((255 : Int) - ((((k : Nat) : Int).toNat / 8 : Nat) : Int)).toNat = 255 - k / 8 := by omega
theorem bit_eq (b : Vector (BitVec 8) 256) (k : Nat) (hk : k < 2048) : waybilllaw10_bit b ((k : Nat) : Int) = some (bitV b k) := by
  unfold waybilllaw10_bit bitV
  rw [if_pos (by omega), if_pos (by omega), place_eq k hk, if_pos (by omega), Vector.getElem?_eq_getElem (by omega), Option.bind_some, Int.toNat_natCast, BitVec.toNat_ofNat, Nat.mod_eq_of_lt (show k % 8 < 2 ^ 64 by omega), and_one8]
theorem set_eq (b : Vector (BitVec 8) 256) (j : Nat) (hj : j < 2048) : ∃ b', bloom_set b ((j : Nat) : Int) = some b' ∧ ∀ k, k < 2048 → bitV b' k = (bitV b k || decide (k = j)) := by
  unfold bloom_set
  rw [if_pos (by omega), if_pos (by omega), place_eq j hj, if_pos (by omega), Vector.getElem?_eq_getElem (by omega), Option.bind_some, Int.toNat_natCast]
  refine ⟨_, rfl, fun k hk => ?_⟩
  unfold bitV
  rw [Vector.getElem_setIfInBounds]
  by_cases h : 255 - j / 8 = 255 - k / 8
  · rw [if_pos h, BitVec.getLsbD_or, BitVec.getLsbD_shiftLeft]
    have e : b[255 - j / 8] = b[255 - k / 8]'(by omega) := by congr 1
    rw [e]
    congr 1
    by_cases h2 : k = j
    · subst h2
      have : k % 8 < 8 := by omega
      simp [this]
    · have : k % 8 ≠ j % 8 := by omega
      rw [decide_eq_false h2]
      by_cases h3 : k % 8 < j % 8
      · simp [h3]
      · have : 0 < k % 8 - j % 8 := by omega
        have h4 : (1#8).getLsbD (k % 8 - j % 8) = false := by
          have : ∀ d, 0 < d → (1#8 : BitVec 8).getLsbD d = false := by
            intro d hd
            rw [BitVec.getLsbD_one]
            simp; omega
          exact this _ (by omega)
        rw [h4]; simp
  · rw [if_neg h]
    have : k ≠ j := fun e => h (by rw [e])
    simp [this]
theorem zero_bits (k : Nat) : bitV (Vector.replicate 256 0#8) k = false := by unfold bitV; simp
def inP (p : Vector Int 3) (k : Nat) : Bool := decide (p[0] = (k : Int)) || decide (p[1] = (k : Int)) || decide (p[2] = (k : Int))
theorem add_eq (b : Vector (BitVec 8) 256) (t : List (BitVec 8)) (p : Vector Int 3) (hp : bloom_Places t = some p) (hr : ∀ (i : Nat) (h : i < 3), 0 ≤ p[i] ∧ p[i] < (2048 : Int)) : ∃ b', bloom_Add b t = some b' ∧ ∀ k, k < 2048 → bitV b' k = (bitV b k || inP p k) := by
  unfold bloom_Add
  rw [hp, Option.bind_some]
  have r0 := hr 0 (by omega)
  have r1 := hr 1 (by omega)
  have r2 := hr 2 (by omega)
  obtain ⟨a0, e0⟩ : ∃ n : Nat, p[0] = (n : Int) := ⟨p[0].toNat, by omega⟩
  obtain ⟨a1, e1⟩ : ∃ n : Nat, p[1] = (n : Int) := ⟨p[1].toNat, by omega⟩
  obtain ⟨a2, e2⟩ : ∃ n : Nat, p[2] = (n : Int) := ⟨p[2].toNat, by omega⟩
  rw [e0] at r0; rw [e1] at r1; rw [e2] at r2
  obtain ⟨b1, f1, g1⟩ := set_eq b a0 (by omega)
  obtain ⟨b2, f2, g2⟩ := set_eq b1 a1 (by omega)
  obtain ⟨b3, f3, g3⟩ := set_eq b2 a2 (by omega)
  have h : bloom_Add.l1 p (3 - 0 + 2) 0 b = some b3 := by
    show bloom_Add.l1 p (4 + 1) 0 b = _
    rw [bloom_Add.l1, if_pos (by omega), Vector.getElem?_eq_getElem (by omega), Option.bind_some, e0, if_pos (by omega), f1, Option.bind_some]
    rw [bloom_Add.l1, if_pos (by omega), Vector.getElem?_eq_getElem (by omega), Option.bind_some]
    show (if -9223372036854775808 ≤ p[1] ∧ p[1] ≤ 9223372036854775807 then (bloom_set b1 p[1]).bind _ else none) = _
    rw [e1, if_pos (by omega), f2, Option.bind_some]
    rw [bloom_Add.l1, if_pos (by omega), Vector.getElem?_eq_getElem (by omega), Option.bind_some]
    show (if -9223372036854775808 ≤ p[2] ∧ p[2] ≤ 9223372036854775807 then (bloom_set b2 p[2]).bind _ else none) = _
    rw [e2, if_pos (by omega), f3, Option.bind_some]
    rw [bloom_Add.l1, if_neg (by omega)]
  rw [h, Option.bind_some]
  refine ⟨b3, rfl, fun k hk => ?_⟩
  rw [g3 k hk, g2 k hk, g1 k hk]
  unfold inP
  rw [e0, e1, e2]
  have c : ∀ m : Nat, decide (k = m) = decide ((m : Int) = (k : Int)) := fun m => decide_eq_decide.2 (by omega)
  rw [c, c, c]
  cases bitV b k <;> cases decide ((a0 : Int) = (k : Int)) <;> cases decide ((a1 : Int) = (k : Int)) <;> cases decide ((a2 : Int) = (k : Int)) <;> rfl
end Go.Fw
