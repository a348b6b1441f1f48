/- Part of a proof over Ytogfjkomkpbjpaa: rules and contracts that the law's text uses. No condition. -/
import Derived.Test.YtogfjkomkpbjpaaKecP1
namespace Go.Fw
set_option linter.unusedVariables false
set_option maxRecDepth 10000
theorem permV_eq (a b : Vector (BitVec 64) 25) : ∃ p q, keccak_Permute a = some p ∧ keccak_Permute b = some q ∧ (p = q ↔ a = b) := by
  refine ⟨_, _, rfl, rfl, fun h => ?_, fun h => by rw [h]⟩
  have h1 : permL a.toList = permL b.toList := by
    have := congrArg Vector.toList h
    exact this
  exact Vector.toList_inj.1 (permL_inj Vector.length_toList Vector.length_toList h1)
theorem set_same {a : Vector (BitVec 64) 25} {k : Nat} (hk : k < 25) (y : BitVec 64) : a = a.setIfInBounds k (a[k] ^^^ y) ↔ y = 0#64 := by
  constructor
  · intro h
    have h1 := congrArg (fun v => v[k]) h
    simp only [Vector.getElem_setIfInBounds_self] at h1
    have h2 := congrArg (fun t => a[k] ^^^ t) h1
    simpa [← BitVec.xor_assoc] using h2.symm
  · intro h
    subst h
    apply Vector.ext
    intro i hi
    rw [Vector.getElem_setIfInBounds]
    split
    · rename_i e; subst e; simp
    · rfl
theorem unlike_law (a0 : Vector (BitVec 64) 25) (a1 : Int) (a2 : BitVec 64) : waybilllaw02_KeccakUnlike a0 a1 a2 = some true := by
  unfold waybilllaw02_KeccakUnlike
  have h1 := Int.lt_tmod_of_pos a1 (show (0 : Int) < 25 by omega)
  have h2 := Int.tmod_lt_of_pos a1 (show (0 : Int) < 25 by omega)
  have key : ∀ z : Int, 0 ≤ z → z < 25 → ((some z).bind fun z6 => (if 0 ≤ z6 then (if (z6).toNat < 25 then (a0[(z6).toNat]?).bind fun x15 => ((keccak_Permute a0).bind fun x18 => ((keccak_Permute (a0.setIfInBounds ((z6).toNat) (x15 ^^^ a2))).bind fun x23 => (((if (decide (x18 = x23)) = (decide (a2 = 0#64)) then ((keccak_Permute a0).bind fun x37 => (some ((decide (x18 = x37))))) else (some (false))) : Option ((Bool))).bind fun p29 => (some (p29))))) else none) else none)) = some true := by
    intro z hz hz2
    have hk : z.toNat < 25 := by omega
    rw [Option.bind_some, if_pos hz, if_pos hk, Vector.getElem?_eq_getElem hk, Option.bind_some]
    obtain ⟨p, q, e1, e2, e3⟩ := permV_eq a0 (a0.setIfInBounds z.toNat (a0[z.toNat] ^^^ a2))
    rw [e1, Option.bind_some, e2, Option.bind_some, if_pos (decide_eq_decide.2 (e3.trans (set_same hk a2))), Option.bind_some, Option.bind_some]
    simp
  generalize a1.tmod 25 = t at h1 h2 ⊢
  by_cases h3 : t < 0
  · rw [if_pos h3, if_pos (by omega)]
    exact key _ (by omega) (by omega)
  · rw [if_neg h3]
    exact key _ (by omega) (by omega)
end Go.Fw
