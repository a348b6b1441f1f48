/- Part of a proof: rules that its law uses. -/
import Derived.Test.YtojnakdlnlcmiaaDoorKecSs
import Derived.Test.YtojnakdlnlcmiaaDoorBloP2
namespace Go.Fw
set_option linter.unusedVariables false
set_option linter.unusedSimpArgs false
set_option maxRecDepth 10000
theorem ssum_loop (x : Sponge) : ∀ (d i k : Nat) (w : Vector (BitVec 8) 32), i + d = 32 → d < k → ∃ w', keccak_Sponge_Sum.l1 x k i w = some w'
  | 0, i, k, w, h, hk => by
    obtain ⟨k, rfl⟩ : ∃ m, k = m + 1 := ⟨k - 1, by omega⟩
    exact ⟨w, by rw [keccak_Sponge_Sum.l1, if_neg (by omega)]⟩
  | d + 1, i, k, w, h, hk => by
    obtain ⟨k, rfl⟩ : ∃ m, k = m + 1 := ⟨k - 1, by omega⟩
    rw [keccak_Sponge_Sum.l1, if_pos (by omega), if_pos (by omega), Vector.getElem?_eq_getElem (by omega), Option.bind_some]
    exact ssum_loop x d (i + 1) k _ (by omega) (by omega)
theorem ssum_total (s : Sponge) (h0 : 0 ≤ s.held) (h1 : s.held < 136) (hk : s.kind = 0 ∨ s.kind = 1) : ∃ r, keccak_Sponge_Sum s = some r := by
  unfold keccak_Sponge_Sum
  rw [if_pos h0, if_pos (by omega)]
  dsimp only
  have hf : ∃ f, firstL[s.kind.toNat]? = some f := by
    rcases hk with e | e <;> rw [e]
    · exact ⟨1#8, rfl⟩
    · exact ⟨6#8, rfl⟩
  obtain ⟨f, hf⟩ := hf
  rw [if_pos h0, if_pos (by omega), Vector.getElem?_eq_getElem (by omega), Option.bind_some, if_pos (by omega), hf, Option.bind_some]
  generalize hS : (Sponge.mk _ _ _ _ _ : Sponge) = S
  obtain ⟨s', e1, _⟩ := absorb_total S
  rw [e1, Option.bind_some]
  obtain ⟨w', e2⟩ := ssum_loop s' 32 0 (32 - 0 + 2) (Vector.replicate 32 0#8) (by omega) (by omega)
  rw [e2, Option.bind_some]
  exact ⟨_, rfl⟩
theorem sum_total (t : List (BitVec 8)) (ht : t.length ≤ 140737488355328) : ∃ h, keccak_Sum [t] = some h := by
  unfold keccak_Sum keccak_digest
  obtain ⟨w, e1, e2, e3, e4, e5⟩ := write_total ({ (⟨0, (Vector.replicate 25 0#64), (Vector.replicate 136 0#8), 0, 0⟩ : Sponge) with kind := (0 : Int) } : Sponge) t (by show (0 : Int) ≤ 0; omega) (by show (0 : Int) < 136; omega) (by show -9223372036854775808 ≤ (0 : Int) + _ ∧ (0 : Int) + _ ≤ _; omega)
  have hl : keccak_digest.l1 [t] ([t].length - 0 + 2) 0 ({ (⟨0, (Vector.replicate 25 0#64), (Vector.replicate 136 0#8), 0, 0⟩ : Sponge) with kind := (0 : Int) } : Sponge) = some w := by
    show keccak_digest.l1 [t] (2 + 1) 0 _ = some w
    rw [keccak_digest.l1, if_pos (by simp)]
    show (some t).bind _ = _
    rw [Option.bind_some, e1, Option.bind_some, keccak_digest.l1, if_neg (by simp)]
  rw [hl, Option.bind_some]
  obtain ⟨⟨h, w'⟩, e6⟩ := ssum_total w e2 e3 (.inl e4)
  rw [e6, Option.bind_some]
  exact ⟨h, rfl⟩
theorem places_total (t : List (BitVec 8)) (ht : t.length ≤ 140737488355328) : ∃ p : Vector Int 3, bloom_Places t = some p ∧ ∀ (i : Nat) (h : i < 3), 0 ≤ p[i] ∧ p[i] < (2048 : Int) := by
  unfold bloom_Places
  obtain ⟨h, e⟩ := sum_total t ht
  rw [e, Option.bind_some]
  have loop : ∀ (d i k : Nat) (w : Vector Int 3), i + d = 3 → d < k → (∀ (j : Nat) (hj : j < 3), 0 ≤ w[j] ∧ w[j] < (2048 : Int)) → ∃ p, bloom_Places.l1 h k i w = some p ∧ ∀ (j : Nat) (hj : j < 3), 0 ≤ p[j] ∧ p[j] < (2048 : Int) := by
    intro d
    induction d with
    | zero =>
      intro i k w h1 h2 h3
      obtain ⟨k, rfl⟩ : ∃ m, k = m + 1 := ⟨k - 1, by omega⟩
      exact ⟨w, by rw [bloom_Places.l1, if_neg (by omega)], h3⟩
    | succ d ih =>
      intro i k w h1 h2 h3
      obtain ⟨k, rfl⟩ : ∃ m, k = m + 1 := ⟨k - 1, by omega⟩
      rw [bloom_Places.l1, if_pos (by omega), if_pos (by omega), Vector.getElem?_eq_getElem (by omega), Option.bind_some, if_pos (by omega), Vector.getElem?_eq_getElem (by omega), Option.bind_some]
      refine ih (i + 1) k _ (by omega) (by omega) fun j hj => ?_
      rw [Vector.getElem_setIfInBounds]
      split
      · omega
      · exact h3 j hj
  obtain ⟨p, e1, e2⟩ := loop 3 0 (3 - 0 + 2) (Vector.replicate 3 0) (by omega) (by omega) (by intro j hj; simp)
  rw [e1, Option.bind_some]
  exact ⟨p, rfl, e2⟩
end Go.Fw
