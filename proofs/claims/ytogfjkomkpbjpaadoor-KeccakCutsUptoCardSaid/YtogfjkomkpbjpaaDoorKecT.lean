/- Part of a proof over YtogfjkomkpbjpaaDoor: rules and contracts that the law's text uses. No condition. -/
import Derived.Test.YtogfjkomkpbjpaaDoorKecP2
namespace Go.Fw
set_option linter.unusedVariables false
set_option linter.unusedSimpArgs false
set_option maxRecDepth 10000
/-! The sponge always answers. -/
theorem absorb_loop (a0 : Sponge) : ∀ (d i k : Nat) (w : Sponge), i + d = 136 → d < k → ∃ w', keccak_Sponge_absorb.l1 a0 k i w = some w' ∧ w'.kind = w.kind ∧ w'.long = w.long
  | 0, i, k, w, h, hk => by
    obtain ⟨k, rfl⟩ : ∃ m, k = m + 1 := ⟨k - 1, by omega⟩
    exact ⟨w, by rw [keccak_Sponge_absorb.l1, if_neg (by omega)], rfl, rfl⟩
  | d + 1, i, k, w, h, hk => by
    obtain ⟨k, rfl⟩ : ∃ m, k = m + 1 := ⟨k - 1, by omega⟩
    rw [keccak_Sponge_absorb.l1, if_pos (by omega), Vector.getElem?_eq_getElem (by omega), Option.bind_some, if_pos (by omega), Vector.getElem?_eq_getElem (by omega), Option.bind_some]
    obtain ⟨w', e1, e2, e3⟩ := absorb_loop a0 d (i + 1) k _ (by omega) (by omega)
    exact ⟨w', e1, e2, e3⟩
theorem absorb_total (s : Sponge) : ∃ s', keccak_Sponge_absorb s = some s' ∧ s'.kind = s.kind ∧ s'.long = s.long ∧ s'.held = 0 := by
  unfold keccak_Sponge_absorb
  obtain ⟨w, e1, e2, e3⟩ := absorb_loop s 136 0 (136 - 0 + 2) s (by omega) (by omega)
  rw [e1, Option.bind_some]
  exact ⟨_, rfl, e2, e3, rfl⟩
theorem write_loop : ∀ (n k : Nat) (l : List (BitVec 8)) (w : Sponge), l.length ≤ n → n < k → 0 ≤ w.held → w.held < 136 → ∃ w', keccak_Sponge_Write.l1 k l w = some w' ∧ 0 ≤ w'.held ∧ w'.held < 136 ∧ w'.kind = w.kind ∧ w'.long = w.long
  | n, 0, l, w, hn, hk, h0, h1 => by omega
  | n, k + 1, l, w, hn, hk, h0, h1 => by
    rw [keccak_Sponge_Write.l1]
    by_cases hl : 0 < l.length
    · have hm : 0 < min l.length (136 - w.held.toNat) := by omega
      rw [if_pos hl, if_pos h0, if_pos (by omega), if_pos (Nat.min_le_left ..), if_pos (by constructor <;> (show _ ≤ _; dsimp only; omega))]
      by_cases hf : w.held + ((min l.length (136 - w.held.toNat) : Nat) : Int) = 136
      · rw [if_pos hf]
        obtain ⟨s', e1, e2, e3, e4⟩ := absorb_total ({ ({ w with part := cpV w.part ((w.held).toNat) (l.take (min l.length (136 - ((w.held).toNat)))) } : Sponge) with held := (({ w with part := cpV w.part ((w.held).toNat) (l.take (min l.length (136 - ((w.held).toNat)))) } : Sponge).held + (((min l.length (136 - ((w.held).toNat))) : Nat) : Int)) } : Sponge)
        rw [e1, Option.bind_some, Option.bind_some]
        obtain ⟨w', f1, f2, f3, f4, f5⟩ := write_loop (n - 1) k (l.drop (min l.length (136 - w.held.toNat))) s' (by rw [List.length_drop]; omega) (by omega) (by omega) (by omega)
        exact ⟨w', f1, f2, f3, f4.trans e2, f5.trans e3⟩
      · rw [if_neg hf, Option.bind_some]
        obtain ⟨w', f1, f2, f3, f4, f5⟩ := write_loop (n - 1) k (l.drop (min l.length (136 - w.held.toNat))) ({ ({ w with part := cpV w.part ((w.held).toNat) (l.take (min l.length (136 - ((w.held).toNat)))) } : Sponge) with held := (({ w with part := cpV w.part ((w.held).toNat) (l.take (min l.length (136 - ((w.held).toNat)))) } : Sponge).held + (((min l.length (136 - ((w.held).toNat))) : Nat) : Int)) } : Sponge) (by rw [List.length_drop]; omega) (by omega) (show 0 ≤ w.held + ((min l.length (136 - w.held.toNat) : Nat) : Int) by omega) (show w.held + ((min l.length (136 - w.held.toNat) : Nat) : Int) < 136 by omega)
        exact ⟨w', f1, f2, f3, f4, f5⟩
    · rw [if_neg hl]
      exact ⟨w, rfl, h0, h1, rfl, rfl⟩
theorem write_total (s : Sponge) (l : List (BitVec 8)) (h0 : 0 ≤ s.held) (h1 : s.held < 136) (h2 : -9223372036854775808 ≤ s.long + ((l.length : Nat) : Int) ∧ s.long + ((l.length : Nat) : Int) ≤ 9223372036854775807) : ∃ s', keccak_Sponge_Write s l = some s' ∧ 0 ≤ s'.held ∧ s'.held < 136 ∧ s'.kind = s.kind ∧ s'.long = s.long + ((l.length : Nat) : Int) := by
  unfold keccak_Sponge_Write
  rw [if_pos h2]
  obtain ⟨w, e1, e2, e3, e4, e5⟩ := write_loop l.length (l.length - 0 + 2) l ({ s with long := (s.long + ((l.length : Nat) : Int)) } : Sponge) (Nat.le_refl _) (by omega) h0 h1
  rw [e1, Option.bind_some]
  exact ⟨w, rfl, e2, e3, e4, e5⟩
end Go.Fw
