/- Part of a proof over Ytgdohhccpghofaa: rules and contracts that the law's text uses. No condition. -/
import Derived.Test.YtgdohhccpghofaaRlpD1
namespace Go.Fw
set_option linter.unusedVariables false
set_option linter.unusedSimpArgs false
set_option maxRecDepth 4000
/-! The reference's Decode is the same tree, the same error. -/
theorem btw_drop (b : List (BitVec 8)) (p q i : Nat) : (btw b p q).drop i = btw b (p + i) q := by unfold btw; rw [List.drop_drop]
theorem btw_part {b : List (BitVec 8)} {p q h n : Nat} (hh : p + h + n ≤ q) : ((btw b p q).drop h).take n = btw b (p + h) (p + h + n) := btw_sub hh
def RefA (b : List (BitVec 8)) (k : Nat) : Prop := ∀ (kf p q d : Nat), 2 * (q - p) + 1 ≤ k → p ≤ q → q ≤ b.length → d ≤ 1024 → 1026 ≤ kf + d →
  ((parse k d (btw b p q)).1 = 0 → ∃ p', p < p' ∧ p' ≤ q ∧ (parse k d (btw b p q)).2.2 = btw b p' q ∧ waybillref07_item.r kf b p q d = some ((parse k d (btw b p q)).2.1, p', 0)) ∧
  ((parse k d (btw b p q)).1 ≠ 0 → waybillref07_item.r kf b p q d = some (It.zero, 0, (parse k d (btw b p q)).1))
def RefB (b : List (BitVec 8)) (k : Nat) : Prop := ∀ (kf kl p d : Nat) (x : Hd) (acc : List It), 2 * (x.to - p) + 2 ≤ k → p ≤ x.to → x.to ≤ b.length → d + 1 ≤ 1024 → 1026 ≤ kf + (d + 1) → x.to - p < kl → acc.length + (x.to - p) ≤ 16777216 →
  ((plist k (d + 1) (btw b p x.to) acc).1 = 0 → waybillref07_item.l1 b d (waybillref07_item.r kf) x kl p true [] acc = some (Lp.go (true, [], (plist k (d + 1) (btw b p x.to) acc).2))) ∧
  ((plist k (d + 1) (btw b p x.to) acc).1 ≠ 0 → waybillref07_item.l1 b d (waybillref07_item.r kf) x kl p true [] acc = some (Lp.ret (some (It.zero, 0, (plist k (d + 1) (btw b p x.to) acc).1))))
theorem ref_all (b : List (BitVec 8)) (hb : b.length ≤ 16777216) : ∀ k, RefA b k ∧ RefB b k := by
  intro k
  induction k with
  | zero => exact ⟨fun kf p q d h => by omega, fun kf kl p d x acc h => by omega⟩
  | succ k ih =>
    obtain ⟨ihA, ihB⟩ := ih
    refine ⟨?_, ?_⟩
    · intro kf p q d hk hp hq hd hf
      obtain ⟨kf, rfl⟩ : ∃ m, kf = m + 1 := ⟨kf - 1, by omega⟩
      have hhd := head_eq b p q hp hq (by omega)
      have hlen := btw_length (b := b) (p := p) hq
      unfold headR at hhd
      generalize hc : cutS (btw b p q) = r at hhd
      obtain ⟨e, l, h, n⟩ := r
      dsimp only at hhd
      rw [waybillref07_item.r]
      by_cases he : e = 0
      · subst he
        rw [if_pos rfl] at hhd
        have hin := cutS_in hc
        rw [hhd, Option.bind_some]
        dsimp only
        rw [if_pos rfl]
        cases l with
        | false =>
          rw [parse_text hc]
          refine ⟨fun _ => ⟨p + h + n, by omega, by omega, by show List.drop (h + n) (btw b p q) = _; rw [btw_drop]; congr 1; omega, ?_⟩, fun h => absurd rfl h⟩
          simp only [Hd.list, Hd.fr, Hd.to]
          rw [if_neg (by decide), if_pos (by omega), if_pos (by omega), waybillref07_bytes, Option.bind_some, btw_part (by omega)]
          rfl
        | true =>
          have hh := cutS_list hc
          simp only [Hd.list, Hd.fr, Hd.to]
          rw [if_pos trivial, parse_list hc]
          by_cases h1 : d = 1024
          · rw [if_pos h1, if_pos (by omega)]
            exact ⟨fun h => by simp at h, fun _ => rfl⟩
          · rw [if_neg h1, if_neg (by omega), btw_part (by omega)]
            obtain ⟨b1, b2⟩ := ihB kf (p + h + n - (p + h) + 2) (p + h) d (Hd.mk true (p + h) (p + h + n)) [] (by simp only [Hd.to]; omega) (by simp only [Hd.to]; omega) (by simp only [Hd.to]; omega) (by omega) (by omega) (by simp only [Hd.to]; omega) (by simp only [Hd.to, List.length_nil]; omega)
            simp only [Hd.to] at b1 b2
            generalize plist k (d + 1) (btw b (p + h) (p + h + n)) [] = q2 at b1 b2 ⊢
            obtain ⟨e2, its⟩ := q2
            dsimp only at b1 b2 ⊢
            by_cases h2 : e2 = 0
            · rw [if_pos h2, b1 h2, Option.bind_some]
              exact ⟨fun _ => ⟨p + h + n, by omega, by omega, by show List.drop (h + n) (btw b p q) = _; rw [btw_drop]; congr 1; omega, rfl⟩, fun h => absurd rfl h⟩
            · rw [if_neg h2, b2 h2, Option.bind_some]
              exact ⟨fun h => absurd h h2, fun _ => rfl⟩
      · rw [parse_err hc he]
        rw [if_neg he] at hhd
        rw [hhd, Option.bind_some]
        dsimp only
        rw [if_neg he]
        exact ⟨fun h => absurd h he, fun _ => rfl⟩
    · intro kf kl p d x acc hk hp hq hd hf hl ha
      obtain ⟨kl, rfl⟩ : ∃ m, kl = m + 1 := ⟨kl - 1, by omega⟩
      have hlen := btw_length (b := b) (p := p) hq
      rw [waybillref07_item.l1]
      by_cases h0 : p < x.to
      · rw [if_pos h0, plist_cons (by omega)]
        obtain ⟨a1, a2⟩ := ihA kf p x.to (d + 1) (by omega) hp hq hd hf
        generalize parse k (d + 1) (btw b p x.to) = q2 at a1 a2 ⊢
        obtain ⟨e, y, r⟩ := q2
        dsimp only at a1 a2 ⊢
        by_cases he : e = 0
        · rw [if_pos he]
          obtain ⟨p', h1, h2, rfl, a3⟩ := a1 he
          rw [a3, Option.bind_some]
          dsimp only
          rw [if_pos rfl, if_pos (by simp only [List.length_cons, List.length_nil]; omega)]
          exact ihB kf kl p' d x (acc ++ [y]) (by omega) h2 hq hd hf (by omega) (by simp only [List.length_append, List.length_singleton]; omega)
        · rw [if_neg he, a2 he, Option.bind_some]
          dsimp only
          rw [if_neg he]
          exact ⟨fun h => absurd h he, fun _ => rfl⟩
      · have h0' : btw b p x.to = [] := List.length_eq_zero_iff.1 (by omega)
        rw [if_neg h0, h0', plist_nil]
        exact ⟨fun _ => rfl, fun h => absurd rfl h⟩
theorem rdecode_eq (b : List (BitVec 8)) : waybillref07_Decode b = some (decodeR b) := by
  unfold waybillref07_Decode decodeR
  by_cases h : 16777216 < b.length
  · rw [if_pos h, if_pos h]
  · rw [if_neg h, if_neg h]
    obtain ⟨a1, a2⟩ := (ref_all b (by omega) (2 * b.length + 1)).1 1026 0 b.length 0 (by omega) (by omega) (Nat.le_refl _) (by omega) (by omega)
    rw [btw_all] at a1 a2
    have hi : waybillref07_item b 0 b.length 0 = waybillref07_item.r 1026 b 0 b.length 0 := rfl
    rw [hi]
    generalize parse (2 * b.length + 1) 0 b = q at a1 a2 ⊢
    obtain ⟨e, x, r⟩ := q
    dsimp only at a1 a2 ⊢
    by_cases he : e = 0
    · rw [if_pos he]
      obtain ⟨p', h1, h2, rfl, a3⟩ := a1 he
      rw [a3, Option.bind_some]
      dsimp only
      rw [if_pos rfl, btw_length (Nat.le_refl _)]
      by_cases h3 : p' < b.length
      · rw [if_pos h3, if_pos (by omega)]
      · rw [if_neg h3, if_neg (by omega)]
    · rw [if_neg he, a2 he, Option.bind_some]
      dsimp only
      rw [if_neg he]
end Go.Fw
