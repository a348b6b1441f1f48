/- Part of a proof over Ytgdohhccpghofaa: rules and contracts that the law's text uses. No condition. -/
import Derived.Test.YtgdohhccpghofaaRlpD
import Derived.Test.YtgdohhccpghofaaRlpTs
namespace Go.Fw
set_option linter.unusedVariables false
set_option maxRecDepth 4000
/-! The tree that bytes are, or the first error. -/
mutual
def parse : Nat → Nat → List (BitVec 8) → Nat × It × List (BitVec 8)
  | 0, _, _ => (1, It.zero, [])
  | k + 1, d, s => match cutS s with
    | (e, l, h, n) => if e = 0 then (if l = true then (if d = 1024 then (74, It.zero, []) else (match plist k (d + 1) ((s.drop h).take n) [] with
        | (e2, its) => if e2 = 0 then (0, It.mk true [] its, s.drop (h + n)) else (e2, It.zero, [])))
      else (0, It.mk false ((s.drop h).take n) [], s.drop (h + n))) else (e, It.zero, [])
def plist : Nat → Nat → List (BitVec 8) → List It → Nat × List It
  | 0, _, _, _ => (1, [])
  | k + 1, d, s, acc => if s.length = 0 then (0, acc) else (match parse k d s with
    | (e, x, r) => if e = 0 then plist k d r (acc ++ [x]) else (e, []))
end
theorem parse_err {k d : Nat} {s : List (BitVec 8)} {e : Nat} {l : Bool} {h n : Nat} (hc : cutS s = (e, l, h, n)) (he : e ≠ 0) : parse (k + 1) d s = (e, It.zero, []) := by rw [parse, hc]; dsimp only; rw [if_neg he]
theorem parse_text {k d : Nat} {s : List (BitVec 8)} {h n : Nat} (hc : cutS s = (0, false, h, n)) : parse (k + 1) d s = (0, It.mk false ((s.drop h).take n) [], s.drop (h + n)) := by rw [parse, hc]; rfl
theorem parse_list {k d : Nat} {s : List (BitVec 8)} {h n : Nat} (hc : cutS s = (0, true, h, n)) : parse (k + 1) d s = if d = 1024 then (74, It.zero, []) else (match plist k (d + 1) ((s.drop h).take n) [] with
        | (e2, its) => if e2 = 0 then (0, It.mk true [] its, s.drop (h + n)) else (e2, It.zero, [])) := by rw [parse, hc]; rfl
theorem plist_nil {k d : Nat} {acc : List It} : plist (k + 1) d [] acc = (0, acc) := by rw [plist]; rfl
theorem plist_cons {k d : Nat} {s : List (BitVec 8)} {acc : List It} (h : ¬ s.length = 0) : plist (k + 1) d s acc = match parse k d s with
    | (e, x, r) => if e = 0 then plist k d r (acc ++ [x]) else (e, []) := by rw [plist, if_neg h]
/-- A list's head takes a byte. -/
theorem cutS_list {s : List (BitVec 8)} {h n : Nat} (e : cutS s = (0, true, h, n)) : 0 < h := by
  have fin : ∀ l' h' n', finS s l' h' n' = (0, true, h, n) → 0 < h' → 0 < h := by
    intro l' h' n' e hp
    unfold finS at e
    split at e
    · simp at e
    split at e
    · simp at e
    · simp only [Prod.mk.injEq] at e; omega
  unfold cutS at e
  split at e
  · simp at e
  split at e
  · simp at e
  split at e
  · split at e
    · simp at e
    split at e
    · simp at e
    split at e
    · simp at e
    · exact fin _ _ _ e (by omega)
  · exact fin _ _ _ e (by omega)

def DecA (k : Nat) : Prop := ∀ (s : List (BitVec 8)) (st : List (List It × List (BitVec 8))), 2 * s.length + 1 ≤ k → s.length ≤ 16777216 → st.length ≤ 1024 →
  ((parse k st.length s).1 = 0 → (parse k st.length s).2.2.length < s.length ∧ ∃ t, t + 4 * (parse k st.length s).2.2.length + 2 ≤ 4 * s.length ∧ ∀ m it, dec (t + m) 1 s it st = dec m 2 (parse k st.length s).2.2 (parse k st.length s).2.1 st) ∧
  ((parse k st.length s).1 ≠ 0 → ∃ t, t ≤ 4 * s.length + 1 ∧ ∀ m it, dec (t + m) 1 s it st = some (It.zero, (parse k st.length s).1))
def DecB (k : Nat) : Prop := ∀ (s : List (BitVec 8)) (acc : List It) (bh : List (BitVec 8)) (st : List (List It × List (BitVec 8))), 2 * s.length + 2 ≤ k → s.length + acc.length ≤ 16777216 → st.length + 1 ≤ 1024 →
  ((plist k (st.length + 1) s acc).1 = 0 → ∃ t, t ≤ 4 * s.length + 1 ∧ ∀ m it, dec (t + m) 3 s it ((acc, bh) :: st) = dec m 2 bh (It.mk true [] (plist k (st.length + 1) s acc).2) st) ∧
  ((plist k (st.length + 1) s acc).1 ≠ 0 → ∃ t, t ≤ 4 * s.length + 2 ∧ ∀ m it, dec (t + m) 3 s it ((acc, bh) :: st) = some (It.zero, (plist k (st.length + 1) s acc).1))
theorem dec_all : ∀ k, DecA k ∧ DecB k := by
  intro k
  induction k with
  | zero => exact ⟨fun s st h => by omega, fun s acc bh st h => by omega⟩
  | succ k ih =>
    obtain ⟨ihA, ihB⟩ := ih
    refine ⟨?_, ?_⟩
    · intro s st hk hs hst
      have hcut := cut_eq s (by omega)
      unfold cutR at hcut
      generalize hc : cutS s = r at hcut
      obtain ⟨e, l, h, n⟩ := r
      dsimp only at hcut
      by_cases he : e = 0
      · subst he
        rw [if_pos rfl] at hcut
        have hin := cutS_in hc
        cases l with
        | false =>
          rw [parse_text hc]
          refine ⟨fun _ => ⟨by simp only [List.length_drop]; omega, 1, by simp only [List.length_drop]; omega, fun m it => ?_⟩, fun h => absurd rfl h⟩
          rw [Nat.add_comm 1 m, dec_1, hcut, Option.bind_some]
          dsimp only
          rw [if_pos rfl, if_neg (by decide), text_eq, Option.bind_some]
        | true =>
          have hh := cutS_list hc
          have hl : ((s.drop h).take n).length = n := by rw [List.length_take, List.length_drop]; omega
          have hd : ∀ m it, dec (m + 1) 1 s it st = if st.length = 1024 then some (It.zero, 74) else dec m 3 ((s.drop h).take n) It.zero (([], s.drop (h + n)) :: st) := by
            intro m it
            rw [dec_1, hcut, Option.bind_some]
            dsimp only
            rw [if_pos rfl, if_pos rfl]
            split
            · rfl
            · rw [if_pos (by omega)]
          rw [parse_list hc]
          by_cases h1 : st.length = 1024
          · rw [if_pos h1]
            refine ⟨fun h => by simp at h, fun _ => ⟨1, by omega, fun m it => ?_⟩⟩
            rw [Nat.add_comm 1 m, hd, if_pos h1]
          · rw [if_neg h1]
            obtain ⟨b1, b2⟩ := ihB ((s.drop h).take n) [] (s.drop (h + n)) st (by omega) (by simp only [List.length_nil]; omega) (by omega)
            generalize plist k (st.length + 1) ((s.drop h).take n) [] = q at b1 b2 ⊢
            obtain ⟨e2, its⟩ := q
            dsimp only at b1 b2 ⊢
            by_cases h2 : e2 = 0
            · rw [if_pos h2]
              obtain ⟨t, ht, b1⟩ := b1 h2
              refine ⟨fun _ => ⟨by simp only [List.length_drop]; omega, t + 1, by simp only [List.length_drop]; omega, fun m it => ?_⟩, fun h => absurd rfl h⟩
              rw [show t + 1 + m = (t + m) + 1 by omega, hd, if_neg h1, b1]
            · rw [if_neg h2]
              obtain ⟨t, ht, b2⟩ := b2 h2
              refine ⟨fun h => absurd h h2, fun _ => ⟨t + 1, by omega, fun m it => ?_⟩⟩
              rw [show t + 1 + m = (t + m) + 1 by omega, hd, if_neg h1, b2]
      · rw [parse_err hc he]
        refine ⟨fun h => absurd h he, fun _ => ⟨1, by omega, fun m it => ?_⟩⟩
        rw [if_neg he] at hcut
        rw [Nat.add_comm 1 m, dec_1, hcut, Option.bind_some]
        dsimp only
        rw [if_neg he]
    · intro s acc bh st hk hs hst
      by_cases h0 : s.length = 0
      · obtain rfl : s = [] := List.length_eq_zero_iff.1 h0
        rw [plist_nil]
        refine ⟨fun _ => ⟨1, by omega, fun m it => ?_⟩, fun h => absurd rfl h⟩
        rw [Nat.add_comm 1 m, dec_3, if_neg (by simp)]
      · rw [plist_cons h0]
        obtain ⟨a1, a2⟩ := ihA s ((acc, bh) :: st) (by omega) (by omega) (by simpa using hst)
        rw [List.length_cons] at a1 a2
        generalize parse k (st.length + 1) s = q at a1 a2 ⊢
        obtain ⟨e, x, r⟩ := q
        dsimp only at a1 a2 ⊢
        by_cases he : e = 0
        · rw [if_pos he]
          obtain ⟨hr, t, ht, a1⟩ := a1 he
          obtain ⟨b1, b2⟩ := ihB r (acc ++ [x]) bh st (by omega) (by simp only [List.length_append, List.length_singleton]; omega) hst
          have hstep : ∀ m it, dec (t + m + 2) 3 s it ((acc, bh) :: st) = dec m 3 r It.zero ((acc ++ [x], bh) :: st) := by
            intro m it
            rw [show t + m + 2 = (t + (m + 1)) + 1 by omega, dec_3, if_pos (by omega), a1, dec_2c, if_pos (by omega)]
          refine ⟨fun h => ?_, fun h => ?_⟩
          · obtain ⟨t2, ht2, b1⟩ := b1 h
            exact ⟨t + t2 + 2, by omega, fun m it => by rw [show t + t2 + 2 + m = t + (t2 + m) + 2 by omega, hstep, b1]⟩
          · obtain ⟨t2, ht2, b2⟩ := b2 h
            exact ⟨t + t2 + 2, by omega, fun m it => by rw [show t + t2 + 2 + m = t + (t2 + m) + 2 by omega, hstep, b2]⟩
        · rw [if_neg he]
          obtain ⟨t, ht, a2⟩ := a2 he
          refine ⟨fun h => absurd h he, fun _ => ⟨t + 1, by omega, fun m it => ?_⟩⟩
          rw [show t + 1 + m = (t + m) + 1 by omega, dec_3, if_pos (by omega), a2]
def decodeR (b : List (BitVec 8)) : It × Nat := if 16777216 < b.length then (It.zero, 2) else (match parse (2 * b.length + 1) 0 b with
  | (e, x, r) => if e = 0 then (if 0 < r.length then (It.zero, 73) else (x, 0)) else (It.zero, e))
theorem decode_eq (b : List (BitVec 8)) : rlp_Decode b = some (decodeR b) := by
  unfold rlp_Decode decodeR
  by_cases h : 16777216 < b.length
  · rw [if_pos h, if_pos h]
  · rw [if_neg h, if_neg h]
    obtain ⟨a1, a2⟩ := (dec_all (2 * b.length + 1)).1 b [] (Nat.le_refl _) (by omega) (by simp)
    rw [List.length_nil] at a1 a2
    generalize parse (2 * b.length + 1) 0 b = q at a1 a2 ⊢
    obtain ⟨e, x, r⟩ := q
    dsimp only at a1 a2 ⊢
    by_cases he : e = 0
    · rw [if_pos he]
      obtain ⟨hr, t, ht, a1⟩ := a1 he
      rw [show 4 * b.length + 8 = t + ((4 * b.length + 7 - t) + 1) by omega, a1, dec_2n]
      split <;> rfl
    · rw [if_neg he]
      obtain ⟨t, ht, a2⟩ := a2 he
      rw [show 4 * b.length + 8 = t + (4 * b.length + 8 - t) by omega, a2]
end Go.Fw
