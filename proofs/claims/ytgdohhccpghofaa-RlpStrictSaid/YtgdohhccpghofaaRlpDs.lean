/- Part of a proof over Ytgdohhccpghofaa: rules and contracts that the law's text uses. No condition. -/
import Derived.Test.YtgdohhccpghofaaRlpD
import Derived.Test.YtgdohhccpghofaaRlpTs
namespace Go.Fw
set_option linter.unusedVariables false
set_option maxRecDepth 4000
/-! The tree that bytes are, or the first error. -/
mutual
def parse : Nat → Nat → List (BitVec 8) → Nat × It × List (BitVec 8)
  | 0, _, _ => (1, It.zero, [])
  | k + 1, d, s => match cutS s with
    | (e, l, h, n) => if e = 0 then (if l = true then (if d = 1024 then (74, It.zero, []) else (match plist k (d + 1) ((s.drop h).take n) [] with
        | (e2, its) => if e2 = 0 then (0, It.mk true [] its, s.drop (h + n)) else (e2, It.zero, [])))
      else (0, It.mk false ((s.drop h).take n) [], s.drop (h + n))) else (e, It.zero, [])
def plist : Nat → Nat → List (BitVec 8) → List It → Nat × List It
  | 0, _, _, _ => (1, [])
  | k + 1, d, s, acc => if s.length = 0 then (0, acc) else (match parse k d s with
    | (e, x, r) => if e = 0 then plist k d r (acc ++ [x]) else (e, []))
end
theorem parse_err {k d : Nat} {s : List (BitVec 8)} {e : Nat} {l : Bool} {h n : Nat} (hc : cutS s = (e, l, h, n)) (he : e ≠ 0) : parse (k + 1) d s = (e, It.zero, []) := by rw [parse, hc]; dsimp only; rw [if_neg he]
theorem parse_text {k d : Nat} {s : List (BitVec 8)} {h n : Nat} (hc : cutS s = (0, false, h, n)) : parse (k + 1) d s = (0, It.mk false ((s.drop h).take n) [], s.drop (h + n)) := by rw [parse, hc]; rfl
theorem parse_list {k d : Nat} {s : List (BitVec 8)} {h n : Nat} (hc : cutS s = (0, true, h, n)) : parse (k + 1) d s = if d = 1024 then (74, It.zero, []) else (match plist k (d + 1) ((s.drop h).take n) [] with
        | (e2, its) => if e2 = 0 then (0, It.mk true [] its, s.drop (h + n)) else (e2, It.zero, [])) := by rw [parse, hc]; rfl
theorem plist_nil {k d : Nat} {acc : List It} : plist (k + 1) d [] acc = (0, acc) := by rw [plist]; rfl
theorem plist_cons {k d : Nat} {s : List (BitVec 8)} {acc : List It} (h : ¬ s.length = 0) : plist (k + 1) d s acc = match parse k d s with
    | (e, x, r) => if e = 0 then plist k d r (acc ++ [x]) else (e, []) := by rw [plist, if_neg h]
/-- A list's head takes a byte. -/
theorem cutS_list {s : List (BitVec 8)} {h n : Nat} (e : cutS s = (0, true, h, n)) : 0 < h := by
  have fin : ∀ l' h' n', finS s l' h' n' = (0, true, h, n) → 0 < h' → 0 < h := by
    intro l' h' n' e hp
    unfold finS at e
    split at e
    · simp at e
    split at e
    · simp at e
    · simp only [Prod.mk.injEq] at e; omega
  unfold cutS at e
  split at e
  · simp at e
  split at e
  · simp at e
  split at e
  · split at e
    · simp at e
    split at e
    · simp at e
    split at e
    · simp at e
    · exact fin _ _ _ e (by omega)
  · exact fin _ _ _ e (by omega)

def DecA (k : Nat) : Prop := ∀ (s : List (BitVec 8)) (st : List (List It × List (BitVec 8))), 2 * s.length + 1 ≤ k → s.length ≤ 16777216 → st.length ≤ 1024 →
  ((parse k st.length s).1 = 0 → (parse k st.length s).2.2.length < s.length ∧ ∃ t, t + 4 * (parse k st.length s).2.2.length + 2 ≤ 4 * s.length ∧ ∀ m it, dec (t + m) 1 s it st = dec m 2 (parse k st.length s).2.2 (parse k st.length s).2.1 st) ∧
  ((parse k st.length s).1 ≠ 0 → ∃ t, t ≤ 4 * s.length + 1 ∧ ∀ m it, dec (t + m) 1 s it st = some (It.zero, (parse k st.length s).1))
def DecB (k : Nat) : Prop := ∀ (s : List (BitVec 8)) (acc : List It) (bh : List (BitVec 8)) (st : List (List It × List (BitVec 8))), 2 * s.length + 2 ≤ k → s.length + acc.length ≤ 16777216 → st.length + 1 ≤ 1024 →
  ((plist k (st.length + 1) s acc).1 = 0 → ∃ t, t ≤ 4 * s.length + 1 ∧ ∀ m it, dec (t + m) 3 s it ((acc, bh) :: st) = dec m 2 bh (It.mk true [] (plist k (st.length + 1) s acc).2) st) ∧
  ((plist k (st.length + 1) s acc).1 ≠ 0 → ∃ t, t ≤ 4 * s.length + 2 ∧ ∀ m it, dec (t + m) 3 s it ((acc, bh) :: st) = some (It.zero, (plist k (st.length + 1) s acc).1))
theorem dec_all : ∀ k, DecA k ∧ DecB k := by
  intro k
  induction k with
  | zero => exact ⟨fun s st h => by omega, fun s acc bh st h => by omega⟩
  | succ k ih =>
    obtain ⟨ihA, ihB⟩ := ih
    refine ⟨?_, ?_⟩
    · intro s st hk hs hst
      have hcut := cut_eq s (by omega)
      unfold cutR at hcut
      generalize hc : cutS s = r at hcut
      obtain ⟨e, l, h, n⟩ := r
      dsimp only at hcut
      by_cases he : e = 0
      · subst he
        rw [if_pos rfl] at hcut
        have hin := cutS_in hc
        cases l with
        | false =>
          rw [parse_text hc]
          refine ⟨fun _ => ⟨by simp only [List.length_drop]; omega, 1, by simp only [List.length_drop]; omega, fun m it => ?_⟩, fun h => absurd rfl h⟩
          rw [Nat.add_comm 1 m, dec_1, hcut, Option.bind_some]
          dsimp only
          rw [if_pos rfl, if_neg (by decide), text_eq, Option.bind_some]
        | true =>
          have hh := cutS_list hc
          have hl : ((s.drop h).take n).length = n := by rw [List.length_take, List.length_drop]; omega
          have hd : ∀ m it, dec (m + 1) 1 s it st = if st.length = 1024 then some (It.zero, 74) else dec m 3 ((s.drop h).take n) It.zero (([], s.drop (h + n)) :: st) := by
            intro m it
            rw [dec_1, hcut, Option.bind_some]
            dsimp only
            rw [if_pos rfl, if_pos rfl]
            split
            · rfl
            · rw [if_pos (by omega)]
          rw [parse_list hc]
          by_cases h1 : st.length = 1024
          · rw [if_pos h1]
            refine ⟨fun h => by simp at h, fun _ => ⟨1, by omega, fun m it => ?_⟩⟩
            rw [Nat.add_comm 1 m, hd, if_pos h1]
          · rw [if_neg h1]
            obtain ⟨b1, b2⟩ := ihB ((s.drop h).take n) [] (s.drop (h + n)) st (by omega) (by simp only [List.length_nil]; omega) (by omega)
            generalize plist k (st.length + 1) ((s.drop h).take n) [] = q at b1 b2 ⊢
            obtain ⟨e2, its⟩ := q
            dsimp only at b1 b2 ⊢
            by_cases h2 : e2 = 0
            · rw [if_pos h2]
              obtain ⟨t, ht, b1⟩ := b1 h2
              refine ⟨fun _ => ⟨by simp only [List.length_drop]; omega, t + 1, by simp only [List.length_drop]; omega, fun m it => ?_⟩, fun h => absurd rfl h⟩
              rw [show t + 1 + m = (t + m) + 1 by omega, hd, if_neg h1, b1]
            · rw [if_neg h2]
              obtain ⟨t, ht, b2⟩ := b2 h2
              refine ⟨fun h => absurd h h2, fun _ => ⟨t + 1, by omega, fun m it => ?_⟩⟩
              rw [show t + 1 + m = (t + m) + 1 by omega, hd, if_neg h1, b2]
      · rw [parse_err hc he]
        refine ⟨fun h => absurd h he, fun _ => ⟨1, by omega, fun m it => ?_⟩⟩
        rw [if_neg he] at hcut
        rw [Nat.add_comm 1 m, dec_1, hcut, Option.bind_some]
        dsimp only
        rw [if_neg he]
    · intro s acc bh st hk hs hst
      by_cases h0 : s.length = 0
      · obtain rfl : s = [] := List.length_eq_zero_iff.1 h0
        rw [plist_nil]
        refine ⟨fun _ => ⟨1, by omega, fun m it => ?_⟩, fun h => absurd rfl h⟩
        rw [Nat.add_comm 1 m, dec_3, if_neg (by simp)]
      · rw [plist_cons h0]
        obtain ⟨a1, a2⟩ := ihA s ((acc, bh) :: st) (by omega) (by omega) (by simpa using hst)
        rw [List.length_cons] at a1 a2
        generalize parse k (st.length + 1) s = q at a1 a2 ⊢
        obtain ⟨e, x, r⟩ := q
        dsimp only at a1 a2 ⊢
        by_cases he : e = 0
        · rw [if_pos he]
          obtain ⟨hr, t, ht, a1⟩ := a1 he
          obtain ⟨b1, b2⟩ := ihB r (acc ++ [x]) bh st (by omega) (by simp only [List.length_append, List.length_singleton]; omega) hst
          have hstep : ∀ m it, dec (t + m + 2) 3 s it ((acc, bh) :: st) = dec m 3 r It.zero ((acc ++ [x], bh) :: st) := by
            intro m it
            rw [show t + m + 2 = (t + (m + 1)) + 1 by omega, dec_3, if_pos (by omega), a1, dec_2c, if_pos (by omega)]
          refine ⟨fun h => ?_, fun h => ?_⟩
          · obtain ⟨t2, ht2, b1⟩ := b1 h
            exact ⟨t + t2 + 2, by omega, fun m it => by rw [show t + t2 + 2 + m = t + (t2 + m) + 2 by omega, hstep, b1]⟩
          · obtain ⟨t2, ht2, b2⟩ := b2 h
            exact ⟨t + t2 + 2, by omega, fun m it => by rw [show t + t2 + 2 + m = t + (t2 + m) + 2 by omega, hstep, b2]⟩
        · rw [if_neg he]
          obtain ⟨t, ht, a2⟩ := a2 he
          refine ⟨fun h => absurd h he, fun _ => ⟨t + 1, by omega, fun m it => ?_⟩⟩
          rw [show t + 1 + m = (t + m) + 1 by omega, dec_3, if_pos (by omega), a2]
def decodeR (b : List (BitVec 8)) : It × Nat := if 16777216 < b.length then (It.zero, 2) else (match parse (2 * b.length + 1) 0 b with
  | (e, x, r) => if e = 0 then (if 0 < r.length then (It.zero, 73) else (x, 0)) else (It.zero, e))
theorem decode_eq (b : List (BitVec 8)) : rlp_Decode b = some (decodeR b) := by
  unfold rlp_Decode decodeR
  by_cases h : 16777216 < b.length
  · rw [if_pos h, if_pos h]
  · rw [if_neg h, if_neg h]
    obtain ⟨a1, a2⟩ := (dec_all (2 * b.length + 1)).1 b [] (Nat.le_refl _) (by omega) (by simp)
    rw [List.length_nil] at a1 a2
    generalize parse (2 * b.length + 1) 0 b = q at a1 a2 ⊢
    obtain ⟨e, x, r⟩ := q
    dsimp only at a1 a2 ⊢
    by_cases he : e = 0
    · rw [if_pos he]
      obtain ⟨hr, t, ht, a1⟩ := a1 he
      rw [show 4 * b.length + 8 = t + ((4 * b.length + 7 - t) + 1) by omega, a1, dec_2n]
      split <;> rfl
    · rw [if_neg he]
      obtain ⟨t, ht, a2⟩ := a2 he
      rw [show 4 * b.length + 8 = t + (4 * b.length + 8 - t) by omega, a2]
end Go.Fw
namespace Go.Fw
set_option linter.unusedVariables false
set_option linter.unusedSimpArgs false
set_option maxRecDepth 4000
/-! The reference's Decode is the same tree, the same error. -/
theorem btw_drop (b : List (BitVec 8)) (p q i : Nat) : (btw b p q).drop i = btw b (p + i) q := by unfold btw; rw [List.drop_drop]
theorem btw_part {b : List (BitVec 8)} {p q h n : Nat} (hh : p + h + n ≤ q) : ((btw b p q).drop h).take n = btw b (p + h) (p + h + n) := btw_sub hh
def RefA (b : List (BitVec 8)) (k : Nat) : Prop := ∀ (kf p q d : Nat), 2 * (q - p) + 1 ≤ k → p ≤ q → q ≤ b.length → d ≤ 1024 → 1026 ≤ kf + d →
  ((parse k d (btw b p q)).1 = 0 → ∃ p', p < p' ∧ p' ≤ q ∧ (parse k d (btw b p q)).2.2 = btw b p' q ∧ waybillref07_item.r kf b p q d = some ((parse k d (btw b p q)).2.1, p', 0)) ∧
  ((parse k d (btw b p q)).1 ≠ 0 → waybillref07_item.r kf b p q d = some (It.zero, 0, (parse k d (btw b p q)).1))
def RefB (b : List (BitVec 8)) (k : Nat) : Prop := ∀ (kf kl p d : Nat) (x : Hd) (acc : List It), 2 * (x.to - p) + 2 ≤ k → p ≤ x.to → x.to ≤ b.length → d + 1 ≤ 1024 → 1026 ≤ kf + (d + 1) → x.to - p < kl → acc.length + (x.to - p) ≤ 16777216 →
  ((plist k (d + 1) (btw b p x.to) acc).1 = 0 → waybillref07_item.l1 b d (waybillref07_item.r kf) x kl p true [] acc = some (Lp.go (true, [], (plist k (d + 1) (btw b p x.to) acc).2))) ∧
  ((plist k (d + 1) (btw b p x.to) acc).1 ≠ 0 → waybillref07_item.l1 b d (waybillref07_item.r kf) x kl p true [] acc = some (Lp.ret (some (It.zero, 0, (plist k (d + 1) (btw b p x.to) acc).1))))
theorem ref_all (b : List (BitVec 8)) (hb : b.length ≤ 16777216) : ∀ k, RefA b k ∧ RefB b k := by
  intro k
  induction k with
  | zero => exact ⟨fun kf p q d h => by omega, fun kf kl p d x acc h => by omega⟩
  | succ k ih =>
    obtain ⟨ihA, ihB⟩ := ih
    refine ⟨?_, ?_⟩
    · intro kf p q d hk hp hq hd hf
      obtain ⟨kf, rfl⟩ : ∃ m, kf = m + 1 := ⟨kf - 1, by omega⟩
      have hhd := head_eq b p q hp hq (by omega)
      have hlen := btw_length (b := b) (p := p) hq
      unfold headR at hhd
      generalize hc : cutS (btw b p q) = r at hhd
      obtain ⟨e, l, h, n⟩ := r
      dsimp only at hhd
      rw [waybillref07_item.r]
      by_cases he : e = 0
      · subst he
        rw [if_pos rfl] at hhd
        have hin := cutS_in hc
        rw [hhd, Option.bind_some]
        dsimp only
        rw [if_pos rfl]
        cases l with
        | false =>
          rw [parse_text hc]
          refine ⟨fun _ => ⟨p + h + n, by omega, by omega, by show List.drop (h + n) (btw b p q) = _; rw [btw_drop]; congr 1; omega, ?_⟩, fun h => absurd rfl h⟩
          simp only [Hd.list, Hd.fr, Hd.to]
          rw [if_neg (by decide), if_pos (by omega), if_pos (by omega), waybillref07_bytes, Option.bind_some, btw_part (by omega)]
          rfl
        | true =>
          have hh := cutS_list hc
          simp only [Hd.list, Hd.fr, Hd.to]
          rw [if_pos trivial, parse_list hc]
          by_cases h1 : d = 1024
          · rw [if_pos h1, if_pos (by omega)]
            exact ⟨fun h => by simp at h, fun _ => rfl⟩
          · rw [if_neg h1, if_neg (by omega), btw_part (by omega)]
            obtain ⟨b1, b2⟩ := ihB kf (p + h + n - (p + h) + 2) (p + h) d (Hd.mk true (p + h) (p + h + n)) [] (by simp only [Hd.to]; omega) (by simp only [Hd.to]; omega) (by simp only [Hd.to]; omega) (by omega) (by omega) (by simp only [Hd.to]; omega) (by simp only [Hd.to, List.length_nil]; omega)
            simp only [Hd.to] at b1 b2
            generalize plist k (d + 1) (btw b (p + h) (p + h + n)) [] = q2 at b1 b2 ⊢
            obtain ⟨e2, its⟩ := q2
            dsimp only at b1 b2 ⊢
            by_cases h2 : e2 = 0
            · rw [if_pos h2, b1 h2, Option.bind_some]
              exact ⟨fun _ => ⟨p + h + n, by omega, by omega, by show List.drop (h + n) (btw b p q) = _; rw [btw_drop]; congr 1; omega, rfl⟩, fun h => absurd rfl h⟩
            · rw [if_neg h2, b2 h2, Option.bind_some]
              exact ⟨fun h => absurd h h2, fun _ => rfl⟩
      · rw [parse_err hc he]
        rw [if_neg he] at hhd
        rw [hhd, Option.bind_some]
        dsimp only
        rw [if_neg he]
        exact ⟨fun h => absurd h he, fun _ => rfl⟩
    · intro kf kl p d x acc hk hp hq hd hf hl ha
      obtain ⟨kl, rfl⟩ : ∃ m, kl = m + 1 := ⟨kl - 1, by omega⟩
      have hlen := btw_length (b := b) (p := p) hq
      rw [waybillref07_item.l1]
      by_cases h0 : p < x.to
      · rw [if_pos h0, plist_cons (by omega)]
        obtain ⟨a1, a2⟩ := ihA kf p x.to (d + 1) (by omega) hp hq hd hf
        generalize parse k (d + 1) (btw b p x.to) = q2 at a1 a2 ⊢
        obtain ⟨e, y, r⟩ := q2
        dsimp only at a1 a2 ⊢
        by_cases he : e = 0
        · rw [if_pos he]
          obtain ⟨p', h1, h2, rfl, a3⟩ := a1 he
          rw [a3, Option.bind_some]
          dsimp only
          rw [if_pos rfl, if_pos (by simp only [List.length_cons, List.length_nil]; omega)]
          exact ihB kf kl p' d x (acc ++ [y]) (by omega) h2 hq hd hf (by omega) (by simp only [List.length_append, List.length_singleton]; omega)
        · rw [if_neg he, a2 he, Option.bind_some]
          dsimp only
          rw [if_neg he]
          exact ⟨fun h => absurd h he, fun _ => rfl⟩
      · have h0' : btw b p x.to = [] := List.length_eq_zero_iff.1 (by omega)
        rw [if_neg h0, h0', plist_nil]
        exact ⟨fun _ => rfl, fun h => absurd rfl h⟩
theorem rdecode_eq (b : List (BitVec 8)) : waybillref07_Decode b = some (decodeR b) := by
  unfold waybillref07_Decode decodeR
  by_cases h : 16777216 < b.length
  · rw [if_pos h, if_pos h]
  · rw [if_neg h, if_neg h]
    obtain ⟨a1, a2⟩ := (ref_all b (by omega) (2 * b.length + 1)).1 1026 0 b.length 0 (by omega) (by omega) (Nat.le_refl _) (by omega) (by omega)
    rw [btw_all] at a1 a2
    have hi : waybillref07_item b 0 b.length 0 = waybillref07_item.r 1026 b 0 b.length 0 := rfl
    rw [hi]
    generalize parse (2 * b.length + 1) 0 b = q at a1 a2 ⊢
    obtain ⟨e, x, r⟩ := q
    dsimp only at a1 a2 ⊢
    by_cases he : e = 0
    · rw [if_pos he]
      obtain ⟨p', h1, h2, rfl, a3⟩ := a1 he
      rw [a3, Option.bind_some]
      dsimp only
      rw [if_pos rfl, btw_length (Nat.le_refl _)]
      by_cases h3 : p' < b.length
      · rw [if_pos h3, if_pos (by omega)]
      · rw [if_neg h3, if_neg (by omega)]
    · rw [if_neg he, a2 he, Option.bind_some]
      dsimp only
      rw [if_neg he]
end Go.Fw
namespace Go.Fw
set_option linter.unusedVariables false
set_option linter.unusedSimpArgs false
set_option maxRecDepth 4000
/-! Encodings are read as what they are of; what is read was written so. -/
theorem oneB_small {d : List (BitVec 8)} (ho : ¬ oneB d = true) (h : d.length = 1) : small d 0 = false := by
  by_cases hs : small d 0 = true
  · exact absurd (by unfold oneB; simp [h, hs]) ho
  · simpa using hs
theorem parse_enc_all : ∀ k, (∀ (d : Nat) (x : It) (r : List (BitVec 8)), 2 * x.enc.length + 1 ≤ k → x.good → x.dep + d ≤ 1024 → x.w9 ≤ 16777216 → parse k d (x.enc ++ r) = (0, x, r)) ∧
    (∀ (d : Nat) (l : List It) (acc : List It), 2 * (Its.enc l).length + 2 ≤ k → Its.good l → Its.dep l + d ≤ 1024 → Its.w9 l ≤ 16777216 → plist k d (Its.enc l) acc = (0, acc ++ l)) := by
  intro k
  induction k with
  | zero => exact ⟨fun d x r h => by omega, fun d l acc h => by omega⟩
  | succ k ih =>
    obtain ⟨ihA, ihB⟩ := ih
    refine ⟨?_, ?_⟩
    · intro d x r hk hg hd hw
      have hw' := It.w9_eq x
      have hle := Its.enc_le x.items (by omega)
      obtain ⟨g1, g2, g3⟩ := (It.good_eq x).1 hg
      have hdep := It.dep_eq x
      rw [It.enc_eq] at hk ⊢
      by_cases hl : x.list = true
      · rw [if_pos hl] at hk hdep ⊢
        have hc := cut_head (c := 192) (.inr rfl) (Its.enc x.items) r (by omega) (fun h => by omega)
        have hh := headB_length (c := 192) (n := (Its.enc x.items).length) (by omega)
        rw [List.length_append] at hk
        have hpay : ((headB 192 (Its.enc x.items).length ++ Its.enc x.items ++ r).drop (headB 192 (Its.enc x.items).length).length).take (Its.enc x.items).length = Its.enc x.items := by
          rw [List.append_assoc, List.drop_left' rfl, List.take_left' rfl]
        have hrest : (headB 192 (Its.enc x.items).length ++ Its.enc x.items ++ r).drop ((headB 192 (Its.enc x.items).length).length + (Its.enc x.items).length) = r := by
          rw [← List.length_append, List.drop_left' rfl]
        rw [parse_list hc, if_neg (by omega), hpay, hrest, ihB (d + 1) x.items [] (by omega) g3 (by omega) (by omega)]
        dsimp only
        rw [if_pos rfl, List.nil_append, It.eta x, hl, g1 hl]
        rfl
      · rw [if_neg hl] at hk ⊢
        have hl' : x.list = false := by simpa using hl
        have hx : It.mk false x.data [] = x := by
          have := It.eta x
          rw [hl', g2 hl'] at this
          exact this.symm
        by_cases ho : oneB x.data = true
        · rw [if_pos ho]
          obtain ⟨h1, h2⟩ := oneB_len ho
          obtain ⟨c, hc⟩ : ∃ c, x.data = [c] := List.length_eq_one_iff.1 h1
          have h3 : c.toNat < 128 := by rw [hc] at h2; simpa [small] using h2
          have hcut : cutS ([c] ++ r) = (0, false, 0, 1) := by
            unfold cutS
            show (if c.toNat < 128 then _ else _) = _
            rw [if_pos h3]
          rw [hc] at hx ⊢
          rw [parse_text hcut]
          show (0, It.mk false [c] [], r) = _
          rw [hx]
        · rw [if_neg ho]
          have hc := cut_head (c := 128) (.inl rfl) x.data r (by omega) (fun _ h => oneB_small ho h)
          have hpay : ((headB 128 x.data.length ++ x.data ++ r).drop (headB 128 x.data.length).length).take x.data.length = x.data := by
            rw [List.append_assoc, List.drop_left' rfl, List.take_left' rfl]
          have hrest : (headB 128 x.data.length ++ x.data ++ r).drop ((headB 128 x.data.length).length + x.data.length) = r := by
            rw [← List.length_append, List.drop_left' rfl]
          rw [parse_text hc, hpay, hrest, hx]
    · intro d l acc hk hg hd hw
      cases l with
      | nil => rw [Its.enc, plist_nil, List.append_nil]
      | cons x l =>
        rw [Its.enc, List.length_append] at hk
        rw [Its.good] at hg
        rw [Its.dep] at hd
        rw [Its.w9] at hw
        have hx := It.enc_le x (by omega)
        rw [Its.enc, plist_cons (by rw [List.length_append]; omega), ihA d x (Its.enc l) (by omega) hg.1 (by omega) (by omega)]
        dsimp only
        rw [if_pos rfl, ihB d l (acc ++ [x]) (by omega) hg.2 (by omega) (by omega), List.append_assoc]
        rfl
theorem parse_back_all : ∀ k, (∀ (d : Nat) (s r : List (BitVec 8)) (x : It), s.length ≤ 16777216 → d ≤ 1024 → parse k d s = (0, x, r) → x.good ∧ s = x.enc ++ r ∧ x.dep + d ≤ 1024 ∧ x.w9 ≤ 10 * x.enc.length) ∧
    (∀ (d : Nat) (s : List (BitVec 8)) (acc its : List It), s.length ≤ 16777216 → d ≤ 1024 → plist k d s acc = (0, its) → ∃ l, its = acc ++ l ∧ Its.good l ∧ s = Its.enc l ∧ Its.dep l + d ≤ 1024 ∧ Its.w9 l ≤ 10 * (Its.enc l).length) := by
  intro k
  induction k with
  | zero => exact ⟨fun d s r x _ _ h => by rw [parse] at h; simp at h, fun d s acc its _ _ h => by rw [plist] at h; simp at h⟩
  | succ k ih =>
    obtain ⟨ihA, ihB⟩ := ih
    refine ⟨?_, ?_⟩
    · intro d s r x hs hd h
      generalize hc : cutS s = q
      obtain ⟨e, l, hh, n⟩ := q
      by_cases he : e = 0
      · subst he
        have hin := cutS_in hc
        have hb := cut_back hs hc
        have hsplit : s = s.take hh ++ ((s.drop hh).take n ++ s.drop (hh + n)) := by
          rw [← List.drop_drop, List.take_append_drop, List.take_append_drop]
        have hlen : ((s.drop hh).take n).length = n := by rw [List.length_take, List.length_drop]; omega
        have hx1 : (s.take hh).length = hh := by rw [List.length_take]; omega
        cases l with
        | false =>
          rw [parse_text hc] at h
          simp only [Prod.mk.injEq, true_and] at h
          obtain ⟨rfl, rfl⟩ := h
          have henc : (It.mk false ((s.drop hh).take n) []).enc = s.take hh ++ (s.drop hh).take n := by
            rw [It.enc, if_neg (by decide)]
            rcases hb with ⟨rfl, rfl, _, h3⟩ | ⟨h3, h4⟩
            · rw [if_pos (by unfold oneB; rw [decide_eq_true hlen, Bool.true_and]; unfold small at h3 ⊢; rw [List.drop_zero, List.getElem?_take, if_pos (by decide)]; exact h3), List.take_zero, List.nil_append]
            · rw [if_neg ?_, h3, hlen]; · rfl
              intro ho
              obtain ⟨o1, o2⟩ := oneB_len ho
              have h5 := h4 rfl (by omega)
              unfold small at o2 h5
              rw [List.getElem?_take, if_pos (by omega), List.getElem?_drop, Nat.add_zero] at o2
              rw [h5] at o2
              cases o2
          refine ⟨(It.good_eq _).2 ⟨fun h => by simp [It.list] at h, fun _ => rfl, by simp [It.items, Its.good]⟩, ?_, by rw [It.dep]; simpa using hd, ?_⟩
          · rw [henc, List.append_assoc]; exact hsplit
          · rw [henc, It.w9, Its.w9, List.length_append, hx1, hlen]
            omega
        | true =>
          have hh0 := cutS_list hc
          rw [parse_list hc] at h
          by_cases h1 : d = 1024
          · rw [if_pos h1] at h; simp at h
          · rw [if_neg h1] at h
            generalize hp : plist k (d + 1) ((s.drop hh).take n) [] = q at h
            obtain ⟨e2, its⟩ := q
            dsimp only at h
            by_cases h2 : e2 = 0
            · subst h2
              rw [if_pos rfl] at h
              simp only [Prod.mk.injEq, true_and] at h
              obtain ⟨rfl, rfl⟩ := h
              obtain ⟨l, e1, g1, g2, g3, g4⟩ := ihB (d + 1) _ _ _ (by omega) (by omega) hp
              rw [List.nil_append] at e1
              subst e1
              rcases hb with ⟨rfl, _⟩ | ⟨h3, _⟩
              · omega
              have henc : (It.mk true [] its).enc = s.take hh ++ (s.drop hh).take n := by
                rw [It.enc, if_pos rfl, ← g2, h3, hlen]; rfl
              refine ⟨(It.good_eq _).2 ⟨fun _ => rfl, fun h => by simp [It.list] at h, by simpa [It.items] using g1⟩, ?_, by rw [It.dep, if_pos rfl]; omega, ?_⟩
              · rw [henc, List.append_assoc]; exact hsplit
              · rw [← g2, hlen] at g4
                rw [henc, It.w9, List.length_append, hx1, hlen, List.length_nil]
                omega
            · rw [if_neg h2] at h
              simp only [Prod.mk.injEq] at h
              exact absurd h.1 h2
      · rw [parse_err hc he] at h
        simp only [Prod.mk.injEq] at h
        exact absurd h.1 he
    · intro d s acc its hs hd h
      by_cases h0 : s.length = 0
      · obtain rfl : s = [] := List.length_eq_zero_iff.1 h0
        rw [plist_nil] at h
        simp only [Prod.mk.injEq, true_and] at h
        subst h
        exact ⟨[], by simp, trivial, by rw [Its.enc], by rw [Its.dep]; omega, by rw [Its.w9]; omega⟩
      · rw [plist_cons h0] at h
        generalize hp : parse k d s = q at h
        obtain ⟨e, x, r⟩ := q
        dsimp only at h
        by_cases he : e = 0
        · subst he
          rw [if_pos rfl] at h
          obtain ⟨a1, a2, a3, a4⟩ := ihA d s r x hs hd hp
          have hr : r.length ≤ 16777216 := by rw [a2, List.length_append] at hs; omega
          obtain ⟨l, e1, g1, g2, g3, g4⟩ := ihB d r _ _ hr hd h
          refine ⟨x :: l, by rw [e1, List.append_assoc]; rfl, ⟨a1, g1⟩, by rw [Its.enc, ← g2]; exact a2, by rw [Its.dep]; omega, ?_⟩
          rw [Its.w9, Its.enc, List.length_append]
          omega
        · rw [if_neg he] at h
          simp only [Prod.mk.injEq] at h
          exact absurd h.1 he
/-- A head or what it holds cut off: it ends too early. -/
theorem cut_short {c : Nat} (hc : c = 128 ∨ c = 192) (d : List (BitVec 8)) (hd : d.length ≤ 16777216) (j : Nat) (hj : j < (headB c d.length ++ d).length) :
    cutS ((headB c d.length ++ d).take j) = (70, false, 0, 0) := by
  cases j with
  | zero => rw [List.take_zero]; rfl
  | succ j =>
    have h8 := nb_8 (n := d.length) (by omega)
    by_cases h55 : d.length ≤ 55
    · have e0 : headB c d.length = [BitVec.ofNat 8 (c + d.length)] := by unfold headB; rw [if_pos h55]
      rw [e0] at hj ⊢
      have hb : (BitVec.ofNat 8 (c + d.length)).toNat = c + d.length := nat8 (by omega)
      have h64 : (c + d.length) % 64 = d.length := by omega
      rw [List.length_append, List.length_singleton] at hj
      rw [List.singleton_append, List.take_succ_cons]
      unfold cutS
      show (if (BitVec.ofNat 8 (c + d.length)).toNat < 128 then _ else _) = _
      rw [if_neg (by omega), if_neg (by omega), hb, h64]
      unfold finS
      rw [if_pos (by rw [List.length_cons, List.length_take]; omega)]
    · have e0 : headB c d.length = BitVec.ofNat 8 (c + 55 + nb d.length) :: bytesN d.length := by unfold headB; rw [if_neg h55]
      have hbl := bytesN_length d.length
      have h1 : 0 < nb d.length := by obtain ⟨j, e, _, _⟩ := bl_spec (n := d.length) (by omega); unfold nb; omega
      rw [e0] at hj ⊢
      have hb : (BitVec.ofNat 8 (c + 55 + nb d.length)).toNat = c + 55 + nb d.length := nat8 (by omega)
      have h64 : (c + 55 + nb d.length) % 64 - 55 = nb d.length := by omega
      rw [List.length_append, List.length_cons, hbl] at hj
      rw [List.cons_append, List.take_succ_cons]
      have hl : ((bytesN d.length ++ d).take j).length = j := by rw [List.length_take, List.length_append, hbl]; omega
      unfold cutS
      show (if (BitVec.ofNat 8 (c + 55 + nb d.length)).toNat < 128 then _ else _) = _
      rw [if_neg (by omega), if_pos (by omega), hb, h64, List.length_cons, hl]
      by_cases h2 : j < nb d.length
      · rw [if_pos (by omega)]
      rw [if_neg (by omega)]
      have hk : ((BitVec.ofNat 8 (c + 55 + nb d.length) :: (bytesN d.length ++ d).take j).drop 1).take (nb d.length) = bytesN d.length := by
        rw [List.drop_succ_cons, List.drop_zero, List.take_take, Nat.min_eq_left (by omega), List.take_append_of_le_length (by omega), List.take_of_length_le (by omega)]
      have h1' : (BitVec.ofNat 8 (c + 55 + nb d.length) :: (bytesN d.length ++ d).take j)[1]? = (bytesN d.length)[0]? := by
        rw [List.getElem?_cons_succ, List.getElem?_take, if_pos (by omega), List.getElem?_append_left (by omega)]
      rw [hk, h1', beV_bytesN, if_neg, if_pos (by omega)]
      rintro (h | h)
      · exact bytesN_top (by omega) h
      · omega
theorem enc_short (x : It) (hw : x.w9 ≤ 16777216) (j : Nat) (hj : j < x.enc.length) : cutS (x.enc.take j) = (70, false, 0, 0) := by
  have hw' := It.w9_eq x
  have hle := Its.enc_le x.items (by omega)
  rw [It.enc_eq] at hj ⊢
  by_cases hl : x.list = true
  · rw [if_pos hl] at hj ⊢
    exact cut_short (.inr rfl) _ (by omega) j hj
  rw [if_neg hl] at hj ⊢
  by_cases ho : oneB x.data = true
  · rw [if_pos ho] at hj ⊢
    have := (oneB_len ho).1
    obtain rfl : j = 0 := by omega
    rw [List.take_zero]; rfl
  · rw [if_neg ho] at hj ⊢
    exact cut_short (.inl rfl) _ (by omega) j hj
theorem decode_enc {x : It} (hg : x.good) (hd : x.dep ≤ 1024) (hw : x.w9 ≤ 16777216) (r : List (BitVec 8)) (hr : (x.enc ++ r).length ≤ 16777216) : decodeR (x.enc ++ r) = if 0 < r.length then (It.zero, 73) else (x, 0) := by
  unfold decodeR
  rw [if_neg (by omega), (parse_enc_all _).1 0 x r (by rw [List.length_append]; omega) hg (by omega) hw]
  dsimp only
  rw [if_pos rfl]
theorem decode_short {x : It} (hw : x.w9 ≤ 16777216) (j : Nat) (hj : j < x.enc.length) : decodeR (x.enc.take j) = (It.zero, 70) := by
  have h1 := It.enc_le x (by omega)
  unfold decodeR
  rw [if_neg (by rw [List.length_take]; omega), parse_err (enc_short x hw j hj) (by decide)]
  rfl
theorem decode_back {b : List (BitVec 8)} {x : It} {e : Nat} (h : decodeR b = (x, e)) : (e ≠ 0 ∧ x = It.zero) ∨ (e = 0 ∧ x.good ∧ b = x.enc ∧ b.length ≤ 16777216 ∧ x.dep ≤ 1024 ∧ x.w9 ≤ 10 * b.length) := by
  unfold decodeR at h
  by_cases h0 : 16777216 < b.length
  · rw [if_pos h0] at h
    simp only [Prod.mk.injEq] at h
    exact .inl ⟨by omega, h.1.symm⟩
  · rw [if_neg h0] at h
    generalize hp : parse (2 * b.length + 1) 0 b = q at h
    obtain ⟨e1, x1, r⟩ := q
    dsimp only at h
    by_cases he : e1 = 0
    · subst he
      rw [if_pos rfl] at h
      obtain ⟨a1, a2, a3, a4⟩ := (parse_back_all _).1 0 b r x1 (by omega) (by omega) hp
      by_cases hr : 0 < r.length
      · rw [if_pos hr] at h
        simp only [Prod.mk.injEq] at h
        exact .inl ⟨by omega, h.1.symm⟩
      · rw [if_neg hr] at h
        simp only [Prod.mk.injEq] at h
        obtain ⟨rfl, rfl⟩ := h
        obtain rfl : r = [] := List.length_eq_zero_iff.1 (by omega)
        rw [List.append_nil] at a2
        exact .inr ⟨rfl, a1, a2, by omega, a3, by rw [a2]; exact a4⟩
    · rw [if_neg he] at h
      simp only [Prod.mk.injEq] at h
      exact .inl ⟨by omega, h.1.symm⟩
end Go.Fw
