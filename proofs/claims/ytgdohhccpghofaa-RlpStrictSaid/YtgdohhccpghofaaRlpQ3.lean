/- Part of a proof over Ytgdohhccpghofaa: rules and contracts that the law's text uses. No condition. -/
import Derived.Test.YtgdohhccpghofaaRlpQ2
import Derived.Test.YtgdohhccpghofaaRlpP5
namespace Go.Fw
set_option linter.unusedVariables false
set_option linter.unusedSimpArgs false
set_option maxRecDepth 100000
theorem btw_all (b : List (BitVec 8)) : btw b 0 b.length = b := by simp [btw]
/-- Where the content of an item lies. -/
theorem cutS_in {s : List (BitVec 8)} {l : Bool} {h n : Nat} (e : cutS s = (0, l, h, n)) : h + n ≤ s.length ∧ 0 < h + n := by
  have fin : ∀ l' h' n', finS s l' h' n' = (0, l, h, n) → 0 < h' → h' ≤ s.length → h + n ≤ s.length ∧ 0 < h + n := by
    intro l' h' n' e hp hle
    unfold finS at e
    split at e
    · cases e
    split at e
    · cases e
    · cases e; omega
  unfold cutS at e
  split at e
  · cases e
  · rename_i c hc
    have hlt := (List.getElem?_eq_some_iff.1 hc).1
    split at e
    · cases e; omega
    split at e
    · split at e
      · cases e
      split at e
      · cases e
      split at e
      · cases e
      · exact fin _ _ _ e (by omega) (by omega)
    · exact fin _ _ _ e (by omega) (by omega)
def splitR (b : List (BitVec 8)) : Bool × List (BitVec 8) × List (BitVec 8) × Nat :=
  if 16777216 < b.length then (false, [], [], 2) else match cutS b with
  | (e, l, h, n) => if e = 0 then (l, (b.drop h).take n, b.drop (h + n), 0) else (false, [], [], e)
theorem split_eq (b : List (BitVec 8)) : rlp_Split b = some (splitR b) := by
  unfold rlp_Split splitR
  by_cases h : 16777216 < b.length
  · rw [if_pos h, if_pos h]
  rw [if_neg h, if_neg h, cut_eq b (by omega)]
  unfold cutR
  generalize cutS b = r
  obtain ⟨e, l, hh, n⟩ := r
  dsimp only
  by_cases he : e = 0
  · rw [if_pos he, if_pos he, Option.bind_some]; rfl
  · rw [if_neg he, if_neg he, Option.bind_some]
    simp only [he, if_false]
theorem rsplit_eq (b : List (BitVec 8)) : waybillref07_Split b = some (splitR b) := by
  unfold waybillref07_Split splitR
  by_cases h : 16777216 < b.length
  · rw [if_pos h, if_pos h]
  rw [if_neg h, if_neg h, head_eq b 0 b.length (by omega) (by omega) (by omega), btw_all]
  unfold headR
  generalize hr : cutS b = r
  obtain ⟨e, l, hh, n⟩ := r
  dsimp only
  by_cases he : e = 0
  · subst he
    have hin := cutS_in hr
    rw [if_pos rfl, if_pos rfl, Option.bind_some]
    dsimp only
    rw [if_pos rfl, if_pos (by omega), if_pos (by omega), Nat.zero_add]
    unfold waybillref07_bytes
    rw [Option.bind_some, Option.bind_some, List.take_drop]
  · rw [if_neg he, if_neg he, Option.bind_some]
    simp only [he, if_false]
/-! ### The parts of a list -/
/-- The parts of a list's content, or the first error. -/
def partsF : Nat → List (BitVec 8) → List (List (BitVec 8)) → List (List (BitVec 8)) × Nat
  | 0, _, _ => ([], 0)
  | k + 1, s, acc => if s.length = 0 then (acc, 0) else match cutS s with
    | (e, _, h, n) => if e = 0 then partsF k (s.drop (h + n)) (acc ++ [s.take (h + n)]) else ([], e)
def partsL (r : List (List (BitVec 8)) × Nat) : Lp (List (List (BitVec 8)) × Nat) (List (List (BitVec 8))) := if r.2 = 0 then .go r.1 else .ret (some ([], r.2))
theorem parts_loop : ∀ (k : Nat) (s : List (BitVec 8)) (acc : List (List (BitVec 8))), s.length < k → acc.length + s.length ≤ 16777216 → rlp_Parts.l1 k s acc = some (partsL (partsF k s acc))
  | 0, s, acc, h, _ => by omega
  | k + 1, s, acc, h, hb => by
    rw [rlp_Parts.l1, partsF]
    by_cases h0 : s.length = 0
    · rw [if_neg (by omega), if_pos h0]; rfl
    rw [if_pos (by omega), if_neg h0, cut_eq s (by omega)]
    unfold cutR
    generalize hr : cutS s = r
    obtain ⟨e, l, hh, n⟩ := r
    dsimp only
    by_cases he : e = 0
    · subst he
      have hin := cutS_in hr
      have hd : (((s.length : Nat) : Int) - (((s.drop (hh + n)).length : Nat) : Int)).toNat = hh + n := by rw [List.length_drop]; omega
      rw [if_pos rfl, if_pos rfl, Option.bind_some]
      dsimp only
      rw [if_pos rfl, if_pos (by rw [List.length_drop]; omega), hd, if_pos hin.1]
      unfold rlp_clone
      rw [Option.bind_some, if_pos (by simp only [List.length_cons, List.length_nil]; omega)]
      exact parts_loop k _ _ (by rw [List.length_drop]; omega) (by rw [List.length_append, List.length_drop, List.length_singleton]; omega)
    · rw [if_neg he, if_neg he, Option.bind_some]
      dsimp only
      rw [if_neg he]
      unfold partsL
      rw [if_neg he]
theorem rparts_loop (b : List (BitVec 8)) (hb : b.length ≤ 16777216) (x : Hd) (hx : x.to ≤ b.length) : ∀ (k p : Nat) (acc : List (List (BitVec 8))), p ≤ x.to → x.to - p < k → acc.length + (x.to - p) ≤ 16777216 → waybillref07_Parts.l1 b x k acc p = some (partsL (partsF k (btw b p x.to) acc))
  | 0, p, acc, _, h, _ => by omega
  | k + 1, p, acc, hp, h, ha => by
    have hlen := btw_length (p := p) hx
    rw [waybillref07_Parts.l1, partsF]
    by_cases h0 : x.to - p = 0
    · rw [if_neg (by omega), if_pos (by omega)]; rfl
    rw [if_pos (by omega), if_neg (by omega), head_eq b p x.to hp hx (by omega)]
    unfold headR
    generalize hr : cutS (btw b p x.to) = r
    obtain ⟨e, l, hh, n⟩ := r
    dsimp only
    by_cases he : e = 0
    · subst he
      have hin := cutS_in hr
      rw [if_pos rfl, if_pos rfl, Option.bind_some]
      dsimp only
      rw [if_pos rfl, if_pos (by omega), if_pos (by omega)]
      unfold waybillref07_bytes
      rw [Option.bind_some, if_pos (by simp only [List.length_cons, List.length_nil]; omega), rparts_loop b hb x hx k (p + hh + n) _ (by omega) (by omega) (by rw [List.length_append, List.length_singleton]; omega)]
      have e1 : (b.take (p + hh + n)).drop p = (btw b p x.to).take (hh + n) := by
        have := btw_sub (b := b) (p := p) (q := x.to) (i := 0) (k := hh + n) (by omega)
        rw [List.drop_zero] at this
        rw [this]; congr 2; omega
      have e2 : btw b (p + hh + n) x.to = (btw b p x.to).drop (hh + n) := by unfold btw; rw [List.drop_drop]; congr 1; omega
      rw [e1, e2]
    · rw [if_neg he, if_neg he, Option.bind_some]
      dsimp only
      rw [if_neg he]
      unfold partsL
      rw [if_neg he]
def partsR (b : List (BitVec 8)) : List (List (BitVec 8)) × Nat :=
  if 16777216 < b.length then ([], 2) else match cutS b with
  | (e, l, h, n) => if e = 0 then (if l = true then (if h + n < b.length then ([], 73) else partsF (n + 2) ((b.drop h).take n) []) else ([], 75)) else ([], e)
theorem partsL_bind (r : List (List (BitVec 8)) × Nat) (hr : r.2 ≠ 0 → r.1 = []) : ((some (partsL r)).bind fun | .ret o => o | .go l => some (l, 0)) = some r := by
  unfold partsL
  obtain ⟨l, e⟩ := r
  by_cases h : e = 0
  · subst h; rfl
  · have h1 : l = [] := hr h
    subst h1
    rw [if_neg h]; rfl
theorem partsF_nil : ∀ (k : Nat) (s : List (BitVec 8)) (acc : List (List (BitVec 8))), (partsF k s acc).2 ≠ 0 → (partsF k s acc).1 = []
  | 0, s, acc, h => rfl
  | k + 1, s, acc, h => by
    rw [partsF] at h ⊢
    by_cases h0 : s.length = 0
    · rw [if_pos h0] at h; exact absurd rfl h
    rw [if_neg h0] at h ⊢
    generalize cutS s = r at h ⊢
    obtain ⟨e, l, hh, n⟩ := r
    dsimp only at h ⊢
    by_cases he : e = 0
    · rw [if_pos he] at h ⊢; exact partsF_nil k _ _ h
    · rw [if_neg he]
theorem parts_eq (b : List (BitVec 8)) : rlp_Parts b = some (partsR b) := by
  unfold rlp_Parts
  rw [split_eq, Option.bind_some]
  unfold splitR partsR
  by_cases h : 16777216 < b.length
  · rw [if_pos h, if_pos h]; rfl
  rw [if_neg h, if_neg h]
  generalize hr : cutS b = r
  obtain ⟨e, l, hh, n⟩ := r
  dsimp only
  by_cases he : e = 0
  · subst he
    have hin := cutS_in hr
    rw [if_pos rfl, if_pos rfl]
    dsimp only
    rw [if_pos rfl]
    by_cases hl : l = true
    · rw [if_pos hl, if_pos hl]
      by_cases h2 : hh + n < b.length
      · rw [if_pos (by rw [List.length_drop]; omega), if_pos h2]
      · rw [if_neg (by rw [List.length_drop]; omega), if_neg h2]
        have hlen : ((b.drop hh).take n).length = n := by rw [List.length_take, List.length_drop]; omega
        rw [parts_loop _ _ _ (by omega) (by rw [hlen]; simp; omega), hlen, Nat.sub_zero]
        exact partsL_bind _ (partsF_nil _ _ _)
    · rw [if_neg hl, if_neg hl]
  · rw [if_neg he, if_neg he]
    dsimp only
    rw [if_neg he]
theorem rparts_eq (b : List (BitVec 8)) : waybillref07_Parts b = some (partsR b) := by
  unfold waybillref07_Parts partsR
  by_cases h : 16777216 < b.length
  · rw [if_pos h, if_pos h]
  rw [if_neg h, if_neg h, head_eq b 0 b.length (by omega) (by omega) (by omega), btw_all]
  unfold headR
  generalize hr : cutS b = r
  obtain ⟨e, l, hh, n⟩ := r
  dsimp only
  by_cases he : e = 0
  · subst he
    have hin := cutS_in hr
    rw [if_pos rfl, if_pos rfl, Option.bind_some]
    dsimp only
    rw [if_pos rfl]
    by_cases hl : l = true
    · rw [if_pos hl, if_pos hl]
      by_cases h2 : hh + n < b.length
      · rw [if_pos (by omega), if_pos h2]
      · rw [if_neg (by omega), if_neg h2]
        rw [rparts_loop b (by omega) _ (by show 0 + hh + n ≤ b.length; omega) _ _ _ (by show 0 + hh ≤ 0 + hh + n; omega) (by show 0 + hh + n - (0 + hh) < _; omega) (by show 0 + (0 + hh + n - (0 + hh)) ≤ _; omega)]
        have e1 : btw b (0 + hh) (0 + hh + n) = (b.drop hh).take n := by unfold btw; rw [List.take_drop]; congr 2 <;> omega
        show ((some (partsL (partsF (0 + hh + n - (0 + hh) + 2) (btw b (0 + hh) (0 + hh + n)) []))).bind _) = _
        rw [e1, show 0 + hh + n - (0 + hh) + 2 = n + 2 by omega]
        exact partsL_bind _ (partsF_nil _ _ _)
    · rw [if_neg hl, if_neg hl]
  · rw [if_neg he, if_neg he, Option.bind_some]
    dsimp only
    rw [if_neg he]
end Go.Fw
