/- Part of a proof over Ytgdohhccpghofaa: rules and contracts that the law's text uses. No condition. -/
import Derived.Test.YtgdohhccpghofaaRlpQ1
namespace Go.Fw
set_option linter.unusedVariables false
set_option linter.unusedSimpArgs false
set_option maxRecDepth 100000
/-- The text between two places. -/
def btw (b : List (BitVec 8)) (p q : Nat) : List (BitVec 8) := (b.take q).drop p
theorem btw_length {b : List (BitVec 8)} {p q : Nat} (h : q ≤ b.length) : (btw b p q).length = q - p := by
  unfold btw; rw [List.length_drop, List.length_take]; omega
theorem btw_get {b : List (BitVec 8)} {p q i : Nat} (h : p + i < q) : (btw b p q)[i]? = b[p + i]? := by
  unfold btw; rw [List.getElem?_drop, List.getElem?_take, if_pos h]
theorem btw_sub {b : List (BitVec 8)} {p q i k : Nat} (h : p + i + k ≤ q) : ((btw b p q).drop i).take k = (b.take (p + i + k)).drop (p + i) := by
  unfold btw
  rw [List.drop_drop, List.take_drop, List.take_take]
  congr 2
  omega
def headR (s : List (BitVec 8)) (p : Nat) : Option (Hd × Nat) := match cutS s with
  | (e, l, h, n) => if e = 0 then some (Hd.mk l (p + h) (p + h + n), 0) else some (Hd.mk false 0 0, e)
theorem head_fin (b : List (BitVec 8)) (p q : Nat) (hq : q ≤ b.length) (hb : b.length ≤ 140737488355328) (l : Bool) (h n : Nat) (hn : n < 2 ^ 62) (hh : p + h ≤ q) :
    (if (((q : Nat) : Int) - (((p + h) : Nat) : Int)) < ((n : Nat) : Int) then (some ((Hd.mk false 0 0), 70)) else (if ((p + h) + n) ≤ 9223372036854775807 then (((if l = true then (some (false)) else (if n = 1 then (b[(p + h)]?).bind fun x42 => (some ((decide (x42.toNat < 128)))) else (some (false)))) : Option ((Bool))).bind fun p31 => (if p31 = true then (some ((Hd.mk false 0 0), 71)) else (some ((Hd.mk (l) (p + h) ((p + h) + n)), 0)))) else none)) =
    (match finS (btw b p q) l h n with
     | (e, l, h, n) => if e = 0 then some (Hd.mk l (p + h) (p + h + n), 0) else some (Hd.mk false 0 0, e)) := by
  unfold finS
  rw [btw_length hq]
  by_cases h1 : q - p - h < n
  · rw [if_pos (by omega), if_pos h1]; rfl
  rw [if_neg (by omega), if_neg h1, if_pos (by omega)]
  by_cases h2 : l = true
  · rw [if_pos h2, Option.bind_some, if_neg (by simp), if_neg (show ¬ (l = false ∧ n = 1 ∧ small (btw b p q) h = true) by simp [h2])]; rfl
  · rw [if_neg h2]
    have hlf : l = false := by simpa using h2
    by_cases h3 : n = 1
    · subst h3
      have hlt : p + h < b.length := by omega
      rw [if_pos rfl, get0 hlt, Option.bind_some, Option.bind_some]
      have hsm : small (btw b p q) h = decide ((b[p + h]).toNat < 128) := by unfold small; rw [btw_get (by omega), get0 hlt]
      by_cases h4 : (b[p + h]).toNat < 128
      · rw [if_pos (by simpa using h4), if_pos (show l = false ∧ 1 = 1 ∧ small (btw b p q) h = true from ⟨hlf, rfl, by rw [hsm]; simpa using h4⟩)]; rfl
      · rw [if_neg (by simpa using h4), if_neg (show ¬ (l = false ∧ 1 = 1 ∧ small (btw b p q) h = true) by rw [hsm]; simp [h4])]; rfl
    · rw [if_neg h3, Option.bind_some, if_neg (by simp), if_neg (show ¬ (l = false ∧ n = 1 ∧ small (btw b p q) h = true) by simp [h3])]; rfl
theorem head_eq (b : List (BitVec 8)) (p q : Nat) (hp : p ≤ q) (hq : q ≤ b.length) (hb : b.length ≤ 140737488355328) : waybillref07_head b p q = headR (btw b p q) p := by
  unfold waybillref07_head headR cutS
  have hlen := btw_length (p := p) hq
  by_cases h0 : q ≤ p
  · rw [if_pos h0, List.getElem?_eq_none (by omega)]; rfl
  have g0 : (btw b p q)[0]? = some (b[p]'(by omega)) := by rw [btw_get (by omega)]; exact get0 (by omega : p < b.length)
  rw [if_neg h0, get0 (by omega : p < b.length), Option.bind_some, g0]
  generalize hc : b[p] = c
  have hcl := c.isLt
  simp only []
  by_cases h1 : c.toNat < 128
  · rw [if_pos h1, if_pos h1]; simp
  rw [if_neg h1, if_neg h1]
  by_cases h3 : 55 < c.toNat % 64
  · rw [if_pos h3, if_pos h3]
    generalize hk : c.toNat % 64 - 55 = k
    have hk8 : k ≤ 8 := by omega
    rw [hlen]
    by_cases h4 : q - p - 1 < k
    · rw [if_pos (by omega), if_pos h4]; rfl
    rw [if_neg (by omega), if_neg h4, if_pos (by omega), if_pos (by omega), if_pos (by omega)]
    rw [← btw_sub (b := b) (p := p) (q := q) (i := 1) (k := k) (by omega)]
    have hl2 : (((btw b p q).drop 1).take k).length = k := by rw [List.length_take, List.length_drop, hlen]; omega
    have hv := beV_small (l := ((btw b p q).drop 1).take k) (k := k) (by omega) hk8
    rw [rget_eq _ (by omega), Option.bind_some]
    generalize hV : beV (((btw b p q).drop 1).take k) = v at hv
    rw [get0 (by omega : p + 1 < b.length), Option.bind_some, btw_get (by omega), get0 (by omega : p + 1 < b.length)]
    by_cases h5 : b[p + 1] = 0#8
    · rw [if_pos h5, Option.bind_some, if_pos rfl, if_pos (show some b[p + 1] = some 0#8 ∨ v ≤ 55 from .inl (by rw [h5]))]; rfl
    rw [if_neg h5, show (56#64 : BitVec 64) = BitVec.ofNat 64 56 by rfl, rfrom_eq, Option.bind_some, rcmp_of hv (by decide), Option.bind_some, Option.bind_some]
    by_cases h6 : v ≤ 55
    · rw [if_pos (by simpa using (cmpN_lt v 56).2 (by omega)), if_pos (show some b[p + 1] = some 0#8 ∨ v ≤ 55 from .inr h6)]; rfl
    rw [if_neg (show ¬ decide (cmpN v 56 < 0) = true by rw [decide_eq_true_eq]; exact fun h => h6 (by have := (cmpN_lt v 56).1 h; omega)), if_neg (show ¬ (some b[p + 1] = some 0#8 ∨ v ≤ 55) by rintro (h | h); exact h5 (by simpa using h); exact h6 h)]
    have e : BitVec.ofInt 64 (((q : Nat) : Int) - (((p + 1 + k) : Nat) : Int)) = BitVec.ofNat 64 (q - p - 1 - k) := by
      rw [show ((q : Nat) : Int) - (((p + 1 + k) : Nat) : Int) = ((q - p - 1 - k : Nat) : Int) by omega]
      exact BitVec.ofInt_natCast ..
    rw [e, rfrom_eq, Option.bind_some, rcmp_of hv (by omega), Option.bind_some]
    by_cases h7 : q - p - 1 - k < v
    · rw [if_pos ((cmpN_gt _ _).2 h7), if_pos h7]; rfl
    rw [if_neg (fun h => h7 ((cmpN_gt _ _).1 h)), if_neg h7, lim0_toNat hv, if_pos (by omega), Option.bind_some]
    simp only []
    rw [Nat.add_assoc p 1 k]
    exact head_fin b p q hq hb (decide (192 ≤ c.toNat)) (1 + k) v (by omega) (by omega)
  · rw [if_neg h3, if_neg h3, Option.bind_some]
    exact head_fin b p q hq hb (decide (192 ≤ c.toNat)) 1 _ (by omega) (by omega)
end Go.Fw
