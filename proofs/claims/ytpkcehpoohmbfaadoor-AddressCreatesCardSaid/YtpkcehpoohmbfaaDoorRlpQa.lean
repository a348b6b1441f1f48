/- Part of a proof: rules that its law uses. -/
import Derived.Test.YtpkcehpoohmbfaaDoorNumS
import Derived.Test.YtpkcehpoohmbfaaDoorRlpP4
import Derived.Test.YtpkcehpoohmbfaaDoorRlpP5
namespace Go.Fw
set_option linter.unusedVariables false
set_option linter.unusedSimpArgs false
set_option maxRecDepth 100000
def small (s : List (BitVec 8)) (h : Nat) : Bool := match s[h]? with
  | some x => decide (x.toNat < 128)
  | none => false
def finS (s : List (BitVec 8)) (list : Bool) (h n : Nat) : Nat × Bool × Nat × Nat :=
  if s.length - h < n then (70, false, 0, 0) else if list = false ∧ n = 1 ∧ small s h = true then (71, false, 0, 0) else (0, list, h, n)
def cutS (s : List (BitVec 8)) : Nat × Bool × Nat × Nat := match s[0]? with
  | none => (70, false, 0, 0)
  | some c => if c.toNat < 128 then (0, false, 0, 1) else
    if 55 < c.toNat % 64 then
      (if s.length - 1 < c.toNat % 64 - 55 then (70, false, 0, 0) else
        if s[1]? = some 0#8 ∨ beV ((s.drop 1).take (c.toNat % 64 - 55)) ≤ 55 then (72, false, 0, 0) else
          if s.length - 1 - (c.toNat % 64 - 55) < beV ((s.drop 1).take (c.toNat % 64 - 55)) then (70, false, 0, 0) else
            finS s (decide (192 ≤ c.toNat)) (1 + (c.toNat % 64 - 55)) (beV ((s.drop 1).take (c.toNat % 64 - 55))))
    else finS s (decide (192 ≤ c.toNat)) 1 (c.toNat % 64)
theorem pow8 : 256 ^ 8 = 2 ^ 64 := by decide
theorem beV_small {l : List (BitVec 8)} {k : Nat} (h : l.length ≤ k) (hk : k ≤ 8) : beV l < 2 ^ 64 := by
  have h1 := beV_lt l
  have h2 : 256 ^ l.length ≤ 256 ^ 8 := Nat.pow_le_pow_right (by omega) (by omega)
  have := pow8
  omega
theorem val4_lim' {n : Nat} (h : n < 2 ^ 64) : val4 (lim n) = n := val4_lim n (Nat.lt_trans h (by decide))
theorem lim0_toNat {n : Nat} (h : n < 2 ^ 64) : ((lim n)[0]).toNat = n := by
  rw [lim_get n 0 (by omega), BitVec.toNat_ofNat, Nat.mul_zero, Nat.pow_zero, Nat.div_one, Nat.mod_eq_of_lt h]
theorem cmpN_le (a b : Nat) : cmpN a b ≤ 0 ↔ a ≤ b := by unfold cmpN; split <;> (try split) <;> omega
theorem cmpN_lt (a b : Nat) : cmpN a b < 0 ↔ a < b := by unfold cmpN; split <;> (try split) <;> omega
theorem cmpN_gt (a b : Nat) : 0 < cmpN a b ↔ b < a := by unfold cmpN; split <;> (try split) <;> omega
theorem cmpF (v n : Nat) (hv : v < 2 ^ 64) (hn : n < 2 ^ 64) : ((u256_From (BitVec.ofNat 64 n)).bind fun y => u256_Cmp (lim v) y) = some (cmpN v n) := by
  rw [from_eq, Option.bind_some, cmp_eq, val4_lim' hv, val4_lim' (BitVec.isLt _), BitVec.toNat_ofNat, Nat.mod_eq_of_lt hn]
theorem cmp_of {v n : Nat} (hv : v < 2 ^ 64) (hn : n < 2 ^ 64) : u256_Cmp (lim v) (lim (BitVec.ofNat 64 n).toNat) = some (cmpN v n) := by
  rw [cmp_eq, val4_lim' hv, BitVec.toNat_ofNat, Nat.mod_eq_of_lt hn, val4_lim' hn]
theorem rcmp_of {v n : Nat} (hv : v < 2 ^ 64) (hn : n < 2 ^ 64) : waybillref01_Cmp (lim v) (lim (BitVec.ofNat 64 n).toNat) = some (cmpN v n) := by
  rw [rcmp_eq, val4_lim' hv, BitVec.toNat_ofNat, Nat.mod_eq_of_lt hn, val4_lim' hn]
def cutR (s : List (BitVec 8)) : Option (Bool × List (BitVec 8) × List (BitVec 8) × Nat) :=
  match cutS s with
  | (e, l, h, n) => if e = 0 then some (l, (s.drop h).take n, s.drop (h + n), 0) else some (false, [], [], e)
theorem get0 {s : List (BitVec 8)} {i : Nat} (h : i < s.length) : s[i]? = some (s[i]) := List.getElem?_eq_getElem h
theorem cut_fin (s : List (BitVec 8)) (c : BitVec 8) (hc : ¬ c.toNat < 128) (h n : Nat) (hh : h ≤ s.length) :
    (if (s.drop h).length < n then (some (false, ([] : List (BitVec 8)), ([] : List (BitVec 8)), 70)) else (((if 192 ≤ c.toNat then (some (false)) else (if n = 1 then ((s.drop h)[0]?).bind fun x56 => (some ((decide (x56.toNat < 128)))) else (some (false)))) : Option ((Bool))).bind fun p42 => (if p42 = true then (some (false, ([] : List (BitVec 8)), ([] : List (BitVec 8)), 71)) else (if n ≤ (s.drop h).length then (some ((decide (192 ≤ c.toNat)), ((s.drop h).take n), ((s.drop h).drop n), 0)) else none)))) =
    (match finS s (decide (192 ≤ c.toNat)) h n with
     | (e, l, h, n) => if e = 0 then some (l, (s.drop h).take n, s.drop (h + n), 0) else some (false, [], [], e)) := by
  unfold finS
  rw [List.length_drop]
  by_cases h1 : s.length - h < n
  · rw [if_pos h1, if_pos h1]; rfl
  rw [if_neg h1, if_neg h1]
  by_cases h2 : 192 ≤ c.toNat
  · rw [if_pos h2, Option.bind_some, if_neg (by simp), if_pos (by omega), if_neg (by simp [h2])]
    simp [h2, List.drop_drop]
  · rw [if_neg h2]
    by_cases h3 : n = 1
    · subst h3
      have hlt : h < s.length := by omega
      rw [if_pos rfl, List.getElem?_drop, Nat.add_zero, get0 hlt, Option.bind_some, Option.bind_some]
      by_cases h4 : (s[h]).toNat < 128
      · rw [if_pos (by simpa using h4), if_pos ⟨by simp [h2], rfl, by simp [small, get0 hlt, h4]⟩]; rfl
      · rw [if_neg (by simpa using h4), if_pos (by omega), if_neg (by simp [small, get0 hlt, h4])]
        simp [h2, List.drop_drop]
    · rw [if_neg h3, Option.bind_some, if_neg (by simp), if_pos (by omega), if_neg (by simp [h3])]
      simp [h2, List.drop_drop]
theorem cut_eq (s : List (BitVec 8)) (hs : s.length ≤ 140737488355328) : rlp_cut s = cutR s := by
  unfold rlp_cut cutR cutS
  by_cases h0 : s.length = 0
  · rw [if_pos h0, List.getElem?_eq_none (by omega)]; rfl
  rw [if_neg h0, get0 (by omega : 0 < s.length), Option.bind_some]
  generalize hc : s[0] = c
  have hcl := c.isLt
  simp only []
  by_cases h1 : c.toNat < 128
  · rw [if_pos h1, if_pos h1, if_pos (by omega)]; simp
  rw [if_neg h1, if_neg h1]
  have hn0 : (if 192 ≤ c.toNat then (some ((c - 192#8).toNat)) else (some ((c - 128#8).toNat))) = some (c.toNat % 64) := by
    by_cases h2 : 192 ≤ c.toNat
    · rw [if_pos h2, BitVec.toNat_sub]; congr 1; simp; omega
    · rw [if_neg h2, BitVec.toNat_sub]; congr 1; simp; omega
  rw [hn0, Option.bind_some, if_pos (by omega)]
  by_cases h3 : 55 < c.toNat % 64
  · rw [if_pos h3, if_pos h3]
    generalize hk : c.toNat % 64 - 55 = k
    have hk8 : k ≤ 8 := by omega
    rw [List.length_drop]
    by_cases h4 : s.length - 1 < k
    · rw [if_pos h4, if_pos h4]; rfl
    rw [if_neg h4, if_neg h4, if_pos (by omega)]
    have hlen : ((s.drop 1).take k).length = k := by rw [List.length_take, List.length_drop]; omega
    have hv := beV_small (l := (s.drop 1).take k) (k := k) (by omega) hk8
    rw [get_eq _ (by omega), Option.bind_some]
    generalize hV : beV ((s.drop 1).take k) = v at hv
    have h1k : (s.drop 1)[0]? = some s[1] := by rw [List.getElem?_drop]; exact get0 (by omega)
    rw [h1k, Option.bind_some, get0 (by omega : 1 < s.length)]
    by_cases h5 : s[1] = 0#8
    · rw [if_pos h5, Option.bind_some, if_pos rfl, if_pos (show some s[1] = some 0#8 ∨ v ≤ 55 from .inl (by rw [h5]))]; rfl
    rw [if_neg h5, show (55#64 : BitVec 64) = BitVec.ofNat 64 55 by rfl, from_eq, Option.bind_some, cmp_of hv (by decide), Option.bind_some, Option.bind_some]
    by_cases h6 : v ≤ 55
    · rw [if_pos (by simpa using (cmpN_le v 55).2 h6), if_pos (show some s[1] = some 0#8 ∨ v ≤ 55 from .inr h6)]; rfl
    rw [if_neg (by simpa using fun h => h6 ((cmpN_le v 55).1 h)), if_neg (show ¬ (some s[1] = some 0#8 ∨ v ≤ 55) by rintro (h | h); exact h5 (by simpa using h); exact h6 h)]
    rw [from_eq, Option.bind_some, List.length_drop, List.length_drop, cmp_of hv (by omega), Option.bind_some]
    by_cases h7 : s.length - 1 - k < v
    · rw [if_pos ((cmpN_gt _ _).2 h7), if_pos h7]; rfl
    rw [if_neg (fun h => h7 ((cmpN_gt _ _).1 h)), if_neg h7, lim0_toNat hv, if_pos (by omega), Option.bind_some]
    simp only []
    rw [List.drop_drop]
    exact cut_fin s c h1 (1 + k) v (by omega)
  · rw [if_neg h3, if_neg h3, Option.bind_some]
    exact cut_fin s c h1 1 _ (by omega)
end Go.Fw
namespace Go.Fw
set_option linter.unusedVariables false
set_option linter.unusedSimpArgs false
set_option maxRecDepth 100000
def btw (b : List (BitVec 8)) (p q : Nat) : List (BitVec 8) := (b.take q).drop p
theorem btw_length {b : List (BitVec 8)} {p q : Nat} (h : q ≤ b.length) : (btw b p q).length = q - p := by
  unfold btw; rw [List.length_drop, List.length_take]; omega
theorem btw_get {b : List (BitVec 8)} {p q i : Nat} (h : p + i < q) : (btw b p q)[i]? = b[p + i]? := by
  unfold btw; rw [List.getElem?_drop, List.getElem?_take, if_pos h]
theorem btw_sub {b : List (BitVec 8)} {p q i k : Nat} (h : p + i + k ≤ q) : ((btw b p q).drop i).take k = (b.take (p + i + k)).drop (p + i) := by
  unfold btw
  rw [List.drop_drop, List.take_drop, List.take_take]
  congr 2
  omega
def headR (s : List (BitVec 8)) (p : Nat) : Option (Hd × Nat) := match cutS s with
  | (e, l, h, n) => if e = 0 then some (Hd.mk l (p + h) (p + h + n), 0) else some (Hd.mk false 0 0, e)
theorem head_fin (b : List (BitVec 8)) (p q : Nat) (hq : q ≤ b.length) (hb : b.length ≤ 140737488355328) (l : Bool) (h n : Nat) (hn : n < 2 ^ 62) (hh : p + h ≤ q) :
    (if (((q : Nat) : Int) - (((p + h) : Nat) : Int)) < ((n : Nat) : Int) then (some ((Hd.mk false 0 0), 70)) else (if ((p + h) + n) ≤ 9223372036854775807 then (((if l = true then (some (false)) else (if n = 1 then (b[(p + h)]?).bind fun x42 => (some ((decide (x42.toNat < 128)))) else (some (false)))) : Option ((Bool))).bind fun p31 => (if p31 = true then (some ((Hd.mk false 0 0), 71)) else (some ((Hd.mk (l) (p + h) ((p + h) + n)), 0)))) else none)) =
    (match finS (btw b p q) l h n with
     | (e, l, h, n) => if e = 0 then some (Hd.mk l (p + h) (p + h + n), 0) else some (Hd.mk false 0 0, e)) := by
  unfold finS
  rw [btw_length hq]
  by_cases h1 : q - p - h < n
  · rw [if_pos (by omega), if_pos h1]; rfl
  rw [if_neg (by omega), if_neg h1, if_pos (by omega)]
  by_cases h2 : l = true
  · rw [if_pos h2, Option.bind_some, if_neg (by simp), if_neg (show ¬ (l = false ∧ n = 1 ∧ small (btw b p q) h = true) by simp [h2])]; rfl
  · rw [if_neg h2]
    have hlf : l = false := by simpa using h2
    by_cases h3 : n = 1
    · subst h3
      have hlt : p + h < b.length := by omega
      rw [if_pos rfl, get0 hlt, Option.bind_some, Option.bind_some]
      have hsm : small (btw b p q) h = decide ((b[p + h]).toNat < 128) := by unfold small; rw [btw_get (by omega), get0 hlt]
      by_cases h4 : (b[p + h]).toNat < 128
      · rw [if_pos (by simpa using h4), if_pos (show l = false ∧ 1 = 1 ∧ small (btw b p q) h = true from ⟨hlf, rfl, by rw [hsm]; simpa using h4⟩)]; rfl
      · rw [if_neg (by simpa using h4), if_neg (show ¬ (l = false ∧ 1 = 1 ∧ small (btw b p q) h = true) by rw [hsm]; simp [h4])]; rfl
    · rw [if_neg h3, Option.bind_some, if_neg (by simp), if_neg (show ¬ (l = false ∧ n = 1 ∧ small (btw b p q) h = true) by simp [h3])]; rfl
theorem head_eq (b : List (BitVec 8)) (p q : Nat) (hp : p ≤ q) (hq : q ≤ b.length) (hb : b.length ≤ 140737488355328) : waybillref07_head b p q = headR (btw b p q) p := by
  unfold waybillref07_head headR cutS
  have hlen := btw_length (p := p) hq
  by_cases h0 : q ≤ p
  · rw [if_pos h0, List.getElem?_eq_none (by omega)]; rfl
  have g0 : (btw b p q)[0]? = some (b[p]'(by omega)) := by rw [btw_get (by omega)]; exact get0 (by omega : p < b.length)
  rw [if_neg h0, get0 (by omega : p < b.length), Option.bind_some, g0]
  generalize hc : b[p] = c
  have hcl := c.isLt
  simp only []
  by_cases h1 : c.toNat < 128
  · rw [if_pos h1, if_pos h1]; simp
  rw [if_neg h1, if_neg h1]
  by_cases h3 : 55 < c.toNat % 64
  · rw [if_pos h3, if_pos h3]
    generalize hk : c.toNat % 64 - 55 = k
    have hk8 : k ≤ 8 := by omega
    rw [hlen]
    by_cases h4 : q - p - 1 < k
    · rw [if_pos (by omega), if_pos h4]; rfl
    rw [if_neg (by omega), if_neg h4, if_pos (by omega), if_pos (by omega), if_pos (by omega)]
    rw [← btw_sub (b := b) (p := p) (q := q) (i := 1) (k := k) (by omega)]
    have hl2 : (((btw b p q).drop 1).take k).length = k := by rw [List.length_take, List.length_drop, hlen]; omega
    have hv := beV_small (l := ((btw b p q).drop 1).take k) (k := k) (by omega) hk8
    rw [rget_eq _ (by omega), Option.bind_some]
    generalize hV : beV (((btw b p q).drop 1).take k) = v at hv
    rw [get0 (by omega : p + 1 < b.length), Option.bind_some, btw_get (by omega), get0 (by omega : p + 1 < b.length)]
    by_cases h5 : b[p + 1] = 0#8
    · rw [if_pos h5, Option.bind_some, if_pos rfl, if_pos (show some b[p + 1] = some 0#8 ∨ v ≤ 55 from .inl (by rw [h5]))]; rfl
    rw [if_neg h5, show (56#64 : BitVec 64) = BitVec.ofNat 64 56 by rfl, rfrom_eq, Option.bind_some, rcmp_of hv (by decide), Option.bind_some, Option.bind_some]
    by_cases h6 : v ≤ 55
    · rw [if_pos (by simpa using (cmpN_lt v 56).2 (by omega)), if_pos (show some b[p + 1] = some 0#8 ∨ v ≤ 55 from .inr h6)]; rfl
    rw [if_neg (show ¬ decide (cmpN v 56 < 0) = true by rw [decide_eq_true_eq]; exact fun h => h6 (by have := (cmpN_lt v 56).1 h; omega)), if_neg (show ¬ (some b[p + 1] = some 0#8 ∨ v ≤ 55) by rintro (h | h); exact h5 (by simpa using h); exact h6 h)]
    have e : BitVec.ofInt 64 (((q : Nat) : Int) - (((p + 1 + k) : Nat) : Int)) = BitVec.ofNat 64 (q - p - 1 - k) := by
      rw [show ((q : Nat) : Int) - (((p + 1 + k) : Nat) : Int) = ((q - p - 1 - k : Nat) : Int) by omega]
      exact BitVec.ofInt_natCast ..
    rw [e, rfrom_eq, Option.bind_some, rcmp_of hv (by omega), Option.bind_some]
    by_cases h7 : q - p - 1 - k < v
    · rw [if_pos ((cmpN_gt _ _).2 h7), if_pos h7]; rfl
    rw [if_neg (fun h => h7 ((cmpN_gt _ _).1 h)), if_neg h7, lim0_toNat hv, if_pos (by omega), Option.bind_some]
    simp only []
    rw [Nat.add_assoc p 1 k]
    exact head_fin b p q hq hb (decide (192 ≤ c.toNat)) (1 + k) v (by omega) (by omega)
  · rw [if_neg h3, if_neg h3, Option.bind_some]
    exact head_fin b p q hq hb (decide (192 ≤ c.toNat)) 1 _ (by omega) (by omega)
end Go.Fw
namespace Go.Fw
set_option linter.unusedVariables false
set_option linter.unusedSimpArgs false
set_option maxRecDepth 100000
theorem btw_all (b : List (BitVec 8)) : btw b 0 b.length = b := by simp [btw]
theorem cutS_in {s : List (BitVec 8)} {l : Bool} {h n : Nat} (e : cutS s = (0, l, h, n)) : h + n ≤ s.length ∧ 0 < h + n := by
  have fin : ∀ l' h' n', finS s l' h' n' = (0, l, h, n) → 0 < h' → h' ≤ s.length → h + n ≤ s.length ∧ 0 < h + n := by
    intro l' h' n' e hp hle
    unfold finS at e
    split at e
    · cases e
    split at e
    · cases e
    · cases e; omega
  unfold cutS at e
  split at e
  · cases e
  · rename_i c hc
    have hlt := (List.getElem?_eq_some_iff.1 hc).1
    split at e
    · cases e; omega
    split at e
    · split at e
      · cases e
      split at e
      · cases e
      split at e
      · cases e
      · exact fin _ _ _ e (by omega) (by omega)
    · exact fin _ _ _ e (by omega) (by omega)
def splitR (b : List (BitVec 8)) : Bool × List (BitVec 8) × List (BitVec 8) × Nat :=
  if 16777216 < b.length then (false, [], [], 2) else match cutS b with
  | (e, l, h, n) => if e = 0 then (l, (b.drop h).take n, b.drop (h + n), 0) else (false, [], [], e)
theorem split_eq (b : List (BitVec 8)) : rlp_Split b = some (splitR b) := by
  unfold rlp_Split splitR
  by_cases h : 16777216 < b.length
  · rw [if_pos h, if_pos h]
  rw [if_neg h, if_neg h, cut_eq b (by omega)]
  unfold cutR
  generalize cutS b = r
  obtain ⟨e, l, hh, n⟩ := r
  dsimp only
  by_cases he : e = 0
  · rw [if_pos he, if_pos he, Option.bind_some]; rfl
  · rw [if_neg he, if_neg he, Option.bind_some]
    simp only [he, if_false]
theorem rsplit_eq (b : List (BitVec 8)) : waybillref07_Split b = some (splitR b) := by
  unfold waybillref07_Split splitR
  by_cases h : 16777216 < b.length
  · rw [if_pos h, if_pos h]
  rw [if_neg h, if_neg h, head_eq b 0 b.length (by omega) (by omega) (by omega), btw_all]
  unfold headR
  generalize hr : cutS b = r
  obtain ⟨e, l, hh, n⟩ := r
  dsimp only
  by_cases he : e = 0
  · subst he
    have hin := cutS_in hr
    rw [if_pos rfl, if_pos rfl, Option.bind_some]
    dsimp only
    rw [if_pos rfl, if_pos (by omega), if_pos (by omega), Nat.zero_add]
    unfold waybillref07_bytes
    rw [Option.bind_some, Option.bind_some, List.take_drop]
  · rw [if_neg he, if_neg he, Option.bind_some]
    simp only [he, if_false]
def partsF : Nat → List (BitVec 8) → List (List (BitVec 8)) → List (List (BitVec 8)) × Nat
  | 0, _, _ => ([], 0)
  | k + 1, s, acc => if s.length = 0 then (acc, 0) else match cutS s with
    | (e, _, h, n) => if e = 0 then partsF k (s.drop (h + n)) (acc ++ [s.take (h + n)]) else ([], e)
def partsL (r : List (List (BitVec 8)) × Nat) : Lp (List (List (BitVec 8)) × Nat) (List (List (BitVec 8))) := if r.2 = 0 then .go r.1 else .ret (some ([], r.2))
theorem parts_loop : ∀ (k : Nat) (s : List (BitVec 8)) (acc : List (List (BitVec 8))), s.length < k → acc.length + s.length ≤ 16777216 → rlp_Parts.l1 k s acc = some (partsL (partsF k s acc))
  | 0, s, acc, h, _ => by omega
  | k + 1, s, acc, h, hb => by
    rw [rlp_Parts.l1, partsF]
    by_cases h0 : s.length = 0
    · rw [if_neg (by omega), if_pos h0]; rfl
    rw [if_pos (by omega), if_neg h0, cut_eq s (by omega)]
    unfold cutR
    generalize hr : cutS s = r
    obtain ⟨e, l, hh, n⟩ := r
    dsimp only
    by_cases he : e = 0
    · subst he
      have hin := cutS_in hr
      have hd : (((s.length : Nat) : Int) - (((s.drop (hh + n)).length : Nat) : Int)).toNat = hh + n := by rw [List.length_drop]; omega
      rw [if_pos rfl, if_pos rfl, Option.bind_some]
      dsimp only
      rw [if_pos rfl, if_pos (by rw [List.length_drop]; omega), hd, if_pos hin.1]
      unfold rlp_clone
      rw [Option.bind_some, if_pos (by simp only [List.length_cons, List.length_nil]; omega)]
      exact parts_loop k _ _ (by rw [List.length_drop]; omega) (by rw [List.length_append, List.length_drop, List.length_singleton]; omega)
    · rw [if_neg he, if_neg he, Option.bind_some]
      dsimp only
      rw [if_neg he]
      unfold partsL
      rw [if_neg he]
theorem rparts_loop (b : List (BitVec 8)) (hb : b.length ≤ 16777216) (x : Hd) (hx : x.to ≤ b.length) : ∀ (k p : Nat) (acc : List (List (BitVec 8))), p ≤ x.to → x.to - p < k → acc.length + (x.to - p) ≤ 16777216 → waybillref07_Parts.l1 b x k acc p = some (partsL (partsF k (btw b p x.to) acc))
  | 0, p, acc, _, h, _ => by omega
  | k + 1, p, acc, hp, h, ha => by
    have hlen := btw_length (p := p) hx
    rw [waybillref07_Parts.l1, partsF]
    by_cases h0 : x.to - p = 0
    · rw [if_neg (by omega), if_pos (by omega)]; rfl
    rw [if_pos (by omega), if_neg (by omega), head_eq b p x.to hp hx (by omega)]
    unfold headR
    generalize hr : cutS (btw b p x.to) = r
    obtain ⟨e, l, hh, n⟩ := r
    dsimp only
    by_cases he : e = 0
    · subst he
      have hin := cutS_in hr
      rw [if_pos rfl, if_pos rfl, Option.bind_some]
      dsimp only
      rw [if_pos rfl, if_pos (by omega), if_pos (by omega)]
      unfold waybillref07_bytes
      rw [Option.bind_some, if_pos (by simp only [List.length_cons, List.length_nil]; omega), rparts_loop b hb x hx k (p + hh + n) _ (by omega) (by omega) (by rw [List.length_append, List.length_singleton]; omega)]
      have e1 : (b.take (p + hh + n)).drop p = (btw b p x.to).take (hh + n) := by
        have := btw_sub (b := b) (p := p) (q := x.to) (i := 0) (k := hh + n) (by omega)
        rw [List.drop_zero] at this
        rw [this]; congr 2; omega
      have e2 : btw b (p + hh + n) x.to = (btw b p x.to).drop (hh + n) := by unfold btw; rw [List.drop_drop]; congr 1; omega
      rw [e1, e2]
    · rw [if_neg he, if_neg he, Option.bind_some]
      dsimp only
      rw [if_neg he]
      unfold partsL
      rw [if_neg he]
def partsR (b : List (BitVec 8)) : List (List (BitVec 8)) × Nat :=
  if 16777216 < b.length then ([], 2) else match cutS b with
  | (e, l, h, n) => if e = 0 then (if l = true then (if h + n < b.length then ([], 73) else partsF (n + 2) ((b.drop h).take n) []) else ([], 75)) else ([], e)
theorem partsL_bind (r : List (List (BitVec 8)) × Nat) (hr : r.2 ≠ 0 → r.1 = []) : ((some (partsL r)).bind fun | .ret o => o | .go l => some (l, 0)) = some r := by
  unfold partsL
  obtain ⟨l, e⟩ := r
  by_cases h : e = 0
  · subst h; rfl
  · have h1 : l = [] := hr h
    subst h1
    rw [if_neg h]; rfl
theorem partsF_nil : ∀ (k : Nat) (s : List (BitVec 8)) (acc : List (List (BitVec 8))), (partsF k s acc).2 ≠ 0 → (partsF k s acc).1 = []
  | 0, s, acc, h => rfl
  | k + 1, s, acc, h => by
    rw [partsF] at h ⊢
    by_cases h0 : s.length = 0
    · rw [if_pos h0] at h; exact absurd rfl h
    rw [if_neg h0] at h ⊢
    generalize cutS s = r at h ⊢
    obtain ⟨e, l, hh, n⟩ := r
    dsimp only at h ⊢
    by_cases he : e = 0
    · rw [if_pos he] at h ⊢; exact partsF_nil k _ _ h
    · rw [if_neg he]
theorem parts_eq (b : List (BitVec 8)) : rlp_Parts b = some (partsR b) := by
  unfold rlp_Parts
  rw [split_eq, Option.bind_some]
  unfold splitR partsR
  by_cases h : 16777216 < b.length
  · rw [if_pos h, if_pos h]; rfl
  rw [if_neg h, if_neg h]
  generalize hr : cutS b = r
  obtain ⟨e, l, hh, n⟩ := r
  dsimp only
  by_cases he : e = 0
  · subst he
    have hin := cutS_in hr
    rw [if_pos rfl, if_pos rfl]
    dsimp only
    rw [if_pos rfl]
    by_cases hl : l = true
    · rw [if_pos hl, if_pos hl]
      by_cases h2 : hh + n < b.length
      · rw [if_pos (by rw [List.length_drop]; omega), if_pos h2]
      · rw [if_neg (by rw [List.length_drop]; omega), if_neg h2]
        have hlen : ((b.drop hh).take n).length = n := by rw [List.length_take, List.length_drop]; omega
        rw [parts_loop _ _ _ (by omega) (by rw [hlen]; simp; omega), hlen, Nat.sub_zero]
        exact partsL_bind _ (partsF_nil _ _ _)
    · rw [if_neg hl, if_neg hl]
  · rw [if_neg he, if_neg he]
    dsimp only
    rw [if_neg he]
theorem rparts_eq (b : List (BitVec 8)) : waybillref07_Parts b = some (partsR b) := by
  unfold waybillref07_Parts partsR
  by_cases h : 16777216 < b.length
  · rw [if_pos h, if_pos h]
  rw [if_neg h, if_neg h, head_eq b 0 b.length (by omega) (by omega) (by omega), btw_all]
  unfold headR
  generalize hr : cutS b = r
  obtain ⟨e, l, hh, n⟩ := r
  dsimp only
  by_cases he : e = 0
  · subst he
    have hin := cutS_in hr
    rw [if_pos rfl, if_pos rfl, Option.bind_some]
    dsimp only
    rw [if_pos rfl]
    by_cases hl : l = true
    · rw [if_pos hl, if_pos hl]
      by_cases h2 : hh + n < b.length
      · rw [if_pos (by omega), if_pos h2]
      · rw [if_neg (by omega), if_neg h2]
        rw [rparts_loop b (by omega) _ (by show 0 + hh + n ≤ b.length; omega) _ _ _ (by show 0 + hh ≤ 0 + hh + n; omega) (by show 0 + hh + n - (0 + hh) < _; omega) (by show 0 + (0 + hh + n - (0 + hh)) ≤ _; omega)]
        have e1 : btw b (0 + hh) (0 + hh + n) = (b.drop hh).take n := by unfold btw; rw [List.take_drop]; congr 2 <;> omega
        show ((some (partsL (partsF (0 + hh + n - (0 + hh) + 2) (btw b (0 + hh) (0 + hh + n)) []))).bind _) = _
        rw [e1, show 0 + hh + n - (0 + hh) + 2 = n + 2 by omega]
        exact partsL_bind _ (partsF_nil _ _ _)
    · rw [if_neg hl, if_neg hl]
  · rw [if_neg he, if_neg he, Option.bind_some]
    dsimp only
    rw [if_neg he]
end Go.Fw
