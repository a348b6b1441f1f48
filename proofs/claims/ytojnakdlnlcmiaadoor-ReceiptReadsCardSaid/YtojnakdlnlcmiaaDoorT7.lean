/- Part of a proof: rules that its law uses. -/
import Derived.Test.YtojnakdlnlcmiaaDoorT6
set_option linter.unusedVariables false
set_option linter.unusedSimpArgs false
set_option linter.unusedSectionVars false
set_option maxRecDepth 100000
set_option maxHeartbeats 1000000
namespace Go.Fw
theorem beV_cons (x : BitVec 8) (r : List (BitVec 8)) : beV (x :: r) = x.toNat * 256 ^ r.length + beV r := by
 have h := beV_append [x] r
 rw [List.singleton_append] at h
 rw [h]; simp [beV]
theorem beV_be (n : Nat) : ∀ k, beV (be k n) = n % 256 ^ k
 | 0 => by simp [be, beV, Nat.mod_one]
 | k + 1 => by
  rw [be, beV_cons, be_length, beV_be n k, BitVec.toNat_ofNat]
  have h : n % 256 ^ (k + 1) = n % 256 ^ k + 256 ^ k * (n / 256 ^ k % 256) := Nat.mod_pow_succ
  rw [h, Nat.mul_comm, Nat.add_comm]
theorem nb_bd {n : Nat} : n < 256 ^ nb n := by
 by_cases h0 : n = 0
 ·subst h0; exact Nat.pow_pos (by omega)
 obtain ⟨j, h1, h2, h3⟩ := bl_spec h0
 rw [pow256]
 refine Nat.lt_of_lt_of_le h3 (Nat.pow_le_pow_right (by omega) ?_)
 unfold nb; omega
theorem beV_bytesN (n : Nat) : beV (bytesN n) = n := by
 unfold bytesN; rw [beV_be, Nat.mod_eq_of_lt nb_bd]
theorem be_high (a b j : Nat) : ∀ k, k ≤ j → be k (a * 256 ^ j + b) = be k b
 | 0, _ => rfl
 | k + 1, h => by
  rw [be, be, be_high a b j k (by omega)]
  congr 1
  have e : a * 256 ^ j = 256 ^ k * (256 * (a * 256 ^ (j - k - 1))) := by
   have e2 : 256 ^ j = 256 ^ k * (256 * 256 ^ (j - k - 1)) := by rw [← Nat.pow_succ', ← Nat.pow_add]; congr 1; omega
   rw [e2]
   simp only [Nat.mul_comm, Nat.mul_left_comm, Nat.mul_assoc]
  rw [e, Nat.mul_add_div (Nat.pow_pos (by omega))]
  apply BitVec.eq_of_toNat_eq
  rw [BitVec.toNat_ofNat, BitVec.toNat_ofNat]
  omega
theorem be_beV : ∀ l : List (BitVec 8), be l.length (beV l) = l
 | [] => rfl
 | x :: r => by
  rw [List.length_cons, be, beV_cons, be_high _ _ _ _ (Nat.le_refl _), be_beV r]
  congr 1
  have h := beV_lt r
  have hx := x.isLt
  rw [Nat.mul_comm, Nat.mul_add_div (Nat.pow_pos (by omega)), Nat.div_eq_of_lt h]
  apply BitVec.eq_of_toNat_eq
  rw [BitVec.toNat_ofNat]
  omega
theorem nb_beV {x : BitVec 8} {r : List (BitVec 8)} (hx : x ≠ 0#8) : nb (beV (x :: r)) = r.length + 1 := by
 have h1 := beV_lt (x :: r)
 have h0 : 0 < x.toNat := Nat.pos_of_ne_zero (fun e => hx (BitVec.eq_of_toNat_eq (by simpa using e)))
 have h2 : 256 ^ r.length ≤ beV (x :: r) := by rw [beV_cons]; have := Nat.mul_le_mul_right (256 ^ r.length) h0; omega
 have hp : 0 < 256 ^ r.length := Nat.pow_pos (by omega)
 obtain ⟨j, e1, e2, e3⟩ := bl_spec (n := beV (x :: r)) (by omega)
 rw [List.length_cons] at h1
 rw [pow256] at h1 h2
 have h3 : 8 * r.length < j + 1 := (Nat.pow_lt_pow_iff_right (by omega : 1 < 2)).1 (by omega)
 have h4 : j < 8 * (r.length + 1) := (Nat.pow_lt_pow_iff_right (by omega : 1 < 2)).1 (by omega)
 unfold nb; omega
theorem bytesN_beV {l : List (BitVec 8)} (h : l[0]? ≠ some 0#8) : bytesN (beV l) = l := by
 cases l with
 | nil => rfl
 | cons x r =>
  have hx : x ≠ 0#8 := fun e => h (by simp [e])
  unfold bytesN
  rw [nb_beV hx, ← List.length_cons (a := x), be_beV]
theorem bytesN_top {n : Nat} (h : n ≠ 0) : (bytesN n)[0]? ≠ some 0#8 := by
 have h1 : 0 < nb n := by obtain ⟨j, e, _, _⟩ := bl_spec h; unfold nb; omega
 unfold bytesN
 rw [be_get _ _ _ h1, Nat.sub_zero]
 exact fun e => byte_top h (by simpa using e)
theorem finS_ok {s : List (BitVec 8)} {l : Bool} {h n : Nat} (h1 : h + n ≤ s.length) (h2 : l = false → n = 1 → small s h = false) : finS s l h n = (0, l, h, n) := by
 unfold finS
 rw [if_neg (by omega), if_neg]
 rintro ⟨a, b, c⟩
 rw [h2 a b] at c
 cases c
theorem nat8 {n : Nat} (h : n < 256) : (BitVec.ofNat 8 n).toNat = n := by rw [BitVec.toNat_ofNat]; omega
theorem cut_head {c : Nat} (hc : c = 128 ∨ c = 192) (d r : List (BitVec 8)) (hd : d.length ≤ 16777216) (hs : c = 128 → d.length = 1 → small d 0 = false) :
  cutS (headB c d.length ++ d ++ r) = (0, decide (c = 192), (headB c d.length).length, d.length) := by
 have hsm : small (headB c d.length ++ d ++ r) (headB c d.length).length = false ∨ d.length ≠ 1 ∨ c = 192 := by
  rcases hc with rfl | rfl
  ·by_cases h1 : d.length = 1
   ·refine .inl ?_
    have := hs rfl h1
    unfold small at this ⊢
    rw [List.append_assoc, List.getElem?_append_right (Nat.le_refl _), Nat.sub_self, List.getElem?_append_left (by omega)]
    exact this
   ·exact .inr (.inl h1)
  ·exact .inr (.inr rfl)
 have hlen : (headB c d.length ++ d ++ r).length = (headB c d.length).length + d.length + r.length := by simp [Nat.add_assoc]
 have hfin : finS (headB c d.length ++ d ++ r) (decide (c = 192)) (headB c d.length).length d.length = (0, decide (c = 192), (headB c d.length).length, d.length) := by
  refine finS_ok (by omega) (fun e1 e2 => ?_)
  rcases hsm with h | h | h
  ·exact h
  ·exact absurd e2 h
  ·simp [h] at e1
 have h8 := nb_8 (n := d.length) (by omega)
 unfold cutS
 by_cases h55 : d.length ≤ 55
 ·have e0 : headB c d.length = [BitVec.ofNat 8 (c + d.length)] := by unfold headB; rw [if_pos h55]
  rw [e0] at hfin hlen ⊢
  have hb : (BitVec.ofNat 8 (c + d.length)).toNat = c + d.length := nat8 (by omega)
  have h64 : (c + d.length) % 64 = d.length := by omega
  have hdec : decide (192 ≤ c + d.length) = decide (c = 192) := decide_eq_decide.2 (by omega)
  show (if (BitVec.ofNat 8 (c + d.length)).toNat < 128 then _ else _) = _
  rw [if_neg (by omega), if_neg (by omega), hb, h64, hdec]
  exact hfin
 ·have e0 : headB c d.length = BitVec.ofNat 8 (c + 55 + nb d.length) :: bytesN d.length := by unfold headB; rw [if_neg h55]
  have hbl := Z160 d.length
  have h1 : 0 < nb d.length := by obtain ⟨j, e, _, _⟩ := bl_spec (n := d.length) (by omega); unfold nb; omega
  rw [e0] at hfin hlen ⊢
  rw [List.length_cons, hbl] at hfin hlen ⊢
  have hb : (BitVec.ofNat 8 (c + 55 + nb d.length)).toNat = c + 55 + nb d.length := nat8 (by omega)
  have h64 : (c + 55 + nb d.length) % 64 - 55 = nb d.length := by omega
  have hdec : decide (192 ≤ c + 55 + nb d.length) = decide (c = 192) := decide_eq_decide.2 (by omega)
  have hk : (((BitVec.ofNat 8 (c + 55 + nb d.length) :: bytesN d.length ++ d ++ r).drop 1).take (nb d.length)) = bytesN d.length := by
   rw [List.cons_append, List.cons_append, List.drop_succ_cons, List.drop_zero, List.append_assoc, List.take_append_of_le_length (by omega), List.take_of_length_le (by omega)]
  have h1' : (BitVec.ofNat 8 (c + 55 + nb d.length) :: bytesN d.length ++ d ++ r)[1]? = (bytesN d.length)[0]? := by
   rw [List.cons_append, List.cons_append, List.getElem?_cons_succ, List.append_assoc, List.getElem?_append_left (by omega)]
  show (if (BitVec.ofNat 8 (c + 55 + nb d.length)).toNat < 128 then _ else _) = _
  rw [if_neg (by omega), if_pos (by omega), hb, h64, hdec, hk, h1', beV_bytesN, if_neg (by omega), if_neg, if_neg (by omega), Nat.add_comm 1]
  ·exact hfin
  ·rintro (h | h)
   ·exact bytesN_top (by omega) h
   ·omega
theorem cut_back {s : List (BitVec 8)} {l : Bool} {h n : Nat} (hs : s.length ≤ 16777216) (e : cutS s = (0, l, h, n)) : (h = 0 ∧ n = 1 ∧ l = false ∧ small s 0 = true) ∨ (s.take h = headB (if l then 192 else 128) n ∧ (l = false → n = 1 → small s h = false)) := by
 have fin : ∀ l' h' n', finS s l' h' n' = (0, l, h, n) → l = l' ∧ h = h' ∧ n = n' ∧ h' + n' ≤ s.length + 0 * h' ∨ s.length < h' := by
  intro l' h' n' e
  unfold finS at e
  split at e
  ·cases e
  split at e
  ·cases e
  ·cases e
   by_cases hh : s.length < h
   ·exact .inr hh
   ·exact .inl ⟨rfl, rfl, rfl, by omega⟩
 have fin2 : ∀ l' h' n', finS s l' h' n' = (0, l, h, n) → l' = false → n' = 1 → small s h' = false := by
  intro l' h' n' e a b
  unfold finS at e
  split at e
  ·cases e
  split at e
  ·cases e
  ·rename_i hn
   have : ¬ small s h' = true := fun hc => hn ⟨a, b, hc⟩
   simpa using this
 unfold cutS at e
 split at e
 ·cases e
 ·rename_i c hc
  have hlt := (List.getElem?_eq_some_iff.1 hc).1
  have hcl := c.isLt
  split at e
  ·rename_i h1
   cases e
   exact .inl ⟨rfl, rfl, rfl, by unfold small; rw [hc]; simpa using h1⟩
  rename_i h1
  right
  have hd : ∀ b : Bool, b = decide (192 ≤ c.toNat) → (if b then 192 else 128) = c.toNat - c.toNat % 64 := by
   rintro b rfl
   by_cases h2 : 192 ≤ c.toNat
   ·simp [h2]; omega
   ·simp [h2]; omega
  split at e
  ·rename_i h2
   split at e
   ·cases e
   split at e
   ·cases e
   split at e
   ·cases e
   ·rename_i h3 h4 h5
    rcases fin _ _ _ e with ⟨rfl, rfl, rfl, _⟩ | hh
    ·refine ⟨?_, fin2 _ _ _ e⟩
     generalize hk : c.toNat % 64 - 55 = k at h3 h4 h5 e ⊢
     have h6 : ¬ s[1]? = some 0#8 := fun e => h4 (.inl e)
     have h7 : ¬ beV ((s.drop 1).take k) ≤ 55 := fun e => h4 (.inr e)
     have hl : ((s.drop 1).take k).length = k := by rw [List.length_take, List.length_drop]; omega
     have h8 : ((s.drop 1).take k)[0]? ≠ some 0#8 := by
      rw [List.getElem?_take, if_pos (by omega), List.getElem?_drop]; exact h6
     have h9 := bytesN_beV h8
     have h10 : nb (beV ((s.drop 1).take k)) = k := by rw [← Z160, h9, hl]
     unfold headB
     rw [if_neg h7, h9, h10, hd _ rfl, show c.toNat - c.toNat % 64 + 55 + k = c.toNat by omega, BitVec.ofNat_toNat, BitVec.setWidth_eq]
     obtain ⟨t, rfl⟩ : ∃ t, s = c :: t := by
      cases s with
      | nil => simp at hlt
      | cons a t => simp at hc; exact ⟨t, by rw [hc]⟩
     rw [Nat.add_comm 1, List.take_succ_cons, List.drop_succ_cons, List.drop_zero]
    ·omega
  ·rename_i h2
   rcases fin _ _ _ e with ⟨rfl, rfl, rfl, _⟩ | hh
   ·refine ⟨?_, fin2 _ _ _ e⟩
    unfold headB
    rw [if_pos (by omega), hd _ rfl, show c.toNat - c.toNat % 64 + c.toNat % 64 = c.toNat by omega, BitVec.ofNat_toNat, BitVec.setWidth_eq]
    obtain ⟨t, rfl⟩ : ∃ t, s = c :: t := by
     cases s with
     | nil => simp at hlt
     | cons a t => simp at hc; exact ⟨t, by rw [hc]⟩
    rfl
   ·omega
end Go.Fw
namespace Go.Fw
def oneB (d : List (BitVec 8)) : Bool := decide (d.length = 1) && small d 0
mutual
def It.enc : It → List (BitVec 8)
 | .mk l d its => if l = true then headB 192 (Its.enc its).length ++ Its.enc its else if oneB d = true then d else headB 128 d.length ++ d
def Its.enc : List It → List (BitVec 8)
 | [] => []
 | x :: xs => It.enc x ++ Its.enc xs
end
mutual
def It.good : It → Prop
 | .mk l d its => (l = true → d = []) ∧ (l = false → its = []) ∧ Its.good its
def Its.good : List It → Prop
 | [] => True
 | x :: xs => It.good x ∧ Its.good xs
end
mutual
def It.w9 : It → Nat
 | .mk _ d its => 9 + d.length + Its.w9 its
def Its.w9 : List It → Nat
 | [] => 0
 | x :: xs => It.w9 x + Its.w9 xs
end
mutual
def It.dep : It → Nat
 | .mk l _ its => if l = true then Its.dep its + 1 else 0
def Its.dep : List It → Nat
 | [] => 0
 | x :: xs => max (It.dep x) (Its.dep xs)
end
theorem It.enc_eq (x : It) : x.enc = if x.list = true then headB 192 (Its.enc x.items).length ++ Its.enc x.items else if oneB x.data = true then x.data else headB 128 x.data.length ++ x.data := by
 cases x; rw [It.enc]; rfl
theorem It.good_eq (x : It) : x.good ↔ (x.list = true → x.data = []) ∧ (x.list = false → x.items = []) ∧ Its.good x.items := by cases x; rw [It.good]; rfl
theorem It.w9_eq (x : It) : x.w9 = 9 + x.data.length + Its.w9 x.items := by cases x; rw [It.w9]; rfl
theorem It.dep_eq (x : It) : x.dep = if x.list = true then Its.dep x.items + 1 else 0 := by cases x; rw [It.dep]; rfl
mutual
theorem It.wt_w9 : ∀ x : It, x.wt + 1 ≤ x.w9
 | .mk l d its => by
  have := Its.wt_w9 its
  simp only [It.wt, It.w9]; omega
theorem Its.wt_w9 : ∀ l : List It, Its.wt l + l.length ≤ Its.w9 l
 | [] => by simp [Its.wt, Its.w9]
 | x :: l => by
  have := It.wt_w9 x
  have := Its.wt_w9 l
  simp only [Its.wt, Its.w9, List.length_cons]; omega
end
theorem oneB_len {d : List (BitVec 8)} (h : oneB d = true) : d.length = 1 ∧ small d 0 = true := by
 unfold oneB at h
 simpa using h
mutual
theorem It.enc_le : ∀ x : It, x.w9 ≤ 1099511627776 → x.enc.length ≤ x.w9 ∧ 0 < x.enc.length
 | .mk l d its, h => by
  simp only [It.w9] at h ⊢
  have h1 := Its.enc_le its (by omega)
  have h2 := headB_length (c := 192) (n := (Its.enc its).length) (by omega)
  have h3 := headB_length (c := 128) (n := d.length) (by omega)
  rw [It.enc]
  split
  ·rw [List.length_append]; omega
  split
  ·rename_i h4; have := (oneB_len h4).1; omega
  ·rw [List.length_append]; omega
theorem Its.enc_le : ∀ l : List It, Its.w9 l ≤ 1099511627776 → (Its.enc l).length ≤ Its.w9 l
 | [], h => by simp [Its.enc]
 | x :: l, h => by
  simp only [Its.w9] at h ⊢
  have := It.enc_le x (by omega)
  have := Its.enc_le l (by omega)
  rw [Its.enc, List.length_append]; omega
end
end Go.Fw
namespace Go.Fw
theorem kind_eq (x : It) (b : Bool) : ∃ e, rlp_kind x b = some e ∧ waybillref07_wanted x b = some e := by
 unfold rlp_kind waybillref07_wanted
 have h : ∃ o, rlp_odd x = some o ∧ waybillref07_odd x = some o := by
  unfold rlp_odd waybillref07_odd
  by_cases hl : x.list = true
  ·by_cases hd : 0 < x.data.length
   ·exact ⟨true, by simp [hl, hd], by simp [hl, hd]⟩
   ·exact ⟨false, by simp [hl, hd], by simp [hl, hd]⟩
  ·exact ⟨decide (0 < x.items.length), by simp [hl], by simp [hl]⟩
 obtain ⟨o, h1, h2⟩ := h
 rw [h1, h2, Zb]
 cases o with
 | true => exact ⟨78, rfl, rfl⟩
 | false =>
  by_cases hb : x.list = b
  ·exact ⟨0, by simp [hb], by simp [hb]⟩
  ·exact ⟨75, by simp [hb], by simp [hb]⟩
theorem strict_eq (l : List (BitVec 8)) (hl : l.length ≤ 32) : u256_Strict l = some (if l[0]? = some 0#8 then (Vector.replicate 4 0#64, 13) else (lim (beV l), 0)) := by
 unfold u256_Strict
 rw [get_eq l hl, Zb]
 dsimp only
 rw [if_pos rfl]
 by_cases h0 : 0 < l.length
 ·rw [if_pos h0, List.getElem?_eq_getElem h0, Zb, Zb]
  by_cases h1 : l[0] = 0#8
  ·rw [if_pos (decide_eq_true h1), if_pos (by rw [h1])]
  ·rw [if_neg (by simpa using h1), if_neg (fun e => h1 (by simpa using e))]
 ·rw [if_neg h0, Zb, if_neg (by simp), if_neg (by rw [List.getElem?_eq_none (by omega)]; simp)]
theorem number_all (x : It) (n : Int) (hn : n ≤ 32) : ∃ v e, rlp_number x n = some (v, e) ∧ waybillref07_narrow x n = some (v, e) := by
 unfold rlp_number waybillref07_narrow
 obtain ⟨e, h1, h2⟩ := kind_eq x false
 rw [h1, h2, Zb, Zb]
 by_cases he : e = 0
 ·rw [if_pos he, if_pos he]
  by_cases h3 : n < ((x.data.length : Nat) : Int)
  ·rw [if_pos h3, if_pos h3]; exact ⟨_, _, rfl, rfl⟩
  ·rw [if_neg h3, if_neg h3, strict_eq _ (by omega), rget_eq _ (by omega), Zb]
   by_cases h0 : 0 < x.data.length
   ·rw [if_pos h0, List.getElem?_eq_getElem h0, Zb, Zb]
    by_cases h4 : x.data[0] = 0#8
    ·rw [if_pos (by rw [h4]), if_pos (decide_eq_true h4)]
     exact ⟨_, _, if_neg (by decide), rfl⟩
    ·rw [if_neg (fun e => h4 (by simpa using e)), if_neg (by simpa using h4)]
     exact ⟨_, _, if_pos rfl, rfl⟩
   ·rw [if_neg (by rw [List.getElem?_eq_none (by omega)]; simp), if_neg h0, Zb, if_neg (by simp)]
    exact ⟨_, _, if_pos rfl, rfl⟩
 ·rw [if_neg he, if_neg he]
  exact ⟨_, _, rfl, rfl⟩
end Go.Fw
namespace Go.Fw
mutual
def parse : Nat → Nat → List (BitVec 8) → Nat × It × List (BitVec 8)
 | 0, _, _ => (1, It.zero, [])
 | k + 1, d, s => match cutS s with
  | (e, l, h, n) => if e = 0 then (if l = true then (if d = 1024 then (74, It.zero, []) else (match plist k (d + 1) ((s.drop h).take n) [] with
    | (e2, its) => if e2 = 0 then (0, It.mk true [] its, s.drop (h + n)) else (e2, It.zero, [])))
   else (0, It.mk false ((s.drop h).take n) [], s.drop (h + n))) else (e, It.zero, [])
def plist : Nat → Nat → List (BitVec 8) → List It → Nat × List It
 | 0, _, _, _ => (1, [])
 | k + 1, d, s, acc => if s.length = 0 then (0, acc) else (match parse k d s with
  | (e, x, r) => if e = 0 then plist k d r (acc ++ [x]) else (e, []))
end
theorem parse_err {k d : Nat} {s : List (BitVec 8)} {e : Nat} {l : Bool} {h n : Nat} (hc : cutS s = (e, l, h, n)) (he : e ≠ 0) : parse (k + 1) d s = (e, It.zero, []) := by rw [parse, hc]; dsimp only; rw [if_neg he]
theorem parse_text {k d : Nat} {s : List (BitVec 8)} {h n : Nat} (hc : cutS s = (0, false, h, n)) : parse (k + 1) d s = (0, It.mk false ((s.drop h).take n) [], s.drop (h + n)) := by rw [parse, hc]; rfl
theorem parse_list {k d : Nat} {s : List (BitVec 8)} {h n : Nat} (hc : cutS s = (0, true, h, n)) : parse (k + 1) d s = if d = 1024 then (74, It.zero, []) else (match plist k (d + 1) ((s.drop h).take n) [] with
    | (e2, its) => if e2 = 0 then (0, It.mk true [] its, s.drop (h + n)) else (e2, It.zero, [])) := by rw [parse, hc]; rfl
theorem plist_nil {k d : Nat} {acc : List It} : plist (k + 1) d [] acc = (0, acc) := by rw [plist]; rfl
theorem plist_cons {k d : Nat} {s : List (BitVec 8)} {acc : List It} (h : ¬ s.length = 0) : plist (k + 1) d s acc = match parse k d s with
  | (e, x, r) => if e = 0 then plist k d r (acc ++ [x]) else (e, []) := by rw [plist, if_neg h]
theorem cutS_list {s : List (BitVec 8)} {h n : Nat} (e : cutS s = (0, true, h, n)) : 0 < h := by
 have fin : ∀ l' h' n', finS s l' h' n' = (0, true, h, n) → 0 < h' → 0 < h := by
  intro l' h' n' e hp
  unfold finS at e
  split at e
  ·simp at e
  split at e
  ·simp at e
  ·simp only [Prod.mk.injEq] at e; omega
 unfold cutS at e
 split at e
 ·simp at e
 split at e
 ·simp at e
 split at e
 ·split at e
  ·simp at e
  split at e
  ·simp at e
  split at e
  ·simp at e
  ·exact fin _ _ _ e (by omega)
 ·exact fin _ _ _ e (by omega)
def DecA (k : Nat) : Prop := ∀ (s : List (BitVec 8)) (st : List (List It × List (BitVec 8))), 2 * s.length + 1 ≤ k → s.length ≤ 16777216 → st.length ≤ 1024 →
 ((parse k st.length s).1 = 0 → (parse k st.length s).2.2.length < s.length ∧ ∃ t, t + 4 * (parse k st.length s).2.2.length + 2 ≤ 4 * s.length ∧ ∀ m it, dec (t + m) 1 s it st = dec m 2 (parse k st.length s).2.2 (parse k st.length s).2.1 st) ∧
 ((parse k st.length s).1 ≠ 0 → ∃ t, t ≤ 4 * s.length + 1 ∧ ∀ m it, dec (t + m) 1 s it st = some (It.zero, (parse k st.length s).1))
def DecB (k : Nat) : Prop := ∀ (s : List (BitVec 8)) (acc : List It) (bh : List (BitVec 8)) (st : List (List It × List (BitVec 8))), 2 * s.length + 2 ≤ k → s.length + acc.length ≤ 16777216 → st.length + 1 ≤ 1024 →
 ((plist k (st.length + 1) s acc).1 = 0 → ∃ t, t ≤ 4 * s.length + 1 ∧ ∀ m it, dec (t + m) 3 s it ((acc, bh) :: st) = dec m 2 bh (It.mk true [] (plist k (st.length + 1) s acc).2) st) ∧
 ((plist k (st.length + 1) s acc).1 ≠ 0 → ∃ t, t ≤ 4 * s.length + 2 ∧ ∀ m it, dec (t + m) 3 s it ((acc, bh) :: st) = some (It.zero, (plist k (st.length + 1) s acc).1))
theorem dec_all : ∀ k, DecA k ∧ DecB k := by
 intro k
 induction k with
 | zero => exact ⟨fun s st h => by omega, fun s acc bh st h => by omega⟩
 | succ k ih =>
  obtain ⟨ihA, ihB⟩ := ih
  refine ⟨?_, ?_⟩
  ·intro s st hk hs hst
   have hcut := cut_eq s (by omega)
   unfold cutR at hcut
   generalize hc : cutS s = r at hcut
   obtain ⟨e, l, h, n⟩ := r
   dsimp only at hcut
   by_cases he : e = 0
   ·subst he
    rw [if_pos rfl] at hcut
    have hin := cutS_in hc
    cases l with
    | false =>
     rw [parse_text hc]
     refine ⟨fun _ => ⟨by simp only [List.length_drop]; omega, 1, by simp only [List.length_drop]; omega, fun m it => ?_⟩, fun h => absurd rfl h⟩
     rw [Nat.add_comm 1 m, dec_1, hcut, Zb]
     dsimp only
     rw [if_pos rfl, if_neg (by decide), text_eq, Zb]
    | true =>
     have hh := cutS_list hc
     have hl : ((s.drop h).take n).length = n := by rw [List.length_take, List.length_drop]; omega
     have hd : ∀ m it, dec (m + 1) 1 s it st = if st.length = 1024 then some (It.zero, 74) else dec m 3 ((s.drop h).take n) It.zero (([], s.drop (h + n)) :: st) := by
      intro m it
      rw [dec_1, hcut, Zb]
      dsimp only
      rw [if_pos rfl, if_pos rfl]
      split
      ·rfl
      ·rw [if_pos (by omega)]
     rw [parse_list hc]
     by_cases h1 : st.length = 1024
     ·rw [if_pos h1]
      refine ⟨fun h => by simp at h, fun _ => ⟨1, by omega, fun m it => ?_⟩⟩
      rw [Nat.add_comm 1 m, hd, if_pos h1]
     ·rw [if_neg h1]
      obtain ⟨b1, b2⟩ := ihB ((s.drop h).take n) [] (s.drop (h + n)) st (by omega) (by simp only [List.length_nil]; omega) (by omega)
      generalize plist k (st.length + 1) ((s.drop h).take n) [] = q at b1 b2 ⊢
      obtain ⟨e2, its⟩ := q
      dsimp only at b1 b2 ⊢
      by_cases h2 : e2 = 0
      ·rw [if_pos h2]
       obtain ⟨t, ht, b1⟩ := b1 h2
       refine ⟨fun _ => ⟨by simp only [List.length_drop]; omega, t + 1, by simp only [List.length_drop]; omega, fun m it => ?_⟩, fun h => absurd rfl h⟩
       rw [show t + 1 + m = (t + m) + 1 by omega, hd, if_neg h1, b1]
      ·rw [if_neg h2]
       obtain ⟨t, ht, b2⟩ := b2 h2
       refine ⟨fun h => absurd h h2, fun _ => ⟨t + 1, by omega, fun m it => ?_⟩⟩
       rw [show t + 1 + m = (t + m) + 1 by omega, hd, if_neg h1, b2]
   ·rw [parse_err hc he]
    refine ⟨fun h => absurd h he, fun _ => ⟨1, by omega, fun m it => ?_⟩⟩
    rw [if_neg he] at hcut
    rw [Nat.add_comm 1 m, dec_1, hcut, Zb]
    dsimp only
    rw [if_neg he]
  ·intro s acc bh st hk hs hst
   by_cases h0 : s.length = 0
   ·obtain rfl : s = [] := List.length_eq_zero_iff.1 h0
    rw [plist_nil]
    refine ⟨fun _ => ⟨1, by omega, fun m it => ?_⟩, fun h => absurd rfl h⟩
    rw [Nat.add_comm 1 m, dec_3, if_neg (by simp)]
   ·rw [plist_cons h0]
    obtain ⟨a1, a2⟩ := ihA s ((acc, bh) :: st) (by omega) (by omega) (by simpa using hst)
    rw [List.length_cons] at a1 a2
    generalize parse k (st.length + 1) s = q at a1 a2 ⊢
    obtain ⟨e, x, r⟩ := q
    dsimp only at a1 a2 ⊢
    by_cases he : e = 0
    ·rw [if_pos he]
     obtain ⟨hr, t, ht, a1⟩ := a1 he
     obtain ⟨b1, b2⟩ := ihB r (acc ++ [x]) bh st (by omega) (by simp only [List.length_append, List.length_singleton]; omega) hst
     have hstep : ∀ m it, dec (t + m + 2) 3 s it ((acc, bh) :: st) = dec m 3 r It.zero ((acc ++ [x], bh) :: st) := by
      intro m it
      rw [show t + m + 2 = (t + (m + 1)) + 1 by omega, dec_3, if_pos (by omega), a1, dec_2c, if_pos (by omega)]
     refine ⟨fun h => ?_, fun h => ?_⟩
     ·obtain ⟨t2, ht2, b1⟩ := b1 h
      exact ⟨t + t2 + 2, by omega, fun m it => by rw [show t + t2 + 2 + m = t + (t2 + m) + 2 by omega, hstep, b1]⟩
     ·obtain ⟨t2, ht2, b2⟩ := b2 h
      exact ⟨t + t2 + 2, by omega, fun m it => by rw [show t + t2 + 2 + m = t + (t2 + m) + 2 by omega, hstep, b2]⟩
    ·rw [if_neg he]
     obtain ⟨t, ht, a2⟩ := a2 he
     refine ⟨fun h => absurd h he, fun _ => ⟨t + 1, by omega, fun m it => ?_⟩⟩
     rw [show t + 1 + m = (t + m) + 1 by omega, dec_3, if_pos (by omega), a2]
def decodeR (b : List (BitVec 8)) : It × Nat := if 16777216 < b.length then (It.zero, 2) else (match parse (2 * b.length + 1) 0 b with
 | (e, x, r) => if e = 0 then (if 0 < r.length then (It.zero, 73) else (x, 0)) else (It.zero, e))
theorem decode_eq (b : List (BitVec 8)) : rlp_Decode b = some (decodeR b) := by
 unfold rlp_Decode decodeR
 by_cases h : 16777216 < b.length
 ·rw [if_pos h, if_pos h]
 ·rw [if_neg h, if_neg h]
  obtain ⟨a1, a2⟩ := (dec_all (2 * b.length + 1)).1 b [] (Nat.le_refl _) (by omega) (by simp)
  rw [List.length_nil] at a1 a2
  generalize parse (2 * b.length + 1) 0 b = q at a1 a2 ⊢
  obtain ⟨e, x, r⟩ := q
  dsimp only at a1 a2 ⊢
  by_cases he : e = 0
  ·rw [if_pos he]
   obtain ⟨hr, t, ht, a1⟩ := a1 he
   rw [show 4 * b.length + 8 = t + ((4 * b.length + 7 - t) + 1) by omega, a1, dec_2n]
   split <;> rfl
  ·rw [if_neg he]
   obtain ⟨t, ht, a2⟩ := a2 he
   rw [show 4 * b.length + 8 = t + (4 * b.length + 8 - t) by omega, a2]
end Go.Fw
namespace Go.Fw
theorem btw_drop (b : List (BitVec 8)) (p q i : Nat) : (btw b p q).drop i = btw b (p + i) q := by unfold btw; rw [List.drop_drop]
theorem btw_part {b : List (BitVec 8)} {p q h n : Nat} (hh : p + h + n ≤ q) : ((btw b p q).drop h).take n = btw b (p + h) (p + h + n) := btw_sub hh
def RefA (b : List (BitVec 8)) (k : Nat) : Prop := ∀ (kf p q d : Nat), 2 * (q - p) + 1 ≤ k → p ≤ q → q ≤ b.length → d ≤ 1024 → 1026 ≤ kf + d →
 ((parse k d (btw b p q)).1 = 0 → ∃ p', p < p' ∧ p' ≤ q ∧ (parse k d (btw b p q)).2.2 = btw b p' q ∧ waybillref07_item.r kf b p q d = some ((parse k d (btw b p q)).2.1, p', 0)) ∧
 ((parse k d (btw b p q)).1 ≠ 0 → waybillref07_item.r kf b p q d = some (It.zero, 0, (parse k d (btw b p q)).1))
def RefB (b : List (BitVec 8)) (k : Nat) : Prop := ∀ (kf kl p d : Nat) (x : Hd) (acc : List It), 2 * (x.to - p) + 2 ≤ k → p ≤ x.to → x.to ≤ b.length → d + 1 ≤ 1024 → 1026 ≤ kf + (d + 1) → x.to - p < kl → acc.length + (x.to - p) ≤ 16777216 →
 ((plist k (d + 1) (btw b p x.to) acc).1 = 0 → waybillref07_item.l1 b d (waybillref07_item.r kf) x kl p true [] acc = some (Lp.go (true, [], (plist k (d + 1) (btw b p x.to) acc).2))) ∧
 ((plist k (d + 1) (btw b p x.to) acc).1 ≠ 0 → waybillref07_item.l1 b d (waybillref07_item.r kf) x kl p true [] acc = some (Lp.ret (some (It.zero, 0, (plist k (d + 1) (btw b p x.to) acc).1))))
theorem ref_all (b : List (BitVec 8)) (hb : b.length ≤ 16777216) : ∀ k, RefA b k ∧ RefB b k := by
 intro k
 induction k with
 | zero => exact ⟨fun kf p q d h => by omega, fun kf kl p d x acc h => by omega⟩
 | succ k ih =>
  obtain ⟨ihA, ihB⟩ := ih
  refine ⟨?_, ?_⟩
  ·intro kf p q d hk hp hq hd hf
   obtain ⟨kf, rfl⟩ : ∃ m, kf = m + 1 := ⟨kf - 1, by omega⟩
   have hhd := head_eq b p q hp hq (by omega)
   have hlen := btw_length (b := b) (p := p) hq
   unfold headR at hhd
   generalize hc : cutS (btw b p q) = r at hhd
   obtain ⟨e, l, h, n⟩ := r
   dsimp only at hhd
   rw [waybillref07_item.r]
   by_cases he : e = 0
   ·subst he
    rw [if_pos rfl] at hhd
    have hin := cutS_in hc
    rw [hhd, Zb]
    dsimp only
    rw [if_pos rfl]
    cases l with
    | false =>
     rw [parse_text hc]
     refine ⟨fun _ => ⟨p + h + n, by omega, by omega, by show List.drop (h + n) (btw b p q) = _; rw [btw_drop]; congr 1; omega, ?_⟩, fun h => absurd rfl h⟩
     simp only [Hd.list, Hd.fr, Hd.to]
     rw [if_neg (by decide), if_pos (by omega), if_pos (by omega), waybillref07_bytes, Zb, btw_part (by omega)]
     rfl
    | true =>
     have hh := cutS_list hc
     simp only [Hd.list, Hd.fr, Hd.to]
     rw [if_pos trivial, parse_list hc]
     by_cases h1 : d = 1024
     ·rw [if_pos h1, if_pos (by omega)]
      exact ⟨fun h => by simp at h, fun _ => rfl⟩
     ·rw [if_neg h1, if_neg (by omega), btw_part (by omega)]
      obtain ⟨b1, b2⟩ := ihB kf (p + h + n - (p + h) + 2) (p + h) d (Hd.mk true (p + h) (p + h + n)) [] (by simp only [Hd.to]; omega) (by simp only [Hd.to]; omega) (by simp only [Hd.to]; omega) (by omega) (by omega) (by simp only [Hd.to]; omega) (by simp only [Hd.to, List.length_nil]; omega)
      simp only [Hd.to] at b1 b2
      generalize plist k (d + 1) (btw b (p + h) (p + h + n)) [] = q2 at b1 b2 ⊢
      obtain ⟨e2, its⟩ := q2
      dsimp only at b1 b2 ⊢
      by_cases h2 : e2 = 0
      ·rw [if_pos h2, b1 h2, Zb]
       exact ⟨fun _ => ⟨p + h + n, by omega, by omega, by show List.drop (h + n) (btw b p q) = _; rw [btw_drop]; congr 1; omega, rfl⟩, fun h => absurd rfl h⟩
      ·rw [if_neg h2, b2 h2, Zb]
       exact ⟨fun h => absurd h h2, fun _ => rfl⟩
   ·rw [parse_err hc he]
    rw [if_neg he] at hhd
    rw [hhd, Zb]
    dsimp only
    rw [if_neg he]
    exact ⟨fun h => absurd h he, fun _ => rfl⟩
  ·intro kf kl p d x acc hk hp hq hd hf hl ha
   obtain ⟨kl, rfl⟩ : ∃ m, kl = m + 1 := ⟨kl - 1, by omega⟩
   have hlen := btw_length (b := b) (p := p) hq
   rw [waybillref07_item.l1]
   by_cases h0 : p < x.to
   ·rw [if_pos h0, plist_cons (by omega)]
    obtain ⟨a1, a2⟩ := ihA kf p x.to (d + 1) (by omega) hp hq hd hf
    generalize parse k (d + 1) (btw b p x.to) = q2 at a1 a2 ⊢
    obtain ⟨e, y, r⟩ := q2
    dsimp only at a1 a2 ⊢
    by_cases he : e = 0
    ·rw [if_pos he]
     obtain ⟨p', h1, h2, rfl, a3⟩ := a1 he
     rw [a3, Zb]
     dsimp only
     rw [if_pos rfl, if_pos (by simp only [List.length_cons, List.length_nil]; omega)]
     exact ihB kf kl p' d x (acc ++ [y]) (by omega) h2 hq hd hf (by omega) (by simp only [List.length_append, List.length_singleton]; omega)
    ·rw [if_neg he, a2 he, Zb]
     dsimp only
     rw [if_neg he]
     exact ⟨fun h => absurd h he, fun _ => rfl⟩
   ·have h0' : btw b p x.to = [] := List.length_eq_zero_iff.1 (by omega)
    rw [if_neg h0, h0', plist_nil]
    exact ⟨fun _ => rfl, fun h => absurd rfl h⟩
theorem rdecode_eq (b : List (BitVec 8)) : waybillref07_Decode b = some (decodeR b) := by
 unfold waybillref07_Decode decodeR
 by_cases h : 16777216 < b.length
 ·rw [if_pos h, if_pos h]
 ·rw [if_neg h, if_neg h]
  obtain ⟨a1, a2⟩ := (ref_all b (by omega) (2 * b.length + 1)).1 1026 0 b.length 0 (by omega) (by omega) (Nat.le_refl _) (by omega) (by omega)
  rw [btw_all] at a1 a2
  have hi : waybillref07_item b 0 b.length 0 = waybillref07_item.r 1026 b 0 b.length 0 := rfl
  rw [hi]
  generalize parse (2 * b.length + 1) 0 b = q at a1 a2 ⊢
  obtain ⟨e, x, r⟩ := q
  dsimp only at a1 a2 ⊢
  by_cases he : e = 0
  ·rw [if_pos he]
   obtain ⟨p', h1, h2, rfl, a3⟩ := a1 he
   rw [a3, Zb]
   dsimp only
   rw [if_pos rfl, btw_length (Nat.le_refl _)]
   by_cases h3 : p' < b.length
   ·rw [if_pos h3, if_pos (by omega)]
   ·rw [if_neg h3, if_neg (by omega)]
  ·rw [if_neg he, a2 he, Zb]
   dsimp only
   rw [if_neg he]
end Go.Fw
namespace Go.Fw
theorem oneB_small {d : List (BitVec 8)} (ho : ¬ oneB d = true) (h : d.length = 1) : small d 0 = false := by
 by_cases hs : small d 0 = true
 ·exact absurd (by unfold oneB; simp [h, hs]) ho
 ·simpa using hs
theorem parse_back_all : ∀ k, (∀ (d : Nat) (s r : List (BitVec 8)) (x : It), s.length ≤ 16777216 → d ≤ 1024 → parse k d s = (0, x, r) → x.good ∧ s = x.enc ++ r ∧ x.dep + d ≤ 1024 ∧ x.w9 ≤ 10 * x.enc.length) ∧
  (∀ (d : Nat) (s : List (BitVec 8)) (acc its : List It), s.length ≤ 16777216 → d ≤ 1024 → plist k d s acc = (0, its) → ∃ l, its = acc ++ l ∧ Its.good l ∧ s = Its.enc l ∧ Its.dep l + d ≤ 1024 ∧ Its.w9 l ≤ 10 * (Its.enc l).length) := by
 intro k
 induction k with
 | zero => exact ⟨fun d s r x _ _ h => by rw [parse] at h; simp at h, fun d s acc its _ _ h => by rw [plist] at h; simp at h⟩
 | succ k ih =>
  obtain ⟨ihA, ihB⟩ := ih
  refine ⟨?_, ?_⟩
  ·intro d s r x hs hd h
   generalize hc : cutS s = q
   obtain ⟨e, l, hh, n⟩ := q
   by_cases he : e = 0
   ·subst he
    have hin := cutS_in hc
    have hb := cut_back hs hc
    have hsplit : s = s.take hh ++ ((s.drop hh).take n ++ s.drop (hh + n)) := by
     rw [← List.drop_drop, List.take_append_drop, List.take_append_drop]
    have hlen : ((s.drop hh).take n).length = n := by rw [List.length_take, List.length_drop]; omega
    have hx1 : (s.take hh).length = hh := by rw [List.length_take]; omega
    cases l with
    | false =>
     rw [parse_text hc] at h
     simp only [Prod.mk.injEq, true_and] at h
     obtain ⟨rfl, rfl⟩ := h
     have henc : (It.mk false ((s.drop hh).take n) []).enc = s.take hh ++ (s.drop hh).take n := by
      rw [It.enc, if_neg (by decide)]
      rcases hb with ⟨rfl, rfl, _, h3⟩ | ⟨h3, h4⟩
      ·rw [if_pos (by unfold oneB; rw [decide_eq_true hlen, Bool.true_and]; unfold small at h3 ⊢; rw [List.drop_zero, List.getElem?_take, if_pos (by decide)]; exact h3), List.take_zero, List.nil_append]
      ·rw [if_neg ?_, h3, hlen]; · rfl
       intro ho
       obtain ⟨o1, o2⟩ := oneB_len ho
       have h5 := h4 rfl (by omega)
       unfold small at o2 h5
       rw [List.getElem?_take, if_pos (by omega), List.getElem?_drop, Nat.add_zero] at o2
       rw [h5] at o2
       cases o2
     refine ⟨(It.good_eq _).2 ⟨fun h => by simp [It.list] at h, fun _ => rfl, by simp [It.items, Its.good]⟩, ?_, by rw [It.dep]; simpa using hd, ?_⟩
     ·rw [henc, List.append_assoc]; exact hsplit
     ·rw [henc, It.w9, Its.w9, List.length_append, hx1, hlen]
      omega
    | true =>
     have hh0 := cutS_list hc
     rw [parse_list hc] at h
     by_cases h1 : d = 1024
     ·rw [if_pos h1] at h; simp at h
     ·rw [if_neg h1] at h
      generalize hp : plist k (d + 1) ((s.drop hh).take n) [] = q at h
      obtain ⟨e2, its⟩ := q
      dsimp only at h
      by_cases h2 : e2 = 0
      ·subst h2
       rw [if_pos rfl] at h
       simp only [Prod.mk.injEq, true_and] at h
       obtain ⟨rfl, rfl⟩ := h
       obtain ⟨l, e1, g1, g2, g3, g4⟩ := ihB (d + 1) _ _ _ (by omega) (by omega) hp
       rw [List.nil_append] at e1
       subst e1
       rcases hb with ⟨rfl, _⟩ | ⟨h3, _⟩
       ·omega
       have henc : (It.mk true [] its).enc = s.take hh ++ (s.drop hh).take n := by
        rw [It.enc, if_pos rfl, ← g2, h3, hlen]; rfl
       refine ⟨(It.good_eq _).2 ⟨fun _ => rfl, fun h => by simp [It.list] at h, by simpa [It.items] using g1⟩, ?_, by rw [It.dep, if_pos rfl]; omega, ?_⟩
       ·rw [henc, List.append_assoc]; exact hsplit
       ·rw [← g2, hlen] at g4
        rw [henc, It.w9, List.length_append, hx1, hlen, List.length_nil]
        omega
      ·rw [if_neg h2] at h
       simp only [Prod.mk.injEq] at h
       exact absurd h.1 h2
   ·rw [parse_err hc he] at h
    simp only [Prod.mk.injEq] at h
    exact absurd h.1 he
  ·intro d s acc its hs hd h
   by_cases h0 : s.length = 0
   ·obtain rfl : s = [] := List.length_eq_zero_iff.1 h0
    rw [plist_nil] at h
    simp only [Prod.mk.injEq, true_and] at h
    subst h
    exact ⟨[], by simp, trivial, by rw [Its.enc], by rw [Its.dep]; omega, by rw [Its.w9]; omega⟩
   ·rw [plist_cons h0] at h
    generalize hp : parse k d s = q at h
    obtain ⟨e, x, r⟩ := q
    dsimp only at h
    by_cases he : e = 0
    ·subst he
     rw [if_pos rfl] at h
     obtain ⟨a1, a2, a3, a4⟩ := ihA d s r x hs hd hp
     have hr : r.length ≤ 16777216 := by rw [a2, List.length_append] at hs; omega
     obtain ⟨l, e1, g1, g2, g3, g4⟩ := ihB d r _ _ hr hd h
     refine ⟨x :: l, by rw [e1, List.append_assoc]; rfl, ⟨a1, g1⟩, by rw [Its.enc, ← g2]; exact a2, by rw [Its.dep]; omega, ?_⟩
     rw [Its.w9, Its.enc, List.length_append]
     omega
    ·rw [if_neg he] at h
     simp only [Prod.mk.injEq] at h
     exact absurd h.1 he
theorem decode_back {b : List (BitVec 8)} {x : It} {e : Nat} (h : decodeR b = (x, e)) : (e ≠ 0 ∧ x = It.zero) ∨ (e = 0 ∧ x.good ∧ b = x.enc ∧ b.length ≤ 16777216 ∧ x.dep ≤ 1024 ∧ x.w9 ≤ 10 * b.length) := by
 unfold decodeR at h
 by_cases h0 : 16777216 < b.length
 ·rw [if_pos h0] at h
  simp only [Prod.mk.injEq] at h
  exact .inl ⟨by omega, h.1.symm⟩
 ·rw [if_neg h0] at h
  generalize hp : parse (2 * b.length + 1) 0 b = q at h
  obtain ⟨e1, x1, r⟩ := q
  dsimp only at h
  by_cases he : e1 = 0
  ·subst he
   rw [if_pos rfl] at h
   obtain ⟨a1, a2, a3, a4⟩ := (parse_back_all _).1 0 b r x1 (by omega) (by omega) hp
   by_cases hr : 0 < r.length
   ·rw [if_pos hr] at h
    simp only [Prod.mk.injEq] at h
    exact .inl ⟨by omega, h.1.symm⟩
   ·rw [if_neg hr] at h
    simp only [Prod.mk.injEq] at h
    obtain ⟨rfl, rfl⟩ := h
    obtain rfl : r = [] := List.length_eq_zero_iff.1 (by omega)
    rw [List.append_nil] at a2
    exact .inr ⟨rfl, a1, a2, by omega, a3, by rw [a2]; exact a4⟩
  ·rw [if_neg he] at h
   simp only [Prod.mk.injEq] at h
   exact .inl ⟨by omega, h.1.symm⟩
end Go.Fw
namespace Go.Fw
theorem absorb_loop (a0 : Sponge) : ∀ (d i k : Nat) (w : Sponge), i + d = 136 → d < k → ∃ w', keccak_Sponge_absorb.l1 a0 k i w = some w' ∧ w'.kind = w.kind ∧ w'.long = w.long
 | 0, i, k, w, h, hk => by
  obtain ⟨k, rfl⟩ : ∃ m, k = m + 1 := ⟨k - 1, by omega⟩
  exact ⟨w, by rw [keccak_Sponge_absorb.l1, if_neg (by omega)], rfl, rfl⟩
 | d + 1, i, k, w, h, hk => by
  obtain ⟨k, rfl⟩ : ∃ m, k = m + 1 := ⟨k - 1, by omega⟩
  rw [keccak_Sponge_absorb.l1, if_pos (by omega), Vector.getElem?_eq_getElem (by omega), Zb, if_pos (by omega), Vector.getElem?_eq_getElem (by omega), Zb]
  obtain ⟨w', e1, e2, e3⟩ := absorb_loop a0 d (i + 1) k _ (by omega) (by omega)
  exact ⟨w', e1, e2, e3⟩
theorem absorb_total (s : Sponge) : ∃ s', keccak_Sponge_absorb s = some s' ∧ s'.kind = s.kind ∧ s'.long = s.long ∧ s'.held = 0 := by
 unfold keccak_Sponge_absorb
 obtain ⟨w, e1, e2, e3⟩ := absorb_loop s 136 0 (136 - 0 + 2) s (by omega) (by omega)
 rw [e1, Zb]
 exact ⟨_, rfl, e2, e3, rfl⟩
theorem write_loop : ∀ (n k : Nat) (l : List (BitVec 8)) (w : Sponge), l.length ≤ n → n < k → 0 ≤ w.held → w.held < 136 → ∃ w', keccak_Sponge_Write.l1 k l w = some w' ∧ 0 ≤ w'.held ∧ w'.held < 136 ∧ w'.kind = w.kind ∧ w'.long = w.long
 | n, 0, l, w, hn, hk, h0, h1 => by omega
 | n, k + 1, l, w, hn, hk, h0, h1 => by
  rw [keccak_Sponge_Write.l1]
  by_cases hl : 0 < l.length
  ·have hm : 0 < min l.length (136 - w.held.toNat) := by omega
   rw [if_pos hl, if_pos h0, if_pos (by omega), if_pos (Nat.min_le_left ..), if_pos (by constructor <;> (show _ ≤ _; dsimp only; omega))]
   by_cases hf : w.held + ((min l.length (136 - w.held.toNat) : Nat) : Int) = 136
   ·rw [if_pos hf]
    obtain ⟨s', e1, e2, e3, e4⟩ := absorb_total ({ ({ w with part := cpV w.part ((w.held).toNat) (l.take (min l.length (136 - ((w.held).toNat)))) } : Sponge) with held := (({ w with part := cpV w.part ((w.held).toNat) (l.take (min l.length (136 - ((w.held).toNat)))) } : Sponge).held + (((min l.length (136 - ((w.held).toNat))) : Nat) : Int)) } : Sponge)
    rw [e1, Zb, Zb]
    obtain ⟨w', f1, f2, f3, f4, f5⟩ := write_loop (n - 1) k (l.drop (min l.length (136 - w.held.toNat))) s' (by rw [List.length_drop]; omega) (by omega) (by omega) (by omega)
    exact ⟨w', f1, f2, f3, f4.trans e2, f5.trans e3⟩
   ·rw [if_neg hf, Zb]
    obtain ⟨w', f1, f2, f3, f4, f5⟩ := write_loop (n - 1) k (l.drop (min l.length (136 - w.held.toNat))) ({ ({ w with part := cpV w.part ((w.held).toNat) (l.take (min l.length (136 - ((w.held).toNat)))) } : Sponge) with held := (({ w with part := cpV w.part ((w.held).toNat) (l.take (min l.length (136 - ((w.held).toNat)))) } : Sponge).held + (((min l.length (136 - ((w.held).toNat))) : Nat) : Int)) } : Sponge) (by rw [List.length_drop]; omega) (by omega) (show 0 ≤ w.held + ((min l.length (136 - w.held.toNat) : Nat) : Int) by omega) (show w.held + ((min l.length (136 - w.held.toNat) : Nat) : Int) < 136 by omega)
    exact ⟨w', f1, f2, f3, f4, f5⟩
  ·rw [if_neg hl]
   exact ⟨w, rfl, h0, h1, rfl, rfl⟩
theorem write_total (s : Sponge) (l : List (BitVec 8)) (h0 : 0 ≤ s.held) (h1 : s.held < 136) (h2 : -9223372036854775808 ≤ s.long + ((l.length : Nat) : Int) ∧ s.long + ((l.length : Nat) : Int) ≤ 9223372036854775807) : ∃ s', keccak_Sponge_Write s l = some s' ∧ 0 ≤ s'.held ∧ s'.held < 136 ∧ s'.kind = s.kind ∧ s'.long = s.long + ((l.length : Nat) : Int) := by
 unfold keccak_Sponge_Write
 rw [if_pos h2]
 obtain ⟨w, e1, e2, e3, e4, e5⟩ := write_loop l.length (l.length - 0 + 2) l ({ s with long := (s.long + ((l.length : Nat) : Int)) } : Sponge) (Nat.le_refl _) (by omega) h0 h1
 rw [e1, Zb]
 exact ⟨w, rfl, e2, e3, e4, e5⟩
end Go.Fw
namespace Go.Fw
abbrev V25 := Vector (BitVec 64) 25
def permV (a : V25) : V25 := match keccak_Permute a with
 | some r => r
 | none => a
theorem perm_eq (a : V25) : keccak_Permute a = some (permV a) := rfl
def xin (b : List (BitVec 8)) : Nat → Nat → V25 → V25
 | 0, _, a => a
 | d + 1, i, a => xin b d (i + 1) (a.setIfInBounds (i / 8) ((a[i / 8]?.getD 0#64) ^^^ (((b[i]?.getD 0#8).setWidth 64) <<< (8 * (i % 8)))))
def takeIn (b : List (BitVec 8)) (a : V25) : V25 := permV (xin b 136 0 a)
def soak : Nat → List (BitVec 8) → V25 → V25
 | 0, _, a => a
 | n + 1, l, a => soak n (l.drop 136) (takeIn (l.take 136) a)
def zeroV : V25 := Vector.replicate 25 0#64
theorem soak_snoc : ∀ (n : Nat) (l : List (BitVec 8)) (a : V25), soak (n + 1) l a = takeIn ((l.drop (136 * n)).take 136) (soak n l a)
 | 0, l, a => by rw [soak, soak, soak, Nat.mul_zero, List.drop_zero]
 | n + 1, l, a => by
  rw [soak, soak_snoc n, soak, List.drop_drop]
  congr 3
  omega
theorem soak_congr : ∀ (n : Nat) (l l' : List (BitVec 8)) (a : V25), l.take (136 * n) = l'.take (136 * n) → soak n l a = soak n l' a
 | 0, l, l', a, h => rfl
 | n + 1, l, l', a, h => by
  rw [soak_snoc, soak_snoc]
  have h1 : l.take (136 * n) = l'.take (136 * n) := by
   have := congrArg (List.take (136 * n)) h
   rwa [List.take_take, List.take_take, Nat.min_eq_left (by omega)] at this
  have h2 : (l.drop (136 * n)).take 136 = (l'.drop (136 * n)).take 136 := by
   have := congrArg (List.drop (136 * n)) h
   rwa [List.drop_take, List.drop_take, show 136 * (n + 1) - 136 * n = 136 by omega] at this
  rw [h2, soak_congr n l l' a h1]
theorem absorb_loop_eq (s : Sponge) : ∀ (d i k : Nat) (w : Sponge), i + d = 136 → d < k → keccak_Sponge_absorb.l1 s k i w = some { w with lanes := xin s.part.toList d i w.lanes }
 | 0, i, k, w, h, hk => by
  obtain ⟨k, rfl⟩ : ∃ m, k = m + 1 := ⟨k - 1, by omega⟩
  rw [keccak_Sponge_absorb.l1, if_neg (by omega)]
  rfl
 | d + 1, i, k, w, h, hk => by
  obtain ⟨k, rfl⟩ : ∃ m, k = m + 1 := ⟨k - 1, by omega⟩
  have h1 : i < 136 := by omega
  have h2 : i / 8 < 25 := by omega
  rw [keccak_Sponge_absorb.l1, if_pos h1, Vector.getElem?_eq_getElem h1, Zb, if_pos h2, Vector.getElem?_eq_getElem h2, Zb, absorb_loop_eq s d (i + 1) k _ (by omega) (by omega)]
  have e1 : (s.part.toList)[i]? = some s.part[i] := by rw [Vector.getElem?_toList, Vector.getElem?_eq_getElem h1]
  simp only [xin, e1, Option.getD_some, Vector.getElem?_eq_getElem h2]
theorem absorb_eq (s : Sponge) : keccak_Sponge_absorb s = some { s with lanes := takeIn s.part.toList s.lanes, held := 0 } := by
 unfold keccak_Sponge_absorb
 rw [absorb_loop_eq s 136 0 (136 - 0 + 2) s (by omega) (by omega), Zb, perm_eq, Zb]
 rfl
structure Took (s : Sponge) (t : List (BitVec 8)) : Prop where
 held : s.held = ((t.length % 136 : Nat) : Int)
 lanes : s.lanes = soak (t.length / 136) t zeroV
 part : s.part.toList.take (t.length % 136) = t.drop (136 * (t.length / 136))
theorem took_loop : ∀ (n k : Nat) (l : List (BitVec 8)) (w : Sponge) (t : List (BitVec 8)), l.length ≤ n → n < k → Took w t → ∃ w', keccak_Sponge_Write.l1 k l w = some w' ∧ Took w' (t ++ l) ∧ w'.kind = w.kind ∧ w'.long = w.long
 | n, 0, l, w, t, hn, hk, ht => by omega
 | n, k + 1, l, w, t, hn, hk, ht => by
  have hq : t.length = 136 * (t.length / 136) + t.length % 136 := (Nat.div_add_mod _ _).symm
  have hm : t.length % 136 < 136 := Nat.mod_lt _ (by decide)
  have hh := ht.held
  rw [keccak_Sponge_Write.l1]
  by_cases hl : 0 < l.length
  ·generalize hM : min l.length (136 - w.held.toNat) = M
   have hM' : M = min l.length (136 - t.length % 136) := by rw [← hM, hh]; rfl
   have hMl : M ≤ l.length := by omega
   have hM0 : 0 < M := by omega
   have hN : w.held.toNat = t.length % 136 := by rw [hh]; rfl
   have hlen : (l.take M).length = M := by rw [List.length_take]; omega
   have hfit : t.length % 136 + (l.take M).length ≤ 136 := by omega
   have hcp := cpV_toList w.part (lo := t.length % 136) (l := l.take M) hfit
   have htl : (t ++ l.take M).length = t.length + M := by rw [List.length_append, hlen]
   rw [if_pos hl, if_pos (by omega), if_pos (by omega), if_pos hMl, if_pos (by constructor <;> (show _ ≤ _; dsimp only; omega)), hN]
   have hsplit : t ++ l = (t ++ l.take M) ++ l.drop M := by rw [List.append_assoc, List.take_append_drop]
   by_cases hf : w.held + ((M : Nat) : Int) = 136
   ·rw [if_pos hf, absorb_eq, Zb, Zb, hsplit]
    have hd : (t.length + M) / 136 = t.length / 136 + 1 := by omega
    have hr : (t.length + M) % 136 = 0 := by omega
    obtain ⟨w', f1, f2, f3, f4⟩ := took_loop (n - 1) k (l.drop M) _ (t ++ l.take M) (by rw [List.length_drop]; omega) (by omega) (⟨by rw [htl, hr]; rfl, by
      rw [htl, hd, soak_snoc]
      show takeIn (cpV w.part (t.length % 136) (l.take M)).toList w.lanes = _
      rw [ht.lanes]
      congr 1
      ·have hz : w.part.toList.drop (t.length % 136 + (l.take M).length) = [] := List.drop_eq_nil_of_le (by rw [Zv, hlen]; omega)
       have hT : (t.drop (136 * (t.length / 136)) ++ l.take M).take 136 = t.drop (136 * (t.length / 136)) ++ l.take M := List.take_of_length_le (by rw [List.length_append, List.length_drop, hlen]; omega)
       rw [hcp, ht.part, hz, List.drop_append_of_le_length (by omega), List.append_nil, hT]
      ·exact soak_congr _ _ _ _ (by rw [List.take_append_of_le_length (by omega)]), by rw [htl, hr, List.take_zero, hd, List.drop_eq_nil_of_le (by rw [htl]; omega)]⟩ : Took ({ ({ ({ w with part := cpV w.part (t.length % 136) (l.take M) } : Sponge) with held := (({ w with part := cpV w.part (t.length % 136) (l.take M) } : Sponge).held + ((M : Nat) : Int)) } : Sponge) with lanes := takeIn (({ ({ w with part := cpV w.part (t.length % 136) (l.take M) } : Sponge) with held := (({ w with part := cpV w.part (t.length % 136) (l.take M) } : Sponge).held + ((M : Nat) : Int)) } : Sponge)).part.toList (({ ({ w with part := cpV w.part (t.length % 136) (l.take M) } : Sponge) with held := (({ w with part := cpV w.part (t.length % 136) (l.take M) } : Sponge).held + ((M : Nat) : Int)) } : Sponge)).lanes, held := 0 } : Sponge) (t ++ l.take M))
    exact ⟨w', f1, f2, f3, f4⟩
   ·have hd : (t.length + M) / 136 = t.length / 136 := by omega
    have hr : (t.length + M) % 136 = t.length % 136 + M := by omega
    rw [if_neg hf, Zb, hsplit]
    obtain ⟨w', f1, f2, f3, f4⟩ := took_loop (n - 1) k (l.drop M) ({ ({ w with part := cpV w.part (t.length % 136) (l.take M) } : Sponge) with held := (({ w with part := cpV w.part (t.length % 136) (l.take M) } : Sponge).held + ((M : Nat) : Int)) } : Sponge) (t ++ l.take M) (by rw [List.length_drop]; omega) (by omega) ⟨by
      show w.held + ((M : Nat) : Int) = _
      rw [htl, hr]; omega, by
      show w.lanes = _
      rw [htl, hd, ht.lanes]
      exact soak_congr _ _ _ _ (by rw [List.take_append_of_le_length (by omega)]), by
      show (cpV w.part (t.length % 136) (l.take M)).toList.take _ = _
      rw [htl, hr, hd, hcp, List.take_left' (by rw [List.length_append, List.length_take, Zv]; omega), ht.part, List.drop_append_of_le_length (by omega)]⟩
    exact ⟨w', f1, f2, f3, f4⟩
  ·rw [if_neg hl]
   obtain rfl : l = [] := List.length_eq_zero_iff.1 (by omega)
   exact ⟨w, rfl, by rw [List.append_nil]; exact ht, rfl, rfl⟩
theorem write_took (s : Sponge) (t l : List (BitVec 8)) (h : Took s t) (h2 : -9223372036854775808 ≤ s.long + ((l.length : Nat) : Int) ∧ s.long + ((l.length : Nat) : Int) ≤ 9223372036854775807) : ∃ s', keccak_Sponge_Write s l = some s' ∧ Took s' (t ++ l) ∧ s'.kind = s.kind ∧ s'.long = s.long + ((l.length : Nat) : Int) := by
 unfold keccak_Sponge_Write
 rw [if_pos h2]
 obtain ⟨w, e1, e2, e3, e4⟩ := took_loop l.length (l.length - 0 + 2) l ({ s with long := (s.long + ((l.length : Nat) : Int)) } : Sponge) t (Nat.le_refl _) (by omega) ⟨h.held, h.lanes, h.part⟩
 rw [e1, Zb]
 exact ⟨w, rfl, e2, e3, e4⟩
def padB (r : List (BitVec 8)) (f : BitVec 8) : List (BitVec 8) := (r ++ f :: List.replicate (135 - r.length) 0#8).set 135 ((if r.length = 135 then f else 0#8) ||| 128#8)
def sq (a : V25) : Nat → Nat → Vector (BitVec 8) 32 → Vector (BitVec 8) 32
 | 0, _, w => w
 | d + 1, i, w => sq a d (i + 1) (w.setIfInBounds i (((a[i / 8]?.getD 0#64) >>> (8 * (i % 8))).setWidth 8))
def digestR (t : List (BitVec 8)) (f : BitVec 8) : Vector (BitVec 8) 32 := sq (takeIn (padB (t.drop (136 * (t.length / 136))) f) (soak (t.length / 136) t zeroV)) 32 0 (Vector.replicate 32 0#8)
theorem sum_loop_eq (x : Sponge) : ∀ (d i k : Nat) (w : Vector (BitVec 8) 32), i + d = 32 → d < k → keccak_Sponge_Sum.l1 x k i w = some (sq x.lanes d i w)
 | 0, i, k, w, h, hk => by
  obtain ⟨k, rfl⟩ : ∃ m, k = m + 1 := ⟨k - 1, by omega⟩
  rw [keccak_Sponge_Sum.l1, if_neg (by omega)]
  rfl
 | d + 1, i, k, w, h, hk => by
  obtain ⟨k, rfl⟩ : ∃ m, k = m + 1 := ⟨k - 1, by omega⟩
  have h2 : i / 8 < 25 := by omega
  rw [keccak_Sponge_Sum.l1, if_pos (by omega), if_pos h2, Vector.getElem?_eq_getElem h2, Zb, sum_loop_eq x d (i + 1) k _ (by omega) (by omega)]
  simp only [sq, Vector.getElem?_eq_getElem h2, Option.getD_some]
theorem setAtS {α : Type} (r : List α) (x y : α) (z : List α) {i : Nat} (h : r.length = i) : (r ++ x :: z).set i y = r ++ y :: z := by
 rw [List.set_append_right _ _ (by omega), show i - r.length = 0 by omega, List.set_cons_zero]
theorem ssum_eq (s : Sponge) (t : List (BitVec 8)) (h : Took s t) (f : BitVec 8) (hk : (s.kind = 0 ∧ f = 1#8) ∨ (s.kind = 1 ∧ f = 6#8)) : keccak_Sponge_Sum s = some (digestR t f, s) := by
 have hm : t.length % 136 < 136 := Nat.mod_lt _ (by decide)
 have hh := h.held
 have hN : s.held.toNat = t.length % 136 := by rw [hh]; rfl
 have hkk : 0 ≤ s.kind := by omega
 have hfst : firstL[s.kind.toNat]? = some f := by
  rcases hk with ⟨e, rfl⟩ | ⟨e, rfl⟩ <;> rw [e] <;> rfl
 have hr : (t.drop (136 * (t.length / 136))).length = t.length % 136 := by rw [List.length_drop]; omega
 have hP1 := cpV_toList s.part (lo := t.length % 136) (l := List.replicate (136 - t.length % 136) 0#8) (by rw [List.length_replicate]; omega)
 have hz : s.part.toList.drop (t.length % 136 + (List.replicate (136 - t.length % 136) 0#8).length) = [] := List.drop_eq_nil_of_le (by rw [Zv, List.length_replicate]; omega)
 rw [h.part, hz, List.append_nil, show 136 - t.length % 136 = (135 - t.length % 136) + 1 by omega, List.replicate_succ] at hP1
 unfold keccak_Sponge_Sum
 rw [if_pos (by omega), if_pos (by omega)]
 dsimp only
 rw [if_pos (by omega), if_pos (by omega), hN]
 generalize hP : cpV s.part (t.length % 136) (List.replicate (136 - t.length % 136) 0#8) = P
 have hPl : P.toList = t.drop (136 * (t.length / 136)) ++ 0#8 :: List.replicate (135 - t.length % 136) 0#8 := by rw [← hP]; rw [show 136 - t.length % 136 = (135 - t.length % 136) + 1 by omega, List.replicate_succ]; exact hP1
 have hPh : P[t.length % 136]? = some 0#8 := by rw [← Vector.getElem?_toList, hPl, List.getElem?_append_right (by omega), hr, Nat.sub_self]; rfl
 rw [hPh, Zb, if_pos hkk, hfst, Zb]
 generalize hS : (Sponge.mk _ _ _ _ _ : Sponge) = S
 rw [absorb_eq, Zb, sum_loop_eq _ 32 0 _ _ (by omega) (by omega), Zb]
 have h1 : S.lanes = s.lanes := by rw [← hS]
 have h2 : S.part.toList = padB (t.drop (136 * (t.length / 136))) f := by
  rw [← hS]
  show ((P.setIfInBounds (t.length % 136) (0#8 ^^^ f)).setIfInBounds 135 ((P.setIfInBounds (t.length % 136) (0#8 ^^^ f))[135] ^^^ 128#8)).toList = _
  generalize hQ : P.setIfInBounds (t.length % 136) (0#8 ^^^ f) = Q
  have hQl : Q.toList = t.drop (136 * (t.length / 136)) ++ f :: List.replicate (135 - t.length % 136) 0#8 := by
   rw [← hQ, ← vset, hPl, setAtS _ _ _ _ hr, BitVec.zero_xor]
  have hQx : Q[135] = if t.length % 136 = 135 then f else 0#8 := by
   have e1 : Q.toList[135]? = some Q[135] := by rw [Vector.getElem?_toList, Vector.getElem?_eq_getElem (by decide)]
   rw [hQl, List.getElem?_append_right (by omega), hr] at e1
   by_cases c : t.length % 136 = 135
   ·rw [if_pos c]
    rw [c] at e1
    exact (Zi e1).symm
   ·rw [if_neg c]
    obtain ⟨j, hj⟩ : ∃ j, 135 - t.length % 136 = j + 1 := ⟨135 - t.length % 136 - 1, by omega⟩
    rw [hj, List.getElem?_cons_succ, List.getElem?_replicate, if_pos (by omega)] at e1
    exact (Zi e1).symm
  have hf : f ^^^ 128#8 = f ||| 128#8 := by rcases hk with ⟨_, rfl⟩ | ⟨_, rfl⟩ <;> rfl
  have hx : Q[135] ^^^ 128#8 = (if t.length % 136 = 135 then f else 0#8) ||| 128#8 := by
   rw [hQx]
   split
   ·exact hf
   ·rfl
  rw [hx, ← vset, hQl]
  unfold padB
  rw [hr]
 dsimp only
 rw [h1, h2, h.lanes]
 rfl
theorem digest_loop_eq (a : List (List (BitVec 8))) : ∀ (d i k : Nat) (w : Sponge) (t : List (BitVec 8)), i + d = a.length → d < k → Took w t → 0 ≤ w.long → w.long + (((a.drop i).flatten.length : Nat) : Int) ≤ 9223372036854775807 → ∃ w', keccak_digest.l1 a k i w = some w' ∧ Took w' (t ++ (a.drop i).flatten) ∧ w'.kind = w.kind
 | 0, i, k, w, t, h, hk, ht, h0, hl => by
  obtain ⟨k, rfl⟩ : ∃ m, k = m + 1 := ⟨k - 1, by omega⟩
  refine ⟨w, by rw [keccak_digest.l1, if_neg (by omega)], ?_, rfl⟩
  rw [List.drop_eq_nil_of_le (by omega), List.flatten_nil, List.append_nil]
  exact ht
 | d + 1, i, k, w, t, h, hk, ht, h0, hl => by
  obtain ⟨k, rfl⟩ : ∃ m, k = m + 1 := ⟨k - 1, by omega⟩
  have h1 : i < a.length := by omega
  rw [List.drop_eq_getElem_cons h1, List.flatten_cons, List.length_append] at hl
  obtain ⟨s', e1, e2, e3, e4⟩ := write_took w t a[i] ht ⟨by omega, by omega⟩
  obtain ⟨w', f1, f2, f3⟩ := digest_loop_eq a d (i + 1) k s' (t ++ a[i]) (by omega) (by omega) e2 (by omega) (by omega)
  refine ⟨w', by rw [keccak_digest.l1, if_pos h1, List.getElem?_eq_getElem h1, Zb, e1, Zb, f1], ?_, f3.trans e3⟩
  rw [List.drop_eq_getElem_cons h1, List.flatten_cons, ← List.append_assoc]
  exact f2
theorem took_zero (k : Int) : Took (⟨k, Vector.replicate 25 0#64, Vector.replicate 136 0#8, 0, 0⟩ : Sponge) [] := ⟨rfl, rfl, by rw [List.length_nil]; rfl⟩
theorem digest_eq (k : Int) (a : List (List (BitVec 8))) (f : BitVec 8) (hk : (k = 0 ∧ f = 1#8) ∨ (k = 1 ∧ f = 6#8)) (hl : a.flatten.length ≤ 9223372036854775807) : keccak_digest k a = some (digestR a.flatten f) := by
 unfold keccak_digest
 obtain ⟨w, e1, e2, e3⟩ := digest_loop_eq a a.length 0 (a.length - 0 + 2) (⟨k, Vector.replicate 25 0#64, Vector.replicate 136 0#8, 0, 0⟩ : Sponge) [] (by omega) (by omega) (took_zero k) (by show (0 : Int) ≤ 0; omega) (by rw [List.drop_zero]; show (0 : Int) + _ ≤ _; omega)
 rw [List.drop_zero, List.nil_append] at e2
 have e1' : keccak_digest.l1 a (a.length - 0 + 2) 0 ({ (⟨0, (Vector.replicate 25 0#64), (Vector.replicate 136 0#8), 0, 0⟩ : Sponge) with kind := k } : Sponge) = some w := e1
 rw [e1', Zb, ssum_eq w a.flatten e2 f (by rw [e3]; exact hk), Zb]
theorem ksum_eq (a : List (List (BitVec 8))) (hl : a.flatten.length ≤ 9223372036854775807) : keccak_Sum a = some (digestR a.flatten 1#8) := by
 unfold keccak_Sum
 rw [digest_eq 0 a 1#8 (.inl ⟨rfl, rfl⟩) hl, Zb]
end Go.Fw
namespace Go.Fw
theorem filled_loop : ∀ (d k : Nat) (l : List (BitVec 8)), (l.length + d) % 136 = 0 → d < 136 → d < k → l.length + d ≤ 140737488355328 → waybillref02_filled.l1 k l = some (l ++ List.replicate d 0#8)
 | 0, k, l, h, hd, hk, hb => by
  obtain ⟨k, rfl⟩ : ∃ m, k = m + 1 := ⟨k - 1, by omega⟩
  rw [waybillref02_filled.l1, if_pos (by omega)]
  simp
 | d + 1, k, l, h, hd, hk, hb => by
  obtain ⟨k, rfl⟩ : ∃ m, k = m + 1 := ⟨k - 1, by omega⟩
  rw [waybillref02_filled.l1, if_neg (by omega), if_pos (by simp; omega), filled_loop d k _ (by simp; omega) (by omega) (by omega) (by simp; omega), List.append_assoc, List.replicate_succ]
  rfl
theorem padB_len (r : List (BitVec 8)) (f : BitVec 8) (h : r.length ≤ 135) : (padB r f).length = 136 := by unfold padB; simp; omega
theorem filled_eq (t : List (BitVec 8)) (f : BitVec 8) (ht : t.length + 137 ≤ 140737488355328) : waybillref02_filled t f = some (t.take (136 * (t.length / 136)) ++ padB (t.drop (136 * (t.length / 136))) f) := by
 have hm : t.length % 136 < 136 := Nat.mod_lt _ (by decide)
 have hq : t.length = 136 * (t.length / 136) + t.length % 136 := (Nat.div_add_mod _ _).symm
 have hr : (t.drop (136 * (t.length / 136))).length = t.length % 136 := by rw [List.length_drop]; omega
 have hlen : (t ++ [f]).length = t.length + 1 := by simp
 unfold waybillref02_filled
 rw [if_pos (by simp; omega), filled_loop (135 - t.length % 136) 140 (t ++ [f]) (by omega) (by omega) (by omega) (by omega), Zb]
 have hL : t ++ [f] ++ List.replicate (135 - t.length % 136) 0#8 = t.take (136 * (t.length / 136)) ++ (t.drop (136 * (t.length / 136)) ++ f :: List.replicate (135 - t.length % 136) 0#8) := by
  rw [← List.append_assoc, List.take_append_drop, List.append_assoc]
  rfl
 have hLl : (t ++ [f] ++ List.replicate (135 - t.length % 136) 0#8).length = 136 * (t.length / 136) + 136 := by simp; omega
 have hi : ((((t ++ [f] ++ List.replicate (135 - t.length % 136) 0#8).length : Nat) : Int) - (1 : Int)).toNat = 136 * (t.length / 136) + 135 := by rw [hLl]; omega
 have htk : (t.take (136 * (t.length / 136))).length = 136 * (t.length / 136) := by rw [List.length_take]; omega
 have hx : (t ++ [f] ++ List.replicate (135 - t.length % 136) 0#8)[136 * (t.length / 136) + 135]? = some (if t.length % 136 = 135 then f else 0#8) := by
  rw [hL, List.getElem?_append_right (by omega), htk, show 136 * (t.length / 136) + 135 - 136 * (t.length / 136) = 135 by omega, List.getElem?_append_right (by omega), hr]
  by_cases c : t.length % 136 = 135
  ·rw [if_pos c, c]; rfl
  ·rw [if_neg c]
   obtain ⟨j, hj⟩ : ∃ j, 135 - t.length % 136 = j + 1 := ⟨135 - t.length % 136 - 1, by omega⟩
   rw [hj, List.getElem?_cons_succ, List.getElem?_replicate, if_pos (by omega)]
 rw [if_pos (by omega), hi, hx, Zb, Zb, hL, List.set_append_right _ _ (by omega), htk, show 136 * (t.length / 136) + 135 - 136 * (t.length / 136) = 135 by omega]
 unfold padB
 rw [hr]
theorem rin_loop (F : List (BitVec 8)) (n : Nat) (hn : n + 136 ≤ F.length) : ∀ (d i k : Nat) (w : V25), i + d = 136 → d < k → waybillref02_Digest.l3 F n k i w = some (xin ((F.drop n).take 136) d i w)
 | 0, i, k, w, h, hk => by
  obtain ⟨k, rfl⟩ : ∃ m, k = m + 1 := ⟨k - 1, by omega⟩
  rw [waybillref02_Digest.l3, if_neg (by omega)]
  rfl
 | d + 1, i, k, w, h, hk => by
  obtain ⟨k, rfl⟩ : ∃ m, k = m + 1 := ⟨k - 1, by omega⟩
  have h2 : i / 8 < 25 := by omega
  have h3 : n + i < F.length := by omega
  have h4 : ((F.drop n).take 136)[i]? = some F[n + i] := by rw [List.getElem?_take, if_pos (by omega), List.getElem?_drop, List.getElem?_eq_getElem h3]
  have h5 : (BitVec.ofNat 64 (8 * (i % 8))).toNat = 8 * (i % 8) := by rw [BitVec.toNat_ofNat]; omega
  rw [waybillref02_Digest.l3, if_pos (by omega), if_pos h2, Vector.getElem?_eq_getElem h2, Zb, List.getElem?_eq_getElem h3, Zb, rin_loop F n hn d (i + 1) k _ (by omega) (by omega), h5]
  simp only [xin, h4, Vector.getElem?_eq_getElem h2, Option.getD_some]
theorem rblk_loop (F : List (BitVec 8)) : ∀ (d j k : Nat) (w : V25), 136 * (j + d) = F.length → d < k → waybillref02_Digest.l2 F k (136 * j) w = some (soak d (F.drop (136 * j)) w)
 | 0, j, k, w, h, hk => by
  obtain ⟨k, rfl⟩ : ∃ m, k = m + 1 := ⟨k - 1, by omega⟩
  rw [waybillref02_Digest.l2, if_neg (by omega)]
  rfl
 | d + 1, j, k, w, h, hk => by
  obtain ⟨k, rfl⟩ : ∃ m, k = m + 1 := ⟨k - 1, by omega⟩
  rw [waybillref02_Digest.l2, if_pos (by omega), rin_loop F _ (by omega) 136 0 (136 - 0 + 2) w (by omega) (by omega), Zb, perm_eq, Zb, show 136 * j + 136 = 136 * (j + 1) by omega, rblk_loop F d (j + 1) k _ (by omega) (by omega), soak, List.drop_drop, show 136 * j + 136 = 136 * (j + 1) by omega]
  rfl
theorem rsq_loop (x : V25) : ∀ (d i k : Nat) (w : Vector (BitVec 8) 32), i + d = 32 → d < k → waybillref02_Digest.l1 x k i w = some (sq x d i w)
 | 0, i, k, w, h, hk => by
  obtain ⟨k, rfl⟩ : ∃ m, k = m + 1 := ⟨k - 1, by omega⟩
  rw [waybillref02_Digest.l1, if_neg (by omega)]
  rfl
 | d + 1, i, k, w, h, hk => by
  obtain ⟨k, rfl⟩ : ∃ m, k = m + 1 := ⟨k - 1, by omega⟩
  have h2 : i / 8 < 25 := by omega
  have h5 : (BitVec.ofNat 64 (8 * (i % 8))).toNat = 8 * (i % 8) := by rw [BitVec.toNat_ofNat]; omega
  rw [waybillref02_Digest.l1, if_pos (by omega), if_pos h2, Vector.getElem?_eq_getElem h2, Zb, rsq_loop x d (i + 1) k _ (by omega) (by omega), h5]
  simp only [sq, Vector.getElem?_eq_getElem h2, Option.getD_some]
theorem rdigest_eq (t : List (BitVec 8)) (f : BitVec 8) (ht : t.length + 137 ≤ 140737488355328) : waybillref02_Digest t f = some (digestR t f) := by
 have hm : t.length % 136 < 136 := Nat.mod_lt _ (by decide)
 have hq : t.length = 136 * (t.length / 136) + t.length % 136 := (Nat.div_add_mod _ _).symm
 have hr : (t.drop (136 * (t.length / 136))).length = t.length % 136 := by rw [List.length_drop]; omega
 have htk : (t.take (136 * (t.length / 136))).length = 136 * (t.length / 136) := by rw [List.length_take]; omega
 have hp := padB_len (t.drop (136 * (t.length / 136))) f (by omega)
 unfold waybillref02_Digest
 rw [filled_eq t f ht, Zb]
 generalize hF : t.take (136 * (t.length / 136)) ++ padB (t.drop (136 * (t.length / 136))) f = F
 have hFl : F.length = 136 * (t.length / 136 + 1) := by rw [← hF, List.length_append, htk, hp]; omega
 have h2 := rblk_loop F (t.length / 136 + 1) 0 (F.length - 0 + 2) zeroV (by omega) (by omega)
 rw [Nat.mul_zero, List.drop_zero] at h2
 have h2' : waybillref02_Digest.l2 F (F.length - 0 + 2) 0 (Vector.replicate 25 0#64) = some (soak (t.length / 136 + 1) F zeroV) := h2
 rw [h2', Zb, rsq_loop _ 32 0 (32 - 0 + 2) _ (by omega) (by omega), Zb, soak_snoc]
 have h3 : (F.drop (136 * (t.length / 136))).take 136 = padB (t.drop (136 * (t.length / 136))) f := by
  rw [← hF, List.drop_left' htk, List.take_of_length_le (by omega)]
 have h4 : soak (t.length / 136) F zeroV = soak (t.length / 136) t zeroV := soak_congr _ _ _ _ (by rw [← hF, List.take_left' htk])
 rw [h3, h4]
 rfl
theorem joined_loop (a : List (List (BitVec 8))) : ∀ (d i k : Nat) (l : List (BitVec 8)), i + d = a.length → d < k → l.length + (a.drop i).flatten.length ≤ 140737488355328 → waybillref02_joined.l1 a k l i = some (l ++ (a.drop i).flatten)
 | 0, i, k, l, h, hk, hb => by
  obtain ⟨k, rfl⟩ : ∃ m, k = m + 1 := ⟨k - 1, by omega⟩
  rw [waybillref02_joined.l1, if_neg (by omega), List.drop_eq_nil_of_le (by omega)]
  simp
 | d + 1, i, k, l, h, hk, hb => by
  obtain ⟨k, rfl⟩ : ∃ m, k = m + 1 := ⟨k - 1, by omega⟩
  have h1 : i < a.length := by omega
  rw [List.drop_eq_getElem_cons h1, List.flatten_cons, List.length_append] at hb
  rw [waybillref02_joined.l1, if_pos h1, List.getElem?_eq_getElem h1, Zb, if_pos (by omega), joined_loop a d (i + 1) k _ (by omega) (by omega) (by rw [List.length_append]; omega), List.drop_eq_getElem_cons h1, List.flatten_cons, List.append_assoc]
theorem joined_eq (a : List (List (BitVec 8))) (hb : a.flatten.length ≤ 140737488355328) : waybillref02_joined a = some a.flatten := by
 unfold waybillref02_joined
 rw [joined_loop a a.length 0 (a.length - 0 + 2) [] (by omega) (by omega) (by rw [List.drop_zero, List.length_nil]; omega), Zb, List.drop_zero, List.nil_append]
theorem rsum_eq (a : List (List (BitVec 8))) (hb : a.flatten.length + 137 ≤ 140737488355328) : waybillref02_Sum a = some (digestR a.flatten 1#8) := by
 unfold waybillref02_Sum
 rw [joined_eq a (by omega), Zb, rdigest_eq _ _ hb, Zb]
end Go.Fw
namespace Go.Fw
theorem ssum_loop (x : Sponge) : ∀ (d i k : Nat) (w : Vector (BitVec 8) 32), i + d = 32 → d < k → ∃ w', keccak_Sponge_Sum.l1 x k i w = some w'
 | 0, i, k, w, h, hk => by
  obtain ⟨k, rfl⟩ : ∃ m, k = m + 1 := ⟨k - 1, by omega⟩
  exact ⟨w, by rw [keccak_Sponge_Sum.l1, if_neg (by omega)]⟩
 | d + 1, i, k, w, h, hk => by
  obtain ⟨k, rfl⟩ : ∃ m, k = m + 1 := ⟨k - 1, by omega⟩
  rw [keccak_Sponge_Sum.l1, if_pos (by omega), if_pos (by omega), Vector.getElem?_eq_getElem (by omega), Zb]
  exact ssum_loop x d (i + 1) k _ (by omega) (by omega)
theorem ssum_total (s : Sponge) (h0 : 0 ≤ s.held) (h1 : s.held < 136) (hk : s.kind = 0 ∨ s.kind = 1) : ∃ r, keccak_Sponge_Sum s = some r := by
 unfold keccak_Sponge_Sum
 rw [if_pos h0, if_pos (by omega)]
 dsimp only
 have hf : ∃ f, firstL[s.kind.toNat]? = some f := by
  rcases hk with e | e <;> rw [e]
  ·exact ⟨1#8, rfl⟩
  ·exact ⟨6#8, rfl⟩
 obtain ⟨f, hf⟩ := hf
 rw [if_pos h0, if_pos (by omega), Vector.getElem?_eq_getElem (by omega), Zb, if_pos (by omega), hf, Zb]
 generalize hS : (Sponge.mk _ _ _ _ _ : Sponge) = S
 obtain ⟨s', e1, _⟩ := absorb_total S
 rw [e1, Zb]
 obtain ⟨w', e2⟩ := ssum_loop s' 32 0 (32 - 0 + 2) (Vector.replicate 32 0#8) (by omega) (by omega)
 rw [e2, Zb]
 exact ⟨_, rfl⟩
theorem sum_total (t : List (BitVec 8)) (ht : t.length ≤ 140737488355328) : ∃ h, keccak_Sum [t] = some h := by
 unfold keccak_Sum keccak_digest
 obtain ⟨w, e1, e2, e3, e4, e5⟩ := write_total ({ (⟨0, (Vector.replicate 25 0#64), (Vector.replicate 136 0#8), 0, 0⟩ : Sponge) with kind := (0 : Int) } : Sponge) t (by show (0 : Int) ≤ 0; omega) (by show (0 : Int) < 136; omega) (by show -9223372036854775808 ≤ (0 : Int) + _ ∧ (0 : Int) + _ ≤ _; omega)
 have hl : keccak_digest.l1 [t] ([t].length - 0 + 2) 0 ({ (⟨0, (Vector.replicate 25 0#64), (Vector.replicate 136 0#8), 0, 0⟩ : Sponge) with kind := (0 : Int) } : Sponge) = some w := by
  show keccak_digest.l1 [t] (2 + 1) 0 _ = some w
  rw [keccak_digest.l1, if_pos (by simp)]
  show (some t).bind _ = _
  rw [Zb, e1, Zb, keccak_digest.l1, if_neg (by simp)]
 rw [hl, Zb]
 obtain ⟨⟨h, w'⟩, e6⟩ := ssum_total w e2 e3 (.inl e4)
 rw [e6, Zb]
 exact ⟨h, rfl⟩
theorem places_total (t : List (BitVec 8)) (ht : t.length ≤ 140737488355328) : ∃ p : Vector Int 3, bloom_Places t = some p ∧ ∀ (i : Nat) (h : i < 3), 0 ≤ p[i] ∧ p[i] < (2048 : Int) := by
 unfold bloom_Places
 obtain ⟨h, e⟩ := sum_total t ht
 rw [e, Zb]
 have loop : ∀ (d i k : Nat) (w : Vector Int 3), i + d = 3 → d < k → (∀ (j : Nat) (hj : j < 3), 0 ≤ w[j] ∧ w[j] < (2048 : Int)) → ∃ p, bloom_Places.l1 h k i w = some p ∧ ∀ (j : Nat) (hj : j < 3), 0 ≤ p[j] ∧ p[j] < (2048 : Int) := by
  intro d
  induction d with
  | zero =>
   intro i k w h1 h2 h3
   obtain ⟨k, rfl⟩ : ∃ m, k = m + 1 := ⟨k - 1, by omega⟩
   exact ⟨w, by rw [bloom_Places.l1, if_neg (by omega)], h3⟩
  | succ d ih =>
   intro i k w h1 h2 h3
   obtain ⟨k, rfl⟩ : ∃ m, k = m + 1 := ⟨k - 1, by omega⟩
   rw [bloom_Places.l1, if_pos (by omega), if_pos (by omega), Vector.getElem?_eq_getElem (by omega), Zb, if_pos (by omega), Vector.getElem?_eq_getElem (by omega), Zb]
   refine ih (i + 1) k _ (by omega) (by omega) fun j hj => ?_
   rw [Vector.getElem_setIfInBounds]
   split
   ·omega
   ·exact h3 j hj
 obtain ⟨p, e1, e2⟩ := loop 3 0 (3 - 0 + 2) (Vector.replicate 3 0) (by omega) (by omega) (by intro j hj; simp)
 rw [e1, Zb]
 exact ⟨p, rfl, e2⟩
end Go.Fw
namespace Go.Fw
def bitV (b : Vector (BitVec 8) 256) (k : Nat) : Bool := (b[255 - k / 8]'(by omega)).getLsbD (k % 8)
theorem place_eq (k : Nat) (hk : k < 2048) : ((255 : Int) - ((((k : Nat) : Int).toNat / 8 : Nat) : Int)).toNat = 255 - k / 8 := by omega
theorem set_eq (b : Vector (BitVec 8) 256) (j : Nat) (hj : j < 2048) : ∃ b', bloom_set b ((j : Nat) : Int) = some b' ∧ ∀ k, k < 2048 → bitV b' k = (bitV b k || decide (k = j)) := by
 unfold bloom_set
 rw [if_pos (by omega), if_pos (by omega), place_eq j hj, if_pos (by omega), Vector.getElem?_eq_getElem (by omega), Zb, Int.toNat_natCast]
 refine ⟨_, rfl, fun k hk => ?_⟩
 unfold bitV
 rw [Vector.getElem_setIfInBounds]
 by_cases h : 255 - j / 8 = 255 - k / 8
 ·rw [if_pos h, BitVec.getLsbD_or, BitVec.getLsbD_shiftLeft]
  have e : b[255 - j / 8] = b[255 - k / 8]'(by omega) := by congr 1
  rw [e]
  congr 1
  by_cases h2 : k = j
  ·subst h2
   have : k % 8 < 8 := by omega
   simp [this]
  ·have : k % 8 ≠ j % 8 := by omega
   rw [decide_eq_false h2]
   by_cases h3 : k % 8 < j % 8
   ·simp [h3]
   ·have : 0 < k % 8 - j % 8 := by omega
    have h4 : (1#8).getLsbD (k % 8 - j % 8) = false := by
     have : ∀ d, 0 < d → (1#8 : BitVec 8).getLsbD d = false := by
      intro d hd
      rw [BitVec.getLsbD_one]
      simp; omega
     exact this _ (by omega)
    rw [h4]; simp
 ·rw [if_neg h]
  have : k ≠ j := fun e => h (by rw [e])
  simp [this]
theorem zero_bits (k : Nat) : bitV (Vector.replicate 256 0#8) k = false := by unfold bitV; simp
def inP (p : Vector Int 3) (k : Nat) : Bool := decide (p[0] = (k : Int)) || decide (p[1] = (k : Int)) || decide (p[2] = (k : Int))
theorem add_eq (b : Vector (BitVec 8) 256) (t : List (BitVec 8)) (p : Vector Int 3) (hp : bloom_Places t = some p) (hr : ∀ (i : Nat) (h : i < 3), 0 ≤ p[i] ∧ p[i] < (2048 : Int)) : ∃ b', bloom_Add b t = some b' ∧ ∀ k, k < 2048 → bitV b' k = (bitV b k || inP p k) := by
 unfold bloom_Add
 rw [hp, Zb]
 have r0 := hr 0 (by omega)
 have r1 := hr 1 (by omega)
 have r2 := hr 2 (by omega)
 obtain ⟨a0, e0⟩ : ∃ n : Nat, p[0] = (n : Int) := ⟨p[0].toNat, by omega⟩
 obtain ⟨a1, e1⟩ : ∃ n : Nat, p[1] = (n : Int) := ⟨p[1].toNat, by omega⟩
 obtain ⟨a2, e2⟩ : ∃ n : Nat, p[2] = (n : Int) := ⟨p[2].toNat, by omega⟩
 rw [e0] at r0; rw [e1] at r1; rw [e2] at r2
 obtain ⟨b1, f1, g1⟩ := set_eq b a0 (by omega)
 obtain ⟨b2, f2, g2⟩ := set_eq b1 a1 (by omega)
 obtain ⟨b3, f3, g3⟩ := set_eq b2 a2 (by omega)
 have h : bloom_Add.l1 p (3 - 0 + 2) 0 b = some b3 := by
  show bloom_Add.l1 p (4 + 1) 0 b = _
  rw [bloom_Add.l1, if_pos (by omega), Vector.getElem?_eq_getElem (by omega), Zb, e0, if_pos (by omega), f1, Zb]
  rw [bloom_Add.l1, if_pos (by omega), Vector.getElem?_eq_getElem (by omega), Zb]
  show (if -9223372036854775808 ≤ p[1] ∧ p[1] ≤ 9223372036854775807 then (bloom_set b1 p[1]).bind _ else none) = _
  rw [e1, if_pos (by omega), f2, Zb]
  rw [bloom_Add.l1, if_pos (by omega), Vector.getElem?_eq_getElem (by omega), Zb]
  show (if -9223372036854775808 ≤ p[2] ∧ p[2] ≤ 9223372036854775807 then (bloom_set b2 p[2]).bind _ else none) = _
  rw [e2, if_pos (by omega), f3, Zb]
  rw [bloom_Add.l1, if_neg (by omega)]
 rw [h, Zb]
 refine ⟨b3, rfl, fun k hk => ?_⟩
 rw [g3 k hk, g2 k hk, g1 k hk]
 unfold inP
 rw [e0, e1, e2]
 have c : ∀ m : Nat, decide (k = m) = decide ((m : Int) = (k : Int)) := fun m => decide_eq_decide.2 (by omega)
 rw [c, c, c]
 cases bitV b k <;> cases decide ((a0 : Int) = (k : Int)) <;> cases decide ((a1 : Int) = (k : Int)) <;> cases decide ((a2 : Int) = (k : Int)) <;> rfl
end Go.Fw
namespace Go.Fw
def inT (t : List (BitVec 8)) (k : Nat) : Bool := match bloom_Places t with
 | some p => inP p k
 | none => false
def inL (l : List (List (BitVec 8))) (k : Nat) : Bool := l.any (fun t => inT t k)
theorem of_loop (a : List (List (BitVec 8))) (ha : ∀ t ∈ a, t.length ≤ 140737488355328) : ∀ (d i k : Nat) (w : Vector (BitVec 8) 256), i + d = a.length → d < k → (∀ q, q < 2048 → bitV w q = inL (a.take i) q) → ∃ w', bloom_Of.l1 a k i w = some w' ∧ ∀ q, q < 2048 → bitV w' q = inL a q
 | 0, i, k, w, h, hk, hw => by
  obtain ⟨k, rfl⟩ : ∃ m, k = m + 1 := ⟨k - 1, by omega⟩
  refine ⟨w, by rw [bloom_Of.l1, if_neg (by omega)], ?_⟩
  rwa [List.take_of_length_le (by omega)] at hw
 | d + 1, i, k, w, h, hk, hw => by
  obtain ⟨k, rfl⟩ : ∃ m, k = m + 1 := ⟨k - 1, by omega⟩
  have h1 : i < a.length := by omega
  obtain ⟨p, e1, e2⟩ := places_total a[i] (ha _ (List.getElem_mem h1))
  obtain ⟨b', f1, f2⟩ := add_eq w a[i] p e1 e2
  rw [bloom_Of.l1, if_pos h1, List.getElem?_eq_getElem h1, Zb, f1, Zb]
  refine of_loop a ha d (i + 1) k b' (by omega) (by omega) fun q hq => ?_
  rw [f2 q hq, hw q hq, List.take_add_one, List.getElem?_eq_getElem h1]
  unfold inL
  rw [List.any_append]
  simp [inT, e1]
theorem of_eq (a : List (List (BitVec 8))) (ha : ∀ t ∈ a, t.length ≤ 140737488355328) : ∃ b, bloom_Of a = some b ∧ (∀ q, q < 2048 → bitV b q = inL a q) ∧ (a = [] → b = Vector.replicate 256 0#8) := by
 unfold bloom_Of
 by_cases h0 : a = []
 ·subst h0
  refine ⟨Vector.replicate 256 0#8, rfl, fun q _ => by rw [zero_bits]; rfl, fun _ => rfl⟩
 ·obtain ⟨w, e1, e2⟩ := of_loop a ha a.length 0 (a.length - 0 + 2) (Vector.replicate 256 0#8) (by omega) (by omega) (fun q _ => by rw [zero_bits]; simp [inL])
  rw [e1, Zb]
  exact ⟨w, rfl, e2, fun h => absurd h h0⟩
end Go.Fw
namespace Go.Fw
theorem rpl_loop (x : Vector (BitVec 8) 32) : ∀ (k n : Nat) (w : Vector Int 3), waybillref10_Places.l1 x k n w = bloom_Places.l1 x k n w
 | 0, n, w => rfl
 | k + 1, n, w => by
  rw [waybillref10_Places.l1, bloom_Places.l1]
  simp only [rpl_loop x k]
theorem rplaces_eq (t : List (BitVec 8)) (ht : t.length + 137 ≤ 140737488355328) : waybillref10_Places t = bloom_Places t := by
 unfold waybillref10_Places bloom_Places
 rw [rsum_eq [t] (by simpa using ht), ksum_eq [t] (by simp; omega), Zb, Zb, rpl_loop]
theorem rset_eq (b : Vector (BitVec 8) 256) (a : Int) : waybillref10_set b a = bloom_set b a := by
 have h : (BitVec.ofNat 64 (a.toNat % 8)).toNat = a.toNat % 8 := by rw [BitVec.toNat_ofNat]; omega
 unfold waybillref10_set bloom_set
 rw [h]
theorem radd_eq (b : Vector (BitVec 8) 256) (t : List (BitVec 8)) (ht : t.length + 137 ≤ 140737488355328) : waybillref10_Add b t = bloom_Add b t := by
 obtain ⟨p, e1, e2⟩ := places_total t (by omega)
 have r0 := e2 0 (by omega)
 have r1 := e2 1 (by omega)
 have r2 := e2 2 (by omega)
 obtain ⟨n0, h0⟩ : ∃ n : Nat, p[0] = (n : Int) := ⟨p[0].toNat, by omega⟩
 obtain ⟨n1, h1⟩ : ∃ n : Nat, p[1] = (n : Int) := ⟨p[1].toNat, by omega⟩
 obtain ⟨n2, h2⟩ : ∃ n : Nat, p[2] = (n : Int) := ⟨p[2].toNat, by omega⟩
 obtain ⟨b0, f0, _⟩ := set_eq b n0 (by omega)
 obtain ⟨b1, f1, _⟩ := set_eq b0 n1 (by omega)
 obtain ⟨b2, f2, _⟩ := set_eq b1 n2 (by omega)
 unfold waybillref10_Add bloom_Add
 rw [rplaces_eq t ht, e1, Zb, Zb, if_pos (by omega), rset_eq, h0, f0, Zb, if_pos (by omega), rset_eq, h1, f1, Zb, if_pos (by omega), rset_eq, h2, f2, Zb]
 have g0 : p[0]? = some (n0 : Int) := by rw [Vector.getElem?_eq_getElem (by omega), h0]
 have g1 : p[0 + 1]? = some (n1 : Int) := by rw [Vector.getElem?_eq_getElem (by omega)]; exact congrArg some h1
 have g2 : p[0 + 1 + 1]? = some (n2 : Int) := by rw [Vector.getElem?_eq_getElem (by omega)]; exact congrArg some h2
 have hl : bloom_Add.l1 p (3 - 0 + 2) 0 b = some b2 := by
  show bloom_Add.l1 p (4 + 1) 0 b = some b2
  rw [bloom_Add.l1, if_pos (by omega), g0, Zb, if_pos (by omega), f0, Zb]
  show bloom_Add.l1 p (3 + 1) (0 + 1) b0 = some b2
  rw [bloom_Add.l1, if_pos (by omega), g1, Zb, if_pos (by omega), f1, Zb]
  show bloom_Add.l1 p (2 + 1) (0 + 1 + 1) b1 = some b2
  rw [bloom_Add.l1, if_pos (by omega), g2, Zb, if_pos (by omega), f2, Zb]
  show bloom_Add.l1 p (1 + 1) (0 + 1 + 1 + 1) b2 = some b2
  rw [bloom_Add.l1, if_neg (by omega)]
 rw [hl, Zb]
theorem rof_loop (a : List (List (BitVec 8))) (ha : ∀ t ∈ a, t.length + 137 ≤ 140737488355328) : ∀ (k n : Nat) (w : Vector (BitVec 8) 256), waybillref10_Of.l1 a k n w = bloom_Of.l1 a k n w
 | 0, n, w => rfl
 | k + 1, n, w => by
  rw [waybillref10_Of.l1, bloom_Of.l1]
  by_cases h : n < a.length
  ·rw [if_pos h, if_pos h, List.getElem?_eq_getElem h, Zb, Zb, radd_eq _ _ (ha _ (List.getElem_mem h))]
   simp only [rof_loop a ha k]
  ·rw [if_neg h, if_neg h]
end Go.Fw
namespace Go.Fw
def logT (x : Log) : List (List (BitVec 8)) := x.address.toList :: x.topics.map (·.toList)
def logsT (l : List Log) : List (List (BitVec 8)) := l.flatMap logT
theorem logT_len (x : Log) : (logT x).length = x.topics.length + 1 := by simp [logT]
theorem logsT_small {l : List Log} {t : List (BitVec 8)} (h : t ∈ logsT l) : t.length ≤ 32 := by
 obtain ⟨x, _, hx⟩ := List.mem_flatMap.1 h
 rcases List.mem_cons.1 hx with rfl | hx
 ·rw [Zv]; omega
 ·obtain ⟨y, _, rfl⟩ := List.mem_map.1 hx
  rw [Zv]; omega
theorem rbof_in (a : List Log) (n : Nat) (x : Log) (hx : a[n]? = some x) : ∀ (d i k : Nat) (l : List (List (BitVec 8))), i + d = x.topics.length → d < k → (l.length + d) * 24 ≤ 140737488355328 → receipt_BloomOf.l2 a n x k l i = some (l ++ (x.topics.drop i).map (·.toList))
 | 0, i, k, l, h, hk, hb => by
  obtain ⟨k, rfl⟩ : ∃ m, k = m + 1 := ⟨k - 1, by omega⟩
  rw [receipt_BloomOf.l2, if_neg (by omega), List.drop_eq_nil_of_le (by omega), List.map_nil, List.append_nil]
 | d + 1, i, k, l, h, hk, hb => by
  obtain ⟨k, rfl⟩ : ∃ m, k = m + 1 := ⟨k - 1, by omega⟩
  have h1 : i < x.topics.length := by omega
  rw [receipt_BloomOf.l2, if_pos h1, hx, Zb, List.getElem?_eq_getElem h1, Zb, if_pos (by simp; omega), rbof_in a n x hx d (i + 1) k _ (by omega) (by omega) (by simp; omega), List.append_assoc, List.singleton_append, List.drop_eq_getElem_cons h1, List.map_cons]
theorem rbof_out (a : List Log) : ∀ (d i k : Nat) (l : List (List (BitVec 8))), i + d = a.length → d < k → (l.length + (logsT (a.drop i)).length) * 24 ≤ 140737488355328 → receipt_BloomOf.l1 a k l i = some (l ++ logsT (a.drop i))
 | 0, i, k, l, h, hk, hb => by
  obtain ⟨k, rfl⟩ : ∃ m, k = m + 1 := ⟨k - 1, by omega⟩
  rw [receipt_BloomOf.l1, if_neg (by omega), List.drop_eq_nil_of_le (by omega)]
  simp [logsT]
 | d + 1, i, k, l, h, hk, hb => by
  obtain ⟨k, rfl⟩ : ∃ m, k = m + 1 := ⟨k - 1, by omega⟩
  have h1 : i < a.length := by omega
  have hx : a[i]? = some a[i] := List.getElem?_eq_getElem h1
  have hs : logsT (a.drop i) = logT a[i] ++ logsT (a.drop (i + 1)) := by rw [List.drop_eq_getElem_cons h1, logsT, List.flatMap_cons]; rfl
  rw [hs, List.length_append, logT_len] at hb
  rw [receipt_BloomOf.l1, if_pos h1, hx, Zb, if_pos (by simp; omega), Zb, rbof_in a i _ hx _ 0 _ _ (Nat.zero_add _) (by omega) (by simp; omega), Zb, rbof_out a d (i + 1) k _ (by omega) (by omega) (by simp; omega), hs, List.drop_zero]
  simp [logT]
theorem rbof_eq (a : List Log) (hb : (logsT a).length * 24 ≤ 140737488355328) : receipt_BloomOf a = bloom_Of (logsT a) := by
 unfold receipt_BloomOf
 rw [rbof_out a a.length 0 (a.length - 0 + 2) [] (by omega) (by omega) (by simpa using hb), Zb, List.drop_zero, List.nil_append]
 cases bloom_Of (logsT a) <;> rfl
theorem rbof_bits (a : List Log) (hb : (logsT a).length * 24 ≤ 140737488355328) : ∃ b, receipt_BloomOf a = some b ∧ (∀ q, q < 2048 → bitV b q = inL (logsT a) q) ∧ (logsT a = [] → b = Vector.replicate 256 0#8) := by
 rw [rbof_eq a hb]
 exact of_eq (logsT a) (fun t ht => by have := logsT_small ht; omega)
end Go.Fw
namespace Go.Fw
def isT (x : It) : Bool := !x.list && decide (x.items.length = 0)
def isL (x : It) : Bool := x.list && decide (x.data.length = 0)
theorem isT_iff {x : It} : isT x = true ↔ x = It.mk false x.data [] := by
 obtain ⟨l, d, it⟩ := x
 cases l <;> simp [isT, It.list, It.data, It.items]
theorem isL_iff {x : It} : isL x = true ↔ x = It.mk true [] x.items := by
 obtain ⟨l, d, it⟩ := x
 cases l <;> simp [isL, It.list, It.data, It.items]
theorem kind_spec (x : It) : (∃ e, rlp_kind x false = some e ∧ (e = 0 ↔ isT x = true)) ∧ ∃ e, rlp_kind x true = some e ∧ (e = 0 ↔ isL x = true) := by
 obtain ⟨l, d, it⟩ := x
 unfold rlp_kind rlp_odd isT isL
 cases l
 ·cases it with
  | nil => refine ⟨⟨0, ?_, ?_⟩, ⟨75, ?_, ?_⟩⟩ <;> simp [It.list, It.data, It.items]
  | cons a it => refine ⟨⟨78, ?_, ?_⟩, ⟨78, ?_, ?_⟩⟩ <;> simp [It.list, It.data, It.items]
 ·cases d with
  | nil => refine ⟨⟨75, ?_, ?_⟩, ⟨0, ?_, ?_⟩⟩ <;> simp [It.list, It.data, It.items]
  | cons a d => refine ⟨⟨78, ?_, ?_⟩, ⟨78, ?_, ?_⟩⟩ <;> simp [It.list, It.data, It.items]
theorem Z144 (r : Rdr) (x : It) (n : Int) : waybill_receipt_reader_text r x n = some (if r.err = 0 then if isT x = true ∧ (n < 0 ∨ (x.data.length : Int) = n) then (x.data, r) else ([], ⟨172⟩) else ([], r)) := by
 unfold waybill_receipt_reader_text
 by_cases h0 : r.err = 0
 ·rw [if_pos h0, if_pos h0]
  obtain ⟨⟨e, h1, h2⟩, _⟩ := kind_spec x
  unfold rlp_GetText
  rw [h1, Zb]
  by_cases he : e = 0
  ·have ht := h2.1 he
   subst he
   rw [if_pos rfl, rlp_clone, Zb, Zb]
   dsimp only
   rw [if_pos rfl]
   by_cases hn : (0 : Int) ≤ n
   ·rw [if_pos hn, Zb]
    by_cases hl : (x.data.length : Int) = n
    ·rw [if_neg (by simp [hl]), if_pos ⟨ht, .inr hl⟩]
    ·rw [if_pos (by simp [hl]), if_neg (fun h => h.2.elim (fun h => by omega) hl), refuse_eq, Zb, if_pos h0]
   ·rw [if_neg hn, Zb, if_neg (by decide), if_pos ⟨ht, .inl (by omega)⟩]
  ·rw [if_neg he, Zb]
   dsimp only
   rw [if_neg he, Zb, if_pos rfl, if_neg (fun h => he (h2.2 h.1)), refuse_eq, Zb, if_pos h0]
 ·rw [if_neg h0, if_neg h0]
theorem list_spec (r : Rdr) (x : It) (hw : Its.wt x.items ≤ 2147483647) : waybill_receipt_reader_list r x = some (if r.err = 0 then if isL x = true then (x.items, r) else ([], ⟨172⟩) else ([], r)) := by
 unfold waybill_receipt_reader_list
 by_cases h0 : r.err = 0
 ·rw [if_pos h0, if_pos h0]
  obtain ⟨_, ⟨e, h1, h2⟩⟩ := kind_spec x
  unfold rlp_GetList
  rw [h1, Zb]
  by_cases he : e = 0
  ·have ht := h2.1 he
   subst he
   rw [if_pos rfl, twin_eq hw, Zb, Zb]
   dsimp only
   rw [if_pos rfl, Zb, if_pos ht]
  ·rw [if_neg he, Zb]
   dsimp only
   rw [if_neg he, refuse_eq, Zb, Zb, if_neg (fun h => he (h2.2 h)), if_pos h0]
 ·rw [if_neg h0, if_neg h0]
def tIt (d : List (BitVec 8)) : It := It.mk false d []
theorem isT_tIt (d : List (BitVec 8)) : isT (tIt d) = true := by simp [isT, tIt, It.list, It.items]
theorem toVec_full {n : Nat} {l : List (BitVec 8)} (h : l.length = n) : ∃ v : Vector (BitVec 8) n, toVec n l = some v ∧ v.toList = l := by
 obtain ⟨x, hx⟩ := toVec_some (n := n) (l := l) (by omega)
 refine ⟨x, hx, ?_⟩
 rw [(toVec_list hx).1, List.take_of_length_le (by omega)]
theorem topicsF_bad : ∀ (its : List It) (r : Rdr) (l : List (Vector (BitVec 8) 32)), r.err ≠ 0 → rtopicsF r l its = some (l, r)
 | [], r, l, h => rfl
 | it :: its, r, l, h => by
  rw [rtopicsF, Z144, if_neg h, Zb]
  dsimp only
  rw [if_neg h]
  exact topicsF_bad its r l h
theorem topicsF_char : ∀ (its : List It) (l : List (Vector (BitVec 8) 32)), (l.length + its.length) * 32 ≤ 140737488355328 →
  ∃ ts r, rtopicsF ⟨0⟩ l its = some (ts, r) ∧ ((r = ⟨0⟩ ∧ ∃ hs, ts = l ++ hs ∧ its = hs.map (fun h => tIt h.toList)) ∨ (r = ⟨172⟩ ∧ ¬ ∃ hs : List (Vector (BitVec 8) 32), its = hs.map (fun h => tIt h.toList)))
 | [], l, h => ⟨l, ⟨0⟩, rfl, .inl ⟨rfl, [], by simp, rfl⟩⟩
 | it :: its, l, h => by
  rw [List.length_cons] at h
  rw [rtopicsF, Z144, if_pos rfl, Zb]
  by_cases hc : isT it = true ∧ ((32 : Int) < 0 ∨ (it.data.length : Int) = 32)
  ·rw [if_pos hc]
   dsimp only
   rw [if_pos rfl, if_pos (by omega)]
   obtain ⟨v, hv, hvl⟩ := toVec_full (n := 32) (l := it.data) (by omega)
   rw [hv, Zb]
   have e1 : it = tIt v.toList := by rw [hvl]; exact isT_iff.1 hc.1
   obtain ⟨ts, r, h1, h2⟩ := topicsF_char its (l ++ [v]) (by rw [List.length_append, List.length_singleton]; omega)
   refine ⟨ts, r, h1, ?_⟩
   rcases h2 with ⟨h3, hs, h4, h5⟩ | ⟨h3, h4⟩
   ·exact .inl ⟨h3, v :: hs, by rw [h4]; simp, by rw [List.map_cons, ← h5, ← e1]⟩
   ·refine .inr ⟨h3, fun ⟨hs, h5⟩ => h4 ?_⟩
    cases hs with
    | nil => cases h5
    | cons x hs => rw [List.map_cons] at h5; exact ⟨hs, (List.cons.inj h5).2⟩
  ·rw [if_neg hc]
   dsimp only
   rw [if_neg (by decide), topicsF_bad _ _ _ (by decide)]
   refine ⟨_, _, rfl, .inr ⟨rfl, fun ⟨hs, h5⟩ => hc ?_⟩⟩
   cases hs with
   | nil => cases h5
   | cons x hs =>
    rw [List.map_cons] at h5
    rw [(List.cons.inj h5).1]
    exact ⟨isT_tIt _, .inr (by show ((x.toList.length : Nat) : Int) = 32; rw [Zv]; rfl)⟩
def logIt (x : Log) : It := It.mk true [] [tIt x.address.toList, It.mk true [] (x.topics.map fun h => tIt h.toList), tIt x.data]
theorem tIt_inj {a b : List (BitVec 8)} (h : tIt a = tIt b) : a = b := by injection h
theorem map_tIt_inj {n : Nat} : ∀ {a b : List (Vector (BitVec 8) n)}, a.map (fun h => tIt h.toList) = b.map (fun h => tIt h.toList) → a = b
 | [], [], _ => rfl
 | [], _ :: _, h => by cases h
 | _ :: _, [], h => by cases h
 | x :: a, y :: b, h => by
  rw [List.map_cons, List.map_cons] at h
  obtain ⟨h1, h2⟩ := List.cons.inj h
  rw [Vector.toList_inj.1 (tIt_inj h1), map_tIt_inj h2]
theorem logIt_inj {a b : Log} (h : logIt a = logIt b) : a = b := by
 obtain ⟨a1, a2, a3⟩ := a
 obtain ⟨b1, b2, b3⟩ := b
 unfold logIt at h
 injection h with _ _ h
 obtain ⟨h1, h⟩ := List.cons.inj h
 obtain ⟨h2, h⟩ := List.cons.inj h
 obtain ⟨h3, _⟩ := List.cons.inj h
 injection h2 with _ _ h2
 have e1 : a1 = b1 := Vector.toList_inj.1 (tIt_inj h1)
 have e2 : a2 = b2 := map_tIt_inj h2
 have e3 : a3 = b3 := tIt_inj h3
 rw [e1, e2, e3]
def IsLog (it : It) (x : Log) : Prop := it = logIt x ∧ x.topics.length ≤ 4
theorem wt_item {l : List It} {i : Nat} {x : It} (h : l[i]? = some x) : It.wt x ≤ Its.wt l := Its.wt_mem (List.mem_of_getElem? h)
theorem parselog_char (it : It) (hw : it.wt ≤ 2147483647) : ∃ x e, receipt_ParseLog it = some (x, e) ∧ ((e = 0 ∧ IsLog it x) ∨ (e ≠ 0 ∧ x = Log.zero ∧ ∀ y, ¬ IsLog it y)) := by
 have hwt := It.wt_eq it
 unfold receipt_ParseLog
 rw [list_spec _ _ (by omega), if_pos rfl, Zb]
 by_cases hL : isL it = true
 ·rw [if_pos hL]
  dsimp only
  have eit := isL_iff.1 hL
  by_cases h3 : it.items.length = 3
  ·rw [if_pos ⟨rfl, h3⟩]
   obtain ⟨x0, x1, x2, hi⟩ : ∃ x0 x1 x2, it.items = [x0, x1, x2] := by
    match h : it.items, h3 with
    | [a, b, c], _ => exact ⟨a, b, c, rfl⟩
   rw [hi] at hwt ⊢
   have w1 : Its.wt x1.items ≤ 2147483647 := by
    have h1 := It.wt_eq x1
    have h2 := Its.wt_mem (l := [x0, x1, x2]) (x := x1) (by simp)
    omega
   simp only [List.getElem?_cons_zero, List.getElem?_cons_succ, Zb]
   rw [Z144, if_pos rfl, Zb]
   have notlog : ∀ y, IsLog it y → x0 = tIt y.address.toList ∧ x1 = It.mk true [] (y.topics.map fun h => tIt h.toList) ∧ x2 = tIt y.data ∧ y.topics.length ≤ 4 := fun y ⟨h1, h2⟩ => by
    have h5 : it.items = (logIt y).items := by rw [h1]
    rw [hi] at h5
    have h6 : [x0, x1, x2] = [tIt y.address.toList, It.mk true [] (y.topics.map fun h => tIt h.toList), tIt y.data] := h5
    simp only [List.cons.injEq, and_true] at h6
    exact ⟨h6.1, h6.2.1, h6.2.2, h2⟩
   by_cases hc0 : isT x0 = true ∧ ((20 : Int) < 0 ∨ (x0.data.length : Int) = 20)
   ·rw [if_pos hc0]
    dsimp only
    rw [if_pos rfl]
    obtain ⟨ad, had, hadl⟩ := toVec_full (n := 20) (l := x0.data) (by omega)
    rw [had, Zb]
    unfold rtopics
    rw [list_spec _ _ w1, if_pos rfl, Zb]
    have e0 : x0 = tIt ad.toList := by rw [hadl]; exact isT_iff.1 hc0.1
    by_cases hL1 : isL x1 = true
    ·rw [if_pos hL1]
     dsimp only
     have hlen : x1.items.length ≤ 2147483647 := Nat.le_trans (Its.len_wt _) w1
     obtain ⟨ts, r, h1, h2⟩ := topicsF_char x1.items [] (by simp; omega)
     rw [h1, Zb]
     dsimp only
     rcases h2 with ⟨rfl, hs, h4, h5⟩ | ⟨rfl, h4⟩
     ·rw [List.nil_append] at h4
      subst h4
      rw [Z144, if_pos rfl, Zb]
      by_cases hc2 : isT x2 = true
      ·rw [if_pos (show isT x2 = true ∧ ((-1 : Int) < 0 ∨ (x2.data.length : Int) = -1) from ⟨hc2, .inl (by decide)⟩)]
       dsimp only
       rw [if_pos rfl]
       have e2 := isT_iff.1 hc2
       have e1 : x1 = It.mk true [] (ts.map fun h => tIt h.toList) := by rw [← h5]; exact isL_iff.1 hL1
       have elog : it = logIt ⟨ad, ts, x2.data⟩ := by
        rw [eit, hi, e0, e1]
        show It.mk true [] [tIt ad.toList, It.mk true [] _, x2] = It.mk true [] [tIt ad.toList, It.mk true [] _, tIt x2.data]
        rw [show tIt x2.data = x2 from e2.symm]
       by_cases h4 : 4 < ts.length
       ·rw [if_pos h4]
        refine ⟨_, _, rfl, .inr ⟨by decide, rfl, fun y hy => ?_⟩⟩
        have := logIt_inj (elog.symm.trans hy.1)
        have h6 := hy.2
        rw [← this] at h6
        exact absurd h6 (by show ¬ ts.length ≤ 4; omega)
       ·rw [if_neg h4]
        exact ⟨_, _, rfl, .inl ⟨rfl, elog, by show ts.length ≤ 4; omega⟩⟩
      ·rw [if_neg (show ¬ (isT x2 = true ∧ ((-1 : Int) < 0 ∨ (x2.data.length : Int) = -1)) from fun h => hc2 h.1)]
       dsimp only
       rw [if_neg (by decide)]
       exact ⟨_, _, rfl, .inr ⟨by decide, rfl, fun y hy => hc2 (by rw [(notlog y hy).2.2.1]; exact isT_tIt _)⟩⟩
     ·rw [Z144, if_neg (by decide), Zb]
      dsimp only
      rw [if_neg (by decide)]
      exact ⟨_, _, rfl, .inr ⟨by decide, rfl, fun y hy => h4 ⟨y.topics, by rw [(notlog y hy).2.1]; rfl⟩⟩⟩
    ·rw [if_neg hL1]
     dsimp only
     rw [rtopicsF, Zb]
     dsimp only
     rw [Z144, if_neg (by decide), Zb]
     dsimp only
     rw [if_neg (by decide)]
     exact ⟨_, _, rfl, .inr ⟨by decide, rfl, fun y hy => hL1 (by rw [(notlog y hy).2.1]; rfl)⟩⟩
   ·rw [if_neg hc0]
    dsimp only
    rw [if_neg (by decide), Zb]
    unfold rtopics
    rw [list_spec _ _ w1, if_neg (by decide), Zb]
    dsimp only
    rw [rtopicsF, Zb]
    dsimp only
    rw [Z144, if_neg (by decide), Zb]
    dsimp only
    rw [if_neg (by decide)]
    exact ⟨_, _, rfl, .inr ⟨by decide, rfl, fun y hy => hc0 (by rw [(notlog y hy).1]; exact ⟨isT_tIt _, .inr (by show ((y.address.toList.length : Nat) : Int) = 20; rw [Zv]; rfl)⟩)⟩⟩
  ·rw [if_neg (fun h => h3 h.2)]
   exact ⟨_, _, rfl, .inr ⟨by decide, rfl, fun y hy => h3 (by rw [hy.1]; rfl)⟩⟩
 ·rw [if_neg hL]
  dsimp only
  rw [if_neg (fun h => absurd h.1 (by decide))]
  exact ⟨_, _, rfl, .inr ⟨by decide, rfl, fun y hy => hL (by rw [hy.1]; rfl)⟩⟩
end Go.Fw
namespace Go.Fw
theorem parse_enc_big : ∀ k, (∀ (d : Nat) (x : It) (r : List (BitVec 8)), 2 * x.enc.length + 1 ≤ k → x.good → x.dep + d ≤ 1024 → x.w9 ≤ 1099511627776 → x.enc.length ≤ 16777216 → parse k d (x.enc ++ r) = (0, x, r)) ∧
  (∀ (d : Nat) (l : List It) (acc : List It), 2 * (Its.enc l).length + 2 ≤ k → Its.good l → Its.dep l + d ≤ 1024 → Its.w9 l ≤ 1099511627776 → (Its.enc l).length ≤ 16777216 → plist k d (Its.enc l) acc = (0, acc ++ l)) := by
 intro k
 induction k with
 | zero => exact ⟨fun d x r h => by omega, fun d l acc h => by omega⟩
 | succ k ih =>
  obtain ⟨ihA, ihB⟩ := ih
  refine ⟨?_, ?_⟩
  ·intro d x r hk hg hd hw hn
   have hw' := It.w9_eq x
   obtain ⟨g1, g2, g3⟩ := (It.good_eq x).1 hg
   have hdep := It.dep_eq x
   rw [It.enc_eq] at hk hn ⊢
   by_cases hl : x.list = true
   ·rw [if_pos hl] at hk hn hdep ⊢
    rw [List.length_append] at hk hn
    have hc := cut_head (c := 192) (.inr rfl) (Its.enc x.items) r (by omega) (fun h => by omega)
    have hh := headB_length (c := 192) (n := (Its.enc x.items).length) (by omega)
    have hpay : ((headB 192 (Its.enc x.items).length ++ Its.enc x.items ++ r).drop (headB 192 (Its.enc x.items).length).length).take (Its.enc x.items).length = Its.enc x.items := by
     rw [List.append_assoc, List.drop_left' rfl, List.take_left' rfl]
    have hrest : (headB 192 (Its.enc x.items).length ++ Its.enc x.items ++ r).drop ((headB 192 (Its.enc x.items).length).length + (Its.enc x.items).length) = r := by
     rw [← List.length_append, List.drop_left' rfl]
    rw [parse_list hc, if_neg (by omega), hpay, hrest, ihB (d + 1) x.items [] (by omega) g3 (by omega) (by omega) (by omega)]
    dsimp only
    rw [if_pos rfl, List.nil_append, It.eta x, hl, g1 hl]
    rfl
   ·rw [if_neg hl] at hk hn ⊢
    have hl' : x.list = false := by simpa using hl
    have hx : It.mk false x.data [] = x := by
     have := It.eta x
     rw [hl', g2 hl'] at this
     exact this.symm
    by_cases ho : oneB x.data = true
    ·rw [if_pos ho]
     obtain ⟨h1, h2⟩ := oneB_len ho
     obtain ⟨c, hc⟩ : ∃ c, x.data = [c] := List.length_eq_one_iff.1 h1
     have h3 : c.toNat < 128 := by rw [hc] at h2; simpa [small] using h2
     have hcut : cutS ([c] ++ r) = (0, false, 0, 1) := by
      unfold cutS
      show (if c.toNat < 128 then _ else _) = _
      rw [if_pos h3]
     rw [hc] at hx ⊢
     rw [parse_text hcut]
     show (0, It.mk false [c] [], r) = _
     rw [hx]
    ·rw [if_neg ho] at hn ⊢
     rw [List.length_append] at hn
     have hc := cut_head (c := 128) (.inl rfl) x.data r (by omega) (fun _ h => oneB_small ho h)
     have hpay : ((headB 128 x.data.length ++ x.data ++ r).drop (headB 128 x.data.length).length).take x.data.length = x.data := by
      rw [List.append_assoc, List.drop_left' rfl, List.take_left' rfl]
     have hrest : (headB 128 x.data.length ++ x.data ++ r).drop ((headB 128 x.data.length).length + x.data.length) = r := by
      rw [← List.length_append, List.drop_left' rfl]
     rw [parse_text hc, hpay, hrest, hx]
  ·intro d l acc hk hg hd hw hn
   cases l with
   | nil => rw [Its.enc, plist_nil, List.append_nil]
   | cons x l =>
    rw [Its.enc, List.length_append] at hk hn
    rw [Its.good] at hg
    rw [Its.dep] at hd
    rw [Its.w9] at hw
    have hx := It.enc_le x (by omega)
    rw [Its.enc, plist_cons (by rw [List.length_append]; omega), ihA d x (Its.enc l) (by omega) hg.1 (by omega) (by omega) (by omega)]
    dsimp only
    rw [if_pos rfl, ihB d l (acc ++ [x]) (by omega) hg.2 (by omega) (by omega) (by omega), List.append_assoc]
    rfl
theorem decode_enc_big {x : It} (hg : x.good) (hd : x.dep ≤ 1024) (hw : x.w9 ≤ 1099511627776) (hn : x.enc.length ≤ 16777216) : decodeR x.enc = (x, 0) := by
 have h := (parse_enc_big (2 * x.enc.length + 1)).1 0 x [] (by omega) hg (by omega) hw hn
 rw [List.append_nil] at h
 unfold decodeR
 rw [if_neg (by omega), h]
 rfl
theorem enc_list_head {x : It} (hl : x.list = true) (hn : x.enc.length ≤ 16777216) : ∃ b, x.enc[0]? = some b ∧ 192 ≤ b.toNat := by
 rw [It.enc_eq, if_pos hl] at hn ⊢
 rw [List.length_append] at hn
 generalize hm : (Its.enc x.items).length = m at hn ⊢
 unfold headB at hn ⊢
 split
 ·rename_i h
  refine ⟨_, rfl, ?_⟩
  rw [nat8 (by omega)]; omega
 ·rename_i h
  rw [if_neg h] at hn
  refine ⟨_, rfl, ?_⟩
  have h1 : nb m ≤ 4 := by
   have := bl_le (n := m) (k := 32) (by simp at hn; omega)
   unfold nb; omega
  rw [nat8 (by omega)]
  omega
end Go.Fw
namespace Go.Fw
def smallIt (x : BitVec 64) : It := tIt (bytesN x.toNat)
theorem small_char (x : It) : ∃ v e, rlp_GetSmall x = some (v, e) ∧ ((e = 0 ∧ x = smallIt v) ∨ (e ≠ 0 ∧ ∀ y, x ≠ smallIt y)) := by
 unfold rlp_GetSmall rlp_number
 obtain ⟨⟨e, h1, h2⟩, _⟩ := kind_spec x
 have hlen : ∀ y : BitVec 64, (bytesN y.toNat).length ≤ 8 := fun y => by
  rw [Z160]
  have h := y.isLt
  exact nb_8 h
 have htop : ∀ y : BitVec 64, (bytesN y.toNat)[0]? ≠ some 0#8 := fun y => by
  by_cases h0 : y.toNat = 0
  ·rw [h0]; decide
  ·exact bytesN_top h0
 rw [h1, Zb]
 by_cases he : e = 0
 ·have ht := h2.1 he
  have ex := isT_iff.1 ht
  rw [if_pos he]
  by_cases h8 : (8 : Int) < ((x.data.length : Nat) : Int)
  ·rw [if_pos h8, Zb]
   refine ⟨_, _, rfl, .inr ⟨by decide, fun y hy => ?_⟩⟩
   have := hlen y
   rw [hy] at h8
   replace h8 : (8 : Int) < (((bytesN y.toNat).length : Nat) : Int) := h8
   omega
  ·rw [if_neg h8, strict_eq _ (by omega), Zb]
   by_cases h0 : x.data[0]? = some 0#8
   ·rw [if_pos h0]
    dsimp only
    rw [if_neg (by decide), Zb]
    refine ⟨_, _, rfl, .inr ⟨by decide, fun y hy => htop y ?_⟩⟩
    rw [hy] at h0; exact h0
   ·rw [if_neg h0]
    dsimp only
    rw [if_pos rfl, Zb]
    refine ⟨_, _, rfl, .inl ⟨rfl, ?_⟩⟩
    have hb := beV_lt x.data
    have hp : 256 ^ x.data.length ≤ 256 ^ 8 := Nat.pow_le_pow_right (by decide) (by omega)
    have e8 : (256 : Nat) ^ 8 = 2 ^ 64 := by decide
    dsimp only
    rw [lim_get _ 0 (by decide)]
    unfold smallIt
    rw [BitVec.toNat_ofNat, Nat.mul_zero, Nat.pow_zero, Nat.div_one, Nat.mod_eq_of_lt (by omega), bytesN_beV h0]
    exact ex
 ·rw [if_neg he, Zb]
  exact ⟨_, _, rfl, .inr ⟨he, fun y hy => he (h2.2 (by rw [hy]; exact isT_tIt _))⟩⟩
theorem smallIt_inj {a b : BitVec 64} (h : smallIt a = smallIt b) : a = b := by
 have h1 := tIt_inj h
 apply BitVec.eq_of_toNat_eq
 rw [← beV_bytesN a.toNat, h1, beV_bytesN]
theorem rsmall_char (r : Rdr) (old : BitVec 64) (x : It) : (r.err ≠ 0 → rsmall r old x = some (old, r)) ∧ (r.err = 0 → ∃ v q, rsmall r old x = some (v, q) ∧ ((q = r ∧ x = smallIt v) ∨ (q = ⟨172⟩ ∧ ∀ y, x ≠ smallIt y))) := by
 unfold rsmall
 refine ⟨fun h => if_neg h, fun h => ?_⟩
 obtain ⟨v, e, h1, h2⟩ := small_char x
 rw [if_pos h, h1, Zb]
 rcases h2 with ⟨rfl, h2⟩ | ⟨h3, h2⟩
 ·exact ⟨v, r, if_pos rfl, .inl ⟨rfl, h2⟩⟩
 ·refine ⟨v, ⟨172⟩, ?_, .inr ⟨rfl, h2⟩⟩
  dsimp only
  rw [if_neg h3, refuse_eq, if_pos h]; rfl
theorem rbloom_char (r : Rdr) (old : Vector (BitVec 8) 256) (x : It) : (r.err ≠ 0 → rbloom r old x = some (old, r)) ∧ (r.err = 0 → ∃ v q, rbloom r old x = some (v, q) ∧ ((q = r ∧ x = tIt v.toList) ∨ (q = ⟨172⟩ ∧ ∀ y : Vector (BitVec 8) 256, x ≠ tIt y.toList))) := by
 unfold rbloom
 refine ⟨fun h => ?_, fun h => ?_⟩
 ·rw [Z144, if_neg h, Zb]; exact if_neg h
 ·rw [Z144, if_pos h, Zb]
  by_cases hc : isT x = true ∧ ((256 : Int) < 0 ∨ (x.data.length : Int) = 256)
  ·rw [if_pos hc]
   dsimp only
   rw [if_pos h]
   obtain ⟨v, hv, hvl⟩ := toVec_full (n := 256) (l := x.data) (by omega)
   rw [hv, Zb]
   exact ⟨_, _, rfl, .inl ⟨rfl, by rw [hvl]; exact isT_iff.1 hc.1⟩⟩
  ·rw [if_neg hc]
   dsimp only
   rw [if_neg (by decide)]
   exact ⟨_, _, rfl, .inr ⟨rfl, fun y hy => hc (by rw [hy]; exact ⟨isT_tIt _, .inr (by show ((y.toList.length : Nat) : Int) = 256; rw [Zv]; rfl)⟩)⟩⟩
def firstIt (ro : Bool) (rt : Vector (BitVec 8) 32) (st : BitVec 64) : It := if ro = true then tIt rt.toList else smallIt st
def firstOk (k : Int) (ro : Bool) (rt : Vector (BitVec 8) 32) (st : BitVec 64) : Prop := (ro = true → k = 0 ∧ st = 0#64) ∧ (ro = false → rt = Vector.replicate 32 0#8 ∧ st.toNat ≤ 1)
theorem small0 : smallIt 0#64 = tIt [] := congrArg tIt (show bytesN (0#64).toNat = [] by decide)
theorem small1 : smallIt 1#64 = tIt [1#8] := congrArg tIt (show bytesN (1#64).toNat = [1#8] by decide)
theorem st01 {st : BitVec 64} (h : st.toNat ≤ 1) : st = 0#64 ∨ st = 1#64 := by
 rcases (by omega : st.toNat = 0 ∨ st.toNat = 1) with h | h
 ·exact .inl (BitVec.eq_of_toNat_eq h)
 ·exact .inr (BitVec.eq_of_toNat_eq h)
theorem routcome_char (k : Int) (x : It) : ∃ o q, routcome ⟨0⟩ { RcptZ with kind := k } x = some (o, q) ∧ ((q = ⟨0⟩ ∧ firstOk k o.rooted o.root o.status ∧ x = firstIt o.rooted o.root o.status) ∨ (q = ⟨172⟩ ∧ ∀ ro rt st, firstOk k ro rt st → x ≠ firstIt ro rt st)) := by
 unfold routcome
 rw [Z144, if_pos rfl, Zb]
 by_cases hc : isT x = true ∧ ((-1 : Int) < 0 ∨ (x.data.length : Int) = -1)
 ·rw [if_pos hc]
  dsimp only
  rw [if_pos rfl]
  have ex := isT_iff.1 hc.1
  have hz : firstOk k false (Vector.replicate 32 0#8) 0#64 := ⟨(fun h => by cases h), fun _ => ⟨rfl, by decide⟩⟩
  have bad : ∀ ro rt st, firstOk k ro rt st → x = firstIt ro rt st → x.data.length = 0 ∨ x.data = [1#8] ∨ (x.data.length = 32 ∧ k = 0) := fun ro rt st h1 h2 => by
   unfold firstIt at h2
   cases ro with
   | false =>
    rw [if_neg (by decide)] at h2
    rcases st01 (h1.2 rfl).2 with rfl | rfl
    ·left; rw [h2, small0]; rfl
    ·right; left; rw [h2, small1]; rfl
   | true =>
    rw [if_pos rfl] at h2
    right; right
    refine ⟨?_, (h1.1 rfl).1⟩
    rw [h2]; show rt.toList.length = 32; exact Zv
  have rootc : x.data.length ≠ 0 → x.data ≠ [1#8] → ∃ o q, rroot ⟨0⟩ { RcptZ with kind := k } x.data = some (o, q) ∧ ((q = ⟨0⟩ ∧ firstOk k o.rooted o.root o.status ∧ x = firstIt o.rooted o.root o.status) ∨ (q = ⟨172⟩ ∧ ∀ ro rt st, firstOk k ro rt st → x ≠ firstIt ro rt st)) := fun n0 n1 => by
   unfold rroot
   by_cases h32 : x.data.length = 32 ∧ k = 0
   ·rw [if_pos h32]
    obtain ⟨v, hv, hvl⟩ := toVec_full (n := 32) (l := x.data) h32.1
    rw [hv, Zb]
    refine ⟨_, _, rfl, .inl ⟨rfl, ⟨fun _ => ⟨h32.2, rfl⟩, fun h => by cases h⟩, ?_⟩⟩
    show x = if true = true then tIt v.toList else _
    rw [if_pos rfl, hvl]; exact ex
   ·rw [if_neg h32, refuse_eq, Zb, if_pos rfl]
    refine ⟨_, _, rfl, .inr ⟨rfl, fun ro rt st h1 h2 => ?_⟩⟩
    rcases bad ro rt st h1 h2 with h | h | h
    ·exact n0 h
    ·exact n1 h
    ·exact h32 h
  by_cases h0 : x.data.length = 0
  ·rw [if_pos h0]
   refine ⟨_, _, rfl, .inl ⟨rfl, hz, ?_⟩⟩
   show x = if false = true then _ else smallIt 0#64
   rw [if_neg (by decide), small0, ex, List.length_eq_zero_iff.1 h0]; rfl
  ·rw [if_neg h0]
   by_cases h1 : x.data.length = 1
   ·rw [if_pos h1]
    obtain ⟨c, hcx⟩ := List.length_eq_one_iff.1 h1
    rw [hcx, List.getElem?_cons_zero, Zb]
    by_cases hb : c = 1#8
    ·subst hb
     rw [if_pos rfl]
     refine ⟨_, _, rfl, .inl ⟨rfl, ⟨(fun h => by cases h), fun _ => ⟨rfl, (by show (1#64).toNat ≤ 1; decide)⟩⟩, ?_⟩⟩
     show x = if false = true then _ else smallIt 1#64
     rw [if_neg (by decide), small1, ex, hcx]; rfl
    ·rw [if_neg hb]
     have := rootc h0 (by rw [hcx]; simpa using hb)
     rwa [hcx] at this
   ·rw [if_neg h1]
    exact rootc h0 (fun h => h1 (by rw [h]; rfl))
 ·rw [if_neg hc]
  dsimp only
  rw [if_neg (by decide)]
  refine ⟨_, _, rfl, .inr ⟨rfl, fun ro rt st h1 h2 => hc ⟨?_, .inl (by decide)⟩⟩⟩
  rw [h2]
  unfold firstIt
  split
  ·exact isT_tIt _
  ·exact isT_tIt _
theorem map_logIt_inj : ∀ {a b : List Log}, a.map logIt = b.map logIt → a = b
 | [], [], _ => rfl
 | [], _ :: _, h => by cases h
 | _ :: _, [], h => by cases h
 | x :: a, y :: b, h => by
  rw [List.map_cons, List.map_cons] at h
  obtain ⟨h1, h2⟩ := List.cons.inj h
  rw [logIt_inj h1, map_logIt_inj h2]
def fewT (l : List Log) : Prop := ∀ x ∈ l, x.topics.length ≤ 4
theorem logsF_char : ∀ (its : List It) (l : List Log), Its.wt its ≤ 2147483647 → (l.length + its.length) * 72 ≤ 140737488355328 →
  ∃ ls q, rlogsF ⟨0⟩ l its = some (ls, q) ∧ ((q = ⟨0⟩ ∧ ∃ xs, ls = l ++ xs ∧ its = xs.map logIt ∧ fewT xs) ∨ (q.err ≠ 0 ∧ ∀ xs, fewT xs → its ≠ xs.map logIt))
 | [], l, hw, h => ⟨l, ⟨0⟩, rfl, .inl ⟨rfl, [], by simp, rfl, fun x hx => by cases hx⟩⟩
 | it :: its, l, hw, h => by
  rw [List.length_cons] at h
  rw [Its.wt] at hw
  rw [rlogsF]
  obtain ⟨x, e, h1, h2⟩ := parselog_char it (by omega)
  rw [h1, Zb]
  dsimp only
  rcases h2 with ⟨rfl, hx⟩ | ⟨he, rfl, hno⟩
  ·rw [if_pos rfl, if_pos (by omega)]
   obtain ⟨ls, q, h3, h4⟩ := logsF_char its (l ++ [x]) (by omega) (by rw [List.length_append, List.length_singleton]; omega)
   refine ⟨ls, q, h3, ?_⟩
   rcases h4 with ⟨h5, xs, h6, h7, h8⟩ | ⟨h5, h6⟩
   ·refine .inl ⟨h5, x :: xs, by rw [h6]; simp, by rw [List.map_cons, ← h7, ← hx.1], fun y hy => ?_⟩
    rcases List.mem_cons.1 hy with rfl | hy
    ·exact hx.2
    ·exact h8 y hy
   ·refine .inr ⟨h5, fun xs hf hxs => ?_⟩
    cases xs with
    | nil => cases hxs
    | cons y ys =>
     rw [List.map_cons] at hxs
     exact h6 ys (fun z hz => hf z (List.mem_cons_of_mem _ hz)) (List.cons.inj hxs).2
  ·rw [if_neg he, refuse_eq, Zb, if_pos rfl]
   refine ⟨_, _, rfl, .inr ⟨he, fun xs hf hxs => ?_⟩⟩
   cases xs with
   | nil => cases hxs
   | cons y ys =>
    rw [List.map_cons] at hxs
    exact hno y ⟨(List.cons.inj hxs).1, hf y (List.mem_cons_self ..)⟩
theorem rlogs_char (r : Rdr) (x : It) (hw : x.wt ≤ 2147483647) : (r.err ≠ 0 → rlogs r [] x = some ([], r)) ∧ (r = ⟨0⟩ → ∃ ls q, rlogs r [] x = some (ls, q) ∧ ((q = ⟨0⟩ ∧ x = It.mk true [] (ls.map logIt) ∧ fewT ls) ∨ (q.err ≠ 0 ∧ ∀ xs, fewT xs → x ≠ It.mk true [] (xs.map logIt)))) := by
 have hwt := It.wt_eq x
 unfold rlogs
 rw [list_spec _ _ (by omega)]
 refine ⟨fun h => by rw [if_neg h]; rfl, fun h => ?_⟩
 subst h
 rw [if_pos rfl, Zb]
 by_cases hL : isL x = true
 ·rw [if_pos hL]
  dsimp only
  obtain ⟨ls, q, h1, h2⟩ := logsF_char x.items [] (by omega) (by simp; omega)
  refine ⟨ls, q, h1, ?_⟩
  rcases h2 with ⟨h3, xs, h4, h5, h6⟩ | ⟨h3, h4⟩
  ·rw [List.nil_append] at h4
   subst h4
   exact .inl ⟨h3, by rw [← h5]; exact isL_iff.1 hL, h6⟩
  ·exact .inr ⟨h3, fun xs hf hx => h4 xs hf (by rw [hx]; rfl)⟩
 ·rw [if_neg hL]
  exact ⟨_, _, rfl, .inr ⟨by decide, fun xs hf hx => hL (by rw [hx]; rfl)⟩⟩
end Go.Fw
namespace Go.Fw
def Valid (r : Rcpt) : Prop := (0 ≤ r.kind ∧ r.kind ≤ 4) ∧ firstOk r.kind r.rooted r.root r.status ∧ fewT r.logs ∧ receipt_BloomOf r.logs = some r.bloom
def rcptItems (r : Rcpt) : List It := [firstIt r.rooted r.root r.status, smallIt r.used, tIt r.bloom.toList, It.mk true [] (r.logs.map logIt)]
def rcptIt (r : Rcpt) : It := It.mk true [] (rcptItems r)
theorem logsT_few : ∀ {l : List Log}, fewT l → (logsT l).length ≤ 5 * l.length
 | [], _ => by simp [logsT]
 | x :: l, h => by
  have h1 := h x (List.mem_cons_self ..)
  have h2 := logsT_few (l := l) (fun y hy => h y (List.mem_cons_of_mem _ hy))
  rw [logsT, List.flatMap_cons, List.length_append, logT_len, List.length_cons, show (l.flatMap logT).length = (logsT l).length from rfl]
  omega
theorem bloom_total {l : List Log} (h : fewT l) (hl : l.length ≤ 1099511627776) : ∃ b, receipt_BloomOf l = some b := by
 have := logsT_few h
 obtain ⟨b, hb, _⟩ := rbof_bits l (by omega)
 exact ⟨b, hb⟩
theorem rfields_char (k : Int) (f : List It) (h4 : f.length = 4) (hw : Its.wt f ≤ 2147483647) (hk : 0 ≤ k ∧ k ≤ 4) : ∃ x e, rfields k f = some (x, e) ∧ ((e = 0 ∧ x.kind = k ∧ Valid x ∧ f = rcptItems x) ∨ (e ≠ 0 ∧ x = Rcpt.zero ∧ ∀ y, y.kind = k → Valid y → f ≠ rcptItems y)) := by
 obtain ⟨x0, x1, x2, x3, rfl⟩ : ∃ x0 x1 x2 x3, f = [x0, x1, x2, x3] := by
  match f, h4 with
  | [a, b, c, d], _ => exact ⟨a, b, c, d, rfl⟩
 have w3 : It.wt x3 ≤ 2147483647 := by have := Its.wt_mem (l := [x0, x1, x2, x3]) (x := x3) (by simp); omega
 unfold rfields
 simp only [List.getElem?_cons_zero, List.getElem?_cons_succ, Zb]
 have hi : ∀ y, [x0, x1, x2, x3] = rcptItems y → x0 = firstIt y.rooted y.root y.status ∧ x1 = smallIt y.used ∧ x2 = tIt y.bloom.toList ∧ x3 = It.mk true [] (y.logs.map logIt) := fun y h => by
  unfold rcptItems at h
  simp only [List.cons.injEq, and_true] at h
  exact h
 obtain ⟨o, q1, h1, c1⟩ := routcome_char k x0
 have hkeep := (routcome_keep h1).1
 replace hkeep : o.kind = k := hkeep
 rw [h1, Zb]
 dsimp only
 rcases c1 with ⟨rfl, hok, hx0⟩ | ⟨rfl, hno⟩
 ·obtain ⟨v, q2, h2, c2⟩ := (rsmall_char ⟨0⟩ o.used x1).2 rfl
  rw [h2, Zb]
  dsimp only
  rcases c2 with ⟨rfl, hx1⟩ | ⟨rfl, hno⟩
  ·obtain ⟨bl, q3, h3, c3⟩ := (rbloom_char ⟨0⟩ o.bloom x2).2 rfl
   rw [h3, Zb]
   dsimp only
   rcases c3 with ⟨rfl, hx2⟩ | ⟨rfl, hno⟩
   ·obtain ⟨ls, q4, h4, c4⟩ := (rlogs_char ⟨0⟩ x3 w3).2 rfl
    rw [h4, Zb]
    dsimp only
    rcases c4 with ⟨rfl, hx3, hfew⟩ | ⟨he, hno⟩
    ·rw [if_pos rfl]
     have hlen : ls.length ≤ 1099511627776 := by
      have e1 := It.wt_eq x3
      have e2 : x3.items.length = ls.length := by rw [hx3]; simp [It.items]
      omega
     obtain ⟨b, hb⟩ := bloom_total hfew hlen
     rw [hb, Zb]
     by_cases he : bl = b
     ·rw [if_pos he]
      exact ⟨_, _, rfl, .inl ⟨rfl, hkeep, ⟨by dsimp only; omega, by dsimp only; rw [hkeep]; exact hok, hfew, by rw [hb, he]⟩, by rw [hx0, hx1, hx2, hx3]; rfl⟩⟩
     ·rw [if_neg he]
      refine ⟨_, _, rfl, .inr ⟨by decide, rfl, fun y hy hv hf => he ?_⟩⟩
      obtain ⟨_, _, e2, e3⟩ := hi y hf
      have e4 : ls = y.logs := by
       rw [hx3] at e3
       injection e3 with _ _ e3
       exact map_logIt_inj e3
      have e5 : bl = y.bloom := by rw [hx2] at e2; exact Vector.toList_inj.1 (tIt_inj e2)
      have := hv.2.2.2
      rw [← e4, hb] at this
      rw [e5, ← Zi this]
    ·rw [if_neg he]
     exact ⟨_, _, rfl, .inr ⟨he, rfl, fun y hy hv hf => hno y.logs hv.2.2.1 (hi y hf).2.2.2⟩⟩
   ·rw [(rlogs_char ⟨172⟩ x3 w3).1 (by decide), Zb]
    dsimp only
    rw [if_neg (by decide)]
    exact ⟨_, _, rfl, .inr ⟨by decide, rfl, fun y hy hv hf => hno y.bloom (hi y hf).2.2.1⟩⟩
  ·rw [(rbloom_char ⟨172⟩ o.bloom x2).1 (by decide), Zb]
   dsimp only
   rw [(rlogs_char ⟨172⟩ x3 w3).1 (by decide), Zb]
   dsimp only
   rw [if_neg (by decide)]
   exact ⟨_, _, rfl, .inr ⟨by decide, rfl, fun y hy hv hf => hno y.used (hi y hf).2.1⟩⟩
 ·rw [(rsmall_char ⟨172⟩ o.used x1).1 (by decide), Zb]
  dsimp only
  rw [(rbloom_char ⟨172⟩ o.bloom x2).1 (by decide), Zb]
  dsimp only
  rw [(rlogs_char ⟨172⟩ x3 w3).1 (by decide), Zb]
  dsimp only
  rw [if_neg (by decide)]
  exact ⟨_, _, rfl, .inr ⟨by decide, rfl, fun y hy hv hf => hno y.rooted y.root y.status (by have := hv.2.1; rwa [hy] at this) (hi y hf).1⟩⟩
theorem good_t (d : List (BitVec 8)) : (tIt d).good := by rw [It.good_eq]; exact ⟨(fun h => by cases h), (fun _ => rfl), by show Its.good []; simp [Its.good]⟩
theorem good_l {l : List It} (h : ∀ x ∈ l, x.good) : (It.mk true [] l).good := by
 rw [It.good_eq]
 refine ⟨(fun _ => rfl), (fun h => by cases h), ?_⟩
 show Its.good l
 induction l with
 | nil => simp [Its.good]
 | cons x l ih => rw [Its.good]; exact ⟨h x (List.mem_cons_self ..), ih fun y hy => h y (List.mem_cons_of_mem _ hy)⟩
theorem dep_le {l : List It} {n : Nat} (h : ∀ x ∈ l, x.dep ≤ n) : Its.dep l ≤ n := by
 induction l with
 | nil => simp [Its.dep]
 | cons x l ih =>
  rw [Its.dep]
  have := h x (List.mem_cons_self ..)
  have := ih fun y hy => h y (List.mem_cons_of_mem _ hy)
  omega
theorem dep_t (d : List (BitVec 8)) : (tIt d).dep = 0 := by rw [It.dep_eq]; rfl
theorem dep_l {l : List It} {n : Nat} (h : ∀ x ∈ l, x.dep ≤ n) : (It.mk true [] l).dep ≤ n + 1 := by
 rw [It.dep_eq]
 have := dep_le h
 show (if true = true then Its.dep l + 1 else 0) ≤ _
 rw [if_pos rfl]; omega
theorem w9_t (d : List (BitVec 8)) : (tIt d).w9 = 9 + d.length := by rw [It.w9_eq]; show 9 + d.length + Its.w9 [] = _; simp [Its.w9]
theorem w9_l (l : List It) : (It.mk true [] l).w9 = 9 + Its.w9 l := by rw [It.w9_eq]; show 9 + 0 + Its.w9 l = _; omega
theorem w9_hs (l : List (Vector (BitVec 8) 32)) : Its.w9 (l.map fun h => tIt h.toList) = 41 * l.length := by
 induction l with
 | nil => rfl
 | cons x l ih => rw [List.map_cons, Its.w9, w9_t, ih, Zv, List.length_cons]; omega
def szL (x : Log) : Nat := 56 + 41 * x.topics.length + x.data.length
theorem w9_log (x : Log) : (logIt x).w9 = szL x := by
 unfold logIt szL
 rw [w9_l, Its.w9, Its.w9, Its.w9, Its.w9, w9_t, w9_t, w9_l, w9_hs, Zv]; omega
theorem w9_logs (l : List Log) : Its.w9 (l.map logIt) = (l.map szL).sum := by
 induction l with
 | nil => rfl
 | cons x l ih => rw [List.map_cons, Its.w9, w9_log, ih, List.map_cons, List.sum_cons]
theorem good_log (x : Log) : (logIt x).good := by
 refine good_l fun y hy => ?_
 simp only [List.mem_cons, List.not_mem_nil, or_false] at hy
 rcases hy with rfl | rfl | rfl
 ·exact good_t _
 ·refine good_l fun z hz => ?_
  obtain ⟨h, _, rfl⟩ := List.mem_map.1 hz
  exact good_t _
 ·exact good_t _
theorem dep_log (x : Log) : (logIt x).dep ≤ 2 := by
 refine dep_l (n := 1) fun y hy => ?_
 simp only [List.mem_cons, List.not_mem_nil, or_false] at hy
 rcases hy with rfl | rfl | rfl
 ·rw [dep_t]; omega
 ·refine dep_l (n := 0) fun z hz => ?_
  obtain ⟨h, _, rfl⟩ := List.mem_map.1 hz
  rw [dep_t]; omega
 ·rw [dep_t]; omega
theorem first_t (ro : Bool) (rt : Vector (BitVec 8) 32) (st : BitVec 64) : ∃ d, firstIt ro rt st = tIt d ∧ d.length ≤ 32 := by
 unfold firstIt
 split
 ·exact ⟨_, rfl, by rw [Zv]; omega⟩
 ·exact ⟨_, rfl, by rw [Z160]; have := nb_8 st.isLt; omega⟩
theorem good_rcpt (r : Rcpt) : (rcptIt r).good := by
 refine good_l fun y hy => ?_
 simp only [rcptItems, List.mem_cons, List.not_mem_nil, or_false] at hy
 rcases hy with rfl | rfl | rfl | rfl
 ·obtain ⟨d, h, _⟩ := first_t r.rooted r.root r.status
  rw [h]; exact good_t _
 ·exact good_t _
 ·exact good_t _
 ·refine good_l fun z hz => ?_
  obtain ⟨h, _, rfl⟩ := List.mem_map.1 hz
  exact good_log _
theorem dep_rcpt (r : Rcpt) : (rcptIt r).dep ≤ 4 := by
 refine dep_l (n := 3) fun y hy => ?_
 simp only [rcptItems, List.mem_cons, List.not_mem_nil, or_false] at hy
 rcases hy with rfl | rfl | rfl | rfl
 ·obtain ⟨d, h, _⟩ := first_t r.rooted r.root r.status
  rw [h, dep_t]; omega
 ·show (tIt _).dep ≤ 3; rw [dep_t]; omega
 ·rw [dep_t]; omega
 ·refine dep_l (n := 2) fun z hz => ?_
  obtain ⟨h, _, rfl⟩ := List.mem_map.1 hz
  exact dep_log _
end Go.Fw
namespace Go.Fw
def encR (r : Rcpt) : List (BitVec 8) := if r.kind = 0 then (rcptIt r).enc else BitVec.ofInt 8 r.kind :: (rcptIt r).enc
theorem getlist_char (x : It) (hw : x.wt ≤ 2147483647) : ∃ l e, rlp_GetList x = some (l, e) ∧ ((e = 0 ∧ x = It.mk true [] l) ∨ (e ≠ 0 ∧ ∀ l, x ≠ It.mk true [] l)) := by
 have hwt := It.wt_eq x
 obtain ⟨_, ⟨e, h1, h2⟩⟩ := kind_spec x
 unfold rlp_GetList
 rw [h1, Zb]
 by_cases he : e = 0
 ·rw [if_pos he, twin_eq (by omega), Zb]
  exact ⟨_, _, rfl, .inl ⟨rfl, isL_iff.1 (h2.1 he)⟩⟩
 ·rw [if_neg he]
  exact ⟨_, _, rfl, .inr ⟨he, fun l hl => he (h2.2 (by rw [hl]; rfl))⟩⟩
theorem decode2_char (k : Int) (d : List (BitVec 8)) (hk : 0 ≤ k ∧ k ≤ 4) : ∃ x e, rdecode2 k d = some (x, e) ∧ ((e = 0 ∧ x.kind = k ∧ Valid x ∧ d = (rcptIt x).enc ∧ d.length ≤ 16777216 ∧ (rcptIt x).w9 ≤ 10 * d.length) ∨ (e ≠ 0 ∧ x = Rcpt.zero ∧ ∀ y, y.kind = k → Valid y → d.length ≤ 16777216 → (rcptIt y).w9 ≤ 1099511627776 → d ≠ (rcptIt y).enc)) := by
 unfold rdecode2
 rw [decode_eq, Zb]
 generalize hq : decodeR d = q
 obtain ⟨it, e⟩ := q
 have key : ∀ y, y.kind = k → Valid y → d.length ≤ 16777216 → (rcptIt y).w9 ≤ 1099511627776 → d = (rcptIt y).enc → it = rcptIt y ∧ e = 0 := fun y hy hv hl hw hd => by
  have := decode_enc_big (good_rcpt y) (by have := dep_rcpt y; omega) hw (by rw [← hd]; exact hl)
  rw [← hd, hq] at this
  exact ⟨(Prod.mk.inj this).1, (Prod.mk.inj this).2⟩
 rcases decode_back hq with ⟨he, rfl⟩ | ⟨rfl, hg, hd, hl, hdep, hw⟩
 ·dsimp only
  rw [if_neg he]
  exact ⟨_, _, rfl, .inr ⟨by omega, rfl, fun y hy hv hl hw hd => he (key y hy hv hl hw hd).2⟩⟩
 ·dsimp only
  rw [if_pos rfl]
  have hwt := It.wt_w9 it
  obtain ⟨l, e2, h1, h2⟩ := getlist_char it (by omega)
  rw [h1, Zb]
  rcases h2 with ⟨rfl, hit⟩ | ⟨he2, hno⟩
  ·by_cases h4 : l.length = 4
   ·rw [if_pos ⟨rfl, h4⟩]
    have hwl : Its.wt l ≤ 2147483647 := by
     have := It.wt_eq it
     rw [hit] at this hwt
     simp only [It.items] at this
     rw [hit] at hw
     omega
    obtain ⟨x, e, h3, c⟩ := rfields_char k l h4 hwl hk
    refine ⟨x, e, h3, ?_⟩
    rcases c with ⟨c1, c2, c3, c4⟩ | ⟨c1, c2, c3⟩
    ·refine .inl ⟨c1, c2, c3, ?_, hl, ?_⟩
     ·rw [hd, hit, c4]; rfl
     ·have : rcptIt x = it := by rw [hit, c4]; rfl
      rw [this]; exact hw
    ·refine .inr ⟨c1, c2, fun y hy hv hl hw hd => c3 y hy hv ?_⟩
     have := (key y hy hv hl hw hd).1
     rw [hit] at this
     injection this
   ·rw [if_neg (fun h => h4 h.2)]
    refine ⟨_, _, rfl, .inr ⟨by decide, rfl, fun y hy hv hl hw hd => h4 ?_⟩⟩
    have := (key y hy hv hl hw hd).1
    rw [hit] at this
    injection this with _ _ this
    rw [this]; rfl
  ·rw [if_neg (fun h => he2 h.1)]
   exact ⟨_, _, rfl, .inr ⟨by decide, rfl, fun y hy hv hl hw hd => hno _ (key y hy hv hl hw hd).1⟩⟩
theorem enc_pos {x : It} (hw : x.w9 ≤ 1099511627776) : 0 < x.enc.length := (It.enc_le x hw).2
theorem decode_char (d : List (BitVec 8)) : ∃ x e, receipt_Decode d = some (x, e) ∧ ((e = 0 ∧ Valid x ∧ d = encR x ∧ d.length ≤ 16777216 ∧ (rcptIt x).w9 ≤ 10 * d.length) ∨ (e ≠ 0 ∧ x = Rcpt.zero ∧ ∀ y, Valid y → d.length ≤ 16777216 → (rcptIt y).w9 ≤ 1099511627776 → d ≠ encR y)) := by
 unfold receipt_Decode
 by_cases h1 : 16777216 < d.length
 ·rw [if_pos h1]
  exact ⟨_, _, rfl, .inr ⟨by decide, rfl, fun y _ hl => by omega⟩⟩
 rw [if_neg h1]
 by_cases h0 : d.length = 0
 ·rw [if_pos h0]
  refine ⟨_, _, rfl, .inr ⟨by decide, rfl, fun y hv hl hw hd => ?_⟩⟩
  have := enc_pos hw
  rw [hd] at h0
  unfold encR at h0
  split at h0
  ·omega
  ·rw [List.length_cons] at h0; omega
 rw [if_neg h0]
 obtain ⟨b, rest, rfl⟩ : ∃ b rest, d = b :: rest := by
  cases d with
  | nil => exact absurd rfl h0
  | cons b r => exact ⟨b, r, rfl⟩
 rw [List.getElem?_cons_zero, Zb]
 have hd0 : ∀ y, Valid y → (b :: rest).length ≤ 16777216 → (rcptIt y).w9 ≤ 1099511627776 → b :: rest = encR y → (y.kind = 0 ∧ 192 ≤ b.toNat ∧ b :: rest = (rcptIt y).enc) ∨ (1 ≤ y.kind ∧ y.kind ≤ 4 ∧ (b.toNat : Int) = y.kind ∧ rest = (rcptIt y).enc) := fun y hv hl hw hd => by
  unfold encR at hd
  by_cases hk : y.kind = 0
  ·rw [if_pos hk] at hd
   obtain ⟨c, hc, hc2⟩ := enc_list_head (x := rcptIt y) rfl (by rw [← hd]; exact hl)
   rw [← hd, List.getElem?_cons_zero] at hc
   obtain rfl := Zi hc
   exact .inl ⟨hk, hc2, hd⟩
  ·rw [if_neg hk] at hd
   obtain ⟨e1, e2⟩ := List.cons.inj hd
   have hk4 := hv.1
   refine .inr ⟨by omega, hk4.2, ?_, e2⟩
   rw [e1]
   have : y.kind = 1 ∨ y.kind = 2 ∨ y.kind = 3 ∨ y.kind = 4 := by omega
   rcases this with h | h | h | h <;> rw [h] <;> rfl
 unfold dkind
 by_cases h192 : 192 ≤ b.toNat
 ·rw [if_pos h192]
  obtain ⟨x, e, h3, c⟩ := decode2_char 0 (b :: rest) (by omega)
  refine ⟨x, e, h3, ?_⟩
  rcases c with ⟨c1, c2, c3, c4, c5, c6⟩ | ⟨c1, c2, c3⟩
  ·exact .inl ⟨c1, c3, by unfold encR; rw [if_pos c2]; exact c4, c5, c6⟩
  ·refine .inr ⟨c1, c2, fun y hv hl hw hd => ?_⟩
   rcases hd0 y hv hl hw hd with ⟨e1, e2, e3⟩ | ⟨e1, e2, e3, e4⟩
   ·exact c3 y e1 hv hl hw e3
   ·omega
 ·rw [if_neg h192]
  by_cases h14 : 1 ≤ b.toNat ∧ b.toNat ≤ 4
  ·rw [if_pos h14]
   obtain ⟨x, e, h3, c⟩ := decode2_char (b.toNat : Int) rest (by omega)
   refine ⟨x, e, h3, ?_⟩
   rcases c with ⟨c1, c2, c3, c4, c5, c6⟩ | ⟨c1, c2, c3⟩
   ·refine .inl ⟨c1, c3, ?_, by omega, by rw [List.length_cons]; omega⟩
    unfold encR
    rw [if_neg (by omega), c2, ← c4]
    congr 1
    have hb := b.isLt
    apply BitVec.eq_of_toNat_eq
    rw [BitVec.toNat_ofInt]
    omega
   ·refine .inr ⟨c1, c2, fun y hv hl hw hd => ?_⟩
    rcases hd0 y hv hl hw hd with ⟨e1, e2, e3⟩ | ⟨e1, e2, e3, e4⟩
    ·omega
    ·exact c3 y e3.symm hv (by rw [List.length_cons] at hl; omega) hw e4
  ·rw [if_neg h14]
   refine ⟨_, _, rfl, .inr ⟨by decide, rfl, fun y hv hl hw hd => ?_⟩⟩
   rcases hd0 y hv hl hw hd with ⟨e1, e2, e3⟩ | ⟨e1, e2, e3, e4⟩
   ·omega
   ·exact h14 (by omega)
theorem wt_le_w9 : ∀ l : List It, Its.wt l ≤ Its.w9 l := fun l => by have := Its.wt_w9 l; omega
end Go.Fw
namespace Go.Fw
theorem same17_loop (a : List (BitVec 8)) : ∀ (d i k : Nat), i + d = a.length → d < k → waybilllaw17_same.l1 a a k i = some (Lp.go ())
 | 0, i, k, h, hk => by
  obtain ⟨k, rfl⟩ : ∃ m, k = m + 1 := ⟨k - 1, by omega⟩
  rw [waybilllaw17_same.l1, if_neg (by omega)]
 | d + 1, i, k, h, hk => by
  obtain ⟨k, rfl⟩ : ∃ m, k = m + 1 := ⟨k - 1, by omega⟩
  have h1 : i < a.length := by omega
  rw [waybilllaw17_same.l1, if_pos h1, List.getElem?_eq_getElem h1, Zb, Zb, if_pos rfl, same17_loop a d (i + 1) k (by omega) (by omega)]
theorem same17 (a : List (BitVec 8)) : waybilllaw17_same a a = some true := by
 unfold waybilllaw17_same
 rw [if_pos rfl, same17_loop a a.length 0 _ (by omega) (by omega), Zb]
theorem sameLog_loop (a : Log) : ∀ (d i k : Nat), i + d = a.topics.length → d < k → waybilllaw17_sameLog.l1 a a k i = some (Lp.go ())
 | 0, i, k, h, hk => by
  obtain ⟨k, rfl⟩ : ∃ m, k = m + 1 := ⟨k - 1, by omega⟩
  rw [waybilllaw17_sameLog.l1, if_neg (by omega)]
 | d + 1, i, k, h, hk => by
  obtain ⟨k, rfl⟩ : ∃ m, k = m + 1 := ⟨k - 1, by omega⟩
  have h1 : i < a.topics.length := by omega
  rw [waybilllaw17_sameLog.l1, if_pos h1, List.getElem?_eq_getElem h1, Zb, Zb, if_pos rfl, sameLog_loop a d (i + 1) k (by omega) (by omega)]
theorem sameLog_refl (a : Log) : waybilllaw17_sameLog a a = some true := by
 unfold waybilllaw17_sameLog
 rw [if_pos rfl, Zb, if_neg (by simp), sameLog_loop a a.topics.length 0 _ (by omega) (by omega), Zb]
 dsimp only
 rw [same17, Zb]
theorem sameLogs_loop (a : List Log) : ∀ (d i k : Nat), i + d = a.length → d < k → waybilllaw17_sameLogs.l1 a a k i = some (Lp.go ())
 | 0, i, k, h, hk => by
  obtain ⟨k, rfl⟩ : ∃ m, k = m + 1 := ⟨k - 1, by omega⟩
  rw [waybilllaw17_sameLogs.l1, if_neg (by omega)]
 | d + 1, i, k, h, hk => by
  obtain ⟨k, rfl⟩ : ∃ m, k = m + 1 := ⟨k - 1, by omega⟩
  have h1 : i < a.length := by omega
  rw [waybilllaw17_sameLogs.l1, if_pos h1, List.getElem?_eq_getElem h1, Zb, Zb, sameLog_refl, Zb, if_pos rfl, sameLogs_loop a d (i + 1) k (by omega) (by omega)]
theorem sameLogs_refl (a : List Log) : waybilllaw17_sameLogs a a = some true := by
 unfold waybilllaw17_sameLogs
 rw [if_pos rfl, sameLogs_loop a a.length 0 _ (by omega) (by omega), Zb]
theorem sameRcpt_refl (a : Rcpt) : waybilllaw17_sameReceipt a a = some true := by
 unfold waybilllaw17_sameReceipt
 rw [if_pos rfl, if_pos rfl, if_pos rfl, if_pos rfl, Zb, if_neg (by simp), if_pos rfl, sameLogs_refl]; rfl
theorem num17 (x : Int) : waybilllaw17_num x = some x := by unfold waybilllaw17_num; rfl
end Go.Fw
namespace Go.Fw
open Go
def mk20 : Vector (BitVec 8) 20 := (Vector.replicate 20 0#8).setIfInBounds 0 195#8
def mk32 : Vector (BitVec 8) 32 := (Vector.replicate 32 0#8).setIfInBounds 0 195#8
abbrev LgMk : LogC := ⟨mk20, .slice none 0 0, .slice none 0 0⟩
theorem OwnS.full {ob : Option Nat} {len cap s : Nat} {cells r : List Value} (h : OwnS ob len cap s cells r) (hm : cap ≤ 140737488355328) : OwnS ob cap cap s (cells ++ r) [] := ⟨h.hr, by rw [List.append_nil]; exact h.hr, h.hn, hm⟩
structure LgM (g : Lg) : Prop where
 ok : g.Ok
 tc : g.tc = g.t.length + 1
 tr : g.tr = u8s mk32.toList
 dc : g.dc = g.d.length + 70
 dr : g.dr = u8s (List.replicate 70 195#8) ++ []
 tm : g.t.length + 1 ≤ 140737488355328
 dm : g.d.length + 70 ≤ 140737488355328
def LmRd (Φ : Ctx) (cs : List Value) (x : Log) : Prop := ∃ (A1 A2 : Option Addr), cs = (⟨x.address, .slice A1 x.topics.length (x.topics.length + 1), .slice A2 x.data.length (x.data.length + 70)⟩ : LogC).C ∧
 View Φ A1 (x.topics.length + 1) (x.topics.length + 1) 32 (hs32 x.topics ++ u8s mk32.toList) ∧ View Φ A2 (x.data.length + 70) (x.data.length + 70) 1 (u8s (x.data ++ List.replicate 70 195#8))
theorem LmRd.mono {Φ Ψ : Ctx} (hh : ∀ w, Ψ w → Φ w) (cs : List Value) (x : Log) : LmRd Φ cs x → LmRd Ψ cs x := fun ⟨A1, A2, e, v1, v2⟩ => ⟨A1, A2, e, v1.mono hh, v2.mono hh⟩
theorem LmRd.len {Φ : Ctx} (cs : List Value) (x : Log) (h : LmRd Φ cs x) : cs.length = 22 := by
 obtain ⟨A1, A2, e, _, _⟩ := h
 rw [e]; exact LogC.C_length _
theorem LmRd.one {Φ : Ctx} (cs : List Value) (x : Log) (h : LmRd Φ cs x) : ∀ u ∈ cs, u.oneCell' = true := by
 obtain ⟨A1, A2, e, _, _⟩ := h
 rw [e]; exact LogC.C_one _ rfl rfl
theorem LgM.rd {w0 : World} {Φ : Ctx} {tH tB : TypeId} {g : Lg} (h : LgM g) (hm : ∀ w, Φ w → Mem w0 w (g.ents tH tB)) : LmRd Φ g.cells g.val := by
 obtain ⟨a, tb, t, tc, tr, db, d, dc, dr⟩ := g
 obtain ⟨ok, e1, e2, e3, e4, m1, m2⟩ := h
 obtain ⟨ok1, ok2⟩ := ok
 dsimp only at e1 e2 e3 e4 m1 m2 ok1 ok2
 subst e1 e2 e3 e4
 refine ⟨_, _, rfl, ?_, ?_⟩
 ·have := (ok1.full m1).view (te := tH) (w0 := w0) (Ψ := Φ) (by decide) (fun w q => by rw [List.append_nil]; exact (hm w q).sublist (by unfold Lg.ents; exact List.Sublist.cons_cons _ (List.nil_sublist _)))
  exact this
 ·have := (ok2.full m2).view (te := tB) (w0 := w0) (Ψ := Φ) (by decide) (fun w q => by rw [List.append_nil]; exact (hm w q).tail)
  rw [List.append_nil, u8s_app] at this
  exact this
def LRooms (Φ : Ctx) (A : Option Addr) (c : Nat) (x : List Log) : Prop := ∃ cs : List Value, View Φ A (x.length + 1) c 22 (cs ++ LgMk.C) ∧ Reps (LmRd Φ) cs x
theorem LRooms.mono {Φ Ψ : Ctx} {A : Option Addr} {c : Nat} {x : List Log} (h : LRooms Φ A c x) (hh : ∀ w, Ψ w → Φ w) : LRooms Ψ A c x := by
 obtain ⟨cs, v, r⟩ := h
 exact ⟨cs, v.mono hh, r.mono (LmRd.mono hh)⟩
theorem LRooms.opn {Φ : Ctx} {A : Option Addr} {c : Nat} {x : List Log} (h : LRooms Φ A c x) : ∃ cs : List Value, View Φ A (x.length + 1) c 22 (cs ++ LgMk.C) ∧ View Φ A x.length c 22 cs ∧ Reps (LmRd Φ) cs x := by
 obtain ⟨cs, v, r⟩ := h
 have h1 := v.hi (k := x.length) (by omega)
 have hl := r.len LmRd.len
 rw [List.take_append_of_le_length (by omega), List.take_of_length_le (by omega)] at h1
 exact ⟨cs, v, h1, r⟩
theorem LRooms.mk {Φ : Ctx} {A : Option Addr} {c : Nat} {x : List Log} {cs : List Value} (v : View Φ A (x.length + 1) c 22 (cs ++ LgMk.C)) (r : Reps (LmRd Φ) cs x) : LRooms Φ A c x := ⟨cs, v, r⟩
end Go.Fw
namespace Go.Fw
theorem still17_loop (a : List (BitVec 8)) : ∀ (d i k : Nat), i + d = a.length + 70 → d < k → waybilllaw17_still.l1 a a k i = some (Lp.go ())
 | 0, i, k, h, hk => by
  obtain ⟨k, rfl⟩ : ∃ m, k = m + 1 := ⟨k - 1, by omega⟩
  rw [waybilllaw17_still.l1, if_neg (by rw [List.length_take, List.length_append, List.length_replicate]; omega)]
 | d + 1, i, k, h, hk => by
  obtain ⟨k, rfl⟩ : ∃ m, k = m + 1 := ⟨k - 1, by omega⟩
  have hT : (a ++ List.replicate 70 195#8).take (a.length + 70) = a ++ List.replicate 70 195#8 := List.take_of_length_le (by rw [List.length_append, List.length_replicate]; omega)
  have hl : (a ++ List.replicate 70 195#8).length = a.length + 70 := by rw [List.length_append, List.length_replicate]
  rw [waybilllaw17_still.l1, hT, if_pos (by omega)]
  by_cases h1 : i < a.length
  ·rw [if_pos h1, List.getElem?_append_left h1, List.getElem?_eq_getElem h1, Zb, Zb, if_pos rfl, if_neg (by omega), Zb, if_neg (by decide)]
   exact still17_loop a d (i + 1) k (by omega) (by omega)
  ·rw [if_neg h1, if_pos (by omega), List.getElem?_append_right (by omega), List.getElem?_replicate, if_pos (by omega), Zb, decide_eq_true rfl, Zb, if_neg (by decide)]
   exact still17_loop a d (i + 1) k (by omega) (by omega)
theorem still17_eq (a : List (BitVec 8)) : waybilllaw17_still a a = some true := by
 have hT : ((a ++ List.replicate 70 195#8).take (a.length + 70)).length = a.length + 70 := by rw [List.length_take, List.length_append, List.length_replicate]; omega
 have hl : (a ++ List.replicate 70 195#8).length = a.length + 70 := by rw [List.length_append, List.length_replicate]
 unfold waybilllaw17_still
 rw [if_pos rfl, if_pos (by omega), still17_loop a (a.length + 70) 0 _ (by omega) (by rw [hT]; omega), Zb]
end Go.Fw
namespace Go.Fw
theorem dbof_in (a : List Log) (n : Nat) (x : Log) (hx : a[n]? = some x) : ∀ (d i k : Nat) (l : List (List (BitVec 8))), i + d = x.topics.length → d < k → (l.length + d) * 24 ≤ 140737488355328 → waybillref17_BloomOf.l2 a n k l i = some (l ++ (x.topics.drop i).map (·.toList))
 | 0, i, k, l, h, hk, hb => by
  obtain ⟨k, rfl⟩ : ∃ m, k = m + 1 := ⟨k - 1, by omega⟩
  rw [waybillref17_BloomOf.l2, hx, Zb, if_neg (by omega), List.drop_eq_nil_of_le (by omega), List.map_nil, List.append_nil]
 | d + 1, i, k, l, h, hk, hb => by
  obtain ⟨k, rfl⟩ : ∃ m, k = m + 1 := ⟨k - 1, by omega⟩
  have h1 : i < x.topics.length := by omega
  rw [waybillref17_BloomOf.l2, hx, Zb, if_pos h1, Zb, List.getElem?_eq_getElem h1, Zb, waybillref17_text, Zb, if_pos (by simp; omega), dbof_in a n x hx d (i + 1) k _ (by omega) (by omega) (by simp; omega), List.append_assoc, List.singleton_append, List.drop_eq_getElem_cons h1, List.map_cons]
  rfl
theorem dbof_out (a : List Log) : ∀ (d i k : Nat) (l : List (List (BitVec 8))), i + d = a.length → d < k → (l.length + (logsT (a.drop i)).length) * 24 ≤ 140737488355328 → waybillref17_BloomOf.l1 a k l i = some (l ++ logsT (a.drop i))
 | 0, i, k, l, h, hk, hb => by
  obtain ⟨k, rfl⟩ : ∃ m, k = m + 1 := ⟨k - 1, by omega⟩
  rw [waybillref17_BloomOf.l1, if_neg (by omega), List.drop_eq_nil_of_le (by omega)]
  simp [logsT]
 | d + 1, i, k, l, h, hk, hb => by
  obtain ⟨k, rfl⟩ : ∃ m, k = m + 1 := ⟨k - 1, by omega⟩
  have h1 : i < a.length := by omega
  have hx : a[i]? = some a[i] := List.getElem?_eq_getElem h1
  have hs : logsT (a.drop i) = logT a[i] ++ logsT (a.drop (i + 1)) := by rw [List.drop_eq_getElem_cons h1, logsT, List.flatMap_cons]; rfl
  rw [hs, List.length_append, logT_len] at hb
  rw [waybillref17_BloomOf.l1, if_pos h1, hx, Zb, waybillref17_text, Zb, if_pos (by simp; omega), Option.elim_some, dbof_in a i _ hx _ 0 _ _ (Nat.zero_add _) (by omega) (by simp; omega), Zb, dbof_out a d (i + 1) k _ (by omega) (by omega) (by simp; omega), hs, List.drop_zero]
  simp [logT, It.data]
theorem dof_eq (a : List (List (BitVec 8))) (ha : ∀ t ∈ a, t.length + 137 ≤ 140737488355328) : waybillref10_Of a = bloom_Of a := by
 unfold waybillref10_Of bloom_Of
 rw [rof_loop a ha]
theorem dbof_eq (a : List Log) (hb : (logsT a).length * 24 ≤ 140737488355328) : waybillref17_BloomOf a = receipt_BloomOf a := by
 rw [rbof_eq a hb]
 unfold waybillref17_BloomOf
 rw [dbof_out a a.length 0 (a.length - 0 + 2) [] (by omega) (by omega) (by simpa using hb), Zb, List.drop_zero, List.nil_append, dof_eq _ (fun t ht => by have := logsT_small ht; omega)]
 cases bloom_Of (logsT a) <;> rfl
end Go.Fw
namespace Go.Fw
theorem text14 (x : It) : waybillref14_Text x = some (if isT x = true then (x.data, true) else ([], false)) := by
 obtain ⟨l, d, it⟩ := x
 unfold waybillref14_Text isT
 cases l
 ·cases it with
  | nil => simp [It.list, It.data, It.items]
  | cons a it => simp [It.list, It.data, It.items]
 ·simp [It.list, It.data, It.items]
theorem list14 (x : It) : waybillref14_List x = some (if isL x = true then (x.items, true) else ([], false)) := by
 obtain ⟨l, d, it⟩ := x
 unfold waybillref14_List isL
 cases l
 ·simp [It.list, It.data, It.items]
 ·cases d with
  | nil => simp [It.list, It.data, It.items]
  | cons a it => simp [It.list, It.data, It.items]
theorem fixed14 (x : It) (n : Int) : waybillref14_Fixed x n = some (if isT x = true then (x.data, decide ((x.data.length : Int) = n)) else ([], false)) := by
 unfold waybillref14_Fixed
 rw [text14, Zb]
 by_cases h : isT x = true
 ·rw [if_pos h, if_pos h]; rfl
 ·rw [if_neg h, if_neg h]; rfl
theorem cpV_full {n : Nat} (w v : Vector (BitVec 8) n) {l : List (BitVec 8)} (h : v.toList = l) : cpV w 0 (l.take (min l.length (n - 0))) = v := by
 have hl : l.length = n := by rw [← h, Zv]
 have e1 : l.take (min l.length (n - 0)) = l := List.take_of_length_le (by omega)
 rw [e1]
 apply Vector.toList_inj.1
 rw [h]
 rw [cpV_toList w (by omega), List.take_zero, List.nil_append, Nat.zero_add, List.drop_of_length_le (by rw [Zv]; omega), List.append_nil]
theorem dtop_loop (its : List It) (ad : Vector (BitVec 8) 20) (dd : List (BitVec 8)) (hn : its.length * 32 ≤ 140737488355328) : ∀ (d i k : Nat) (l : List (Vector (BitVec 8) 32)), i + d = its.length → d < k → l.length ≤ i →
  ∃ o, waybillref17_ParseLog.l1 its k i ad l dd = some o ∧ ((∃ hs, o = Lp.go (ad, l ++ hs, dd) ∧ its.drop i = hs.map (fun h : Vector (BitVec 8) 32 => tIt h.toList)) ∨ (o = Lp.ret (some (Log.zero, 172)) ∧ ¬ ∃ hs : List (Vector (BitVec 8) 32), its.drop i = hs.map (fun h => tIt h.toList)))
 | 0, i, k, l, h, hk, hl => by
  obtain ⟨k, rfl⟩ : ∃ m, k = m + 1 := ⟨k - 1, by omega⟩
  rw [waybillref17_ParseLog.l1, if_neg (by omega)]
  exact ⟨_, rfl, .inl ⟨[], by rw [List.append_nil], by rw [List.drop_eq_nil_of_le (by omega)]; rfl⟩⟩
 | d + 1, i, k, l, h, hk, hl => by
  obtain ⟨k, rfl⟩ : ∃ m, k = m + 1 := ⟨k - 1, by omega⟩
  have h1 : i < its.length := by omega
  rw [waybillref17_ParseLog.l1, if_pos h1, List.getElem?_eq_getElem h1, Zb, fixed14, Zb, List.drop_eq_getElem_cons h1]
  by_cases hc : isT its[i] = true ∧ ((its[i]).data.length : Int) = 32
  ·obtain ⟨hc1, hc2⟩ := hc
   rw [if_pos hc1]
   dsimp only
   obtain ⟨v, hv, hvl⟩ := toVec_full (n := 32) (l := (its[i]).data) (by omega)
   have e1 : its[i] = tIt v.toList := by rw [hvl]; exact isT_iff.1 hc1
   rw [if_pos (decide_eq_true hc2), if_pos (by rw [List.length_singleton]; omega), cpV_full _ v hvl]
   obtain ⟨o, h2, h3⟩ := dtop_loop its ad dd hn d (i + 1) k (l ++ [v]) (by omega) (by omega) (by rw [List.length_append, List.length_singleton]; omega)
   refine ⟨o, h2, ?_⟩
   rcases h3 with ⟨hs, h4, h5⟩ | ⟨h4, h5⟩
   ·exact .inl ⟨v :: hs, by rw [h4, List.append_assoc]; rfl, by rw [List.map_cons, ← h5, ← e1]⟩
   ·refine .inr ⟨h4, fun ⟨hs, h6⟩ => h5 ?_⟩
    cases hs with
    | nil => cases h6
    | cons x hs => rw [List.map_cons] at h6; exact ⟨hs, (List.cons.inj h6).2⟩
  ·have hno : ¬ ∃ hs : List (Vector (BitVec 8) 32), its[i] :: its.drop (i + 1) = hs.map (fun h => tIt h.toList) := fun ⟨hs, h5⟩ => hc (by
    cases hs with
    | nil => cases h5
    | cons x hs =>
     rw [List.map_cons] at h5
     rw [(List.cons.inj h5).1]
     exact ⟨isT_tIt _, by show ((x.toList.length : Nat) : Int) = 32; rw [Zv]; rfl⟩)
   by_cases hc1 : isT its[i] = true
   ·rw [if_pos hc1]
    dsimp only
    rw [if_neg (by simp; exact fun h => hc ⟨hc1, by omega⟩)]
    exact ⟨_, rfl, .inr ⟨rfl, hno⟩⟩
   ·rw [if_neg hc1]
    dsimp only
    rw [if_neg (by decide)]
    exact ⟨_, rfl, .inr ⟨rfl, hno⟩⟩
theorem dparse_eq (it : It) (hw : it.wt ≤ 2147483647) : ∃ (x : Log) (e : Nat), receipt_ParseLog it = some (x, (e : Int)) ∧ waybillref17_ParseLog it = some (x, e) := by
 have hwi : Its.wt it.items ≤ 2147483647 := by rw [It.wt_eq] at hw; omega
 have hzl : (Log.mk (Vector.replicate 20 0#8) ([] : List (Vector (BitVec 8) 32)) ([] : List (BitVec 8))) = Log.zero := rfl
 unfold receipt_ParseLog waybillref17_ParseLog
 rw [list_spec _ _ hwi, if_pos rfl, Zb, list14, Zb]
 by_cases hL : isL it = true
 ·rw [if_pos hL, if_pos hL]
  dsimp only
  rw [if_pos rfl, Zb]
  by_cases h3 : it.items.length = 3
  ·rw [if_pos ⟨rfl, h3⟩, if_neg (by simp [h3])]
   obtain ⟨x0, x1, x2, hi⟩ : ∃ a b c, it.items = [a, b, c] := by
    match it.items, h3 with
    | [a, b, c], _ => exact ⟨a, b, c, rfl⟩
   have hw1 : Its.wt x1.items ≤ 2147483647 := Nat.le_trans (Its.wt_items (l := it.items) (x := x1) (by rw [hi]; simp)) hwi
   have hl1 : x1.items.length ≤ 2147483647 := Nat.le_trans (Its.len_wt x1.items) hw1
   rw [hi]
   rw [show ([x0, x1, x2] : List It)[0]? = some x0 from rfl, show ([x0, x1, x2] : List It)[1]? = some x1 from rfl, show ([x0, x1, x2] : List It)[2]? = some x2 from rfl, Zb, Zb, Z144, if_pos rfl, Zb, fixed14, Zb]
   by_cases ha : isT x0 = true ∧ ((20 : Int) < 0 ∨ (x0.data.length : Int) = 20)
   ·have hl0 : (x0.data.length : Int) = 20 := by omega
    rw [if_pos ha, if_pos ha.1]
    dsimp only
    rw [if_pos rfl]
    obtain ⟨v, hv, hvl⟩ := toVec_full (n := 20) (l := x0.data) (by omega)
    rw [hv, Zb, Zb, Zb, cpV_full _ v hvl, list14, Zb]
    unfold rtopics
    rw [list_spec _ _ hw1, if_pos rfl, Zb]
    by_cases hb : isL x1 = true
    ·rw [if_pos hb, if_pos hb]
     dsimp only
     obtain ⟨ts, r, ht1, ht2⟩ := topicsF_char x1.items [] (by simp; omega)
     rw [ht1, Zb, Zb, Zb, text14, Zb, Z144]
     by_cases hd : isT x2 = true
     ·obtain ⟨o, ho1, ho2⟩ := dtop_loop x1.items v [] (by omega) x1.items.length 0 (x1.items.length - 0 + 2) [] (by omega) (by omega) (by simp)
      rw [List.drop_zero] at ho2
      rcases ht2 with ⟨rfl, hs, e1, e2⟩ | ⟨rfl, e1⟩
      ·obtain rfl : hs = ts := by simpa using e1.symm
       rcases ho2 with ⟨hs2, q1, q2⟩ | ⟨_, q2⟩
       ·have hh : hs2 = hs := map_tIt_inj (q2.symm.trans e2)
        subst hh q1
        have hlen2 : x2.data.length ≤ 140737488355328 := by
         have h8 := Its.wt_mem (l := it.items) (x := x2) (by rw [hi]; simp)
         rw [It.wt_eq] at h8
         omega
        by_cases h4 : 4 < hs2.length
        ·refine ⟨Log.zero, 174, ?_, ?_⟩
         ·dsimp only
          rw [if_pos rfl, if_pos ⟨hd, .inl (by decide)⟩, Zb]
          dsimp only
          rw [if_pos rfl, if_pos h4]; rfl
         ·rw [if_pos hd]
          dsimp only
          rw [if_pos (decide_eq_true hl0), if_pos rfl, Zb, if_neg (by decide), ho1, Zb]
          dsimp only
          rw [List.nil_append, if_pos h4]; rfl
        ·refine ⟨⟨v, hs2, x2.data⟩, 0, ?_, ?_⟩
         ·dsimp only
          rw [if_pos rfl, if_pos ⟨hd, .inl (by decide)⟩, Zb]
          dsimp only
          rw [if_pos rfl, if_neg h4]; rfl
         ·rw [if_pos hd]
          dsimp only
          rw [if_pos (decide_eq_true hl0), if_pos rfl, Zb, if_neg (by decide), ho1, Zb]
          dsimp only
          rw [List.nil_append, if_neg h4, if_pos (by rw [List.length_nil]; omega), List.nil_append]
       ·exact absurd ⟨hs, e2⟩ q2
      ·rcases ho2 with ⟨hs2, q1, q2⟩ | ⟨q1, q2⟩
       ·exact absurd ⟨hs2, q2⟩ e1
       ·subst q1
        refine ⟨Log.zero, 172, ?_, ?_⟩
        ·dsimp only
         rw [if_neg (by decide), Zb]; rfl
        ·rw [if_pos hd]
         dsimp only
         rw [if_pos (decide_eq_true hl0), if_pos rfl, Zb, if_neg (by decide), ho1, Zb]
     ·have hr : r.err = 0 ∨ r = ⟨172⟩ := by
       rcases ht2 with ⟨rfl, _⟩ | ⟨rfl, _⟩
       ·exact .inl rfl
       ·exact .inr rfl
      refine ⟨Log.zero, 172, ?_, ?_⟩
      ·dsimp only
       rcases hr with hr | rfl
       ·rw [if_pos hr, if_neg (fun h => hd h.1), Zb]; rfl
       ·rw [if_neg (by decide), Zb]; rfl
      ·rw [if_neg hd]
       dsimp only
       rw [if_pos (decide_eq_true hl0), if_pos rfl, Zb, if_pos (by decide)]; rfl
    ·rw [if_neg hb, if_neg hb]
     dsimp only
     refine ⟨Log.zero, 172, ?_, ?_⟩
     ·rw [rtopicsF, Zb, Zb, Z144]
      dsimp only
      rw [if_neg (by decide), Zb]; rfl
     ·rw [Zb, text14, Zb, if_pos (decide_eq_true hl0), if_neg (by decide), Zb, if_pos (by decide)]; rfl
   ·refine ⟨Log.zero, 172, ?_, ?_⟩
    ·rw [if_neg ha]
     dsimp only
     rw [if_neg (by decide), Zb, Zb]
     unfold rtopics
     rw [list_spec _ _ hw1, if_neg (by decide), Zb]
     dsimp only
     rw [rtopicsF, Zb, Zb, Z144]
     dsimp only
     rw [if_neg (by decide), Zb]; rfl
    ·rw [Zb, list14, Zb, Zb, text14, Zb]
     have hp : (if isT x0 = true then (x0.data, decide ((x0.data.length : Int) = 20)) else (([] : List (BitVec 8)), false)).2 = false := by
      by_cases h0 : isT x0 = true
      ·rw [if_pos h0]; exact decide_eq_false (fun h => ha ⟨h0, .inr h⟩)
      ·rw [if_neg h0]
     rw [hp, if_neg (by decide), Zb, if_pos rfl]
     rfl
  ·rw [if_neg (by simp [h3]), if_pos (by simp [h3])]
   exact ⟨_, 172, rfl, rfl⟩
 ·rw [if_neg hL, if_neg hL]
  dsimp only
  rw [if_neg (by simp), if_neg (by decide), Zb, if_pos rfl]
  exact ⟨_, 172, rfl, rfl⟩
end Go.Fw
namespace Go.Fw
theorem scalar14 (x : It) : ∃ w p, waybillref14_Scalar x 8 = some (w, p) ∧ ((p = true ∧ ∃ v, x = smallIt v ∧ w[0] = v) ∨ (p = false ∧ ∀ y, x ≠ smallIt y)) := by
 have hlen : ∀ y : BitVec 64, (bytesN y.toNat).length ≤ 8 := fun y => by
  rw [Z160]
  have h := y.isLt
  exact nb_8 h
 have htop : ∀ y : BitVec 64, (bytesN y.toNat)[0]? ≠ some 0#8 := fun y => by
  by_cases h0 : y.toNat = 0
  ·rw [h0]; decide
  ·exact bytesN_top h0
 unfold waybillref14_Scalar
 rw [text14, Zb]
 by_cases ht : isT x = true
 ·have ex := isT_iff.1 ht
  rw [if_pos ht]
  dsimp only
  rw [if_pos rfl]
  by_cases h8 : (8 : Int) < ((x.data.length : Nat) : Int)
  ·rw [if_pos h8, Zb, if_pos rfl]
   refine ⟨_, _, rfl, .inr ⟨rfl, fun y hy => ?_⟩⟩
   have := hlen y
   rw [hy] at h8
   replace h8 : (8 : Int) < (((bytesN y.toNat).length : Nat) : Int) := h8
   omega
  ·rw [if_neg h8]
   by_cases h0 : x.data[0]? = some 0#8
   ·have hl : 0 < x.data.length := (List.getElem?_eq_some_iff.1 h0).1
    rw [if_pos hl, h0, Zb, Zb, if_pos (by decide)]
    refine ⟨_, _, rfl, .inr ⟨rfl, fun y hy => htop y ?_⟩⟩
    rw [hy] at h0; exact h0
   ·have hz : (if 0 < x.data.length then (x.data[0]?).bind fun x47 => some (decide (x47 = 0#8)) else some false) = some false := by
     by_cases hl : 0 < x.data.length
     ·rw [if_pos hl, List.getElem?_eq_getElem hl, Zb]
      rw [List.getElem?_eq_getElem hl] at h0
      exact congrArg some (decide_eq_false (fun h => h0 (by rw [h])))
     ·rw [if_neg hl]
    rw [hz, Zb, if_neg (by decide)]
    obtain ⟨v, f, b1, b2⟩ := number_all (It.mk false x.data []) 32 (by omega)
    have b4 : waybillref07_GetNumber (It.mk false x.data []) = some (v, f) := by unfold waybillref07_GetNumber; rw [b2, Zb]
    rw [b4, Zb]
    dsimp only
    obtain ⟨⟨e, h1, h2⟩, _⟩ := kind_spec (It.mk false x.data [])
    have he : e = 0 := h2.2 (isT_tIt x.data)
    subst he
    unfold rlp_number at b1
    rw [h1, Zb, if_pos rfl, if_neg (by show ¬ (32 : Int) < ((x.data.length : Nat) : Int); omega)] at b1
    have b5 : u256_Strict x.data = some (lim (beV x.data), 0) := by
     rw [strict_eq x.data (by omega), if_neg h0]
    rw [show (It.mk false x.data []).data = x.data from rfl, b5, Zb] at b1
    dsimp only at b1
    rw [if_pos rfl] at b1
    obtain ⟨rfl, rfl⟩ := Prod.mk.inj (Zi b1)
    refine ⟨_, _, rfl, .inl ⟨decide_eq_true rfl, _, ?_, rfl⟩⟩
    have hb := beV_lt x.data
    have hp : 256 ^ x.data.length ≤ 256 ^ 8 := Nat.pow_le_pow_right (by decide) (by omega)
    have e8 : (256 : Nat) ^ 8 = 2 ^ 64 := by decide
    rw [lim_get _ 0 (by decide)]
    unfold smallIt
    rw [BitVec.toNat_ofNat, Nat.mul_zero, Nat.pow_zero, Nat.div_one, Nat.mod_eq_of_lt (by omega), bytesN_beV h0]
    exact ex
 ·rw [if_neg ht]
  dsimp only
  rw [if_neg (by decide), Zb, if_pos rfl]
  exact ⟨_, _, rfl, .inr ⟨rfl, fun y hy => ht (by rw [hy]; exact isT_tIt _)⟩⟩
theorem refuse0 (r : Rdr) (h : r.err = 0) (e : Int) : waybill_receipt_reader_refuse r e = some ⟨e⟩ := by
 unfold waybill_receipt_reader_refuse
 rw [if_pos h]; rfl
theorem dfirst_eq (k : Int) (x : It) : ∃ (o : RcptC) (q : Rdr), routcome ⟨0⟩ { RcptZ with kind := k } x = some (o, q) ∧
  ((q = ⟨0⟩ ∧ o.kind = k ∧ waybillref17_first k x = some (⟨k, o.rooted, o.root, o.status, 0#64, Vector.replicate 256 0#8, []⟩, true)) ∨ (q = ⟨172⟩ ∧ ∃ r, waybillref17_first k x = some (r, false))) := by
 unfold routcome waybillref17_first
 rw [Z144, if_pos rfl, Zb, text14, Zb]
 by_cases ht : isT x = true
 ·rw [if_pos (show isT x = true ∧ ((-1 : Int) < 0 ∨ (x.data.length : Int) = -1) from ⟨ht, .inl (by decide)⟩), if_pos ht]
  dsimp only
  rw [if_pos rfl, if_pos rfl]
  by_cases h0 : x.data.length = 0
  ·rw [if_pos h0, if_pos h0]
   exact ⟨_, _, rfl, .inl ⟨rfl, rfl, rfl⟩⟩
  ·rw [if_neg h0, if_neg h0]
   have root : ∀ (hno : ¬ (x.data.length = 1 ∧ x.data[0]? = some 1#8)), ∃ (o : RcptC) (q : Rdr), rroot ⟨0⟩ { RcptZ with kind := k } x.data = some (o, q) ∧
     ((q = ⟨0⟩ ∧ o.kind = k ∧ (((if k = (0 : Int) then (some ((decide (x.data.length = 32)))) else (some (false))) : Option ((Bool))).bind fun p41 => (if p41 = true then (some ((Rcpt.mk k true (cpV (Vector.replicate 32 0#8) 0 (x.data.take (min x.data.length (32 - 0)))) (0#64) (0#64) (Vector.replicate 256 0#8) ([] : List (Log))), true)) else (some ((Rcpt.mk k false (Vector.replicate 32 0#8) (0#64) (0#64) (Vector.replicate 256 0#8) ([] : List (Log))), false)))) = some (⟨k, o.rooted, o.root, o.status, 0#64, Vector.replicate 256 0#8, []⟩, true)) ∨
     (q = ⟨172⟩ ∧ ∃ r, (((if k = (0 : Int) then (some ((decide (x.data.length = 32)))) else (some (false))) : Option ((Bool))).bind fun p41 => (if p41 = true then (some ((Rcpt.mk k true (cpV (Vector.replicate 32 0#8) 0 (x.data.take (min x.data.length (32 - 0)))) (0#64) (0#64) (Vector.replicate 256 0#8) ([] : List (Log))), true)) else (some ((Rcpt.mk k false (Vector.replicate 32 0#8) (0#64) (0#64) (Vector.replicate 256 0#8) ([] : List (Log))), false)))) = some (r, false))) := fun hno => by
    unfold rroot
    by_cases h32 : x.data.length = 32 ∧ k = 0
    ·obtain ⟨v, hv, hvl⟩ := toVec_full (n := 32) (l := x.data) h32.1
     rw [if_pos (show x.data.length = 32 ∧ ({ RcptZ with kind := k } : RcptC).kind = 0 from h32), hv, Zb, if_pos h32.2, Zb, if_pos (decide_eq_true h32.1), cpV_full _ v hvl]
     exact ⟨_, _, rfl, .inl ⟨rfl, rfl, rfl⟩⟩
    ·rw [if_neg (show ¬ (x.data.length = 32 ∧ ({ RcptZ with kind := k } : RcptC).kind = 0) from h32), refuse0 _ rfl, Zb]
     refine ⟨_, _, rfl, .inr ⟨rfl, ?_⟩⟩
     by_cases hk : k = 0
     ·rw [if_pos hk, Zb, if_neg (by simp; exact fun h => h32 ⟨h, hk⟩)]; exact ⟨_, rfl⟩
     ·rw [if_neg hk, Zb, if_neg (by decide)]; exact ⟨_, rfl⟩
   by_cases h1 : x.data.length = 1
   ·rw [if_pos h1, if_pos h1]
    have hx : x.data[0]? = some (x.data[0]'(by omega)) := List.getElem?_eq_getElem (by omega)
    rw [hx, Zb, Zb]
    by_cases h2 : x.data[0]'(by omega) = 1#8
    ·rw [if_pos h2, Zb, if_pos (decide_eq_true h2)]
     exact ⟨_, _, rfl, .inl ⟨rfl, rfl, rfl⟩⟩
    ·rw [if_neg h2, Zb, if_neg (by simp [h2])]
     exact root (fun h => h2 (by rw [hx] at h; exact Zi h.2))
   ·rw [if_neg h1, if_neg h1, Zb, if_neg (by decide)]
    exact root (fun h => h1 h.1)
 ·rw [if_neg (show ¬ (isT x = true ∧ ((-1 : Int) < 0 ∨ (x.data.length : Int) = -1)) from fun h => ht h.1), if_neg ht]
  dsimp only
  rw [if_neg (show ¬ ((172 : Int) = 0) by decide), if_neg (by decide)]
  exact ⟨_, _, rfl, .inr ⟨rfl, _, rfl⟩⟩
end Go.Fw
namespace Go.Fw
theorem dlogs_loop (its : List It) (z : Int) (p : Bool) (w1 : Vector (BitVec 8) 32) (w2 w3 : BitVec 64) (w4 : Vector (BitVec 8) 256) (hw : Its.wt its ≤ 2147483647) (hn : its.length * 72 ≤ 140737488355328) : ∀ (d i k : Nat) (l : List Log), i + d = its.length → d < k → l.length ≤ i →
  ∃ (ls : List Log) (e : Nat), rlogsF ⟨0⟩ l (its.drop i) = some (ls, ⟨(e : Int)⟩) ∧ ((e = 0 ∧ waybillref17_fields.l1 its k i z p w1 w2 w3 w4 l = some (Lp.go (z, p, w1, w2, w3, w4, ls))) ∨ (e ≠ 0 ∧ ∃ r, waybillref17_fields.l1 its k i z p w1 w2 w3 w4 l = some (Lp.ret (some (r, e)))))
 | 0, i, k, l, h, hk, hl => by
  obtain ⟨k, rfl⟩ : ∃ m, k = m + 1 := ⟨k - 1, by omega⟩
  rw [waybillref17_fields.l1, if_neg (by omega), List.drop_eq_nil_of_le (by omega)]
  exact ⟨l, 0, rfl, .inl ⟨rfl, rfl⟩⟩
 | d + 1, i, k, l, h, hk, hl => by
  obtain ⟨k, rfl⟩ : ∃ m, k = m + 1 := ⟨k - 1, by omega⟩
  have h1 : i < its.length := by omega
  have hx : its[i]? = some its[i] := List.getElem?_eq_getElem h1
  obtain ⟨x, e, e1, e2⟩ := dparse_eq its[i] (Nat.le_trans (wt_item hx) hw)
  rw [waybillref17_fields.l1, if_pos h1, hx, Zb, e2, Zb, List.drop_eq_getElem_cons h1, rlogsF, e1, Zb]
  dsimp only
  by_cases he : e = 0
  ·subst he
   rw [if_pos (show ((0 : Nat) : Int) = 0 from rfl), if_pos (by omega)]
   try rw [if_pos (show (0 : Nat) = 0 from rfl)]
   rw [if_pos (by rw [List.length_singleton]; omega)]
   exact dlogs_loop its z p w1 w2 w3 w4 hw hn d (i + 1) k (l ++ [x]) (by omega) (by omega) (by rw [List.length_append, List.length_singleton]; omega)
  ·rw [if_neg (by omega), if_neg he, refuse0 _ rfl, Zb]
   exact ⟨l, e, rfl, .inr ⟨he, _, rfl⟩⟩
end Go.Fw
namespace Go.Fw
def refF (k : Int) (f : List It) : Option (Rcpt × Nat) := (waybillref17_fields k f).bind fun (x84, x85) => (if x85 = 0 then ((waybillref17_BloomOf x84.logs).bind fun x107 => (if x84.bloom = x107 then (some (x84, 0)) else (some (Rcpt.zero, 173)))) else (some (Rcpt.zero, x85)))
theorem rlogs_bad (x : It) (hw : Its.wt x.items ≤ 2147483647) : rlogs ⟨172⟩ [] x = some ([], ⟨172⟩) := by
 unfold rlogs
 rw [list_spec _ _ hw, if_neg (by decide), Zb]
 rfl
theorem dfields_eq (k : Int) (f : List It) (h4 : f.length = 4) (hw : Its.wt f ≤ 2147483647) : ∃ (x : Rcpt) (e : Nat), rfields k f = some (x, (e : Int)) ∧ refF k f = some (x, e) := by
 obtain ⟨x0, x1, x2, x3, rfl⟩ : ∃ a b c d, f = [a, b, c, d] := by
  match f, h4 with
  | [a, b, c, d], _ => exact ⟨a, b, c, d, rfl⟩
 have hw3 : x3.wt ≤ 2147483647 := Nat.le_trans (Its.wt_mem (l := [x0, x1, x2, x3]) (by simp)) hw
 have hwi : Its.wt x3.items ≤ 2147483647 := by rw [It.wt_eq] at hw3; omega
 have hli : x3.items.length ≤ 2147483647 := Nat.le_trans (Its.len_wt _) hwi
 obtain ⟨o, q, p1, p2⟩ := dfirst_eq k x0
 unfold rfields refF waybillref17_fields
 rw [show ([x0, x1, x2, x3] : List It)[0]? = some x0 from rfl, show ([x0, x1, x2, x3] : List It)[1]? = some x1 from rfl, show ([x0, x1, x2, x3] : List It)[2]? = some x2 from rfl, show ([x0, x1, x2, x3] : List It)[3]? = some x3 from rfl]
 rw [Zb, Zb, p1, Zb]
 rcases p2 with ⟨rfl, hk, p3⟩ | ⟨rfl, r, p3⟩
 ·obtain ⟨w, pw, s1, s2⟩ := scalar14 x1
  obtain ⟨v, q1, t1, t2⟩ := (rsmall_char ⟨0⟩ o.used x1).2 rfl
  have href : ∀ (b : Rcpt × Nat → Option (Rcpt × Nat)), (((waybillref17_first k x0).bind fun (x22, x23) => (if x23 = true then (some x1).bind fun x30 => ((waybillref14_Scalar x30 (8 : Int)).bind fun (x49, x50) => (some x2).bind fun x54 => ((waybillref14_Fixed x54 (256 : Int)).bind fun (x73, x74) => (some x3).bind fun x84 => ((waybillref14_List x84).bind fun (x103, x104) => (((if x50 = true then (if x74 = true then (some ((!x104))) else (some (true))) else (some (true))) : Option ((Bool))).bind fun p118 => (if p118 = true then (some ((Rcpt.mk x22.kind (x22.rooted) x22.root x22.status x22.used x22.bloom ([] : List (Log))), 172)) else (((waybillref17_fields.l1 x103 (x103.length - 0 + 2) 0 x22.kind (x22.rooted) x22.root x22.status (x49[0]) (cpV x22.bloom 0 (x73.take (min x73.length (256 - 0)))) ([] : List (Log))) : Option (Lp ((Rcpt) × (Nat)) ((Int) × (Bool) × (Vector (BitVec 8) 32) × (BitVec 64) × (BitVec 64) × (Vector (BitVec 8) 256) × (List (Log))))).bind fun | .ret o => o | .go (z131, p133, w134, w135, w136, w137, l138) => (some ((Rcpt.mk z131 (p133) w134 w135 w136 w137 l138), 0)))))))) else (some ((Rcpt.mk x22.kind (x22.rooted) x22.root x22.status x22.used x22.bloom ([] : List (Log))), 172)))).bind b) =
    ((((if pw = true then (if (if isT x2 = true then (x2.data, decide ((x2.data.length : Int) = 256)) else ([], false)).2 = true then (some ((!(if isL x3 = true then (x3.items, true) else ([], false)).2))) else (some (true))) else (some (true))) : Option ((Bool))).bind fun p118 => (if p118 = true then (some ((Rcpt.mk k o.rooted o.root o.status 0#64 (Vector.replicate 256 0#8) ([] : List (Log))), 172)) else (((waybillref17_fields.l1 (if isL x3 = true then (x3.items, true) else ([], false)).1 ((if isL x3 = true then (x3.items, true) else ([], false)).1.length - 0 + 2) 0 k o.rooted o.root o.status (w[0]) (cpV (Vector.replicate 256 0#8) 0 ((if isT x2 = true then (x2.data, decide ((x2.data.length : Int) = 256)) else ([], false)).1.take (min (if isT x2 = true then (x2.data, decide ((x2.data.length : Int) = 256)) else ([], false)).1.length (256 - 0)))) ([] : List (Log))) : Option (Lp ((Rcpt) × (Nat)) ((Int) × (Bool) × (Vector (BitVec 8) 32) × (BitVec 64) × (BitVec 64) × (Vector (BitVec 8) 256) × (List (Log))))).bind fun | .ret o => o | .go (z131, p133, w134, w135, w136, w137, l138) => (some ((Rcpt.mk z131 (p133) w134 w135 w136 w137 l138), 0))))).bind b) := fun b => by
   rw [p3, Zb]
   dsimp only
   rw [if_pos rfl, Zb, s1, Zb, Zb, fixed14, Zb, Zb, list14, Zb]
  rcases t2 with ⟨rfl, hv⟩ | ⟨rfl, hno⟩
  ·have hs : pw = true ∧ w[0] = v := by
    rcases s2 with ⟨h1, v2, h2, h3⟩ | ⟨_, h2⟩
    ·exact ⟨h1, by rw [h3]; exact smallIt_inj (h2.symm.trans hv)⟩
    ·exact absurd hv (h2 v)
   obtain ⟨rfl, hwv⟩ := hs
   obtain ⟨bv, q2, u1, u2⟩ := (rbloom_char ⟨0⟩ o.bloom x2).2 rfl
   rcases u2 with ⟨rfl, hb⟩ | ⟨rfl, hno⟩
   ·have hT : isT x2 = true := by rw [hb]; exact isT_tIt _
    have hd : x2.data = bv.toList := by rw [hb]; rfl
    have h256 : ((x2.data.length : Nat) : Int) = 256 := by rw [hd, Zv]; rfl
    by_cases hL : isL x3 = true
    ·obtain ⟨ls, e, l1, l2⟩ := dlogs_loop x3.items k o.rooted o.root o.status v bv hwi (by omega) x3.items.length 0 (x3.items.length - 0 + 2) [] (by omega) (by omega) (by simp)
     rw [List.drop_zero] at l1
     have hrl : rlogs ⟨0⟩ [] x3 = some (ls, ⟨(e : Int)⟩) := by
      unfold rlogs
      rw [list_spec _ _ hwi, if_pos rfl, Zb, if_pos hL]
      exact l1
     have hR : ∀ (b : Rcpt × Nat → Option (Rcpt × Nat)), ((((if true = true then (if (if isT x2 = true then (x2.data, decide ((x2.data.length : Int) = 256)) else ([], false)).2 = true then (some ((!(if isL x3 = true then (x3.items, true) else ([], false)).2))) else (some (true))) else (some (true))) : Option ((Bool))).bind fun p118 => (if p118 = true then (some ((Rcpt.mk k o.rooted o.root o.status 0#64 (Vector.replicate 256 0#8) ([] : List (Log))), 172)) else (((waybillref17_fields.l1 (if isL x3 = true then (x3.items, true) else ([], false)).1 ((if isL x3 = true then (x3.items, true) else ([], false)).1.length - 0 + 2) 0 k o.rooted o.root o.status (w[0]) (cpV (Vector.replicate 256 0#8) 0 ((if isT x2 = true then (x2.data, decide ((x2.data.length : Int) = 256)) else ([], false)).1.take (min (if isT x2 = true then (x2.data, decide ((x2.data.length : Int) = 256)) else ([], false)).1.length (256 - 0)))) ([] : List (Log))) : Option (Lp ((Rcpt) × (Nat)) ((Int) × (Bool) × (Vector (BitVec 8) 32) × (BitVec 64) × (BitVec 64) × (Vector (BitVec 8) 256) × (List (Log))))).bind fun | .ret o => o | .go (z131, p133, w134, w135, w136, w137, l138) => (some ((Rcpt.mk z131 (p133) w134 w135 w136 w137 l138), 0))))).bind b) =
       ((waybillref17_fields.l1 x3.items (x3.items.length - 0 + 2) 0 k o.rooted o.root o.status v bv []).bind fun | .ret o => o | .go (z131, p133, w134, w135, w136, w137, l138) => (some ((Rcpt.mk z131 (p133) w134 w135 w136 w137 l138), 0))).bind b := fun b => by
      rw [if_pos rfl, if_pos hT, if_pos hL]
      dsimp only
      rw [if_pos (decide_eq_true h256), Zb, if_neg (by decide), hwv, cpV_full _ bv hd.symm]
     have hP : ∀ (g : List Log × Rdr → Option (Rcpt × Int)), (((some x1).bind fun x1 => (rsmall (o, (⟨0⟩ : Rdr)).2 (o, (⟨0⟩ : Rdr)).1.used x1).bind fun u => (some x2).bind fun x2 => (rbloom u.2 (o, (⟨0⟩ : Rdr)).1.bloom x2).bind fun bl => (some x3).bind fun x3 => (rlogs bl.2 [] x3).bind fun l => if l.2.err = 0 then (receipt_BloomOf l.1).bind fun y => if bl.1 = y then some ((⟨(o, (⟨0⟩ : Rdr)).1.kind, (o, (⟨0⟩ : Rdr)).1.rooted, (o, (⟨0⟩ : Rdr)).1.root, (o, (⟨0⟩ : Rdr)).1.status, u.1, bl.1, l.1⟩ : Rcpt), (0 : Int)) else some (Rcpt.zero, 173) else some (Rcpt.zero, l.2.err))) =
       (if ((e : Nat) : Int) = 0 then (receipt_BloomOf ls).bind fun y => if bv = y then some ((⟨k, o.rooted, o.root, o.status, v, bv, ls⟩ : Rcpt), (0 : Int)) else some (Rcpt.zero, 173) else some (Rcpt.zero, (e : Int))) := fun _ => by
      rw [Zb, t1, Zb, Zb, u1, Zb, Zb]
      dsimp only
      rw [hrl, Zb, hk]
     have hP := hP (fun _ => none)
     by_cases he : e = 0
     ·subst he
      have l3 : waybillref17_fields.l1 x3.items (x3.items.length - 0 + 2) 0 k o.rooted o.root o.status v bv [] = some (Lp.go (k, o.rooted, o.root, o.status, v, bv, ls)) := by
       rcases l2 with ⟨_, h⟩ | ⟨h, _⟩
       ·exact h
       ·exact absurd rfl h
      have hch := (rlogs_char ⟨0⟩ x3 hw3).2 rfl
      obtain ⟨ls', q', c1, c2⟩ := hch
      rw [hrl] at c1
      obtain ⟨rfl, rfl⟩ := Prod.mk.inj (Zi c1)
      have hfl : fewT ls ∧ ls.length ≤ 1099511627776 := by
       rcases c2 with ⟨_, c3, c4⟩ | ⟨c3, _⟩
       ·refine ⟨c4, ?_⟩
        have : x3.items = ls.map logIt := by rw [c3]; rfl
        have := congrArg List.length this
        rw [List.length_map] at this
        omega
       ·exact absurd rfl c3
      obtain ⟨b, hb'⟩ := bloom_total hfl.1 hfl.2
      have hbr : waybillref17_BloomOf ls = some b := by
       have := logsT_few hfl.1
       rw [dbof_eq ls (by omega), hb']
      by_cases hbb : bv = b
      ·refine ⟨⟨k, o.rooted, o.root, o.status, v, bv, ls⟩, 0, ?_, ?_⟩
       ·refine hP.trans ?_
        rw [if_pos (by rfl), hb', Zb, if_pos hbb]; rfl
       ·refine (href _).trans ?_
        refine (hR _).trans ?_
        rw [l3, Zb, Zb]
        dsimp only
        rw [if_pos rfl, hbr, Zb, if_pos hbb]
      ·refine ⟨Rcpt.zero, 173, ?_, ?_⟩
       ·refine hP.trans ?_
        rw [if_pos (by rfl), hb', Zb, if_neg hbb]; rfl
       ·refine (href _).trans ?_
        refine (hR _).trans ?_
        rw [l3, Zb, Zb]
        dsimp only
        rw [if_pos rfl, hbr, Zb, if_neg hbb]
     ·obtain ⟨r, l3⟩ : ∃ r, waybillref17_fields.l1 x3.items (x3.items.length - 0 + 2) 0 k o.rooted o.root o.status v bv [] = some (Lp.ret (some (r, e))) := by
       rcases l2 with ⟨h, _⟩ | ⟨_, h⟩
       ·exact absurd h he
       ·exact h
      refine ⟨Rcpt.zero, e, ?_, ?_⟩
      ·refine hP.trans ?_
       rw [if_neg (by omega)]
      ·refine (href _).trans ?_
       refine (hR _).trans ?_
       rw [l3, Zb]
       dsimp only
       rw [Zb]
       dsimp only
       rw [if_neg he]
    ·refine ⟨Rcpt.zero, 172, ?_, ?_⟩
     ·rw [Zb, t1, Zb, Zb, u1, Zb, Zb]
      dsimp only
      have hrl : rlogs ⟨0⟩ [] x3 = some ([], ⟨172⟩) := by
       unfold rlogs
       rw [list_spec _ _ hwi, if_pos rfl, Zb, if_neg hL]
       rfl
      rw [hrl, Zb]; rfl
     ·refine (href _).trans ?_; rw [if_pos rfl, if_pos hT, if_neg hL]
      dsimp only
      rw [if_pos (decide_eq_true h256), Zb, if_pos (by decide), Zb]; rfl
   ·refine ⟨Rcpt.zero, 172, ?_, ?_⟩
    ·rw [Zb, t1, Zb, Zb, u1, Zb, Zb]
     dsimp only
     rw [rlogs_bad x3 hwi, Zb]; rfl
    ·have hp : (if isT x2 = true then (x2.data, decide ((x2.data.length : Int) = 256)) else (([] : List (BitVec 8)), false)).2 = false := by
      by_cases h0 : isT x2 = true
      ·rw [if_pos h0]
       refine decide_eq_false (fun h => ?_)
       obtain ⟨v2, _, hvl⟩ := toVec_full (n := 256) (l := x2.data) (by omega)
       exact hno v2 (by rw [hvl]; exact isT_iff.1 h0)
      ·rw [if_neg h0]
     refine (href _).trans ?_; rw [if_pos rfl, hp, if_neg (by decide), Zb, if_pos rfl, Zb]; rfl
  ·have hpw : pw = false := by
    rcases s2 with ⟨_, v2, h2, _⟩ | ⟨h1, _⟩
    ·exact absurd h2 (hno v2)
    ·exact h1
   subst hpw
   refine ⟨Rcpt.zero, 172, ?_, ?_⟩
   ·rw [Zb, t1, Zb, Zb, (rbloom_char _ _ x2).1 (by show (172 : Int) ≠ 0; decide), Zb, Zb]
    dsimp only
    rw [rlogs_bad x3 hwi, Zb]; rfl
   ·refine (href _).trans ?_; rw [if_neg (by decide), Zb, if_pos rfl, Zb]; rfl
 ·refine ⟨Rcpt.zero, 172, ?_, ?_⟩
  ·dsimp only
   rw [Zb, (rsmall_char ⟨172⟩ _ x1).1 (by decide), Zb, Zb, (rbloom_char _ _ x2).1 (by show (172 : Int) ≠ 0; decide), Zb, Zb]
   dsimp only
   rw [rlogs_bad x3 hwi, Zb]; rfl
  ·rw [p3, Zb]
   dsimp only
   rw [if_neg (by decide), Zb]; rfl
end Go.Fw
namespace Go.Fw
def refD (k : Nat) (d : List (BitVec 8)) : Option (Rcpt × Nat) := (waybillref07_Decode d).bind fun (x32, x33) => (if x33 = 0 then ((waybillref14_List x32).bind fun (x59, x60) => (((if x60 = true then (some ((!decide (x59.length = 4)))) else (some (true))) : Option ((Bool))).bind fun p74 => (if p74 = true then (some (Rcpt.zero, 171)) else refF (k : Int) x59))) else (some (Rcpt.zero, x33)))
theorem ddecode2_eq (k : Nat) (d : List (BitVec 8)) : ∃ (x : Rcpt) (e : Nat), rdecode2 k d = some (x, (e : Int)) ∧ refD k d = some (x, e) := by
 unfold rdecode2 refD
 rw [decode_eq, rdecode_eq, Zb, Zb]
 generalize hq : decodeR d = q
 obtain ⟨it, e⟩ := q
 rcases decode_back hq with ⟨he, rfl⟩ | ⟨rfl, hg, hd, hl, hdep, hw⟩
 ·dsimp only
  rw [if_neg he, if_neg he]
  exact ⟨_, _, rfl, rfl⟩
 ·dsimp only
  have hwt : it.wt ≤ 2147483647 := by
   have := wt_le_w9 [it]
   simp only [Its.wt, Its.w9] at this
   omega
  obtain ⟨l, e, g1, g2⟩ := getlist_char it hwt
  rw [if_pos rfl, if_pos rfl, g1, Zb, list14, Zb]
  rcases g2 with ⟨rfl, hx⟩ | ⟨he, hno⟩
  ·have hL : isL it = true := by rw [hx]; rfl
   have hi : it.items = l := by rw [hx]; rfl
   rw [if_pos hL]
   dsimp only
   rw [if_pos rfl, Zb, hi]
   by_cases h4 : l.length = 4
   ·rw [if_pos ⟨rfl, h4⟩, if_neg (by simp [h4])]
    exact dfields_eq k l h4 (by rw [It.wt_eq, hi] at hwt; omega)
   ·rw [if_neg (fun h => h4 h.2), if_pos (by simp [h4])]
    exact ⟨_, 171, rfl, rfl⟩
  ·have hL : ¬ isL it = true := fun h => hno _ (isL_iff.1 h)
   rw [if_neg hL]
   dsimp only
   rw [if_neg (fun h => he h.1), if_neg (by decide), Zb, if_pos rfl]
   exact ⟨_, 171, rfl, rfl⟩
end Go.Fw
namespace Go.Fw
theorem ddecode_eq (d : List (BitVec 8)) : ∃ (x : Rcpt) (e : Nat), receipt_Decode d = some (x, (e : Int)) ∧ waybillref17_Decode d = some (x, e) := by
 unfold receipt_Decode waybillref17_Decode
 by_cases hbig : 16777216 < d.length
 ·rw [if_pos hbig, if_pos hbig]; exact ⟨_, 2, rfl, rfl⟩
 rw [if_neg hbig, if_neg hbig]
 by_cases h0 : d.length = 0
 ·rw [if_pos h0, if_pos h0]; exact ⟨_, 70, rfl, rfl⟩
 rw [if_neg h0, if_neg h0]
 obtain ⟨b, hb⟩ : ∃ b, d[0]? = some b := ⟨_, List.getElem?_eq_getElem (by omega)⟩
 rw [hb, Zb, Zb]
 unfold dkind
 by_cases h1 : 1 ≤ b.toNat ∧ b.toNat ≤ 4
 ·rw [if_neg (by omega), if_pos h1, if_pos h1.1, Zb, Zb, if_pos (decide_eq_true h1.2), Zb, Zb]
  dsimp only
  rw [if_pos (by omega)]
  obtain ⟨x, e, p1, p2⟩ := ddecode2_eq b.toNat (d.drop 1)
  exact ⟨x, e, p1, p2⟩
 ·have hp : (if 1 ≤ b.toNat then (some b).bind fun x133 => some (decide (x133.toNat ≤ 4)) else some false) = some false := by
   by_cases h2 : 1 ≤ b.toNat
   ·rw [if_pos h2, Zb]; exact congrArg some (decide_eq_false (by omega))
   ·rw [if_neg h2]
  by_cases h3 : 192 ≤ b.toNat
  ·obtain ⟨x, e, p1, p2⟩ := ddecode2_eq 0 d
   refine ⟨x, e, ?_, ?_⟩
   ·rw [if_pos h3]
    exact p1
   ·rw [hp, Zb, if_neg (by decide), Zb, if_neg (by omega), Zb]
    dsimp only
    rw [if_pos (by omega), List.drop_zero]
    exact p2
  ·refine ⟨Rcpt.zero, 170, ?_, ?_⟩
   ·rw [if_neg h3, if_neg h1]; rfl
   ·rw [hp, Zb, if_neg (by decide), Zb, if_pos (by omega), Zb]; rfl
end Go.Fw
namespace Go.Fw
theorem back17_loop (a : List (BitVec 8)) (ha : a.length ≤ 140737488355328) : ∀ (i k : Nat) (l : List (BitVec 8)), i ≤ a.length → i < k → l.length + i ≤ 140737488355328 → ∃ m, waybilllaw17_backward.l1 a k l (((i : Nat) : Int) - 1) = some m ∧ m.length = l.length + i
 | 0, k, l, hi, hk, hl => by
  obtain ⟨k, rfl⟩ : ∃ m, k = m + 1 := ⟨k - 1, by omega⟩
  exact ⟨l, by rw [waybilllaw17_backward.l1, if_neg (by omega)], rfl⟩
 | i + 1, k, l, hi, hk, hl => by
  obtain ⟨k, rfl⟩ : ∃ m, k = m + 1 := ⟨k - 1, by omega⟩
  have e1 : ((((i + 1 : Nat) : Int) - 1)).toNat = i := by omega
  have h1 : i < a.length := by omega
  obtain ⟨m, h2, h3⟩ := back17_loop a ha i k (l ++ [a[i]]) (by omega) (by omega) (by rw [List.length_append, List.length_singleton]; omega)
  refine ⟨m, ?_, by rw [h3, List.length_append, List.length_singleton]; omega⟩
  rw [waybilllaw17_backward.l1, if_pos (by omega), e1, List.getElem?_eq_getElem h1, Zb, if_pos (by rw [List.length_singleton]; omega), if_pos (by omega), show ((i + 1 : Nat) : Int) - 1 - 1 = ((i : Nat) : Int) - 1 by omega]
  exact h2
theorem back17_eq (a : List (BitVec 8)) (ha : a.length ≤ 140737488355328) : ∃ m, waybilllaw17_backward a = some m ∧ m.length = a.length := by
 obtain ⟨m, h1, h2⟩ := back17_loop a ha a.length ((((((a.length : Nat) : Int) - (1 : Int))) - ((0 : Int)) + 2).toNat) [] (by omega) (by omega) (by rw [List.length_nil]; omega)
 exact ⟨m, by unfold waybilllaw17_backward; rw [h1, Zb], by rw [h2, List.length_nil, Nat.zero_add]⟩
theorem szL_mem {l : List Log} {x : Log} (h : x ∈ l) : szL x ≤ (l.map szL).sum := by
 induction l with
 | nil => cases h
 | cons y l ih =>
  rw [List.map_cons, List.sum_cons]
  rcases List.mem_cons.1 h with rfl | h
  ·omega
  ·have := ih h; omega
theorem logs_w9 (r : Rcpt) : (r.logs.map szL).sum ≤ (rcptIt r).w9 := by
 have h1 : (rcptIt r).w9 = 9 + Its.w9 (rcptItems r) := w9_l _
 have h2 := w9_logs r.logs
 have h3 : (It.mk true [] (r.logs.map logIt)).w9 = 9 + Its.w9 (r.logs.map logIt) := w9_l _
 unfold rcptItems at h1
 simp only [Its.w9] at h1
 omega
theorem reads17_law (d : List (BitVec 8)) (hd : d.length + 70 ≤ 140737488355328) : ∃ (x y : Rcpt) (e f : Int) (e2 f2 : Nat) (o : List (BitVec 8)),
  receipt_Decode d = some (x, e) ∧ waybillref17_Decode d = some (x, e2) ∧ e = (e2 : Int) ∧ waybilllaw17_backward d = some o ∧ o.length = d.length ∧ receipt_Decode o = some (y, f) ∧ waybillref17_Decode o = some (y, f2) ∧ f = (f2 : Int) ∧
  waybilllaw17_sameReceipt x x = some true ∧ waybilllaw17_sameReceipt y y = some true ∧ waybilllaw17_num e = some e ∧ waybilllaw17_num f = some f ∧ waybilllaw17_still d d = some true ∧ waybilllaw17_still o o = some true ∧
  ∀ z ∈ x.logs, (z.topics.length + 101) * 32 ≤ 140737488355328 ∧ z.data.length + 100 ≤ 140737488355328 := by
 obtain ⟨x, e2, p1, p2⟩ := ddecode_eq d
 obtain ⟨o, b1, b2⟩ := back17_eq d (by omega)
 obtain ⟨y, f2, q1, q2⟩ := ddecode_eq o
 refine ⟨x, y, e2, f2, e2, f2, o, p1, p2, rfl, b1, b2, q1, q2, rfl, sameRcpt_refl x, sameRcpt_refl y, num17 _, num17 _, still17_eq d, still17_eq o, fun z hz => ?_⟩
 obtain ⟨x', e', c1, c2⟩ := decode_char d
 obtain ⟨rfl, rfl⟩ := Prod.mk.inj (Zi (p1.symm.trans c1))
 rcases c2 with ⟨_, hv, _, hdl, hw⟩ | ⟨_, rfl, _⟩
 ·have h1 := szL_mem hz
  have h2 := logs_w9 x
  have h3 := hv.2.2.1 z hz
  have h4 : szL z = 56 + 41 * z.topics.length + z.data.length := rfl
  rw [h4] at h1
  omega
 ·cases hz
end Go.Fw
