/- Part of a proof over Ytgdohhccpghofaa: rules and contracts that the law's text uses. No condition. -/
import Derived.Test.YtgdohhccpghofaaRlpI2
namespace Go.Fw
set_option linter.unusedVariables false
set_option linter.unusedSimpArgs false
set_option maxRecDepth 100000
/-! Heads, written and read. -/
theorem beV_cons (x : BitVec 8) (r : List (BitVec 8)) : beV (x :: r) = x.toNat * 256 ^ r.length + beV r := by
  have h := beV_append [x] r
  rw [List.singleton_append] at h
  rw [h]; simp [beV]
theorem beV_be (n : Nat) : ∀ k, beV (be k n) = n % 256 ^ k
  | 0 => by simp [be, beV, Nat.mod_one]
  | k + 1 => by
    rw [be, beV_cons, be_length, beV_be n k, BitVec.toNat_ofNat]
    have h : n % 256 ^ (k + 1) = n % 256 ^ k + 256 ^ k * (n / 256 ^ k % 256) := Nat.mod_pow_succ
    rw [h, Nat.mul_comm, Nat.add_comm]
theorem nb_bd {n : Nat} : n < 256 ^ nb n := by
  by_cases h0 : n = 0
  · subst h0; exact Nat.pow_pos (by omega)
  obtain ⟨j, h1, h2, h3⟩ := bl_spec h0
  rw [pow256]
  refine Nat.lt_of_lt_of_le h3 (Nat.pow_le_pow_right (by omega) ?_)
  unfold nb; omega
theorem beV_bytesN (n : Nat) : beV (bytesN n) = n := by
  unfold bytesN; rw [beV_be, Nat.mod_eq_of_lt nb_bd]
theorem be_high (a b j : Nat) : ∀ k, k ≤ j → be k (a * 256 ^ j + b) = be k b
  | 0, _ => rfl
  | k + 1, h => by
    rw [be, be, be_high a b j k (by omega)]
    congr 1
    have e : a * 256 ^ j = 256 ^ k * (256 * (a * 256 ^ (j - k - 1))) := by
      have e2 : 256 ^ j = 256 ^ k * (256 * 256 ^ (j - k - 1)) := by rw [← Nat.pow_succ', ← Nat.pow_add]; congr 1; omega
      rw [e2]
      simp only [Nat.mul_comm, Nat.mul_left_comm, Nat.mul_assoc]
    rw [e, Nat.mul_add_div (Nat.pow_pos (by omega))]
    apply BitVec.eq_of_toNat_eq
    rw [BitVec.toNat_ofNat, BitVec.toNat_ofNat]
    omega
theorem be_beV : ∀ l : List (BitVec 8), be l.length (beV l) = l
  | [] => rfl
  | x :: r => by
    rw [List.length_cons, be, beV_cons, be_high _ _ _ _ (Nat.le_refl _), be_beV r]
    congr 1
    have h := beV_lt r
    have hx := x.isLt
    rw [Nat.mul_comm, Nat.mul_add_div (Nat.pow_pos (by omega)), Nat.div_eq_of_lt h]
    apply BitVec.eq_of_toNat_eq
    rw [BitVec.toNat_ofNat]
    omega
theorem nb_beV {x : BitVec 8} {r : List (BitVec 8)} (hx : x ≠ 0#8) : nb (beV (x :: r)) = r.length + 1 := by
  have h1 := beV_lt (x :: r)
  have h0 : 0 < x.toNat := Nat.pos_of_ne_zero (fun e => hx (BitVec.eq_of_toNat_eq (by simpa using e)))
  have h2 : 256 ^ r.length ≤ beV (x :: r) := by rw [beV_cons]; have := Nat.mul_le_mul_right (256 ^ r.length) h0; omega
  have hp : 0 < 256 ^ r.length := Nat.pow_pos (by omega)
  obtain ⟨j, e1, e2, e3⟩ := bl_spec (n := beV (x :: r)) (by omega)
  rw [List.length_cons] at h1
  rw [pow256] at h1 h2
  have h3 : 8 * r.length < j + 1 := (Nat.pow_lt_pow_iff_right (by omega : 1 < 2)).1 (by omega)
  have h4 : j < 8 * (r.length + 1) := (Nat.pow_lt_pow_iff_right (by omega : 1 < 2)).1 (by omega)
  unfold nb; omega
theorem bytesN_beV {l : List (BitVec 8)} (h : l[0]? ≠ some 0#8) : bytesN (beV l) = l := by
  cases l with
  | nil => rfl
  | cons x r =>
    have hx : x ≠ 0#8 := fun e => h (by simp [e])
    unfold bytesN
    rw [nb_beV hx, ← List.length_cons (a := x), be_beV]
theorem bytesN_top {n : Nat} (h : n ≠ 0) : (bytesN n)[0]? ≠ some 0#8 := by
  have h1 : 0 < nb n := by obtain ⟨j, e, _, _⟩ := bl_spec h; unfold nb; omega
  unfold bytesN
  rw [be_get _ _ _ h1, Nat.sub_zero]
  exact fun e => byte_top h (by simpa using e)
theorem finS_ok {s : List (BitVec 8)} {l : Bool} {h n : Nat} (h1 : h + n ≤ s.length) (h2 : l = false → n = 1 → small s h = false) : finS s l h n = (0, l, h, n) := by
  unfold finS
  rw [if_neg (by omega), if_neg]
  rintro ⟨a, b, c⟩
  rw [h2 a b] at c
  cases c
theorem nat8 {n : Nat} (h : n < 256) : (BitVec.ofNat 8 n).toNat = n := by rw [BitVec.toNat_ofNat]; omega
/-- A head is read as it was written. -/
theorem cut_head {c : Nat} (hc : c = 128 ∨ c = 192) (d r : List (BitVec 8)) (hd : d.length ≤ 16777216) (hs : c = 128 → d.length = 1 → small d 0 = false) :
    cutS (headB c d.length ++ d ++ r) = (0, decide (c = 192), (headB c d.length).length, d.length) := by
  have hsm : small (headB c d.length ++ d ++ r) (headB c d.length).length = false ∨ d.length ≠ 1 ∨ c = 192 := by
    rcases hc with rfl | rfl
    · by_cases h1 : d.length = 1
      · refine .inl ?_
        have := hs rfl h1
        unfold small at this ⊢
        rw [List.append_assoc, List.getElem?_append_right (Nat.le_refl _), Nat.sub_self, List.getElem?_append_left (by omega)]
        exact this
      · exact .inr (.inl h1)
    · exact .inr (.inr rfl)
  have hlen : (headB c d.length ++ d ++ r).length = (headB c d.length).length + d.length + r.length := by simp [Nat.add_assoc]
  have hfin : finS (headB c d.length ++ d ++ r) (decide (c = 192)) (headB c d.length).length d.length = (0, decide (c = 192), (headB c d.length).length, d.length) := by
    refine finS_ok (by omega) (fun e1 e2 => ?_)
    rcases hsm with h | h | h
    · exact h
    · exact absurd e2 h
    · simp [h] at e1
  have h8 := nb_8 (n := d.length) (by omega)
  unfold cutS
  by_cases h55 : d.length ≤ 55
  · have e0 : headB c d.length = [BitVec.ofNat 8 (c + d.length)] := by unfold headB; rw [if_pos h55]
    rw [e0] at hfin hlen ⊢
    have hb : (BitVec.ofNat 8 (c + d.length)).toNat = c + d.length := nat8 (by omega)
    have h64 : (c + d.length) % 64 = d.length := by omega
    have hdec : decide (192 ≤ c + d.length) = decide (c = 192) := decide_eq_decide.2 (by omega)
    show (if (BitVec.ofNat 8 (c + d.length)).toNat < 128 then _ else _) = _
    rw [if_neg (by omega), if_neg (by omega), hb, h64, hdec]
    exact hfin
  · have e0 : headB c d.length = BitVec.ofNat 8 (c + 55 + nb d.length) :: bytesN d.length := by unfold headB; rw [if_neg h55]
    have hbl := bytesN_length d.length
    have h1 : 0 < nb d.length := by obtain ⟨j, e, _, _⟩ := bl_spec (n := d.length) (by omega); unfold nb; omega
    rw [e0] at hfin hlen ⊢
    rw [List.length_cons, hbl] at hfin hlen ⊢
    have hb : (BitVec.ofNat 8 (c + 55 + nb d.length)).toNat = c + 55 + nb d.length := nat8 (by omega)
    have h64 : (c + 55 + nb d.length) % 64 - 55 = nb d.length := by omega
    have hdec : decide (192 ≤ c + 55 + nb d.length) = decide (c = 192) := decide_eq_decide.2 (by omega)
    have hk : (((BitVec.ofNat 8 (c + 55 + nb d.length) :: bytesN d.length ++ d ++ r).drop 1).take (nb d.length)) = bytesN d.length := by
      rw [List.cons_append, List.cons_append, List.drop_succ_cons, List.drop_zero, List.append_assoc, List.take_append_of_le_length (by omega), List.take_of_length_le (by omega)]
    have h1' : (BitVec.ofNat 8 (c + 55 + nb d.length) :: bytesN d.length ++ d ++ r)[1]? = (bytesN d.length)[0]? := by
      rw [List.cons_append, List.cons_append, List.getElem?_cons_succ, List.append_assoc, List.getElem?_append_left (by omega)]
    show (if (BitVec.ofNat 8 (c + 55 + nb d.length)).toNat < 128 then _ else _) = _
    rw [if_neg (by omega), if_pos (by omega), hb, h64, hdec, hk, h1', beV_bytesN, if_neg (by omega), if_neg, if_neg (by omega), Nat.add_comm 1]
    · exact hfin
    · rintro (h | h)
      · exact bytesN_top (by omega) h
      · omega
/-- What is read as a head was written as one. -/
theorem cut_back {s : List (BitVec 8)} {l : Bool} {h n : Nat} (hs : s.length ≤ 16777216) (e : cutS s = (0, l, h, n)) : (h = 0 ∧ n = 1 ∧ l = false ∧ small s 0 = true) ∨ (s.take h = headB (if l then 192 else 128) n ∧ (l = false → n = 1 → small s h = false)) := by
  have fin : ∀ l' h' n', finS s l' h' n' = (0, l, h, n) → l = l' ∧ h = h' ∧ n = n' ∧ h' + n' ≤ s.length + 0 * h' ∨ s.length < h' := by
    intro l' h' n' e
    unfold finS at e
    split at e
    · cases e
    split at e
    · cases e
    · cases e
      by_cases hh : s.length < h
      · exact .inr hh
      · exact .inl ⟨rfl, rfl, rfl, by omega⟩
  have fin2 : ∀ l' h' n', finS s l' h' n' = (0, l, h, n) → l' = false → n' = 1 → small s h' = false := by
    intro l' h' n' e a b
    unfold finS at e
    split at e
    · cases e
    split at e
    · cases e
    · rename_i hn
      have : ¬ small s h' = true := fun hc => hn ⟨a, b, hc⟩
      simpa using this
  unfold cutS at e
  split at e
  · cases e
  · rename_i c hc
    have hlt := (List.getElem?_eq_some_iff.1 hc).1
    have hcl := c.isLt
    split at e
    · rename_i h1
      cases e
      exact .inl ⟨rfl, rfl, rfl, by unfold small; rw [hc]; simpa using h1⟩
    rename_i h1
    right
    have hd : ∀ b : Bool, b = decide (192 ≤ c.toNat) → (if b then 192 else 128) = c.toNat - c.toNat % 64 := by
      rintro b rfl
      by_cases h2 : 192 ≤ c.toNat
      · simp [h2]; omega
      · simp [h2]; omega
    split at e
    · rename_i h2
      split at e
      · cases e
      split at e
      · cases e
      split at e
      · cases e
      · rename_i h3 h4 h5
        rcases fin _ _ _ e with ⟨rfl, rfl, rfl, _⟩ | hh
        · refine ⟨?_, fin2 _ _ _ e⟩
          generalize hk : c.toNat % 64 - 55 = k at h3 h4 h5 e ⊢
          have h6 : ¬ s[1]? = some 0#8 := fun e => h4 (.inl e)
          have h7 : ¬ beV ((s.drop 1).take k) ≤ 55 := fun e => h4 (.inr e)
          have hl : ((s.drop 1).take k).length = k := by rw [List.length_take, List.length_drop]; omega
          have h8 : ((s.drop 1).take k)[0]? ≠ some 0#8 := by
            rw [List.getElem?_take, if_pos (by omega), List.getElem?_drop]; exact h6
          have h9 := bytesN_beV h8
          have h10 : nb (beV ((s.drop 1).take k)) = k := by rw [← bytesN_length, h9, hl]
          unfold headB
          rw [if_neg h7, h9, h10, hd _ rfl, show c.toNat - c.toNat % 64 + 55 + k = c.toNat by omega, BitVec.ofNat_toNat, BitVec.setWidth_eq]
          obtain ⟨t, rfl⟩ : ∃ t, s = c :: t := by
            cases s with
            | nil => simp at hlt
            | cons a t => simp at hc; exact ⟨t, by rw [hc]⟩
          rw [Nat.add_comm 1, List.take_succ_cons, List.drop_succ_cons, List.drop_zero]
        · omega
    · rename_i h2
      rcases fin _ _ _ e with ⟨rfl, rfl, rfl, _⟩ | hh
      · refine ⟨?_, fin2 _ _ _ e⟩
        unfold headB
        rw [if_pos (by omega), hd _ rfl, show c.toNat - c.toNat % 64 + c.toNat % 64 = c.toNat by omega, BitVec.ofNat_toNat, BitVec.setWidth_eq]
        obtain ⟨t, rfl⟩ : ∃ t, s = c :: t := by
          cases s with
          | nil => simp at hlt
          | cons a t => simp at hc; exact ⟨t, by rw [hc]⟩
        rfl
      · omega
end Go.Fw
