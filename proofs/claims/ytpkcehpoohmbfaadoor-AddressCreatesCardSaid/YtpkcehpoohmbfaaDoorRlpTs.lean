/- Part of a proof: rules that its law uses. -/
import Derived.Test.YtpkcehpoohmbfaaDoorRlpI2
namespace Go.Fw
set_option linter.unusedVariables false
set_option linter.unusedSimpArgs false
set_option maxRecDepth 100000
theorem beV_cons (x : BitVec 8) (r : List (BitVec 8)) : beV (x :: r) = x.toNat * 256 ^ r.length + beV r := by
  have h := beV_append [x] r
  rw [List.singleton_append] at h
  rw [h]; simp [beV]
theorem beV_be (n : Nat) : ∀ k, beV (be k n) = n % 256 ^ k
  | 0 => by simp [be, beV, Nat.mod_one]
  | k + 1 => by
    rw [be, beV_cons, be_length, beV_be n k, BitVec.toNat_ofNat]
    have h : n % 256 ^ (k + 1) = n % 256 ^ k + 256 ^ k * (n / 256 ^ k % 256) := Nat.mod_pow_succ
    rw [h, Nat.mul_comm, Nat.add_comm]
theorem nb_bd {n : Nat} : n < 256 ^ nb n := by
  by_cases h0 : n = 0
  · subst h0; exact Nat.pow_pos (by omega)
  obtain ⟨j, h1, h2, h3⟩ := bl_spec h0
  rw [pow256]
  refine Nat.lt_of_lt_of_le h3 (Nat.pow_le_pow_right (by omega) ?_)
  unfold nb; omega
theorem beV_bytesN (n : Nat) : beV (bytesN n) = n := by
  unfold bytesN; rw [beV_be, Nat.mod_eq_of_lt nb_bd]
theorem be_high (a b j : Nat) : ∀ k, k ≤ j → be k (a * 256 ^ j + b) = be k b
  | 0, _ => rfl
  | k + 1, h => by
    rw [be, be, be_high a b j k (by omega)]
    congr 1
    have e : a * 256 ^ j = 256 ^ k * (256 * (a * 256 ^ (j - k - 1))) := by
      have e2 : 256 ^ j = 256 ^ k * (256 * 256 ^ (j - k - 1)) := by rw [← Nat.pow_succ', ← Nat.pow_add]; congr 1; omega
      rw [e2]
      simp only [Nat.mul_comm, Nat.mul_left_comm, Nat.mul_assoc]
    rw [e, Nat.mul_add_div (Nat.pow_pos (by omega))]
    apply BitVec.eq_of_toNat_eq
    rw [BitVec.toNat_ofNat, BitVec.toNat_ofNat]
    omega
theorem be_beV : ∀ l : List (BitVec 8), be l.length (beV l) = l
  | [] => rfl
  | x :: r => by
    rw [List.length_cons, be, beV_cons, be_high _ _ _ _ (Nat.le_refl _), be_beV r]
    congr 1
    have h := beV_lt r
    have hx := x.isLt
    rw [Nat.mul_comm, Nat.mul_add_div (Nat.pow_pos (by omega)), Nat.div_eq_of_lt h]
    apply BitVec.eq_of_toNat_eq
    rw [BitVec.toNat_ofNat]
    omega
theorem nb_beV {x : BitVec 8} {r : List (BitVec 8)} (hx : x ≠ 0#8) : nb (beV (x :: r)) = r.length + 1 := by
  have h1 := beV_lt (x :: r)
  have h0 : 0 < x.toNat := Nat.pos_of_ne_zero (fun e => hx (BitVec.eq_of_toNat_eq (by simpa using e)))
  have h2 : 256 ^ r.length ≤ beV (x :: r) := by rw [beV_cons]; have := Nat.mul_le_mul_right (256 ^ r.length) h0; omega
  have hp : 0 < 256 ^ r.length := Nat.pow_pos (by omega)
  obtain ⟨j, e1, e2, e3⟩ := bl_spec (n := beV (x :: r)) (by omega)
  rw [List.length_cons] at h1
  rw [pow256] at h1 h2
  have h3 : 8 * r.length < j + 1 := (Nat.pow_lt_pow_iff_right (by omega : 1 < 2)).1 (by omega)
  have h4 : j < 8 * (r.length + 1) := (Nat.pow_lt_pow_iff_right (by omega : 1 < 2)).1 (by omega)
  unfold nb; omega
theorem bytesN_beV {l : List (BitVec 8)} (h : l[0]? ≠ some 0#8) : bytesN (beV l) = l := by
  cases l with
  | nil => rfl
  | cons x r =>
    have hx : x ≠ 0#8 := fun e => h (by simp [e])
    unfold bytesN
    rw [nb_beV hx, ← List.length_cons (a := x), be_beV]
theorem bytesN_top {n : Nat} (h : n ≠ 0) : (bytesN n)[0]? ≠ some 0#8 := by
  have h1 : 0 < nb n := by obtain ⟨j, e, _, _⟩ := bl_spec h; unfold nb; omega
  unfold bytesN
  rw [be_get _ _ _ h1, Nat.sub_zero]
  exact fun e => byte_top h (by simpa using e)
theorem finS_ok {s : List (BitVec 8)} {l : Bool} {h n : Nat} (h1 : h + n ≤ s.length) (h2 : l = false → n = 1 → small s h = false) : finS s l h n = (0, l, h, n) := by
  unfold finS
  rw [if_neg (by omega), if_neg]
  rintro ⟨a, b, c⟩
  rw [h2 a b] at c
  cases c
theorem nat8 {n : Nat} (h : n < 256) : (BitVec.ofNat 8 n).toNat = n := by rw [BitVec.toNat_ofNat]; omega
theorem cut_head {c : Nat} (hc : c = 128 ∨ c = 192) (d r : List (BitVec 8)) (hd : d.length ≤ 16777216) (hs : c = 128 → d.length = 1 → small d 0 = false) :
    cutS (headB c d.length ++ d ++ r) = (0, decide (c = 192), (headB c d.length).length, d.length) := by
  have hsm : small (headB c d.length ++ d ++ r) (headB c d.length).length = false ∨ d.length ≠ 1 ∨ c = 192 := by
    rcases hc with rfl | rfl
    · by_cases h1 : d.length = 1
      · refine .inl ?_
        have := hs rfl h1
        unfold small at this ⊢
        rw [List.append_assoc, List.getElem?_append_right (Nat.le_refl _), Nat.sub_self, List.getElem?_append_left (by omega)]
        exact this
      · exact .inr (.inl h1)
    · exact .inr (.inr rfl)
  have hlen : (headB c d.length ++ d ++ r).length = (headB c d.length).length + d.length + r.length := by simp [Nat.add_assoc]
  have hfin : finS (headB c d.length ++ d ++ r) (decide (c = 192)) (headB c d.length).length d.length = (0, decide (c = 192), (headB c d.length).length, d.length) := by
    refine finS_ok (by omega) (fun e1 e2 => ?_)
    rcases hsm with h | h | h
    · exact h
    · exact absurd e2 h
    · simp [h] at e1
  have h8 := nb_8 (n := d.length) (by omega)
  unfold cutS
  by_cases h55 : d.length ≤ 55
  · have e0 : headB c d.length = [BitVec.ofNat 8 (c + d.length)] := by unfold headB; rw [if_pos h55]
    rw [e0] at hfin hlen ⊢
    have hb : (BitVec.ofNat 8 (c + d.length)).toNat = c + d.length := nat8 (by omega)
    have h64 : (c + d.length) % 64 = d.length := by omega
    have hdec : decide (192 ≤ c + d.length) = decide (c = 192) := decide_eq_decide.2 (by omega)
    show (if (BitVec.ofNat 8 (c + d.length)).toNat < 128 then _ else _) = _
    rw [if_neg (by omega), if_neg (by omega), hb, h64, hdec]
    exact hfin
  · have e0 : headB c d.length = BitVec.ofNat 8 (c + 55 + nb d.length) :: bytesN d.length := by unfold headB; rw [if_neg h55]
    have hbl := bytesN_length d.length
    have h1 : 0 < nb d.length := by obtain ⟨j, e, _, _⟩ := bl_spec (n := d.length) (by omega); unfold nb; omega
    rw [e0] at hfin hlen ⊢
    rw [List.length_cons, hbl] at hfin hlen ⊢
    have hb : (BitVec.ofNat 8 (c + 55 + nb d.length)).toNat = c + 55 + nb d.length := nat8 (by omega)
    have h64 : (c + 55 + nb d.length) % 64 - 55 = nb d.length := by omega
    have hdec : decide (192 ≤ c + 55 + nb d.length) = decide (c = 192) := decide_eq_decide.2 (by omega)
    have hk : (((BitVec.ofNat 8 (c + 55 + nb d.length) :: bytesN d.length ++ d ++ r).drop 1).take (nb d.length)) = bytesN d.length := by
      rw [List.cons_append, List.cons_append, List.drop_succ_cons, List.drop_zero, List.append_assoc, List.take_append_of_le_length (by omega), List.take_of_length_le (by omega)]
    have h1' : (BitVec.ofNat 8 (c + 55 + nb d.length) :: bytesN d.length ++ d ++ r)[1]? = (bytesN d.length)[0]? := by
      rw [List.cons_append, List.cons_append, List.getElem?_cons_succ, List.append_assoc, List.getElem?_append_left (by omega)]
    show (if (BitVec.ofNat 8 (c + 55 + nb d.length)).toNat < 128 then _ else _) = _
    rw [if_neg (by omega), if_pos (by omega), hb, h64, hdec, hk, h1', beV_bytesN, if_neg (by omega), if_neg, if_neg (by omega), Nat.add_comm 1]
    · exact hfin
    · rintro (h | h)
      · exact bytesN_top (by omega) h
      · omega
theorem cut_back {s : List (BitVec 8)} {l : Bool} {h n : Nat} (hs : s.length ≤ 16777216) (e : cutS s = (0, l, h, n)) : (h = 0 ∧ n = 1 ∧ l = false ∧ small s 0 = true) ∨ (s.take h = headB (if l then 192 else 128) n ∧ (l = false → n = 1 → small s h = false)) := by
  have fin : ∀ l' h' n', finS s l' h' n' = (0, l, h, n) → l = l' ∧ h = h' ∧ n = n' ∧ h' + n' ≤ s.length + 0 * h' ∨ s.length < h' := by
    intro l' h' n' e
    unfold finS at e
    split at e
    · cases e
    split at e
    · cases e
    · cases e
      by_cases hh : s.length < h
      · exact .inr hh
      · exact .inl ⟨rfl, rfl, rfl, by omega⟩
  have fin2 : ∀ l' h' n', finS s l' h' n' = (0, l, h, n) → l' = false → n' = 1 → small s h' = false := by
    intro l' h' n' e a b
    unfold finS at e
    split at e
    · cases e
    split at e
    · cases e
    · rename_i hn
      have : ¬ small s h' = true := fun hc => hn ⟨a, b, hc⟩
      simpa using this
  unfold cutS at e
  split at e
  · cases e
  · rename_i c hc
    have hlt := (List.getElem?_eq_some_iff.1 hc).1
    have hcl := c.isLt
    split at e
    · rename_i h1
      cases e
      exact .inl ⟨rfl, rfl, rfl, by unfold small; rw [hc]; simpa using h1⟩
    rename_i h1
    right
    have hd : ∀ b : Bool, b = decide (192 ≤ c.toNat) → (if b then 192 else 128) = c.toNat - c.toNat % 64 := by
      rintro b rfl
      by_cases h2 : 192 ≤ c.toNat
      · simp [h2]; omega
      · simp [h2]; omega
    split at e
    · rename_i h2
      split at e
      · cases e
      split at e
      · cases e
      split at e
      · cases e
      · rename_i h3 h4 h5
        rcases fin _ _ _ e with ⟨rfl, rfl, rfl, _⟩ | hh
        · refine ⟨?_, fin2 _ _ _ e⟩
          generalize hk : c.toNat % 64 - 55 = k at h3 h4 h5 e ⊢
          have h6 : ¬ s[1]? = some 0#8 := fun e => h4 (.inl e)
          have h7 : ¬ beV ((s.drop 1).take k) ≤ 55 := fun e => h4 (.inr e)
          have hl : ((s.drop 1).take k).length = k := by rw [List.length_take, List.length_drop]; omega
          have h8 : ((s.drop 1).take k)[0]? ≠ some 0#8 := by
            rw [List.getElem?_take, if_pos (by omega), List.getElem?_drop]; exact h6
          have h9 := bytesN_beV h8
          have h10 : nb (beV ((s.drop 1).take k)) = k := by rw [← bytesN_length, h9, hl]
          unfold headB
          rw [if_neg h7, h9, h10, hd _ rfl, show c.toNat - c.toNat % 64 + 55 + k = c.toNat by omega, BitVec.ofNat_toNat, BitVec.setWidth_eq]
          obtain ⟨t, rfl⟩ : ∃ t, s = c :: t := by
            cases s with
            | nil => simp at hlt
            | cons a t => simp at hc; exact ⟨t, by rw [hc]⟩
          rw [Nat.add_comm 1, List.take_succ_cons, List.drop_succ_cons, List.drop_zero]
        · omega
    · rename_i h2
      rcases fin _ _ _ e with ⟨rfl, rfl, rfl, _⟩ | hh
      · refine ⟨?_, fin2 _ _ _ e⟩
        unfold headB
        rw [if_pos (by omega), hd _ rfl, show c.toNat - c.toNat % 64 + c.toNat % 64 = c.toNat by omega, BitVec.ofNat_toNat, BitVec.setWidth_eq]
        obtain ⟨t, rfl⟩ : ∃ t, s = c :: t := by
          cases s with
          | nil => simp at hlt
          | cons a t => simp at hc; exact ⟨t, by rw [hc]⟩
        rfl
      · omega
end Go.Fw
namespace Go.Fw
set_option linter.unusedVariables false
set_option linter.unusedSimpArgs false
set_option maxRecDepth 100000
def oneB (d : List (BitVec 8)) : Bool := decide (d.length = 1) && small d 0
mutual
def It.enc : It → List (BitVec 8)
  | .mk l d its => if l = true then headB 192 (Its.enc its).length ++ Its.enc its else if oneB d = true then d else headB 128 d.length ++ d
def Its.enc : List It → List (BitVec 8)
  | [] => []
  | x :: xs => It.enc x ++ Its.enc xs
end
mutual
def It.good : It → Prop
  | .mk l d its => (l = true → d = []) ∧ (l = false → its = []) ∧ Its.good its
def Its.good : List It → Prop
  | [] => True
  | x :: xs => It.good x ∧ Its.good xs
end
mutual
def It.w9 : It → Nat
  | .mk _ d its => 9 + d.length + Its.w9 its
def Its.w9 : List It → Nat
  | [] => 0
  | x :: xs => It.w9 x + Its.w9 xs
end
mutual
def It.dep : It → Nat
  | .mk l _ its => if l = true then Its.dep its + 1 else 0
def Its.dep : List It → Nat
  | [] => 0
  | x :: xs => max (It.dep x) (Its.dep xs)
end
theorem It.enc_eq (x : It) : x.enc = if x.list = true then headB 192 (Its.enc x.items).length ++ Its.enc x.items else if oneB x.data = true then x.data else headB 128 x.data.length ++ x.data := by
  cases x; rw [It.enc]; rfl
theorem It.good_eq (x : It) : x.good ↔ (x.list = true → x.data = []) ∧ (x.list = false → x.items = []) ∧ Its.good x.items := by cases x; rw [It.good]; rfl
theorem It.w9_eq (x : It) : x.w9 = 9 + x.data.length + Its.w9 x.items := by cases x; rw [It.w9]; rfl
theorem It.dep_eq (x : It) : x.dep = if x.list = true then Its.dep x.items + 1 else 0 := by cases x; rw [It.dep]; rfl
theorem Its.good_mem : ∀ {l : List It}, Its.good l → ∀ x ∈ l, It.good x
  | [], _, x, hx => by cases hx
  | y :: l, h, x, hx => by
    simp only [Its.good] at h
    rcases List.mem_cons.1 hx with rfl | hx
    · exact h.1
    · exact Its.good_mem h.2 x hx
theorem Its.w9_mem : ∀ {l : List It} {x : It}, x ∈ l → It.w9 x ≤ Its.w9 l
  | y :: l, x, hx => by
    simp only [Its.w9]
    rcases List.mem_cons.1 hx with rfl | hx
    · omega
    · have := Its.w9_mem hx; omega
theorem Its.dep_mem : ∀ {l : List It} {x : It}, x ∈ l → It.dep x ≤ Its.dep l
  | y :: l, x, hx => by
    simp only [Its.dep]
    rcases List.mem_cons.1 hx with rfl | hx
    · omega
    · have := Its.dep_mem hx; omega
theorem Its.w9_drop {l : List It} {i : Nat} (h : i < l.length) : Its.w9 (l.drop i) = It.w9 l[i] + Its.w9 (l.drop (i + 1)) := by rw [drop_cons_at h, Its.w9]
theorem Its.dep_drop {l : List It} {i : Nat} (h : i < l.length) : Its.dep (l.drop i) = max (It.dep l[i]) (Its.dep (l.drop (i + 1))) := by rw [drop_cons_at h, Its.dep]
theorem Its.enc_drop {l : List It} {i : Nat} (h : i < l.length) : Its.enc (l.drop i) = It.enc l[i] ++ Its.enc (l.drop (i + 1)) := by rw [drop_cons_at h, Its.enc]
theorem Its.good_drop {l : List It} {i : Nat} (h : i < l.length) : Its.good (l.drop i) ↔ It.good l[i] ∧ Its.good (l.drop (i + 1)) := by rw [drop_cons_at h, Its.good]
mutual
theorem It.wt_w9 : ∀ x : It, x.wt + 1 ≤ x.w9
  | .mk l d its => by
    have := Its.wt_w9 its
    simp only [It.wt, It.w9]; omega
theorem Its.wt_w9 : ∀ l : List It, Its.wt l + l.length ≤ Its.w9 l
  | [] => by simp [Its.wt, Its.w9]
  | x :: l => by
    have := It.wt_w9 x
    have := Its.wt_w9 l
    simp only [Its.wt, Its.w9, List.length_cons]; omega
end
theorem oneB_len {d : List (BitVec 8)} (h : oneB d = true) : d.length = 1 ∧ small d 0 = true := by
  unfold oneB at h
  simpa using h
mutual
theorem It.enc_le : ∀ x : It, x.w9 ≤ 1099511627776 → x.enc.length ≤ x.w9 ∧ 0 < x.enc.length
  | .mk l d its, h => by
    simp only [It.w9] at h ⊢
    have h1 := Its.enc_le its (by omega)
    have h2 := headB_length (c := 192) (n := (Its.enc its).length) (by omega)
    have h3 := headB_length (c := 128) (n := d.length) (by omega)
    rw [It.enc]
    split
    · rw [List.length_append]; omega
    split
    · rename_i h4; have := (oneB_len h4).1; omega
    · rw [List.length_append]; omega
theorem Its.enc_le : ∀ l : List It, Its.w9 l ≤ 1099511627776 → (Its.enc l).length ≤ Its.w9 l
  | [], h => by simp [Its.enc]
  | x :: l, h => by
    simp only [Its.w9] at h ⊢
    have := It.enc_le x (by omega)
    have := Its.enc_le l (by omega)
    rw [Its.enc, List.length_append]; omega
end
theorem odd_good {x : It} (h : x.good) : rlp_odd x = some false := by
  have h := (It.good_eq x).1 h
  unfold rlp_odd
  by_cases hl : x.list = true
  · rw [if_pos hl, h.1 hl, if_neg (by simp), if_pos hl]; rfl
  · rw [if_neg hl, if_neg hl, h.2.1 (by simpa using hl)]; rfl
theorem sound_loop (x : It) (rc : It → Option (Nat × Bool)) (hrc : ∀ y ∈ x.items, rc y = some (y.dep, true)) : ∀ (d i k m : Nat), i + d = x.items.length → d < k → rlp_sound.l1 x rc k m i = some (Lp.go (max m (Its.dep (x.items.drop i))))
  | 0, i, k, m, h, hk => by
    obtain ⟨k, rfl⟩ : ∃ m, k = m + 1 := ⟨k - 1, by omega⟩
    rw [rlp_sound.l1, if_neg (by omega), List.drop_of_length_le (by omega), Its.dep, Nat.max_zero]
  | d + 1, i, k, m, h, hk => by
    obtain ⟨k, rfl⟩ : ∃ m, k = m + 1 := ⟨k - 1, by omega⟩
    have h1 : i < x.items.length := by omega
    rw [rlp_sound.l1, if_pos h1, get0' h1, Option.bind_some, hrc _ (List.getElem_mem h1), Option.bind_some]
    try dsimp only
    rw [if_pos rfl, sound_loop x rc hrc d (i + 1) k _ (by omega) (by omega), Its.dep_drop h1, Nat.max_assoc]
where
  get0' {α : Type} {s : List α} {i : Nat} (h : i < s.length) : s[i]? = some s[i] := List.getElem?_eq_getElem h
theorem sound_r : ∀ (k : Nat) (x : It), x.sz < k → x.good → x.dep ≤ 4611686018427387904 → rlp_sound.r k x = some (x.dep, true)
  | 0, x, h, _, _ => by omega
  | k + 1, x, h, hg, hd => by
    have hg' := (It.good_eq x).1 hg
    have hs := It.sz_eq x
    rw [rlp_sound.r, odd_good hg, Option.bind_some, if_neg (by simp)]
    rw [It.dep_eq] at hd ⊢
    by_cases hl : x.list = true
    · rw [if_pos hl] at hd
      rw [if_pos hl, if_pos hl, sound_loop x _ (fun y hy => sound_r k y (by have := Its.sz_mem hy; omega) (Its.good_mem hg'.2.2 y hy) (by have := Its.dep_mem hy; omega)) x.items.length 0 _ 0 (by omega) (by omega), Option.bind_some]
      try dsimp only
      rw [List.drop_zero, Nat.zero_max, if_pos (by omega)]
    · rw [if_neg hl, if_neg hl]
theorem sound_eq {x : It} (hg : x.good) (hd : x.dep ≤ 4611686018427387904) : rlp_sound x = some (x.dep, true) := sound_r _ x (by omega) hg hd
theorem size_loop (x : It) (rc : It → Option Nat) (hw : (Its.enc x.items).length ≤ 1099511627776) (hrc : ∀ y ∈ x.items, rc y = some y.enc.length) : ∀ (d i k m : Nat), i + d = x.items.length → d < k → m + (Its.enc (x.items.drop i)).length = (Its.enc x.items).length → rlp_size.l1 x rc k m i = some (Its.enc x.items).length
  | 0, i, k, m, h, hk, hm => by
    obtain ⟨k, rfl⟩ : ∃ m, k = m + 1 := ⟨k - 1, by omega⟩
    rw [List.drop_of_length_le (by omega), Its.enc, List.length_nil] at hm
    rw [rlp_size.l1, if_neg (by omega)]
    congr 1
  | d + 1, i, k, m, h, hk, hm => by
    obtain ⟨k, rfl⟩ : ∃ m, k = m + 1 := ⟨k - 1, by omega⟩
    have h1 : i < x.items.length := by omega
    rw [Its.enc_drop h1, List.length_append] at hm
    rw [rlp_size.l1, if_pos h1, List.getElem?_eq_getElem h1, Option.bind_some, hrc _ (List.getElem_mem h1), Option.bind_some, if_pos (by omega)]
    exact size_loop x rc hw hrc d (i + 1) k _ (by omega) (by omega) (by omega)
theorem oneB_get {d : List (BitVec 8)} (h : d.length = 1) : ∃ x, d[0]? = some x ∧ oneB d = decide (x.toNat < 128) := by
  refine ⟨d[0], List.getElem?_eq_getElem (by omega), ?_⟩
  unfold oneB small
  rw [List.getElem?_eq_getElem (by omega)]
  simp [h]
theorem oneB_no {d : List (BitVec 8)} (h : d.length ≠ 1) : oneB d = false := by unfold oneB; simp [h]
theorem size_r : ∀ (k : Nat) (x : It), x.sz < k → x.w9 ≤ 1099511627776 → rlp_size.r k x = some x.enc.length
  | 0, x, h, _ => by omega
  | k + 1, x, h, hw => by
    have hs := It.sz_eq x
    have hw' := It.w9_eq x
    have hle := Its.enc_le x.items (by omega)
    rw [rlp_size.r, It.enc_eq]
    by_cases hl : x.list = true
    · have hh := headB_length (c := 192) (n := (Its.enc x.items).length) (by omega)
      rw [if_pos hl, if_pos hl, size_loop x _ (by omega) (fun y hy => size_r k y (by have := Its.sz_mem hy; omega) (by have := Its.w9_mem hy; omega)) x.items.length 0 _ 0 (by omega) (by omega) (by rw [List.drop_zero]; omega), Option.bind_some, show (192#8 : BitVec 8) = BitVec.ofNat 8 192 by rfl, head_spec 192 _ (by omega), Option.bind_some, if_pos (by omega), List.length_append]
    · rw [if_neg hl, if_neg hl]
      by_cases h1 : x.data.length = 1
      · obtain ⟨c, e1, e2⟩ := oneB_get h1
        rw [if_pos h1, e1, Option.bind_some, Option.bind_some, ← e2]
        by_cases ho : oneB x.data = true
        · rw [if_pos ho, if_pos ho, h1]
        · rw [if_neg ho, if_neg ho, show (128#8 : BitVec 8) = BitVec.ofNat 8 128 by rfl, head_spec 128 _ (by omega), Option.bind_some, List.length_append]
      · rw [if_neg h1, Option.bind_some, if_neg (by simp), oneB_no h1, if_neg (by simp), show (128#8 : BitVec 8) = BitVec.ofNat 8 128 by rfl, head_spec 128 _ (by omega), Option.bind_some, List.length_append]
theorem size_eq {x : It} (hw : x.w9 ≤ 1099511627776) : rlp_size x = some x.enc.length := size_r _ x (by omega) hw
theorem lay_loop (x : It) (rc : List (BitVec 8) → It → Option (List (BitVec 8))) (hrc : ∀ a, a.length ≤ 1099511627776 → ∀ y ∈ x.items, rc a y = some (a ++ y.enc)) (hw : (Its.enc x.items).length ≤ 1099511627776) : ∀ (d i k : Nat) (l : List (BitVec 8)), i + d = x.items.length → d < k → l ++ Its.enc (x.items.drop i) = Its.enc x.items → rlp_lay.l1 x rc k l i = some (Its.enc x.items)
  | 0, i, k, l, h, hk, hl => by
    obtain ⟨k, rfl⟩ : ∃ m, k = m + 1 := ⟨k - 1, by omega⟩
    rw [List.drop_of_length_le (by omega), Its.enc, List.append_nil] at hl
    rw [rlp_lay.l1, if_neg (by omega), hl]
  | d + 1, i, k, l, h, hk, hl => by
    obtain ⟨k, rfl⟩ : ∃ m, k = m + 1 := ⟨k - 1, by omega⟩
    have h1 : i < x.items.length := by omega
    have h2 := congrArg List.length hl
    rw [List.length_append] at h2
    rw [Its.enc_drop h1] at hl
    rw [rlp_lay.l1, if_pos h1, List.getElem?_eq_getElem h1, Option.bind_some, hrc l (by omega) _ (List.getElem_mem h1), Option.bind_some]
    exact lay_loop x rc hrc hw d (i + 1) k _ (by omega) (by omega) (by rw [List.append_assoc]; exact hl)
theorem lay_r : ∀ (k : Nat) (a : List (BitVec 8)) (x : It), x.sz < k → x.w9 ≤ 1099511627776 → a.length ≤ 1099511627776 → rlp_lay.r k a x = some (a ++ x.enc)
  | 0, a, x, h, _, _ => by omega
  | k + 1, a, x, h, hw, ha => by
    have hs := It.sz_eq x
    have hw' := It.w9_eq x
    have hle := Its.enc_le x.items (by omega)
    rw [rlp_lay.r, It.enc_eq]
    have hh2 := headB_length (c := 128) (n := x.data.length) (by omega)
    by_cases hl : x.list = true
    · have hh := headB_length (c := 192) (n := (Its.enc x.items).length) (by omega)
      rw [if_pos hl, if_pos hl, lay_loop x _ (fun a ha y hy => lay_r k a y (by have := Its.sz_mem hy; omega) (by have := Its.w9_mem hy; omega) ha) (by omega) x.items.length 0 _ [] (by omega) (by omega) (by rw [List.drop_zero]; rfl), Option.bind_some, show (192#8 : BitVec 8) = BitVec.ofNat 8 192 by rfl, head_spec 192 _ (by omega), Option.bind_some, if_pos (by omega), if_pos (by rw [List.length_append]; omega), List.append_assoc]
    · rw [if_neg hl, if_neg hl]
      by_cases h1 : x.data.length = 1
      · obtain ⟨c, e1, e2⟩ := oneB_get h1
        rw [if_pos h1, e1, Option.bind_some, Option.bind_some]
        by_cases ho : oneB x.data = true
        · have hc : ¬ 128 ≤ c.toNat := by rw [ho] at e2; have := of_decide_eq_true e2.symm; omega
          rw [if_neg (by simpa using hc), Option.bind_some, if_pos (by omega), if_pos ho]
        · have hc : 128 ≤ c.toNat := by
            by_cases hc : c.toNat < 128
            · exact absurd (by rw [e2]; simpa using hc) ho
            · omega
          rw [if_pos (by simpa using hc), if_neg ho, show (128#8 : BitVec 8) = BitVec.ofNat 8 128 by rfl, head_spec 128 _ (by omega), Option.bind_some, if_pos (by omega), Option.bind_some, if_pos (by rw [List.length_append]; omega), List.append_assoc]
      · rw [if_neg h1, Option.bind_some, if_pos rfl, oneB_no h1, if_neg (by simp), show (128#8 : BitVec 8) = BitVec.ofNat 8 128 by rfl, head_spec 128 _ (by omega), Option.bind_some, if_pos (by omega), Option.bind_some, if_pos (by rw [List.length_append]; omega), List.append_assoc]
theorem lay_eq {x : It} (hw : x.w9 ≤ 1099511627776) : rlp_lay [] x = some x.enc := by
  have := lay_r (x.sz + 1) [] x (by omega) hw (by simp)
  simpa [rlp_lay] using this
theorem encode_eq {x : It} (hg : x.good) (hd : x.dep ≤ 1024) (hw : x.w9 ≤ 16777216) : rlp_Encode x = some (x.enc, 0) := by
  have h1 := It.enc_le x (by omega)
  unfold rlp_Encode rlp_Check
  rw [sound_eq hg (by omega), Option.bind_some]
  try dsimp only
  rw [if_pos rfl, if_neg (by omega), size_eq (by omega), Option.bind_some, if_neg (by omega), Option.bind_some, if_pos rfl, lay_eq (by omega), Option.bind_some]
end Go.Fw
namespace Go.Fw
set_option linter.unusedVariables false
set_option linter.unusedSimpArgs false
set_option maxRecDepth 100000
theorem cut_enc (x : It) (r : List (BitVec 8)) (hw : x.w9 ≤ 16777216) : ∃ l h n, cutS (x.enc ++ r) = (0, l, h, n) ∧ h + n = x.enc.length := by
  have hw' := It.w9_eq x
  have hle := Its.enc_le x.items (by omega)
  rw [It.enc_eq]
  by_cases hl : x.list = true
  · rw [if_pos hl]
    exact ⟨_, _, _, cut_head (.inr rfl) _ r (by omega) (fun h => by omega), by rw [List.length_append]⟩
  rw [if_neg hl]
  by_cases ho : oneB x.data = true
  · rw [if_pos ho]
    obtain ⟨h1, h2⟩ := oneB_len ho
    obtain ⟨c, hc⟩ : ∃ c, x.data = [c] := List.length_eq_one_iff.1 h1
    rw [hc] at h2 ⊢
    have h3 : c.toNat < 128 := by simpa [small] using h2
    refine ⟨false, 0, 1, ?_, rfl⟩
    unfold cutS
    show (if c.toNat < 128 then _ else _) = _
    rw [if_pos h3]
  · rw [if_neg ho]
    refine ⟨_, _, _, cut_head (.inl rfl) _ r (by omega) (fun _ h => ?_), by rw [List.length_append]⟩
    by_cases hs : small x.data 0 = true
    · exact absurd (by unfold oneB; simp [h, hs]) ho
    · simpa using hs
theorem partsF_enc : ∀ (l : List It) (k : Nat) (acc : List (List (BitVec 8))), (Its.enc l).length < k → Its.w9 l ≤ 16777216 → partsF k (Its.enc l) acc = (acc ++ l.map It.enc, 0)
  | [], k, acc, hk, hw => by
    obtain ⟨k, rfl⟩ : ∃ m, k = m + 1 := ⟨k - 1, by omega⟩
    rw [partsF, if_pos (by rw [Its.enc]; rfl)]; simp
  | x :: l, k, acc, hk, hw => by
    obtain ⟨k, rfl⟩ : ∃ m, k = m + 1 := ⟨k - 1, by omega⟩
    simp only [Its.w9] at hw
    have hx := It.enc_le x (by omega)
    obtain ⟨b, h, n, e1, e2⟩ := cut_enc x (Its.enc l) (by omega)
    rw [Its.enc, List.length_append] at hk
    rw [Its.enc, partsF, if_neg (by rw [List.length_append]; omega), e1]
    dsimp only
    rw [if_pos rfl, e2, List.drop_left, List.take_left, partsF_enc l k _ (by omega) (by omega), List.map_cons, List.append_assoc]
    rfl
theorem parts_enc (l : List It) (hw : Its.w9 l ≤ 1048576) : partsR (It.mk true [] l).enc = (l.map It.enc, 0) := by
  have hle := Its.enc_le l (by omega)
  have hh := headB_length (c := 192) (n := (Its.enc l).length) (by omega)
  have he : (It.mk true [] l).enc = headB 192 (Its.enc l).length ++ Its.enc l ++ [] := by rw [It.enc, if_pos rfl, List.append_nil]
  rw [he]
  unfold partsR
  rw [if_neg (by rw [List.append_nil, List.length_append]; omega), cut_head (.inr rfl) _ [] (by omega) (fun h => by omega)]
  dsimp only
  rw [if_pos rfl, if_pos (by simp), if_neg (by rw [List.append_nil, List.length_append]; omega), List.append_nil, List.drop_left, List.take_length, partsF_enc l _ [] (by omega) (by omega), List.nil_append]
theorem sumL_enc : ∀ l : List It, sumL (l.map It.enc) = (Its.enc l).length
  | [] => rfl
  | x :: l => by rw [List.map_cons, sumL_cons, sumL_enc l, Its.enc, List.length_append]
theorem flat_enc : ∀ l : List It, (l.map It.enc).flatten = Its.enc l
  | [] => rfl
  | x :: l => by rw [List.map_cons, List.flatten_cons, flat_enc l, Its.enc]
theorem join_enc (l : List It) (hw : Its.w9 l ≤ 1048576) : rlp_Join (l.map It.enc) = some ((It.mk true [] l).enc, 0) := by
  have hle := Its.enc_le l (by omega)
  have hh := headB_length (c := 192) (n := (Its.enc l).length) (by omega)
  rw [join_eq _ (by rw [sumL_enc]; omega)]
  unfold joinR
  rw [sumL_enc, flat_enc, if_neg (by omega), It.enc, if_pos rfl]
theorem parts_flat : ∀ (k : Nat) (s : List (BitVec 8)) (acc L : List (List (BitVec 8))), s.length < k → partsF k s acc = (L, 0) → ∃ M, L = acc ++ M ∧ M.flatten = s ∧ sumL M = s.length
  | 0, s, acc, L, h, _ => by omega
  | k + 1, s, acc, L, h, e => by
    rw [partsF] at e
    by_cases h0 : s.length = 0
    · rw [if_pos h0] at e
      cases e
      exact ⟨[], by simp, by rw [List.length_eq_zero_iff.1 h0]; rfl, by rw [h0]; rfl⟩
    rw [if_neg h0] at e
    generalize hr : cutS s = r at e
    obtain ⟨er, l, hh, n⟩ := r
    dsimp only at e
    by_cases he : er = 0
    · subst he
      have hin := cutS_in hr
      rw [if_pos rfl] at e
      obtain ⟨M, e1, e2, e3⟩ := parts_flat k (s.drop (hh + n)) _ L (by rw [List.length_drop]; omega) e
      refine ⟨s.take (hh + n) :: M, by rw [e1, List.append_assoc]; rfl, by rw [List.flatten_cons, e2, List.take_append_drop], ?_⟩
      rw [sumL_cons, e3, List.length_take, List.length_drop]; omega
    · rw [if_neg he] at e
      cases e
      exact absurd rfl he
theorem join_parts (b : List (BitVec 8)) (L : List (List (BitVec 8))) (e : partsR b = (L, 0)) : rlp_Join L = some (b, 0) := by
  unfold partsR at e
  by_cases h : 16777216 < b.length
  · rw [if_pos h] at e; cases e
  rw [if_neg h] at e
  generalize hr : cutS b = r at e
  obtain ⟨er, l, hh, n⟩ := r
  dsimp only at e
  by_cases he : er = 0
  · subst he
    have hin := cutS_in hr
    rw [if_pos rfl] at e
    by_cases hl : l = true
    · subst hl
      rw [if_pos rfl] at e
      by_cases h2 : hh + n < b.length
      · rw [if_pos h2] at e; cases e
      rw [if_neg h2] at e
      have hlen : ((b.drop hh).take n).length = n := by rw [List.length_take, List.length_drop]; omega
      obtain ⟨M, e1, e2, e3⟩ := parts_flat _ _ _ _ (by omega) e
      rw [List.nil_append] at e1
      subst e1
      rw [hlen] at e3
      rcases cut_back (by omega) hr with ⟨_, _, h3, _⟩ | ⟨h3, _⟩
      · cases h3
      simp only [if_true] at h3
      have h4 : (headB 192 n).length = hh := by rw [← h3, List.length_take]; omega
      rw [join_eq _ (by omega)]
      unfold joinR
      rw [e3, e2, if_neg (by omega), ← h3, List.take_of_length_le (i := n) (by rw [List.length_drop]; omega), List.take_append_drop]
    · rw [if_neg hl] at e; cases e
  · rw [if_neg he] at e
    cases e
    exact absurd rfl he
theorem lsound_loop (x : It) (a : Nat) (ha : a ≤ 200) (rc : It → Nat → Option (Nat × Bool)) (hrc : ∀ y ∈ x.items, ∃ n b, rc y (a + 1) = some (n, b) ∧ n ≤ 140737489403904 ∧ (b = true → y.good ∧ n = y.w9 ∧ y.dep + (a + 1) ≤ 201)) :
    ∀ (d i k m : Nat), i + d = x.items.length → d < k → m ≤ 140737489403904 → ∃ q, waybilllaw07_sound.l1 x a rc k m i = some q ∧ (∀ o, q = .ret o → o = some (0, false)) ∧
      (∀ m', q = .go m' → m' ≤ 140737489403904 ∧ m' = m + Its.w9 (x.items.drop i) ∧ Its.good (x.items.drop i) ∧ Its.dep (x.items.drop i) + (a + 1) ≤ 201 ∧ (0 < d → m' ≤ 1048576))
  | 0, i, k, m, h, hk, hm => by
    obtain ⟨k, rfl⟩ : ∃ m, k = m + 1 := ⟨k - 1, by omega⟩
    refine ⟨.go m, by rw [waybilllaw07_sound.l1, if_neg (by omega)], (fun o e => by cases e), fun m' e => ?_⟩
    cases e
    rw [List.drop_of_length_le (by omega)]
    exact ⟨hm, by simp [Its.w9], by simp [Its.good], by simp [Its.dep]; omega, (fun h => by omega)⟩
  | d + 1, i, k, m, h, hk, hm => by
    obtain ⟨k, rfl⟩ : ∃ m, k = m + 1 := ⟨k - 1, by omega⟩
    have h1 : i < x.items.length := by omega
    obtain ⟨n, b, e1, e2, e3⟩ := hrc x.items[i] (List.getElem_mem h1)
    rw [waybilllaw07_sound.l1, if_pos h1, List.getElem?_eq_getElem h1, Option.bind_some, if_pos (by omega), e1, Option.bind_some]
    dsimp only
    rw [if_pos (by omega)]
    by_cases hb : b = true
    · obtain ⟨g1, g2, g3⟩ := e3 hb
      rw [if_pos hb, Option.bind_some]
      by_cases hc : 1048576 < m + n
      · rw [if_pos (by simpa using hc)]
        exact ⟨_, rfl, (fun o e => by cases e; rfl), (fun m' e => by cases e)⟩
      · rw [if_neg (by simpa using hc)]
        obtain ⟨q, f1, f2, f3⟩ := lsound_loop x a ha rc hrc d (i + 1) k (m + n) (by omega) (by omega) (by omega)
        refine ⟨q, f1, f2, fun m' e => ?_⟩
        obtain ⟨a1, a2, a3, a4, a5⟩ := f3 m' e
        refine ⟨a1, by rw [a2, Its.w9_drop h1, g2]; omega, (Its.good_drop h1).2 ⟨g1, a3⟩, by rw [Its.dep_drop h1]; omega, fun _ => ?_⟩
        by_cases hd : 0 < d
        · exact a5 hd
        · have : x.items.drop (i + 1) = [] := List.drop_of_length_le (by omega)
          rw [this] at a2
          simp only [Its.w9] at a2
          omega
    · rw [if_neg hb, Option.bind_some, if_pos rfl]
      exact ⟨_, rfl, (fun o e => by cases e; rfl), (fun m' e => by cases e)⟩
theorem lsound_r : ∀ (k : Nat) (x : It) (a : Nat), a ≤ 201 → 202 ≤ k + a → x.lens → ∃ n b, waybilllaw07_sound.r k x a = some (n, b) ∧ n ≤ 140737489403904 ∧ (b = true → x.good ∧ n = x.w9 ∧ x.dep + a ≤ 201 ∧ (0 < x.items.length → n ≤ 1048576))
  | 0, x, a, h1, h2, _ => by omega
  | k + 1, x, a, h1, h2, hx => by
    have hx' := (It.lens_eq x).1 hx
    rw [waybilllaw07_sound.r]
    have bad : ∃ n b, (if true = true then some (0, false) else (((waybilllaw07_sound.l1 x a (waybilllaw07_sound.r k) (x.items.length - 0 + 2) (9 + x.data.length) 0) : Option (Lp ((Nat) × (Bool)) ((Nat)))).bind fun | .ret o => o | .go n25 => (some (n25, true)))) = some (n, b) ∧ n ≤ 140737489403904 ∧ (b = true → x.good ∧ n = x.w9 ∧ x.dep + a ≤ 201 ∧ (0 < x.items.length → n ≤ 1048576)) :=
      ⟨0, false, by rw [if_pos rfl], by omega, (fun e => by cases e)⟩
    by_cases ha : 200 < a
    · rw [if_pos ha, Option.bind_some]; exact bad
    rw [if_neg ha]
    have fine : ((x.list = true → x.data = []) ∧ (x.list = false → x.items = [])) → ∃ n b, (if false = true then some (0, false) else (((waybilllaw07_sound.l1 x a (waybilllaw07_sound.r k) (x.items.length - 0 + 2) (9 + x.data.length) 0) : Option (Lp ((Nat) × (Bool)) ((Nat)))).bind fun | .ret o => o | .go n25 => (some (n25, true)))) = some (n, b) ∧ n ≤ 140737489403904 ∧ (b = true → x.good ∧ n = x.w9 ∧ x.dep + a ≤ 201 ∧ (0 < x.items.length → n ≤ 1048576)) := by
      rintro ⟨g1, g2⟩
      rw [if_neg (by simp)]
      obtain ⟨q, e1, e2, e3⟩ := lsound_loop x a (by omega) (waybilllaw07_sound.r k) (fun y hy => by
        obtain ⟨n, b, f1, f2, f3⟩ := lsound_r k y (a + 1) (by omega) (by omega) (Its.lens_mem hx'.2.2 y hy)
        exact ⟨n, b, f1, f2, fun hb => ⟨(f3 hb).1, (f3 hb).2.1, (f3 hb).2.2.1⟩⟩) x.items.length 0 (x.items.length - 0 + 2) (9 + x.data.length) (by omega) (by omega) (by omega)
      rw [e1, Option.bind_some]
      cases q with
      | ret o =>
        have := e2 o rfl
        subst this
        exact ⟨0, false, rfl, by omega, (fun e => by cases e)⟩
      | go m =>
        obtain ⟨a1, a2, a3, a4, a5⟩ := e3 m rfl
        rw [List.drop_zero] at a2 a3 a4
        refine ⟨m, true, rfl, a1, fun _ => ⟨(It.good_eq x).2 ⟨g1, g2, a3⟩, by rw [a2, It.w9_eq], ?_, a5⟩⟩
        rw [It.dep_eq]
        split <;> omega
    by_cases hl : x.list = true
    · rw [if_pos hl]
      by_cases hd : 0 < x.data.length
      · rw [if_pos hd, Option.bind_some]; exact bad
      · rw [if_neg hd, if_pos hl, Option.bind_some]
        exact fine ⟨fun _ => List.length_eq_zero_iff.1 (by omega), fun h => by rw [hl] at h; cases h⟩
    · rw [if_neg hl, if_neg hl, Option.bind_some]
      by_cases hi : 0 < x.items.length
      · rw [decide_eq_true hi]; exact bad
      · rw [decide_eq_false hi]
        exact fine ⟨fun h => absurd h hl, fun _ => List.length_eq_zero_iff.1 (by omega)⟩
theorem lsound_eq (x : It) (hx : x.lens) : ∃ n b, waybilllaw07_sound x 0 = some (n, b) ∧ (b = true → x.good ∧ n = x.w9 ∧ x.dep ≤ 201 ∧ (0 < x.items.length → n ≤ 1048576)) := by
  obtain ⟨n, b, e1, e2, e3⟩ := lsound_r (203 - 0) x 0 (by omega) (by omega) hx
  exact ⟨n, b, e1, fun h => (e3 h).imp id (fun h => ⟨h.1, by omega, h.2.2⟩)⟩
theorem ltwin_eq {x : It} (h : x.w9 ≤ 16777216) : waybilllaw07_twin x = some x := by
  have := It.wt_w9 x
  unfold waybilllaw07_twin
  rw [copy_eq (by simp only [Its.wt]; omega), Option.bind_some]
  rfl
theorem lparts_loop (l : List It) (hg : Its.good l) (hd : Its.dep l ≤ 1024) (hw : Its.w9 l ≤ 16777216) : ∀ (d i k : Nat), i + d = l.length → d < k → waybilllaw07_RlpParts.l1 l k (l.map It.enc) i = some (Lp.go (l.map It.enc))
  | 0, i, k, h, hk => by
    obtain ⟨k, rfl⟩ : ∃ m, k = m + 1 := ⟨k - 1, by omega⟩
    rw [waybilllaw07_RlpParts.l1, if_neg (by rw [List.length_map]; omega)]
  | d + 1, i, k, h, hk => by
    obtain ⟨k, rfl⟩ : ∃ m, k = m + 1 := ⟨k - 1, by omega⟩
    have h1 : i < l.length := by omega
    have hm := List.getElem_mem h1
    have h2 := Its.w9_mem hm
    have h3 := Its.dep_mem hm
    have h4 : (l.map It.enc)[i]? = some (l[i]).enc := by rw [List.getElem?_map, List.getElem?_eq_getElem h1]; rfl
    rw [waybilllaw07_RlpParts.l1, if_pos (by rw [List.length_map]; omega), List.getElem?_eq_getElem h1, Option.bind_some, ltwin_eq (by omega), Option.bind_some, encode_eq (Its.good_mem hg _ hm) (by omega) (by omega), Option.bind_some]
    dsimp only
    rw [if_pos rfl, h4, Option.bind_some, same_eq, Option.bind_some, Option.bind_some]
    dsimp only
    rw [if_neg (by simp)]
    exact lparts_loop l hg hd hw d (i + 1) k (by omega) (by omega)
theorem parts_law (a0 : List It) (a1 : List (BitVec 8)) (h0 : a0.length ≤ 140737488355328) (h1 : Its.lens a0) : waybilllaw07_RlpParts a0 a1 = some true := by
  unfold waybilllaw07_RlpParts
  obtain ⟨n, b, e1, e2⟩ := lsound_eq (.mk true [] a0) (by simp only [It.lens]; exact ⟨by simp, h0, h1⟩)
  rw [e1, Option.bind_some]
  dsimp only
  have first : (if b = true then ((waybilllaw07_twin (It.mk true ([] : List (BitVec 8)) a0)).bind fun x100 => ((rlp_Encode x100).bind fun (x123, x124) => ((rlp_Parts x123).bind fun (x138, x139) => (((if x124 = 0 then (if x139 = 0 then (some ((!decide (x138.length = a0.length)))) else (some (true))) else (some (true))) : Option ((Bool))).bind fun p155 => (if p155 = true then (some (Lp.ret (some false))) else (((waybilllaw07_RlpParts.l1 a0 (x138.length - 0 + 2) x138 0) : Option (Lp (Lp ((Bool)) (Unit)) ((List (List (BitVec 8)))))).bind fun | .ret o => o | .go l167 => ((rlp_Join l167).bind fun (x180, x181) => (((if x181 = 0 then ((waybilllaw07_same x180 x123).bind fun x207 => (some ((!x207)))) else (some (true))) : Option ((Bool))).bind fun p197 => (if p197 = true then (some (Lp.ret (some false))) else (some (Lp.go ()))))))))))) else (some (Lp.go ())) : Option (Lp ((Bool)) (Unit))) = some (Lp.go ()) := by
    by_cases hb : b = true
    · obtain ⟨g1, g2, g3, g4⟩ := e2 hb
      have g1' := (It.good_eq _).1 g1
      have hw9 := It.w9_eq (.mk true [] a0)
      have hdp := It.dep_eq (.mk true [] a0)
      simp only [It.items, It.data, It.list, List.length_nil, if_true] at g1' hw9 hdp g4
      have hw : Its.w9 a0 ≤ 1048576 - 9 := by
        by_cases hl : 0 < a0.length
        · have := g4 hl; omega
        · have : a0 = [] := List.length_eq_zero_iff.1 (by omega)
          subst this
          simp [Its.w9]
      rw [if_pos hb, ltwin_eq (by omega), Option.bind_some, encode_eq g1 (by omega) (by omega), Option.bind_some]
      dsimp only
      rw [parts_eq, parts_enc a0 (by omega), Option.bind_some]
      dsimp only
      rw [if_pos rfl, if_pos rfl, List.length_map, Option.bind_some, if_neg (by simp), lparts_loop a0 g1'.2.2 (by omega) (by omega) a0.length 0 _ (by omega) (by omega), Option.bind_some]
      dsimp only
      rw [join_enc a0 (by omega), Option.bind_some]
      dsimp only
      rw [if_pos rfl, same_eq, Option.bind_some, Option.bind_some, if_neg (by simp)]
    · rw [if_neg hb]
  refine Eq.trans (congrArg (fun o => Option.bind o _) first) ?_
  rw [Option.bind_some]
  dsimp only
  have hp : partsR [192#8] = ([], 0) := by decide
  rw [parts_eq, hp, Option.bind_some]
  dsimp only
  rw [if_pos rfl, Option.bind_some, if_neg (by simp), parts_eq, Option.bind_some]
  generalize hr : partsR a1 = r
  obtain ⟨L, e⟩ := r
  dsimp only
  by_cases he : e = 0
  · subst he
    rw [if_pos rfl, join_parts a1 L hr, Option.bind_some]
    dsimp only
    rw [if_pos rfl, same_eq, Option.bind_some, Option.bind_some]
    simp
  · rw [if_neg he]
    have : L = [] := by
      have h3 := parts_none a1
      rw [hr] at h3
      exact h3 he
    subst this
    simp
where
  parts_none (b : List (BitVec 8)) (h : (partsR b).2 ≠ 0) : (partsR b).1 = [] := by
    unfold partsR at h ⊢
    by_cases h1 : 16777216 < b.length
    · rw [if_pos h1]
    rw [if_neg h1] at h ⊢
    generalize cutS b = r at h ⊢
    obtain ⟨e, l, hh, n⟩ := r
    dsimp only at h ⊢
    by_cases he : e = 0
    · rw [if_pos he] at h ⊢
      by_cases hl : l = true
      · rw [if_pos hl] at h ⊢
        by_cases h2 : hh + n < b.length
        · rw [if_pos h2]
        · rw [if_neg h2] at h ⊢
          exact partsF_nil _ _ _ h
      · rw [if_neg hl]
    · rw [if_neg he]
end Go.Fw
namespace Go.Fw
set_option linter.unusedVariables false
set_option linter.unusedSimpArgs false
set_option maxRecDepth 100000
mutual
theorem It.w9_wt : ∀ x : It, x.w9 ≤ 9 * x.wt
  | .mk l d its => by
    have := Its.w9_wt its
    simp only [It.wt, It.w9]; omega
theorem Its.w9_wt : ∀ l : List It, Its.w9 l ≤ 9 * Its.wt l
  | [] => by simp [Its.wt, Its.w9]
  | x :: l => by
    have := It.w9_wt x
    have := Its.w9_wt l
    simp only [Its.wt, Its.w9]; omega
end
mutual
theorem It.dep_wt : ∀ x : It, x.dep ≤ x.wt
  | .mk l d its => by
    have := Its.dep_wt its
    simp only [It.wt, It.dep]; split <;> omega
theorem Its.dep_wt : ∀ l : List It, Its.dep l ≤ Its.wt l
  | [] => by simp [Its.wt, Its.dep]
  | x :: l => by
    have := It.dep_wt x
    have := Its.dep_wt l
    simp only [Its.wt, Its.dep]; omega
end
theorem rodd_good {x : It} (h : x.good) : waybillref07_odd x = some false := by
  have h := (It.good_eq x).1 h
  unfold waybillref07_odd
  by_cases hl : x.list = true
  · rw [if_pos hl, h.1 hl]; rfl
  · rw [if_neg hl, h.2.1 (by simpa using hl)]; rfl
theorem odd_bad {x : It} (h : ¬ x.good) : (rlp_odd x = some true ∧ waybillref07_odd x = some true) ∨ (rlp_odd x = some false ∧ waybillref07_odd x = some false ∧ x.list = true ∧ ¬ Its.good x.items) := by
  rw [It.good_eq] at h
  unfold rlp_odd waybillref07_odd
  by_cases hl : x.list = true
  · simp only [hl, if_true]
    by_cases hd : 0 < x.data.length
    · left; simp [hd]
    · right
      have : x.data = [] := List.length_eq_zero_iff.1 (by omega)
      simp [this]
      intro hg
      exact h ⟨fun _ => this, fun e => (by rw [hl] at e; cases e), hg⟩
  · simp only [hl]
    by_cases hi : 0 < x.items.length
    · left; simp [hi]
    · exfalso
      have : x.items = [] := List.length_eq_zero_iff.1 (by omega)
      exact h ⟨fun e => absurd e hl, fun _ => this, by rw [this]; simp [Its.good]⟩
theorem sound_badl (x : It) (rc : It → Option (Nat × Bool)) (hrc : ∀ y ∈ x.items, (y.good → rc y = some (y.dep, true)) ∧ (¬ y.good → rc y = some (0, false))) : ∀ (d i k m : Nat), i + d = x.items.length → d < k → ¬ Its.good (x.items.drop i) → rlp_sound.l1 x rc k m i = some (Lp.ret (some (0, false)))
  | 0, i, k, m, h, hk, hg => by
    rw [List.drop_of_length_le (by omega)] at hg
    exact absurd (by simp [Its.good]) hg
  | d + 1, i, k, m, h, hk, hg => by
    obtain ⟨k, rfl⟩ : ∃ m, k = m + 1 := ⟨k - 1, by omega⟩
    have h1 : i < x.items.length := by omega
    have h2 := hrc _ (List.getElem_mem h1)
    rw [rlp_sound.l1, if_pos h1, List.getElem?_eq_getElem h1, Option.bind_some]
    rw [Its.good_drop h1] at hg
    by_cases hb : (x.items[i]).good
    · rw [h2.1 hb, Option.bind_some]
      try dsimp only
      rw [if_pos rfl]
      exact sound_badl x rc hrc d (i + 1) k _ (by omega) (by omega) (fun e => hg ⟨hb, e⟩)
    · rw [h2.2 hb, Option.bind_some]
      try dsimp only
      rw [if_neg (by simp)]
theorem sound_bad : ∀ (k : Nat) (x : It), x.sz < k → ¬ x.good → x.wt ≤ 2147483647 → rlp_sound.r k x = some (0, false)
  | 0, x, h, _, _ => by omega
  | k + 1, x, h, hg, hw => by
    have hs := It.sz_eq x
    rw [rlp_sound.r]
    rcases odd_bad hg with ⟨h1, _⟩ | ⟨h1, _, h3, h4⟩
    · rw [h1, Option.bind_some, if_pos rfl]
    · have hwi : ∀ y ∈ x.items, y.wt ≤ 2147483647 := fun y hy => by have := Its.wt_mem hy; have := It.wt_eq x; omega
      rw [h1, Option.bind_some, if_neg (by simp), if_pos h3, sound_badl x _ (fun y hy => ⟨fun hy2 => sound_r k y (by have := Its.sz_mem hy; omega) hy2 (by have := hwi y hy; have := It.dep_wt y; omega), fun hy2 => sound_bad k y (by have := Its.sz_mem hy; omega) hy2 (hwi y hy)⟩) x.items.length 0 _ 0 (by omega) (by omega) (by rwa [List.drop_zero]), Option.bind_some]
theorem oddly_loop (x : It) (rc : It → Option Bool) (hrc : ∀ y ∈ x.items, rc y = some false) : ∀ (d i k : Nat), i + d = x.items.length → d < k → waybillref07_oddly.l1 x rc k i = some (Lp.go ())
  | 0, i, k, h, hk => by
    obtain ⟨k, rfl⟩ : ∃ m, k = m + 1 := ⟨k - 1, by omega⟩
    rw [waybillref07_oddly.l1, if_neg (by omega)]
  | d + 1, i, k, h, hk => by
    obtain ⟨k, rfl⟩ : ∃ m, k = m + 1 := ⟨k - 1, by omega⟩
    have h1 : i < x.items.length := by omega
    rw [waybillref07_oddly.l1, if_pos h1, List.getElem?_eq_getElem h1, Option.bind_some, hrc _ (List.getElem_mem h1), Option.bind_some, if_neg (by simp)]
    exact oddly_loop x rc hrc d (i + 1) k (by omega) (by omega)
theorem oddly_good : ∀ (k : Nat) (x : It), x.sz < k → x.good → waybillref07_oddly.r k x = some false
  | 0, x, h, _ => by omega
  | k + 1, x, h, hg => by
    have hs := It.sz_eq x
    have hg' := (It.good_eq x).1 hg
    rw [waybillref07_oddly.r, rodd_good hg, Option.bind_some, if_neg (by simp), oddly_loop x _ (fun y hy => oddly_good k y (by have := Its.sz_mem hy; omega) (Its.good_mem hg'.2.2 y hy)) x.items.length 0 _ (by omega) (by omega), Option.bind_some]
theorem oddly_badl (x : It) (rc : It → Option Bool) (hrc : ∀ y ∈ x.items, (y.good → rc y = some false) ∧ (¬ y.good → rc y = some true)) : ∀ (d i k : Nat), i + d = x.items.length → d < k → ¬ Its.good (x.items.drop i) → waybillref07_oddly.l1 x rc k i = some (Lp.ret (some true))
  | 0, i, k, h, hk, hg => by
    rw [List.drop_of_length_le (by omega)] at hg
    exact absurd (by simp [Its.good]) hg
  | d + 1, i, k, h, hk, hg => by
    obtain ⟨k, rfl⟩ : ∃ m, k = m + 1 := ⟨k - 1, by omega⟩
    have h1 : i < x.items.length := by omega
    have h2 := hrc _ (List.getElem_mem h1)
    rw [waybillref07_oddly.l1, if_pos h1, List.getElem?_eq_getElem h1, Option.bind_some]
    rw [Its.good_drop h1] at hg
    by_cases hb : (x.items[i]).good
    · rw [h2.1 hb, Option.bind_some, if_neg (by simp)]
      exact oddly_badl x rc hrc d (i + 1) k (by omega) (by omega) (fun e => hg ⟨hb, e⟩)
    · rw [h2.2 hb, Option.bind_some, if_pos rfl]
theorem oddly_bad : ∀ (k : Nat) (x : It), x.sz < k → ¬ x.good → waybillref07_oddly.r k x = some true
  | 0, x, h, _ => by omega
  | k + 1, x, h, hg => by
    have hs := It.sz_eq x
    rw [waybillref07_oddly.r]
    rcases odd_bad hg with ⟨_, h1⟩ | ⟨_, h1, h3, h4⟩
    · rw [h1, Option.bind_some, if_pos rfl]
    · rw [h1, Option.bind_some, if_neg (by simp), oddly_badl x _ (fun y hy => ⟨fun hy2 => oddly_good k y (by have := Its.sz_mem hy; omega) hy2, fun hy2 => oddly_bad k y (by have := Its.sz_mem hy; omega) hy2⟩) x.items.length 0 _ (by omega) (by omega) (by rwa [List.drop_zero]), Option.bind_some]
theorem depth_loop (x : It) (rc : It → Option Nat) (hrc : ∀ y ∈ x.items, rc y = some y.dep) : ∀ (d i k m : Nat), i + d = x.items.length → d < k → waybillref07_depth.l1 x rc k m i = some (max m (Its.dep (x.items.drop i)))
  | 0, i, k, m, h, hk => by
    obtain ⟨k, rfl⟩ : ∃ m, k = m + 1 := ⟨k - 1, by omega⟩
    rw [waybillref07_depth.l1, if_neg (by omega), List.drop_of_length_le (by omega), Its.dep, Nat.max_zero]
  | d + 1, i, k, m, h, hk => by
    obtain ⟨k, rfl⟩ : ∃ m, k = m + 1 := ⟨k - 1, by omega⟩
    have h1 : i < x.items.length := by omega
    rw [waybillref07_depth.l1, if_pos h1, List.getElem?_eq_getElem h1, Option.bind_some, hrc _ (List.getElem_mem h1), Option.bind_some, depth_loop x rc hrc d (i + 1) k _ (by omega) (by omega), Its.dep_drop h1, Nat.max_assoc]
theorem depth_r : ∀ (k : Nat) (x : It), x.sz < k → x.dep ≤ 4611686018427387904 → waybillref07_depth.r k x = some x.dep
  | 0, x, h, _ => by omega
  | k + 1, x, h, hd => by
    have hs := It.sz_eq x
    rw [It.dep_eq] at hd ⊢
    rw [waybillref07_depth.r]
    by_cases hl : x.list = true
    · rw [if_pos hl] at hd
      rw [if_pos hl, if_pos hl, depth_loop x _ (fun y hy => depth_r k y (by have := Its.sz_mem hy; omega) (by have := Its.dep_mem hy; omega)) x.items.length 0 _ 0 (by omega) (by omega), Option.bind_some, List.drop_zero, Nat.zero_max, if_pos (by omega), Nat.add_comm]
    · rw [if_neg hl, if_neg hl]
theorem headB_len (n : Nat) : (headB 128 n).length = (headB 192 n).length := by unfold headB; split <;> simp
theorem rsize_loop (x : It) (rc : It → Option Nat) (hw : (Its.enc x.items).length ≤ 1099511627776) (hrc : ∀ y ∈ x.items, rc y = some y.enc.length) (b : Nat) (hb : b ≤ 1099511627776) : ∀ (d i k m : Nat), i + d = x.items.length → d < k → m + (Its.enc (x.items.drop i)).length = b + (Its.enc x.items).length → waybillref07_size.l1 x rc k m i = some (b + (Its.enc x.items).length)
  | 0, i, k, m, h, hk, hm => by
    obtain ⟨k, rfl⟩ : ∃ m, k = m + 1 := ⟨k - 1, by omega⟩
    rw [List.drop_of_length_le (by omega), Its.enc, List.length_nil] at hm
    rw [waybillref07_size.l1, if_neg (by omega)]
    congr 1
  | d + 1, i, k, m, h, hk, hm => by
    obtain ⟨k, rfl⟩ : ∃ m, k = m + 1 := ⟨k - 1, by omega⟩
    have h1 : i < x.items.length := by omega
    rw [Its.enc_drop h1, List.length_append] at hm
    rw [waybillref07_size.l1, if_pos h1, List.getElem?_eq_getElem h1, Option.bind_some, hrc _ (List.getElem_mem h1), Option.bind_some, if_pos (by omega)]
    exact rsize_loop x rc hw hrc b hb d (i + 1) k _ (by omega) (by omega) (by omega)
theorem rsize_r : ∀ (k : Nat) (x : It), x.sz < k → x.good → x.w9 ≤ 1099511627776 → waybillref07_size.r k x = some x.enc.length
  | 0, x, h, _, _ => by omega
  | k + 1, x, h, hg, hw => by
    have hs := It.sz_eq x
    have hw' := It.w9_eq x
    have hg' := (It.good_eq x).1 hg
    have hle := Its.enc_le x.items (by omega)
    have hloop := rsize_loop x (waybillref07_size.r k) (by omega) (fun y hy => rsize_r k y (by have := Its.sz_mem hy; omega) (Its.good_mem hg'.2.2 y hy) (by have := Its.w9_mem hy; omega)) x.data.length (by omega) x.items.length 0 (x.items.length - 0 + 2) x.data.length (by omega) (by omega) (by rw [List.drop_zero])
    have hh := headB_length (c := 128) (n := x.data.length + (Its.enc x.items).length) (by omega)
    rw [waybillref07_size.r, It.enc_eq]
    by_cases hl : x.list = true
    · rw [if_pos hl, if_pos hl, Option.bind_some, if_neg (by simp), hloop, Option.bind_some, before_spec 128 _ (by omega) (by omega), Option.bind_some, if_pos (by omega), headB_len, hg'.1 hl, List.length_nil, Nat.zero_add, List.length_append]
    · have hi : x.items = [] := hg'.2.1 (by simpa using hl)
      have he : (Its.enc x.items).length = 0 := by rw [hi, Its.enc]; rfl
      simp only [he, Nat.add_zero] at hloop hh
      rw [if_neg hl, if_neg hl]
      by_cases h1 : x.data.length = 1
      · obtain ⟨c, e1, e2⟩ := oneB_get h1
        rw [if_pos h1, e1, Option.bind_some, Option.bind_some, ← e2]
        by_cases ho : oneB x.data = true
        · rw [if_pos ho, if_pos ho, h1]
        · rw [if_neg ho, if_neg ho, hloop, Option.bind_some, before_spec 128 _ (by omega) (by omega), Option.bind_some, if_pos (by omega), List.length_append]
      · rw [if_neg h1, Option.bind_some, if_neg (by simp), oneB_no h1, if_neg (by simp), hloop, Option.bind_some, before_spec 128 _ (by omega) (by omega), Option.bind_some, if_pos (by omega), List.length_append]
theorem rsize_eq {x : It} (hg : x.good) (hw : x.w9 ≤ 1099511627776) : waybillref07_size x = some x.enc.length := rsize_r _ x (by omega) hg hw
theorem put_loop1 (x : It) (rc : List (BitVec 8) → It → Option (List (BitVec 8))) (b : List (BitVec 8)) (hb : b.length + (Its.enc x.items).length ≤ 4398046511104) (hrc : ∀ a, a.length ≤ 4398046511104 → ∀ y ∈ x.items, a.length + y.enc.length ≤ 4398046511104 → rc a y = some (a ++ y.enc)) : ∀ (d i k : Nat) (l : List (BitVec 8)), i + d = x.items.length → d < k → l ++ Its.enc (x.items.drop i) = b ++ Its.enc x.items → waybillref07_put.l1 x rc k l i = some (b ++ Its.enc x.items)
  | 0, i, k, l, h, hk, hl => by
    obtain ⟨k, rfl⟩ : ∃ m, k = m + 1 := ⟨k - 1, by omega⟩
    rw [List.drop_of_length_le (by omega), Its.enc, List.append_nil] at hl
    rw [waybillref07_put.l1, if_neg (by omega), hl]
  | d + 1, i, k, l, h, hk, hl => by
    obtain ⟨k, rfl⟩ : ∃ m, k = m + 1 := ⟨k - 1, by omega⟩
    have h1 : i < x.items.length := by omega
    have h2 := congrArg List.length hl
    rw [List.length_append, List.length_append] at h2
    rw [Its.enc_drop h1] at hl h2
    rw [List.length_append] at h2
    rw [waybillref07_put.l1, if_pos h1, List.getElem?_eq_getElem h1, Option.bind_some, hrc l (by omega) _ (List.getElem_mem h1) (by omega), Option.bind_some]
    exact put_loop1 x rc b hb hrc d (i + 1) k _ (by omega) (by omega) (by rw [List.append_assoc]; exact hl)
theorem put_loop2 (x : It) (hg : Its.good x.items) (hw9 : Its.w9 x.items ≤ 1099511627776) : ∀ (d i k m : Nat), i + d = x.items.length → d < k → m + (Its.enc (x.items.drop i)).length = (Its.enc x.items).length → waybillref07_put.l2 x k m i = some (Its.enc x.items).length
  | 0, i, k, m, h, hk, hm => by
    obtain ⟨k, rfl⟩ : ∃ m, k = m + 1 := ⟨k - 1, by omega⟩
    rw [List.drop_of_length_le (by omega), Its.enc, List.length_nil] at hm
    rw [waybillref07_put.l2, if_neg (by omega)]
    congr 1
  | d + 1, i, k, m, h, hk, hm => by
    obtain ⟨k, rfl⟩ : ∃ m, k = m + 1 := ⟨k - 1, by omega⟩
    have h1 : i < x.items.length := by omega
    have hle := Its.enc_le x.items hw9
    have hm1 := List.getElem_mem h1
    rw [Its.enc_drop h1, List.length_append] at hm
    rw [waybillref07_put.l2, if_pos h1, List.getElem?_eq_getElem h1, Option.bind_some, rsize_eq (Its.good_mem hg _ hm1) (by have := Its.w9_mem hm1; omega), Option.bind_some, if_pos (by omega)]
    exact put_loop2 x hg hw9 d (i + 1) k _ (by omega) (by omega) (by omega)
theorem put_r : ∀ (k : Nat) (a : List (BitVec 8)) (x : It), x.sz < k → x.good → x.w9 ≤ 1099511627776 → a.length + x.enc.length ≤ 4398046511104 → waybillref07_put.r k a x = some (a ++ x.enc)
  | 0, a, x, h, _, _, _ => by omega
  | k + 1, a, x, h, hg, hw, ha => by
    have hs := It.sz_eq x
    have hw' := It.w9_eq x
    have hg' := (It.good_eq x).1 hg
    have hle := Its.enc_le x.items (by omega)
    rw [It.enc_eq] at ha ⊢
    rw [waybillref07_put.r]
    have hh2 := headB_length (c := 128) (n := x.data.length) (by omega)
    by_cases hl : x.list = true
    · have hh := headB_length (c := 192) (n := (Its.enc x.items).length) (by omega)
      rw [if_pos hl, List.length_append] at ha
      rw [if_pos hl, if_pos hl, put_loop2 x hg'.2.2 (by omega) x.items.length 0 _ 0 (by omega) (by omega) (by rw [List.drop_zero]; omega), Option.bind_some, before_spec 192 _ (by omega) (by omega), Option.bind_some, if_pos (by omega),
        put_loop1 x _ (a ++ headB 192 (Its.enc x.items).length) (by rw [List.length_append]; omega) (fun a ha y hy hay => put_r k a y (by have := Its.sz_mem hy; omega) (Its.good_mem hg'.2.2 y hy) (by have := Its.w9_mem hy; omega) hay) x.items.length 0 _ _ (by omega) (by omega) (by rw [List.drop_zero]), Option.bind_some, List.append_assoc]
    · rw [if_neg hl] at ha
      rw [if_neg hl, if_neg hl]
      by_cases h1 : x.data.length = 1
      · obtain ⟨c, e1, e2⟩ := oneB_get h1
        rw [if_pos h1, e1, Option.bind_some, Option.bind_some]
        by_cases ho : oneB x.data = true
        · have hc : ¬ 128 ≤ c.toNat := by rw [ho] at e2; have := of_decide_eq_true e2.symm; omega
          rw [if_pos ho] at ha
          rw [if_neg (by simpa using hc), Option.bind_some, if_pos (by omega), if_pos ho]
        · have hc : 128 ≤ c.toNat := by
            by_cases hc : c.toNat < 128
            · exact absurd (by rw [e2]; simpa using hc) ho
            · omega
          rw [if_neg ho, List.length_append] at ha
          rw [if_pos (by simpa using hc), if_neg ho, before_spec 128 _ (by omega) (by omega), Option.bind_some, if_pos (by omega), Option.bind_some, if_pos (by rw [List.length_append]; omega), List.append_assoc]
      · rw [oneB_no h1, if_neg (by simp), List.length_append] at ha
        rw [if_neg h1, Option.bind_some, if_pos rfl, oneB_no h1, if_neg (by simp), before_spec 128 _ (by omega) (by omega), Option.bind_some, if_pos (by omega), Option.bind_some, if_pos (by rw [List.length_append]; omega), List.append_assoc]
def checkR (d n : Nat) : Nat := if 1024 < d then 74 else if 16777216 < n then 2 else 0
theorem check_all (x : It) (hw : x.wt ≤ 2147483647) : ∃ e, rlp_Check x = some e ∧ waybillref07_Check x = some e ∧ (e = 0 → x.good ∧ x.enc.length ≤ 16777216) := by
  have h1 := It.w9_wt x
  have h2 := It.dep_wt x
  unfold rlp_Check waybillref07_Check rlp_sound waybillref07_oddly waybillref07_depth
  by_cases hg : x.good
  · rw [sound_r _ x (by omega) hg (by omega), Option.bind_some]
    dsimp only
    rw [if_pos rfl, oddly_good _ x (by omega) hg, Option.bind_some, if_neg (show ¬ (false = true) by simp), depth_r _ x (by omega) (by omega), Option.bind_some]
    by_cases h3 : 1024 < x.dep
    · rw [if_pos h3, if_pos h3]; exact ⟨74, rfl, rfl, (fun e => by cases e)⟩
    · rw [if_neg h3, if_neg h3, rsize_eq hg (by omega), size_eq (by omega), Option.bind_some]
      by_cases h4 : 16777216 < x.enc.length
      · rw [if_pos h4]; exact ⟨2, rfl, rfl, (fun e => by cases e)⟩
      · rw [if_neg h4]; exact ⟨0, rfl, rfl, fun _ => ⟨hg, by omega⟩⟩
  · rw [sound_bad _ x (by omega) hg hw, Option.bind_some]
    dsimp only
    rw [if_neg (show ¬ (false = true) by simp), oddly_bad _ x (by omega) hg, Option.bind_some, if_pos rfl]
    exact ⟨78, rfl, rfl, (fun e => by cases e)⟩
theorem room_eq {x : It} (hw : x.wt ≤ 2147483647) : waybilllaw07_room x = some x := by
  have h1 := It.wt_eq x
  unfold waybilllaw07_room waybilllaw07_twin
  rw [copy_eq (by simp only [Its.wt]; omega), Option.bind_some]
  show ((some x).bind _) = _
  rw [Option.bind_some, waybilllaw07_roomy, if_pos (by omega), Option.bind_some, if_pos (by simp only [List.length_cons, List.length_nil]; omega), if_pos (by simp), List.take_left, ← It.eta]
theorem stays_eq (x : It) : waybilllaw07_stays x x = some true := by
  have hx : ((x.items ++ [It.mk false [164#8] []]).take (x.items.length + 1))[x.items.length]? = some (It.mk false [164#8] []) := by
    rw [List.getElem?_take, if_pos (by omega), List.getElem?_append_right (by omega)]; simp
  unfold waybilllaw07_stays
  rw [Same_refl, Option.bind_some, if_pos rfl, waybilllaw07_spared, Option.bind_some, Option.bind_some, if_neg (by simp), if_pos (by simp), hx, Option.bind_some, It.list, if_neg (by simp), It.data, same_eq, Option.bind_some, Option.bind_some]
  simp
theorem sizes_all (x : It) (hw : x.wt ≤ 2147483647) : ∃ n e, rlp_Size x = some (n, e) ∧ waybillref07_Size x = some (n, e) := by
  have hw9 := It.w9_wt x
  obtain ⟨e, c1, c2, c3⟩ := check_all x hw
  unfold rlp_Size waybillref07_Size
  rw [c1, c2, Option.bind_some]
  by_cases he : e = 0
  · obtain ⟨hg, hn⟩ := c3 he
    rw [if_pos he, size_eq (by omega), rsize_eq hg (by omega)]
    exact ⟨_, _, rfl, by subst he; rfl⟩
  · rw [if_neg he]
    refine ⟨_, _, rfl, ?_⟩
    rw [Option.bind_some, if_neg he]
theorem encodes_all (x : It) (hw : x.wt ≤ 2147483647) : ∃ b e, rlp_Encode x = some (b, e) ∧ waybillref07_Encode x = some (b, e) := by
  have hw9 := It.w9_wt x
  obtain ⟨e, c1, c2, c3⟩ := check_all x hw
  unfold rlp_Encode waybillref07_Encode
  rw [c1, c2, Option.bind_some]
  by_cases he : e = 0
  · obtain ⟨hg, hn⟩ := c3 he
    have hput : waybillref07_put [] x = some x.enc := by
      have := put_r (x.sz + 1) [] x (by omega) hg (by omega) (by simp; omega)
      simpa [waybillref07_put] using this
    rw [if_pos he, lay_eq (by omega), hput]
    exact ⟨_, _, rfl, by subst he; rfl⟩
  · rw [if_neg he]
    refine ⟨_, _, rfl, ?_⟩
    rw [Option.bind_some, if_neg he]
theorem notdec {p : Prop} [Decidable p] (h : p) : ¬ ((!decide p) = true) := by simp [h]
theorem trees_law (x : It) (hx : x.lens) : waybilllaw07_RlpTrees x = some true := by
  unfold waybilllaw07_RlpTrees
  obtain ⟨b, e1, e2⟩ := beyond_ok x hx
  rw [e1, Option.bind_some]
  by_cases hb : b = true
  · rw [if_pos hb]
  have hw := e2 (by simpa using hb)
  obtain ⟨e, c1, c2, c3⟩ := check_all x hw
  obtain ⟨n, f, d1, d2⟩ := sizes_all x hw
  obtain ⟨t, g, g1, g2⟩ := encodes_all x hw
  rw [if_neg hb, room_eq hw, Option.bind_some, c1, Option.bind_some, waybilllaw07_num, Option.bind_some, c2, Option.bind_some, if_pos rfl, d1, Option.bind_some]
  dsimp only
  rw [d2, Option.bind_some]
  dsimp only
  rw [if_pos rfl, waybilllaw07_num, Option.bind_some, Option.bind_some, if_neg (notdec rfl), g1, Option.bind_some]
  dsimp only
  rw [g2, Option.bind_some]
  dsimp only
  rw [waybilllaw07_num, Option.bind_some, if_pos rfl, same_eq, Option.bind_some, if_pos (by simp), stays_eq, Option.bind_some, Option.bind_some]
theorem kind_eq (x : It) (b : Bool) : ∃ e, rlp_kind x b = some e ∧ waybillref07_wanted x b = some e := by
  unfold rlp_kind waybillref07_wanted
  have h : ∃ o, rlp_odd x = some o ∧ waybillref07_odd x = some o := by
    unfold rlp_odd waybillref07_odd
    by_cases hl : x.list = true
    · by_cases hd : 0 < x.data.length
      · exact ⟨true, by simp [hl, hd], by simp [hl, hd]⟩
      · exact ⟨false, by simp [hl, hd], by simp [hl, hd]⟩
    · exact ⟨decide (0 < x.items.length), by simp [hl], by simp [hl]⟩
  obtain ⟨o, h1, h2⟩ := h
  rw [h1, h2, Option.bind_some]
  cases o with
  | true => exact ⟨78, rfl, rfl⟩
  | false =>
    by_cases hb : x.list = b
    · exact ⟨0, by simp [hb], by simp [hb]⟩
    · exact ⟨75, by simp [hb], by simp [hb]⟩
theorem gettext_all (x : It) : ∃ b e, rlp_GetText x = some (b, e) ∧ waybillref07_GetText x = some (b, e) := by
  unfold rlp_GetText waybillref07_GetText
  obtain ⟨e, h1, h2⟩ := kind_eq x false
  rw [h1, h2, Option.bind_some]
  by_cases he : e = 0
  · rw [if_pos he, rlp_clone]
    exact ⟨_, _, rfl, by subst he; rfl⟩
  · rw [if_neg he]
    refine ⟨_, _, rfl, ?_⟩
    rw [Option.bind_some, if_neg he]
theorem strict_eq (l : List (BitVec 8)) (hl : l.length ≤ 32) : u256_Strict l = some (if l[0]? = some 0#8 then (Vector.replicate 4 0#64, 13) else (lim (beV l), 0)) := by
  unfold u256_Strict
  rw [get_eq l hl, Option.bind_some]
  dsimp only
  rw [if_pos rfl]
  by_cases h0 : 0 < l.length
  · rw [if_pos h0, List.getElem?_eq_getElem h0, Option.bind_some, Option.bind_some]
    by_cases h1 : l[0] = 0#8
    · rw [if_pos (decide_eq_true h1), if_pos (by rw [h1])]
    · rw [if_neg (by simpa using h1), if_neg (fun e => h1 (by simpa using e))]
  · rw [if_neg h0, Option.bind_some, if_neg (by simp), if_neg (by rw [List.getElem?_eq_none (by omega)]; simp)]
theorem number_all (x : It) (n : Int) (hn : n ≤ 32) : ∃ v e, rlp_number x n = some (v, e) ∧ waybillref07_narrow x n = some (v, e) := by
  unfold rlp_number waybillref07_narrow
  obtain ⟨e, h1, h2⟩ := kind_eq x false
  rw [h1, h2, Option.bind_some, Option.bind_some]
  by_cases he : e = 0
  · rw [if_pos he, if_pos he]
    by_cases h3 : n < ((x.data.length : Nat) : Int)
    · rw [if_pos h3, if_pos h3]; exact ⟨_, _, rfl, rfl⟩
    · rw [if_neg h3, if_neg h3, strict_eq _ (by omega), rget_eq _ (by omega), Option.bind_some]
      by_cases h0 : 0 < x.data.length
      · rw [if_pos h0, List.getElem?_eq_getElem h0, Option.bind_some, Option.bind_some]
        by_cases h4 : x.data[0] = 0#8
        · rw [if_pos (by rw [h4]), if_pos (decide_eq_true h4)]
          exact ⟨_, _, if_neg (by decide), rfl⟩
        · rw [if_neg (fun e => h4 (by simpa using e)), if_neg (by simpa using h4)]
          exact ⟨_, _, if_pos rfl, rfl⟩
      · rw [if_neg (by rw [List.getElem?_eq_none (by omega)]; simp), if_neg h0, Option.bind_some, if_neg (by simp)]
        exact ⟨_, _, if_pos rfl, rfl⟩
  · rw [if_neg he, if_neg he]
    exact ⟨_, _, rfl, rfl⟩
theorem getfixed_all (x : It) (n : Int) : ∃ b e, rlp_GetFixed x n = some (b, e) ∧ waybillref07_GetFixed x n = some (b, e) := by
  unfold rlp_GetFixed waybillref07_GetFixed
  by_cases h0 : n < 0
  · rw [if_pos h0, if_pos h0]; exact ⟨_, _, rfl, rfl⟩
  rw [if_neg h0, if_neg h0]
  obtain ⟨e, h1, h2⟩ := kind_eq x false
  rw [h1, h2, Option.bind_some, Option.bind_some]
  by_cases he : e = 0
  · rw [if_pos he, if_pos he, rlp_clone, waybillref07_bytes]
    by_cases h3 : ((x.data.length : Nat) : Int) = n
    · rw [if_pos h3]; exact ⟨_, _, rfl, rfl⟩
    · rw [if_neg h3]; exact ⟨_, _, rfl, rfl⟩
  · rw [if_neg he, if_neg he]
    exact ⟨_, _, rfl, rfl⟩
theorem getlist_all (x : It) (hw : x.wt ≤ 2147483647) : ∃ b e, rlp_GetList x = some (b, e) ∧ waybillref07_GetList x = some (b, e) := by
  have h5 := It.wt_eq x
  unfold rlp_GetList waybillref07_GetList
  obtain ⟨e, h1, h2⟩ := kind_eq x true
  rw [h1, h2, Option.bind_some, Option.bind_some]
  by_cases he : e = 0
  · rw [if_pos he, if_pos he, twin_eq (by omega), copy_eq (by omega)]
    exact ⟨_, _, rfl, rfl⟩
  · rw [if_neg he, if_neg he]
    exact ⟨_, _, rfl, rfl⟩
theorem reads_law (x : It) (n : Int) (hx : x.lens) : waybilllaw07_RlpReads x n = some true := by
  unfold waybilllaw07_RlpReads
  obtain ⟨b, e1, e2⟩ := beyond_ok x hx
  rw [e1, Option.bind_some]
  by_cases hb : b = true
  · rw [if_pos hb]
  have hw := e2 (by simpa using hb)
  obtain ⟨t, e, a1, a2⟩ := gettext_all x
  obtain ⟨v, f, b1, b2⟩ := number_all x 32 (by omega)
  obtain ⟨s, g, c1, c2⟩ := number_all x 8 (by omega)
  obtain ⟨u, h, d1, d2⟩ := getfixed_all x n
  obtain ⟨l, k, f1, f2⟩ := getlist_all x hw
  have b3 : rlp_GetNumber x = some (v, f) := by unfold rlp_GetNumber; rw [b1, Option.bind_some]
  have b4 : waybillref07_GetNumber x = some (v, f) := by unfold waybillref07_GetNumber; rw [b2, Option.bind_some]
  have c3 : rlp_GetSmall x = some (s[0], g) := by unfold rlp_GetSmall; rw [c1, Option.bind_some]
  have c4 : waybillref07_GetSmall x = some (s[0], g) := by unfold waybillref07_GetSmall; rw [c2, Option.bind_some]
  rw [if_neg hb, room_eq hw, Option.bind_some, a1, Option.bind_some]
  dsimp only
  rw [a2, Option.bind_some]
  dsimp only
  rw [waybilllaw07_num, Option.bind_some, if_pos rfl, same_eq, Option.bind_some, Option.bind_some, if_neg (by simp), b3, Option.bind_some]
  dsimp only
  rw [b4, Option.bind_some]
  dsimp only
  rw [waybilllaw07_num, Option.bind_some, if_pos rfl, Option.bind_some, if_neg (notdec rfl), c3, Option.bind_some]
  dsimp only
  rw [c4, Option.bind_some]
  dsimp only
  rw [waybilllaw07_num, Option.bind_some, if_pos rfl, Option.bind_some, if_neg (notdec rfl), d1, Option.bind_some]
  dsimp only
  rw [d2, Option.bind_some]
  dsimp only
  rw [waybilllaw07_num, Option.bind_some, if_pos rfl, same_eq, Option.bind_some, Option.bind_some, if_neg (by simp), f1, Option.bind_some]
  dsimp only
  rw [f2, Option.bind_some]
  dsimp only
  rw [waybilllaw07_num, Option.bind_some, if_pos rfl, items_refl, Option.bind_some, if_pos rfl, stays_eq, Option.bind_some, Option.bind_some]
end Go.Fw
