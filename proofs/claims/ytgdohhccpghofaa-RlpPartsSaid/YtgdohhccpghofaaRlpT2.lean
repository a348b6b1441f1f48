/- Part of a proof over Ytgdohhccpghofaa: rules and contracts that the law's text uses. No condition. -/
import Derived.Test.YtgdohhccpghofaaRlpT1
namespace Go.Fw
set_option linter.unusedVariables false
set_option linter.unusedSimpArgs false
set_option maxRecDepth 100000
/-! A tree's encoding. -/
def oneB (d : List (BitVec 8)) : Bool := decide (d.length = 1) && small d 0
mutual
def It.enc : It → List (BitVec 8)
  | .mk l d its => if l = true then headB 192 (Its.enc its).length ++ Its.enc its else if oneB d = true then d else headB 128 d.length ++ d
def Its.enc : List It → List (BitVec 8)
  | [] => []
  | x :: xs => It.enc x ++ Its.enc xs
end
mutual
def It.good : It → Prop
  | .mk l d its => (l = true → d = []) ∧ (l = false → its = []) ∧ Its.good its
def Its.good : List It → Prop
  | [] => True
  | x :: xs => It.good x ∧ Its.good xs
end
mutual
def It.w9 : It → Nat
  | .mk _ d its => 9 + d.length + Its.w9 its
def Its.w9 : List It → Nat
  | [] => 0
  | x :: xs => It.w9 x + Its.w9 xs
end
mutual
def It.dep : It → Nat
  | .mk l _ its => if l = true then Its.dep its + 1 else 0
def Its.dep : List It → Nat
  | [] => 0
  | x :: xs => max (It.dep x) (Its.dep xs)
end
theorem It.enc_eq (x : It) : x.enc = if x.list = true then headB 192 (Its.enc x.items).length ++ Its.enc x.items else if oneB x.data = true then x.data else headB 128 x.data.length ++ x.data := by
  cases x; rw [It.enc]; rfl
theorem It.good_eq (x : It) : x.good ↔ (x.list = true → x.data = []) ∧ (x.list = false → x.items = []) ∧ Its.good x.items := by cases x; rw [It.good]; rfl
theorem It.w9_eq (x : It) : x.w9 = 9 + x.data.length + Its.w9 x.items := by cases x; rw [It.w9]; rfl
theorem It.dep_eq (x : It) : x.dep = if x.list = true then Its.dep x.items + 1 else 0 := by cases x; rw [It.dep]; rfl
theorem Its.good_mem : ∀ {l : List It}, Its.good l → ∀ x ∈ l, It.good x
  | [], _, x, hx => by cases hx
  | y :: l, h, x, hx => by
    simp only [Its.good] at h
    rcases List.mem_cons.1 hx with rfl | hx
    · exact h.1
    · exact Its.good_mem h.2 x hx
theorem Its.w9_mem : ∀ {l : List It} {x : It}, x ∈ l → It.w9 x ≤ Its.w9 l
  | y :: l, x, hx => by
    simp only [Its.w9]
    rcases List.mem_cons.1 hx with rfl | hx
    · omega
    · have := Its.w9_mem hx; omega
theorem Its.dep_mem : ∀ {l : List It} {x : It}, x ∈ l → It.dep x ≤ Its.dep l
  | y :: l, x, hx => by
    simp only [Its.dep]
    rcases List.mem_cons.1 hx with rfl | hx
    · omega
    · have := Its.dep_mem hx; omega
theorem Its.w9_drop {l : List It} {i : Nat} (h : i < l.length) : Its.w9 (l.drop i) = It.w9 l[i] + Its.w9 (l.drop (i + 1)) := by rw [drop_cons_at h, Its.w9]
theorem Its.dep_drop {l : List It} {i : Nat} (h : i < l.length) : Its.dep (l.drop i) = max (It.dep l[i]) (Its.dep (l.drop (i + 1))) := by rw [drop_cons_at h, Its.dep]
theorem Its.enc_drop {l : List It} {i : Nat} (h : i < l.length) : Its.enc (l.drop i) = It.enc l[i] ++ Its.enc (l.drop (i + 1)) := by rw [drop_cons_at h, Its.enc]
theorem Its.good_drop {l : List It} {i : Nat} (h : i < l.length) : Its.good (l.drop i) ↔ It.good l[i] ∧ Its.good (l.drop (i + 1)) := by rw [drop_cons_at h, Its.good]
mutual
theorem It.wt_w9 : ∀ x : It, x.wt + 1 ≤ x.w9
  | .mk l d its => by
    have := Its.wt_w9 its
    simp only [It.wt, It.w9]; omega
theorem Its.wt_w9 : ∀ l : List It, Its.wt l + l.length ≤ Its.w9 l
  | [] => by simp [Its.wt, Its.w9]
  | x :: l => by
    have := It.wt_w9 x
    have := Its.wt_w9 l
    simp only [Its.wt, Its.w9, List.length_cons]; omega
end
theorem oneB_len {d : List (BitVec 8)} (h : oneB d = true) : d.length = 1 ∧ small d 0 = true := by
  unfold oneB at h
  simpa using h
mutual
theorem It.enc_le : ∀ x : It, x.w9 ≤ 16777216 → x.enc.length ≤ x.w9 ∧ 0 < x.enc.length
  | .mk l d its, h => by
    simp only [It.w9] at h ⊢
    have h1 := Its.enc_le its (by omega)
    have h2 := headB_length (c := 192) (n := (Its.enc its).length) (by omega)
    have h3 := headB_length (c := 128) (n := d.length) (by omega)
    rw [It.enc]
    split
    · rw [List.length_append]; omega
    split
    · rename_i h4; have := (oneB_len h4).1; omega
    · rw [List.length_append]; omega
theorem Its.enc_le : ∀ l : List It, Its.w9 l ≤ 16777216 → (Its.enc l).length ≤ Its.w9 l
  | [], h => by simp [Its.enc]
  | x :: l, h => by
    simp only [Its.w9] at h ⊢
    have := It.enc_le x (by omega)
    have := Its.enc_le l (by omega)
    rw [Its.enc, List.length_append]; omega
end
/-! ### The program's texts -/
theorem odd_good {x : It} (h : x.good) : rlp_odd x = some false := by
  have h := (It.good_eq x).1 h
  unfold rlp_odd
  by_cases hl : x.list = true
  · rw [if_pos hl, h.1 hl, if_neg (by simp), if_pos hl]; rfl
  · rw [if_neg hl, if_neg hl, h.2.1 (by simpa using hl)]; rfl
theorem sound_loop (x : It) (rc : It → Option (Nat × Bool)) (hrc : ∀ y ∈ x.items, rc y = some (y.dep, true)) : ∀ (d i k m : Nat), i + d = x.items.length → d < k → rlp_sound.l1 x rc k m i = some (Lp.go (max m (Its.dep (x.items.drop i))))
  | 0, i, k, m, h, hk => by
    obtain ⟨k, rfl⟩ : ∃ m, k = m + 1 := ⟨k - 1, by omega⟩
    rw [rlp_sound.l1, if_neg (by omega), List.drop_of_length_le (by omega), Its.dep, Nat.max_zero]
  | d + 1, i, k, m, h, hk => by
    obtain ⟨k, rfl⟩ : ∃ m, k = m + 1 := ⟨k - 1, by omega⟩
    have h1 : i < x.items.length := by omega
    rw [rlp_sound.l1, if_pos h1, get0' h1, Option.bind_some, hrc _ (List.getElem_mem h1), Option.bind_some]
    try dsimp only
    rw [if_pos rfl, sound_loop x rc hrc d (i + 1) k _ (by omega) (by omega), Its.dep_drop h1, Nat.max_assoc]
where
  get0' {α : Type} {s : List α} {i : Nat} (h : i < s.length) : s[i]? = some s[i] := List.getElem?_eq_getElem h
theorem sound_r : ∀ (k : Nat) (x : It), x.sz < k → x.good → x.dep ≤ 1024 → rlp_sound.r k x = some (x.dep, true)
  | 0, x, h, _, _ => by omega
  | k + 1, x, h, hg, hd => by
    have hg' := (It.good_eq x).1 hg
    have hs := It.sz_eq x
    rw [rlp_sound.r, odd_good hg, Option.bind_some, if_neg (by simp)]
    rw [It.dep_eq] at hd ⊢
    by_cases hl : x.list = true
    · rw [if_pos hl] at hd
      rw [if_pos hl, if_pos hl, sound_loop x _ (fun y hy => sound_r k y (by have := Its.sz_mem hy; omega) (Its.good_mem hg'.2.2 y hy) (by have := Its.dep_mem hy; omega)) x.items.length 0 _ 0 (by omega) (by omega), Option.bind_some]
      try dsimp only
      rw [List.drop_zero, Nat.zero_max, if_pos (by omega)]
    · rw [if_neg hl, if_neg hl]
theorem sound_eq {x : It} (hg : x.good) (hd : x.dep ≤ 1024) : rlp_sound x = some (x.dep, true) := sound_r _ x (by omega) hg hd
theorem size_loop (x : It) (rc : It → Option Nat) (hw : (Its.enc x.items).length ≤ 16777216) (hrc : ∀ y ∈ x.items, rc y = some y.enc.length) : ∀ (d i k m : Nat), i + d = x.items.length → d < k → m + (Its.enc (x.items.drop i)).length = (Its.enc x.items).length → rlp_size.l1 x rc k m i = some (Its.enc x.items).length
  | 0, i, k, m, h, hk, hm => by
    obtain ⟨k, rfl⟩ : ∃ m, k = m + 1 := ⟨k - 1, by omega⟩
    rw [List.drop_of_length_le (by omega), Its.enc, List.length_nil] at hm
    rw [rlp_size.l1, if_neg (by omega)]
    congr 1
  | d + 1, i, k, m, h, hk, hm => by
    obtain ⟨k, rfl⟩ : ∃ m, k = m + 1 := ⟨k - 1, by omega⟩
    have h1 : i < x.items.length := by omega
    rw [Its.enc_drop h1, List.length_append] at hm
    rw [rlp_size.l1, if_pos h1, List.getElem?_eq_getElem h1, Option.bind_some, hrc _ (List.getElem_mem h1), Option.bind_some, if_pos (by omega)]
    exact size_loop x rc hw hrc d (i + 1) k _ (by omega) (by omega) (by omega)
theorem oneB_get {d : List (BitVec 8)} (h : d.length = 1) : ∃ x, d[0]? = some x ∧ oneB d = decide (x.toNat < 128) := by
  refine ⟨d[0], List.getElem?_eq_getElem (by omega), ?_⟩
  unfold oneB small
  rw [List.getElem?_eq_getElem (by omega)]
  simp [h]
theorem oneB_no {d : List (BitVec 8)} (h : d.length ≠ 1) : oneB d = false := by unfold oneB; simp [h]
theorem size_r : ∀ (k : Nat) (x : It), x.sz < k → x.w9 ≤ 16777216 → rlp_size.r k x = some x.enc.length
  | 0, x, h, _ => by omega
  | k + 1, x, h, hw => by
    have hs := It.sz_eq x
    have hw' := It.w9_eq x
    have hle := Its.enc_le x.items (by omega)
    rw [rlp_size.r, It.enc_eq]
    by_cases hl : x.list = true
    · have hh := headB_length (c := 192) (n := (Its.enc x.items).length) (by omega)
      rw [if_pos hl, if_pos hl, size_loop x _ (by omega) (fun y hy => size_r k y (by have := Its.sz_mem hy; omega) (by have := Its.w9_mem hy; omega)) x.items.length 0 _ 0 (by omega) (by omega) (by rw [List.drop_zero]; omega), Option.bind_some, show (192#8 : BitVec 8) = BitVec.ofNat 8 192 by rfl, head_spec 192 _ (by omega), Option.bind_some, if_pos (by omega), List.length_append]
    · rw [if_neg hl, if_neg hl]
      by_cases h1 : x.data.length = 1
      · obtain ⟨c, e1, e2⟩ := oneB_get h1
        rw [if_pos h1, e1, Option.bind_some, Option.bind_some, ← e2]
        by_cases ho : oneB x.data = true
        · rw [if_pos ho, if_pos ho, h1]
        · rw [if_neg ho, if_neg ho, show (128#8 : BitVec 8) = BitVec.ofNat 8 128 by rfl, head_spec 128 _ (by omega), Option.bind_some, List.length_append]
      · rw [if_neg h1, Option.bind_some, if_neg (by simp), oneB_no h1, if_neg (by simp), show (128#8 : BitVec 8) = BitVec.ofNat 8 128 by rfl, head_spec 128 _ (by omega), Option.bind_some, List.length_append]
theorem size_eq {x : It} (hw : x.w9 ≤ 16777216) : rlp_size x = some x.enc.length := size_r _ x (by omega) hw
theorem lay_loop (x : It) (rc : List (BitVec 8) → It → Option (List (BitVec 8))) (hrc : ∀ a, a.length ≤ 16777216 → ∀ y ∈ x.items, rc a y = some (a ++ y.enc)) (hw : (Its.enc x.items).length ≤ 16777216) : ∀ (d i k : Nat) (l : List (BitVec 8)), i + d = x.items.length → d < k → l ++ Its.enc (x.items.drop i) = Its.enc x.items → rlp_lay.l1 x rc k l i = some (Its.enc x.items)
  | 0, i, k, l, h, hk, hl => by
    obtain ⟨k, rfl⟩ : ∃ m, k = m + 1 := ⟨k - 1, by omega⟩
    rw [List.drop_of_length_le (by omega), Its.enc, List.append_nil] at hl
    rw [rlp_lay.l1, if_neg (by omega), hl]
  | d + 1, i, k, l, h, hk, hl => by
    obtain ⟨k, rfl⟩ : ∃ m, k = m + 1 := ⟨k - 1, by omega⟩
    have h1 : i < x.items.length := by omega
    have h2 := congrArg List.length hl
    rw [List.length_append] at h2
    rw [Its.enc_drop h1] at hl
    rw [rlp_lay.l1, if_pos h1, List.getElem?_eq_getElem h1, Option.bind_some, hrc l (by omega) _ (List.getElem_mem h1), Option.bind_some]
    exact lay_loop x rc hrc hw d (i + 1) k _ (by omega) (by omega) (by rw [List.append_assoc]; exact hl)
theorem lay_r : ∀ (k : Nat) (a : List (BitVec 8)) (x : It), x.sz < k → x.w9 ≤ 16777216 → a.length ≤ 16777216 → rlp_lay.r k a x = some (a ++ x.enc)
  | 0, a, x, h, _, _ => by omega
  | k + 1, a, x, h, hw, ha => by
    have hs := It.sz_eq x
    have hw' := It.w9_eq x
    have hle := Its.enc_le x.items (by omega)
    rw [rlp_lay.r, It.enc_eq]
    have hh2 := headB_length (c := 128) (n := x.data.length) (by omega)
    by_cases hl : x.list = true
    · have hh := headB_length (c := 192) (n := (Its.enc x.items).length) (by omega)
      rw [if_pos hl, if_pos hl, lay_loop x _ (fun a ha y hy => lay_r k a y (by have := Its.sz_mem hy; omega) (by have := Its.w9_mem hy; omega) ha) (by omega) x.items.length 0 _ [] (by omega) (by omega) (by rw [List.drop_zero]; rfl), Option.bind_some, show (192#8 : BitVec 8) = BitVec.ofNat 8 192 by rfl, head_spec 192 _ (by omega), Option.bind_some, if_pos (by omega), if_pos (by rw [List.length_append]; omega), List.append_assoc]
    · rw [if_neg hl, if_neg hl]
      by_cases h1 : x.data.length = 1
      · obtain ⟨c, e1, e2⟩ := oneB_get h1
        rw [if_pos h1, e1, Option.bind_some, Option.bind_some]
        by_cases ho : oneB x.data = true
        · have hc : ¬ 128 ≤ c.toNat := by rw [ho] at e2; have := of_decide_eq_true e2.symm; omega
          rw [if_neg (by simpa using hc), Option.bind_some, if_pos (by omega), if_pos ho]
        · have hc : 128 ≤ c.toNat := by
            by_cases hc : c.toNat < 128
            · exact absurd (by rw [e2]; simpa using hc) ho
            · omega
          rw [if_pos (by simpa using hc), if_neg ho, show (128#8 : BitVec 8) = BitVec.ofNat 8 128 by rfl, head_spec 128 _ (by omega), Option.bind_some, if_pos (by omega), Option.bind_some, if_pos (by rw [List.length_append]; omega), List.append_assoc]
      · rw [if_neg h1, Option.bind_some, if_pos rfl, oneB_no h1, if_neg (by simp), show (128#8 : BitVec 8) = BitVec.ofNat 8 128 by rfl, head_spec 128 _ (by omega), Option.bind_some, if_pos (by omega), Option.bind_some, if_pos (by rw [List.length_append]; omega), List.append_assoc]
theorem lay_eq {x : It} (hw : x.w9 ≤ 16777216) : rlp_lay [] x = some x.enc := by
  have := lay_r (x.sz + 1) [] x (by omega) hw (by simp)
  simpa [rlp_lay] using this
theorem encode_eq {x : It} (hg : x.good) (hd : x.dep ≤ 1024) (hw : x.w9 ≤ 16777216) : rlp_Encode x = some (x.enc, 0) := by
  have h1 := It.enc_le x hw
  unfold rlp_Encode rlp_Check
  rw [sound_eq hg hd, Option.bind_some]
  try dsimp only
  rw [if_pos rfl, if_neg (by omega), size_eq hw, Option.bind_some, if_neg (by omega), Option.bind_some, if_pos rfl, lay_eq hw, Option.bind_some]
end Go.Fw
