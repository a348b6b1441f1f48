/- Part of a proof: rules that its law uses. -/
import Derived.Test.YtdmnfcjekomaiaaDoorT2
set_option linter.unusedVariables false
set_option linter.unusedSimpArgs false
set_option linter.unusedSectionVars false
set_option maxRecDepth 100000
set_option maxHeartbeats 1000000
namespace Go.Fw
theorem Its.len_wt : ∀ l : List It, l.length ≤ Its.wt l
 | [] => by simp
 | x :: l => by
  have := Its.len_wt l
  have := It.wt_eq x
  simp only [Its.wt, List.length_cons]; omega
theorem Its.wt_items {l : List It} {x : It} (h : x ∈ l) : Its.wt x.items ≤ Its.wt l := by
 have := Its.wt_mem h
 have := It.wt_eq x
 omega
theorem Its.sz_items {l : List It} {x : It} (h : x ∈ l) : Its.sz x.items < Its.sz l := by
 have := Its.sz_mem h
 have := It.sz_eq x
 omega
theorem copy_loop (a : List It) (rc : List It → Option (List It)) (ha : a.length ≤ 2147483647) (hrc : ∀ x ∈ a, rc x.items = some x.items) : ∀ (d i k : Nat) (l : List It), i + d = a.length → d < k → l = a.take i → waybillref07_Copy.l1 a rc k l i = some a
 | 0, i, k, l, h, hk, hl => by
  obtain ⟨k, rfl⟩ : ∃ m, k = m + 1 := ⟨k - 1, by omega⟩
  rw [waybillref07_Copy.l1, if_neg (by omega), hl, List.take_of_length_le (by omega)]
 | d + 1, i, k, l, h, hk, hl => by
  obtain ⟨k, rfl⟩ : ∃ m, k = m + 1 := ⟨k - 1, by omega⟩
  have h1 : i < a.length := by omega
  have h5 : l.length = i := by rw [hl, List.length_take]; omega
  rw [waybillref07_Copy.l1, if_pos h1, List.getElem?_eq_getElem h1, Zb, waybillref07_bytes, Zb, hrc _ (List.getElem_mem h1), Zb, if_pos (by simp only [List.length_cons, List.length_nil]; omega), ← It.eta]
  exact copy_loop a rc ha hrc d (i + 1) k _ (by omega) (by omega) (by rw [List.take_add_one, List.getElem?_eq_getElem h1, hl]; rfl)
theorem copy_r : ∀ (k : Nat) (a : List It), Its.sz a < k → Its.wt a ≤ 2147483647 → waybillref07_Copy.r k a = some a
 | 0, a, h, _ => by omega
 | k + 1, a, h, hw => by
  rw [waybillref07_Copy.r, copy_loop a _ (by have := Its.len_wt a; omega) (fun x hx => copy_r k x.items (by have := Its.sz_items hx; omega) (by have := Its.wt_items hx; omega)) a.length 0 _ _ (by omega) (by omega) (by simp), Zb]
theorem copy_eq {a : List It} (h : Its.wt a ≤ 2147483647) : waybillref07_Copy a = some a := copy_r _ a (by omega) h
theorem twin_loop (a : List It) (rc : List It → Option (List It)) (ha : a.length ≤ 2147483647) (hrc : ∀ x ∈ a, rc x.items = some x.items) : ∀ (d i k : Nat) (l : List It), i + d = a.length → d < k → l = a.take i → rlp_twin.l1 a rc k l i = some a
 | 0, i, k, l, h, hk, hl => by
  obtain ⟨k, rfl⟩ : ∃ m, k = m + 1 := ⟨k - 1, by omega⟩
  rw [rlp_twin.l1, if_neg (by omega), hl, List.take_of_length_le (by omega)]
 | d + 1, i, k, l, h, hk, hl => by
  obtain ⟨k, rfl⟩ : ∃ m, k = m + 1 := ⟨k - 1, by omega⟩
  have h1 : i < a.length := by omega
  have h5 : l.length = i := by rw [hl, List.length_take]; omega
  rw [rlp_twin.l1, if_pos h1, List.getElem?_eq_getElem h1, Zb, rlp_clone, Zb, hrc _ (List.getElem_mem h1), Zb, if_pos (by simp only [List.length_cons, List.length_nil]; omega), ← It.eta]
  exact twin_loop a rc ha hrc d (i + 1) k _ (by omega) (by omega) (by rw [List.take_add_one, List.getElem?_eq_getElem h1, hl]; rfl)
theorem twin_r : ∀ (k : Nat) (a : List It), Its.sz a < k → Its.wt a ≤ 2147483647 → rlp_twin.r k a = some a
 | 0, a, h, _ => by omega
 | k + 1, a, h, hw => by
  rw [rlp_twin.r, twin_loop a _ (by have := Its.len_wt a; omega) (fun x hx => twin_r k x.items (by have := Its.sz_items hx; omega) (by have := Its.wt_items hx; omega)) a.length 0 _ _ (by omega) (by omega) (by simp), Zb]
theorem twin_eq {a : List It} (h : Its.wt a ≤ 2147483647) : rlp_twin a = some a := twin_r _ a (by omega) h
theorem Same_data (x : It) : ∀ (d i k : Nat), i + d = x.data.length → d < k → waybillref07_Same.l2 x x k i = some (Lp.go ())
 | 0, i, k, h, hk => by
  obtain ⟨k, rfl⟩ : ∃ m, k = m + 1 := ⟨k - 1, by omega⟩
  rw [waybillref07_Same.l2, if_neg (by omega)]
 | d + 1, i, k, h, hk => by
  obtain ⟨k, rfl⟩ : ∃ m, k = m + 1 := ⟨k - 1, by omega⟩
  have h1 : i < x.data.length := by omega
  rw [waybillref07_Same.l2, if_pos h1, List.getElem?_eq_getElem h1, Zb, Zb, if_pos rfl]
  exact Same_data x d (i + 1) k (by omega) (by omega)
theorem Same_items (x : It) (rc : It → It → Option Bool) (hrc : ∀ y ∈ x.items, rc y y = some true) : ∀ (d i k : Nat), i + d = x.items.length → d < k → waybillref07_Same.l1 x x rc k i = some (Lp.go ())
 | 0, i, k, h, hk => by
  obtain ⟨k, rfl⟩ : ∃ m, k = m + 1 := ⟨k - 1, by omega⟩
  rw [waybillref07_Same.l1, if_neg (by omega)]
 | d + 1, i, k, h, hk => by
  obtain ⟨k, rfl⟩ : ∃ m, k = m + 1 := ⟨k - 1, by omega⟩
  have h1 : i < x.items.length := by omega
  rw [waybillref07_Same.l1, if_pos h1, List.getElem?_eq_getElem h1, Zb, Zb, hrc _ (List.getElem_mem h1), Zb, if_pos rfl]
  exact Same_items x rc hrc d (i + 1) k (by omega) (by omega)
theorem Same_r : ∀ (k : Nat) (x : It), x.sz < k → waybillref07_Same.r k x x = some true
 | 0, x, h => by omega
 | k + 1, x, h => by
  rw [waybillref07_Same.r, if_pos rfl, if_pos rfl, Zb, if_neg (by simp), Same_data x x.data.length 0 _ (by omega) (by omega), Zb]
  try dsimp only
  rw [Same_items x _ (fun y hy => Same_r k y (by have := Its.sz_mem hy; have := It.sz_eq x; omega)) x.items.length 0 _ (by omega) (by omega), Zb]
theorem Same_refl (x : It) : waybillref07_Same x x = some true := Same_r _ x (by omega)
theorem text_eq (x : List (BitVec 8)) : rlp_Text x = some (.mk false x []) := by unfold rlp_Text; rw [rlp_clone, Zb]
end Go.Fw
namespace Go.Fw
theorem beV_cons (x : BitVec 8) (r : List (BitVec 8)) : beV (x :: r) = x.toNat * 256 ^ r.length + beV r := by
 have h := beV_append [x] r
 rw [List.singleton_append] at h
 rw [h]; simp [beV]
theorem be_high (a b j : Nat) : ∀ k, k ≤ j → be k (a * 256 ^ j + b) = be k b
 | 0, _ => rfl
 | k + 1, h => by
  rw [be, be, be_high a b j k (by omega)]
  congr 1
  have e : a * 256 ^ j = 256 ^ k * (256 * (a * 256 ^ (j - k - 1))) := by
   have e2 : 256 ^ j = 256 ^ k * (256 * 256 ^ (j - k - 1)) := by rw [← Nat.pow_succ', ← Nat.pow_add]; congr 1; omega
   rw [e2]
   simp only [Nat.mul_comm, Nat.mul_left_comm, Nat.mul_assoc]
  rw [e, Nat.mul_add_div (Nat.pow_pos (by omega))]
  apply BitVec.eq_of_toNat_eq
  rw [BitVec.toNat_ofNat, BitVec.toNat_ofNat]
  omega
theorem be_beV : ∀ l : List (BitVec 8), be l.length (beV l) = l
 | [] => rfl
 | x :: r => by
  rw [List.length_cons, be, beV_cons, be_high _ _ _ _ (Nat.le_refl _), be_beV r]
  congr 1
  have h := beV_lt r
  have hx := x.isLt
  rw [Nat.mul_comm, Nat.mul_add_div (Nat.pow_pos (by omega)), Nat.div_eq_of_lt h]
  apply BitVec.eq_of_toNat_eq
  rw [BitVec.toNat_ofNat]
  omega
theorem nb_beV {x : BitVec 8} {r : List (BitVec 8)} (hx : x ≠ 0#8) : nb (beV (x :: r)) = r.length + 1 := by
 have h1 := beV_lt (x :: r)
 have h0 : 0 < x.toNat := Nat.pos_of_ne_zero (fun e => hx (BitVec.eq_of_toNat_eq (by simpa using e)))
 have h2 : 256 ^ r.length ≤ beV (x :: r) := by rw [beV_cons]; have := Nat.mul_le_mul_right (256 ^ r.length) h0; omega
 have hp : 0 < 256 ^ r.length := Nat.pow_pos (by omega)
 obtain ⟨j, e1, e2, e3⟩ := bl_spec (n := beV (x :: r)) (by omega)
 rw [List.length_cons] at h1
 rw [pow256] at h1 h2
 have h3 : 8 * r.length < j + 1 := (Nat.pow_lt_pow_iff_right (by omega : 1 < 2)).1 (by omega)
 have h4 : j < 8 * (r.length + 1) := (Nat.pow_lt_pow_iff_right (by omega : 1 < 2)).1 (by omega)
 unfold nb; omega
theorem bytesN_beV {l : List (BitVec 8)} (h : l[0]? ≠ some 0#8) : bytesN (beV l) = l := by
 cases l with
 | nil => rfl
 | cons x r =>
  have hx : x ≠ 0#8 := fun e => h (by simp [e])
  unfold bytesN
  rw [nb_beV hx, ← List.length_cons (a := x), be_beV]
theorem cut_back {s : List (BitVec 8)} {l : Bool} {h n : Nat} (hs : s.length ≤ 16777216) (e : cutS s = (0, l, h, n)) : (h = 0 ∧ n = 1 ∧ l = false ∧ small s 0 = true) ∨ (s.take h = headB (if l then 192 else 128) n ∧ (l = false → n = 1 → small s h = false)) := by
 have fin : ∀ l' h' n', finS s l' h' n' = (0, l, h, n) → l = l' ∧ h = h' ∧ n = n' ∧ h' + n' ≤ s.length + 0 * h' ∨ s.length < h' := by
  intro l' h' n' e
  unfold finS at e
  split at e
  ·cases e
  split at e
  ·cases e
  ·cases e
   by_cases hh : s.length < h
   ·exact .inr hh
   ·exact .inl ⟨rfl, rfl, rfl, by omega⟩
 have fin2 : ∀ l' h' n', finS s l' h' n' = (0, l, h, n) → l' = false → n' = 1 → small s h' = false := by
  intro l' h' n' e a b
  unfold finS at e
  split at e
  ·cases e
  split at e
  ·cases e
  ·rename_i hn
   have : ¬ small s h' = true := fun hc => hn ⟨a, b, hc⟩
   simpa using this
 unfold cutS at e
 split at e
 ·cases e
 ·rename_i c hc
  have hlt := (List.getElem?_eq_some_iff.1 hc).1
  have hcl := c.isLt
  split at e
  ·rename_i h1
   cases e
   exact .inl ⟨rfl, rfl, rfl, by unfold small; rw [hc]; simpa using h1⟩
  rename_i h1
  right
  have hd : ∀ b : Bool, b = decide (192 ≤ c.toNat) → (if b then 192 else 128) = c.toNat - c.toNat % 64 := by
   rintro b rfl
   by_cases h2 : 192 ≤ c.toNat
   ·simp [h2]; omega
   ·simp [h2]; omega
  split at e
  ·rename_i h2
   split at e
   ·cases e
   split at e
   ·cases e
   split at e
   ·cases e
   ·rename_i h3 h4 h5
    rcases fin _ _ _ e with ⟨rfl, rfl, rfl, _⟩ | hh
    ·refine ⟨?_, fin2 _ _ _ e⟩
     generalize hk : c.toNat % 64 - 55 = k at h3 h4 h5 e ⊢
     have h6 : ¬ s[1]? = some 0#8 := fun e => h4 (.inl e)
     have h7 : ¬ beV ((s.drop 1).take k) ≤ 55 := fun e => h4 (.inr e)
     have hl : ((s.drop 1).take k).length = k := by rw [List.length_take, List.length_drop]; omega
     have h8 : ((s.drop 1).take k)[0]? ≠ some 0#8 := by
      rw [List.getElem?_take, if_pos (by omega), List.getElem?_drop]; exact h6
     have h9 := bytesN_beV h8
     have h10 : nb (beV ((s.drop 1).take k)) = k := by rw [← bytesN_length, h9, hl]
     unfold headB
     rw [if_neg h7, h9, h10, hd _ rfl, show c.toNat - c.toNat % 64 + 55 + k = c.toNat by omega, BitVec.ofNat_toNat, BitVec.setWidth_eq]
     obtain ⟨t, rfl⟩ : ∃ t, s = c :: t := by
      cases s with
      | nil => simp at hlt
      | cons a t => simp at hc; exact ⟨t, by rw [hc]⟩
     rw [Nat.add_comm 1, List.take_succ_cons, List.drop_succ_cons, List.drop_zero]
    ·omega
  ·rename_i h2
   rcases fin _ _ _ e with ⟨rfl, rfl, rfl, _⟩ | hh
   ·refine ⟨?_, fin2 _ _ _ e⟩
    unfold headB
    rw [if_pos (by omega), hd _ rfl, show c.toNat - c.toNat % 64 + c.toNat % 64 = c.toNat by omega, BitVec.ofNat_toNat, BitVec.setWidth_eq]
    obtain ⟨t, rfl⟩ : ∃ t, s = c :: t := by
     cases s with
     | nil => simp at hlt
     | cons a t => simp at hc; exact ⟨t, by rw [hc]⟩
    rfl
   ·omega
end Go.Fw
namespace Go.Fw
def oneB (d : List (BitVec 8)) : Bool := decide (d.length = 1) && small d 0
mutual
def It.enc : It → List (BitVec 8)
 | .mk l d its => if l = true then headB 192 (Its.enc its).length ++ Its.enc its else if oneB d = true then d else headB 128 d.length ++ d
def Its.enc : List It → List (BitVec 8)
 | [] => []
 | x :: xs => It.enc x ++ Its.enc xs
end
mutual
def It.good : It → Prop
 | .mk l d its => (l = true → d = []) ∧ (l = false → its = []) ∧ Its.good its
def Its.good : List It → Prop
 | [] => True
 | x :: xs => It.good x ∧ Its.good xs
end
mutual
def It.w9 : It → Nat
 | .mk _ d its => 9 + d.length + Its.w9 its
def Its.w9 : List It → Nat
 | [] => 0
 | x :: xs => It.w9 x + Its.w9 xs
end
mutual
def It.dep : It → Nat
 | .mk l _ its => if l = true then Its.dep its + 1 else 0
def Its.dep : List It → Nat
 | [] => 0
 | x :: xs => max (It.dep x) (Its.dep xs)
end
theorem It.good_eq (x : It) : x.good ↔ (x.list = true → x.data = []) ∧ (x.list = false → x.items = []) ∧ Its.good x.items := by cases x; rw [It.good]; rfl
theorem It.dep_eq (x : It) : x.dep = if x.list = true then Its.dep x.items + 1 else 0 := by cases x; rw [It.dep]; rfl
mutual
theorem It.wt_w9 : ∀ x : It, x.wt + 1 ≤ x.w9
 | .mk l d its => by
  have := Its.wt_w9 its
  simp only [It.wt, It.w9]; omega
theorem Its.wt_w9 : ∀ l : List It, Its.wt l + l.length ≤ Its.w9 l
 | [] => by simp [Its.wt, Its.w9]
 | x :: l => by
  have := It.wt_w9 x
  have := Its.wt_w9 l
  simp only [Its.wt, Its.w9, List.length_cons]; omega
end
theorem oneB_len {d : List (BitVec 8)} (h : oneB d = true) : d.length = 1 ∧ small d 0 = true := by
 unfold oneB at h
 simpa using h
end Go.Fw
namespace Go.Fw
theorem kind_eq (x : It) (b : Bool) : ∃ e, rlp_kind x b = some e ∧ waybillref07_wanted x b = some e := by
 unfold rlp_kind waybillref07_wanted
 have h : ∃ o, rlp_odd x = some o ∧ waybillref07_odd x = some o := by
  unfold rlp_odd waybillref07_odd
  by_cases hl : x.list = true
  ·by_cases hd : 0 < x.data.length
   ·exact ⟨true, by simp [hl, hd], by simp [hl, hd]⟩
   ·exact ⟨false, by simp [hl, hd], by simp [hl, hd]⟩
  ·exact ⟨decide (0 < x.items.length), by simp [hl], by simp [hl]⟩
 obtain ⟨o, h1, h2⟩ := h
 rw [h1, h2, Zb]
 cases o with
 | true => exact ⟨78, rfl, rfl⟩
 | false =>
  by_cases hb : x.list = b
  ·exact ⟨0, by simp [hb], by simp [hb]⟩
  ·exact ⟨75, by simp [hb], by simp [hb]⟩
theorem gettext_all (x : It) : ∃ b e, rlp_GetText x = some (b, e) ∧ waybillref07_GetText x = some (b, e) := by
 unfold rlp_GetText waybillref07_GetText
 obtain ⟨e, h1, h2⟩ := kind_eq x false
 rw [h1, h2, Zb]
 by_cases he : e = 0
 ·rw [if_pos he, rlp_clone]
  exact ⟨_, _, rfl, by subst he; rfl⟩
 ·rw [if_neg he]
  refine ⟨_, _, rfl, ?_⟩
  rw [Zb, if_neg he]
theorem strict_eq (l : List (BitVec 8)) (hl : l.length ≤ 32) : u256_Strict l = some (if l[0]? = some 0#8 then (Vector.replicate 4 0#64, 13) else (lim (beV l), 0)) := by
 unfold u256_Strict
 rw [get_eq l hl, Zb]
 dsimp only
 rw [if_pos rfl]
 by_cases h0 : 0 < l.length
 ·rw [if_pos h0, List.getElem?_eq_getElem h0, Zb, Zb]
  by_cases h1 : l[0] = 0#8
  ·rw [if_pos (decide_eq_true h1), if_pos (by rw [h1])]
  ·rw [if_neg (by simpa using h1), if_neg (fun e => h1 (by simpa using e))]
 ·rw [if_neg h0, Zb, if_neg (by simp), if_neg (by rw [List.getElem?_eq_none (by omega)]; simp)]
theorem number_all (x : It) (n : Int) (hn : n ≤ 32) : ∃ v e, rlp_number x n = some (v, e) ∧ waybillref07_narrow x n = some (v, e) := by
 unfold rlp_number waybillref07_narrow
 obtain ⟨e, h1, h2⟩ := kind_eq x false
 rw [h1, h2, Zb, Zb]
 by_cases he : e = 0
 ·rw [if_pos he, if_pos he]
  by_cases h3 : n < ((x.data.length : Nat) : Int)
  ·rw [if_pos h3, if_pos h3]; exact ⟨_, _, rfl, rfl⟩
  ·rw [if_neg h3, if_neg h3, strict_eq _ (by omega), rget_eq _ (by omega), Zb]
   by_cases h0 : 0 < x.data.length
   ·rw [if_pos h0, List.getElem?_eq_getElem h0, Zb, Zb]
    by_cases h4 : x.data[0] = 0#8
    ·rw [if_pos (by rw [h4]), if_pos (decide_eq_true h4)]
     exact ⟨_, _, if_neg (by decide), rfl⟩
    ·rw [if_neg (fun e => h4 (by simpa using e)), if_neg (by simpa using h4)]
     exact ⟨_, _, if_pos rfl, rfl⟩
   ·rw [if_neg (by rw [List.getElem?_eq_none (by omega)]; simp), if_neg h0, Zb, if_neg (by simp)]
    exact ⟨_, _, if_pos rfl, rfl⟩
 ·rw [if_neg he, if_neg he]
  exact ⟨_, _, rfl, rfl⟩
theorem getfixed_all (x : It) (n : Int) : ∃ b e, rlp_GetFixed x n = some (b, e) ∧ waybillref07_GetFixed x n = some (b, e) := by
 unfold rlp_GetFixed waybillref07_GetFixed
 by_cases h0 : n < 0
 ·rw [if_pos h0, if_pos h0]; exact ⟨_, _, rfl, rfl⟩
 rw [if_neg h0, if_neg h0]
 obtain ⟨e, h1, h2⟩ := kind_eq x false
 rw [h1, h2, Zb, Zb]
 by_cases he : e = 0
 ·rw [if_pos he, if_pos he, rlp_clone, waybillref07_bytes]
  by_cases h3 : ((x.data.length : Nat) : Int) = n
  ·rw [if_pos h3]; exact ⟨_, _, rfl, rfl⟩
  ·rw [if_neg h3]; exact ⟨_, _, rfl, rfl⟩
 ·rw [if_neg he, if_neg he]
  exact ⟨_, _, rfl, rfl⟩
theorem getlist_all (x : It) (hw : x.wt ≤ 2147483647) : ∃ b e, rlp_GetList x = some (b, e) ∧ waybillref07_GetList x = some (b, e) := by
 have h5 := It.wt_eq x
 unfold rlp_GetList waybillref07_GetList
 obtain ⟨e, h1, h2⟩ := kind_eq x true
 rw [h1, h2, Zb, Zb]
 by_cases he : e = 0
 ·rw [if_pos he, if_pos he, twin_eq (by omega), copy_eq (by omega)]
  exact ⟨_, _, rfl, rfl⟩
 ·rw [if_neg he, if_neg he]
  exact ⟨_, _, rfl, rfl⟩
end Go.Fw
namespace Go.Fw
mutual
def parse : Nat → Nat → List (BitVec 8) → Nat × It × List (BitVec 8)
 | 0, _, _ => (1, It.zero, [])
 | k + 1, d, s => match cutS s with
  | (e, l, h, n) => if e = 0 then (if l = true then (if d = 1024 then (74, It.zero, []) else (match plist k (d + 1) ((s.drop h).take n) [] with
      | (e2, its) => if e2 = 0 then (0, It.mk true [] its, s.drop (h + n)) else (e2, It.zero, [])))
   else (0, It.mk false ((s.drop h).take n) [], s.drop (h + n))) else (e, It.zero, [])
def plist : Nat → Nat → List (BitVec 8) → List It → Nat × List It
 | 0, _, _, _ => (1, [])
 | k + 1, d, s, acc => if s.length = 0 then (0, acc) else (match parse k d s with
  | (e, x, r) => if e = 0 then plist k d r (acc ++ [x]) else (e, []))
end
theorem parse_err {k d : Nat} {s : List (BitVec 8)} {e : Nat} {l : Bool} {h n : Nat} (hc : cutS s = (e, l, h, n)) (he : e ≠ 0) : parse (k + 1) d s = (e, It.zero, []) := by rw [parse, hc]; dsimp only; rw [if_neg he]
theorem parse_text {k d : Nat} {s : List (BitVec 8)} {h n : Nat} (hc : cutS s = (0, false, h, n)) : parse (k + 1) d s = (0, It.mk false ((s.drop h).take n) [], s.drop (h + n)) := by rw [parse, hc]; rfl
theorem parse_list {k d : Nat} {s : List (BitVec 8)} {h n : Nat} (hc : cutS s = (0, true, h, n)) : parse (k + 1) d s = if d = 1024 then (74, It.zero, []) else (match plist k (d + 1) ((s.drop h).take n) [] with
        | (e2, its) => if e2 = 0 then (0, It.mk true [] its, s.drop (h + n)) else (e2, It.zero, [])) := by rw [parse, hc]; rfl
theorem plist_nil {k d : Nat} {acc : List It} : plist (k + 1) d [] acc = (0, acc) := by rw [plist]; rfl
theorem plist_cons {k d : Nat} {s : List (BitVec 8)} {acc : List It} (h : ¬ s.length = 0) : plist (k + 1) d s acc = match parse k d s with
    | (e, x, r) => if e = 0 then plist k d r (acc ++ [x]) else (e, []) := by rw [plist, if_neg h]
theorem cutS_list {s : List (BitVec 8)} {h n : Nat} (e : cutS s = (0, true, h, n)) : 0 < h := by
 have fin : ∀ l' h' n', finS s l' h' n' = (0, true, h, n) → 0 < h' → 0 < h := by
  intro l' h' n' e hp
  unfold finS at e
  split at e
  ·simp at e
  split at e
  ·simp at e
  ·simp only [Prod.mk.injEq] at e; omega
 unfold cutS at e
 split at e
 ·simp at e
 split at e
 ·simp at e
 split at e
 ·split at e
  ·simp at e
  split at e
  ·simp at e
  split at e
  ·simp at e
  ·exact fin _ _ _ e (by omega)
 ·exact fin _ _ _ e (by omega)
def DecA (k : Nat) : Prop := ∀ (s : List (BitVec 8)) (st : List (List It × List (BitVec 8))), 2 * s.length + 1 ≤ k → s.length ≤ 16777216 → st.length ≤ 1024 →
 ((parse k st.length s).1 = 0 → (parse k st.length s).2.2.length < s.length ∧ ∃ t, t + 4 * (parse k st.length s).2.2.length + 2 ≤ 4 * s.length ∧ ∀ m it, dec (t + m) 1 s it st = dec m 2 (parse k st.length s).2.2 (parse k st.length s).2.1 st) ∧
 ((parse k st.length s).1 ≠ 0 → ∃ t, t ≤ 4 * s.length + 1 ∧ ∀ m it, dec (t + m) 1 s it st = some (It.zero, (parse k st.length s).1))
def DecB (k : Nat) : Prop := ∀ (s : List (BitVec 8)) (acc : List It) (bh : List (BitVec 8)) (st : List (List It × List (BitVec 8))), 2 * s.length + 2 ≤ k → s.length + acc.length ≤ 16777216 → st.length + 1 ≤ 1024 →
 ((plist k (st.length + 1) s acc).1 = 0 → ∃ t, t ≤ 4 * s.length + 1 ∧ ∀ m it, dec (t + m) 3 s it ((acc, bh) :: st) = dec m 2 bh (It.mk true [] (plist k (st.length + 1) s acc).2) st) ∧
 ((plist k (st.length + 1) s acc).1 ≠ 0 → ∃ t, t ≤ 4 * s.length + 2 ∧ ∀ m it, dec (t + m) 3 s it ((acc, bh) :: st) = some (It.zero, (plist k (st.length + 1) s acc).1))
theorem dec_all : ∀ k, DecA k ∧ DecB k := by
 intro k
 induction k with
 | zero => exact ⟨fun s st h => by omega, fun s acc bh st h => by omega⟩
 | succ k ih =>
  obtain ⟨ihA, ihB⟩ := ih
  refine ⟨?_, ?_⟩
  ·intro s st hk hs hst
   have hcut := cut_eq s (by omega)
   unfold cutR at hcut
   generalize hc : cutS s = r at hcut
   obtain ⟨e, l, h, n⟩ := r
   dsimp only at hcut
   by_cases he : e = 0
   ·subst he
    rw [if_pos rfl] at hcut
    have hin := cutS_in hc
    cases l with
    | false =>
     rw [parse_text hc]
     refine ⟨fun _ => ⟨by simp only [List.length_drop]; omega, 1, by simp only [List.length_drop]; omega, fun m it => ?_⟩, fun h => absurd rfl h⟩
     rw [Nat.add_comm 1 m, dec_1, hcut, Zb]
     dsimp only
     rw [if_pos rfl, if_neg (by decide), text_eq, Zb]
    | true =>
     have hh := cutS_list hc
     have hl : ((s.drop h).take n).length = n := by rw [List.length_take, List.length_drop]; omega
     have hd : ∀ m it, dec (m + 1) 1 s it st = if st.length = 1024 then some (It.zero, 74) else dec m 3 ((s.drop h).take n) It.zero (([], s.drop (h + n)) :: st) := by
      intro m it
      rw [dec_1, hcut, Zb]
      dsimp only
      rw [if_pos rfl, if_pos rfl]
      split
      ·rfl
      ·rw [if_pos (by omega)]
     rw [parse_list hc]
     by_cases h1 : st.length = 1024
     ·rw [if_pos h1]
      refine ⟨fun h => by simp at h, fun _ => ⟨1, by omega, fun m it => ?_⟩⟩
      rw [Nat.add_comm 1 m, hd, if_pos h1]
     ·rw [if_neg h1]
      obtain ⟨b1, b2⟩ := ihB ((s.drop h).take n) [] (s.drop (h + n)) st (by omega) (by simp only [List.length_nil]; omega) (by omega)
      generalize plist k (st.length + 1) ((s.drop h).take n) [] = q at b1 b2 ⊢
      obtain ⟨e2, its⟩ := q
      dsimp only at b1 b2 ⊢
      by_cases h2 : e2 = 0
      ·rw [if_pos h2]
       obtain ⟨t, ht, b1⟩ := b1 h2
       refine ⟨fun _ => ⟨by simp only [List.length_drop]; omega, t + 1, by simp only [List.length_drop]; omega, fun m it => ?_⟩, fun h => absurd rfl h⟩
       rw [show t + 1 + m = (t + m) + 1 by omega, hd, if_neg h1, b1]
      ·rw [if_neg h2]
       obtain ⟨t, ht, b2⟩ := b2 h2
       refine ⟨fun h => absurd h h2, fun _ => ⟨t + 1, by omega, fun m it => ?_⟩⟩
       rw [show t + 1 + m = (t + m) + 1 by omega, hd, if_neg h1, b2]
   ·rw [parse_err hc he]
    refine ⟨fun h => absurd h he, fun _ => ⟨1, by omega, fun m it => ?_⟩⟩
    rw [if_neg he] at hcut
    rw [Nat.add_comm 1 m, dec_1, hcut, Zb]
    dsimp only
    rw [if_neg he]
  ·intro s acc bh st hk hs hst
   by_cases h0 : s.length = 0
   ·obtain rfl : s = [] := List.length_eq_zero_iff.1 h0
    rw [plist_nil]
    refine ⟨fun _ => ⟨1, by omega, fun m it => ?_⟩, fun h => absurd rfl h⟩
    rw [Nat.add_comm 1 m, dec_3, if_neg (by simp)]
   ·rw [plist_cons h0]
    obtain ⟨a1, a2⟩ := ihA s ((acc, bh) :: st) (by omega) (by omega) (by simpa using hst)
    rw [List.length_cons] at a1 a2
    generalize parse k (st.length + 1) s = q at a1 a2 ⊢
    obtain ⟨e, x, r⟩ := q
    dsimp only at a1 a2 ⊢
    by_cases he : e = 0
    ·rw [if_pos he]
     obtain ⟨hr, t, ht, a1⟩ := a1 he
     obtain ⟨b1, b2⟩ := ihB r (acc ++ [x]) bh st (by omega) (by simp only [List.length_append, List.length_singleton]; omega) hst
     have hstep : ∀ m it, dec (t + m + 2) 3 s it ((acc, bh) :: st) = dec m 3 r It.zero ((acc ++ [x], bh) :: st) := by
      intro m it
      rw [show t + m + 2 = (t + (m + 1)) + 1 by omega, dec_3, if_pos (by omega), a1, dec_2c, if_pos (by omega)]
     refine ⟨fun h => ?_, fun h => ?_⟩
     ·obtain ⟨t2, ht2, b1⟩ := b1 h
      exact ⟨t + t2 + 2, by omega, fun m it => by rw [show t + t2 + 2 + m = t + (t2 + m) + 2 by omega, hstep, b1]⟩
     ·obtain ⟨t2, ht2, b2⟩ := b2 h
      exact ⟨t + t2 + 2, by omega, fun m it => by rw [show t + t2 + 2 + m = t + (t2 + m) + 2 by omega, hstep, b2]⟩
    ·rw [if_neg he]
     obtain ⟨t, ht, a2⟩ := a2 he
     refine ⟨fun h => absurd h he, fun _ => ⟨t + 1, by omega, fun m it => ?_⟩⟩
     rw [show t + 1 + m = (t + m) + 1 by omega, dec_3, if_pos (by omega), a2]
def decodeR (b : List (BitVec 8)) : It × Nat := if 16777216 < b.length then (It.zero, 2) else (match parse (2 * b.length + 1) 0 b with
 | (e, x, r) => if e = 0 then (if 0 < r.length then (It.zero, 73) else (x, 0)) else (It.zero, e))
theorem decode_eq (b : List (BitVec 8)) : rlp_Decode b = some (decodeR b) := by
 unfold rlp_Decode decodeR
 by_cases h : 16777216 < b.length
 ·rw [if_pos h, if_pos h]
 ·rw [if_neg h, if_neg h]
  obtain ⟨a1, a2⟩ := (dec_all (2 * b.length + 1)).1 b [] (Nat.le_refl _) (by omega) (by simp)
  rw [List.length_nil] at a1 a2
  generalize parse (2 * b.length + 1) 0 b = q at a1 a2 ⊢
  obtain ⟨e, x, r⟩ := q
  dsimp only at a1 a2 ⊢
  by_cases he : e = 0
  ·rw [if_pos he]
   obtain ⟨hr, t, ht, a1⟩ := a1 he
   rw [show 4 * b.length + 8 = t + ((4 * b.length + 7 - t) + 1) by omega, a1, dec_2n]
   split <;> rfl
  ·rw [if_neg he]
   obtain ⟨t, ht, a2⟩ := a2 he
   rw [show 4 * b.length + 8 = t + (4 * b.length + 8 - t) by omega, a2]
end Go.Fw
namespace Go.Fw
theorem btw_drop (b : List (BitVec 8)) (p q i : Nat) : (btw b p q).drop i = btw b (p + i) q := by unfold btw; rw [List.drop_drop]
theorem btw_part {b : List (BitVec 8)} {p q h n : Nat} (hh : p + h + n ≤ q) : ((btw b p q).drop h).take n = btw b (p + h) (p + h + n) := btw_sub hh
def RefA (b : List (BitVec 8)) (k : Nat) : Prop := ∀ (kf p q d : Nat), 2 * (q - p) + 1 ≤ k → p ≤ q → q ≤ b.length → d ≤ 1024 → 1026 ≤ kf + d →
 ((parse k d (btw b p q)).1 = 0 → ∃ p', p < p' ∧ p' ≤ q ∧ (parse k d (btw b p q)).2.2 = btw b p' q ∧ waybillref07_item.r kf b p q d = some ((parse k d (btw b p q)).2.1, p', 0)) ∧
 ((parse k d (btw b p q)).1 ≠ 0 → waybillref07_item.r kf b p q d = some (It.zero, 0, (parse k d (btw b p q)).1))
def RefB (b : List (BitVec 8)) (k : Nat) : Prop := ∀ (kf kl p d : Nat) (x : Hd) (acc : List It), 2 * (x.to - p) + 2 ≤ k → p ≤ x.to → x.to ≤ b.length → d + 1 ≤ 1024 → 1026 ≤ kf + (d + 1) → x.to - p < kl → acc.length + (x.to - p) ≤ 16777216 →
 ((plist k (d + 1) (btw b p x.to) acc).1 = 0 → waybillref07_item.l1 b d (waybillref07_item.r kf) x kl p true [] acc = some (Lp.go (true, [], (plist k (d + 1) (btw b p x.to) acc).2))) ∧
 ((plist k (d + 1) (btw b p x.to) acc).1 ≠ 0 → waybillref07_item.l1 b d (waybillref07_item.r kf) x kl p true [] acc = some (Lp.ret (some (It.zero, 0, (plist k (d + 1) (btw b p x.to) acc).1))))
theorem ref_all (b : List (BitVec 8)) (hb : b.length ≤ 16777216) : ∀ k, RefA b k ∧ RefB b k := by
 intro k
 induction k with
 | zero => exact ⟨fun kf p q d h => by omega, fun kf kl p d x acc h => by omega⟩
 | succ k ih =>
  obtain ⟨ihA, ihB⟩ := ih
  refine ⟨?_, ?_⟩
  ·intro kf p q d hk hp hq hd hf
   obtain ⟨kf, rfl⟩ : ∃ m, kf = m + 1 := ⟨kf - 1, by omega⟩
   have hhd := head_eq b p q hp hq (by omega)
   have hlen := btw_length (b := b) (p := p) hq
   unfold headR at hhd
   generalize hc : cutS (btw b p q) = r at hhd
   obtain ⟨e, l, h, n⟩ := r
   dsimp only at hhd
   rw [waybillref07_item.r]
   by_cases he : e = 0
   ·subst he
    rw [if_pos rfl] at hhd
    have hin := cutS_in hc
    rw [hhd, Zb]
    dsimp only
    rw [if_pos rfl]
    cases l with
    | false =>
     rw [parse_text hc]
     refine ⟨fun _ => ⟨p + h + n, by omega, by omega, by show List.drop (h + n) (btw b p q) = _; rw [btw_drop]; congr 1; omega, ?_⟩, fun h => absurd rfl h⟩
     simp only [Hd.list, Hd.fr, Hd.to]
     rw [if_neg (by decide), if_pos (by omega), if_pos (by omega), waybillref07_bytes, Zb, btw_part (by omega)]
     rfl
    | true =>
     have hh := cutS_list hc
     simp only [Hd.list, Hd.fr, Hd.to]
     rw [if_pos trivial, parse_list hc]
     by_cases h1 : d = 1024
     ·rw [if_pos h1, if_pos (by omega)]
      exact ⟨fun h => by simp at h, fun _ => rfl⟩
     ·rw [if_neg h1, if_neg (by omega), btw_part (by omega)]
      obtain ⟨b1, b2⟩ := ihB kf (p + h + n - (p + h) + 2) (p + h) d (Hd.mk true (p + h) (p + h + n)) [] (by simp only [Hd.to]; omega) (by simp only [Hd.to]; omega) (by simp only [Hd.to]; omega) (by omega) (by omega) (by simp only [Hd.to]; omega) (by simp only [Hd.to, List.length_nil]; omega)
      simp only [Hd.to] at b1 b2
      generalize plist k (d + 1) (btw b (p + h) (p + h + n)) [] = q2 at b1 b2 ⊢
      obtain ⟨e2, its⟩ := q2
      dsimp only at b1 b2 ⊢
      by_cases h2 : e2 = 0
      ·rw [if_pos h2, b1 h2, Zb]
       exact ⟨fun _ => ⟨p + h + n, by omega, by omega, by show List.drop (h + n) (btw b p q) = _; rw [btw_drop]; congr 1; omega, rfl⟩, fun h => absurd rfl h⟩
      ·rw [if_neg h2, b2 h2, Zb]
       exact ⟨fun h => absurd h h2, fun _ => rfl⟩
   ·rw [parse_err hc he]
    rw [if_neg he] at hhd
    rw [hhd, Zb]
    dsimp only
    rw [if_neg he]
    exact ⟨fun h => absurd h he, fun _ => rfl⟩
  ·intro kf kl p d x acc hk hp hq hd hf hl ha
   obtain ⟨kl, rfl⟩ : ∃ m, kl = m + 1 := ⟨kl - 1, by omega⟩
   have hlen := btw_length (b := b) (p := p) hq
   rw [waybillref07_item.l1]
   by_cases h0 : p < x.to
   ·rw [if_pos h0, plist_cons (by omega)]
    obtain ⟨a1, a2⟩ := ihA kf p x.to (d + 1) (by omega) hp hq hd hf
    generalize parse k (d + 1) (btw b p x.to) = q2 at a1 a2 ⊢
    obtain ⟨e, y, r⟩ := q2
    dsimp only at a1 a2 ⊢
    by_cases he : e = 0
    ·rw [if_pos he]
     obtain ⟨p', h1, h2, rfl, a3⟩ := a1 he
     rw [a3, Zb]
     dsimp only
     rw [if_pos rfl, if_pos (by simp only [List.length_cons, List.length_nil]; omega)]
     exact ihB kf kl p' d x (acc ++ [y]) (by omega) h2 hq hd hf (by omega) (by simp only [List.length_append, List.length_singleton]; omega)
    ·rw [if_neg he, a2 he, Zb]
     dsimp only
     rw [if_neg he]
     exact ⟨fun h => absurd h he, fun _ => rfl⟩
   ·have h0' : btw b p x.to = [] := List.length_eq_zero_iff.1 (by omega)
    rw [if_neg h0, h0', plist_nil]
    exact ⟨fun _ => rfl, fun h => absurd rfl h⟩
theorem rdecode_eq (b : List (BitVec 8)) : waybillref07_Decode b = some (decodeR b) := by
 unfold waybillref07_Decode decodeR
 by_cases h : 16777216 < b.length
 ·rw [if_pos h, if_pos h]
 ·rw [if_neg h, if_neg h]
  obtain ⟨a1, a2⟩ := (ref_all b (by omega) (2 * b.length + 1)).1 1026 0 b.length 0 (by omega) (by omega) (Nat.le_refl _) (by omega) (by omega)
  rw [btw_all] at a1 a2
  have hi : waybillref07_item b 0 b.length 0 = waybillref07_item.r 1026 b 0 b.length 0 := rfl
  rw [hi]
  generalize parse (2 * b.length + 1) 0 b = q at a1 a2 ⊢
  obtain ⟨e, x, r⟩ := q
  dsimp only at a1 a2 ⊢
  by_cases he : e = 0
  ·rw [if_pos he]
   obtain ⟨p', h1, h2, rfl, a3⟩ := a1 he
   rw [a3, Zb]
   dsimp only
   rw [if_pos rfl, btw_length (Nat.le_refl _)]
   by_cases h3 : p' < b.length
   ·rw [if_pos h3, if_pos (by omega)]
   ·rw [if_neg h3, if_neg (by omega)]
  ·rw [if_neg he, a2 he, Zb]
   dsimp only
   rw [if_neg he]
end Go.Fw
namespace Go.Fw
theorem parse_back_all : ∀ k, (∀ (d : Nat) (s r : List (BitVec 8)) (x : It), s.length ≤ 16777216 → d ≤ 1024 → parse k d s = (0, x, r) → x.good ∧ s = x.enc ++ r ∧ x.dep + d ≤ 1024 ∧ x.w9 ≤ 10 * x.enc.length) ∧
    (∀ (d : Nat) (s : List (BitVec 8)) (acc its : List It), s.length ≤ 16777216 → d ≤ 1024 → plist k d s acc = (0, its) → ∃ l, its = acc ++ l ∧ Its.good l ∧ s = Its.enc l ∧ Its.dep l + d ≤ 1024 ∧ Its.w9 l ≤ 10 * (Its.enc l).length) := by
 intro k
 induction k with
 | zero => exact ⟨fun d s r x _ _ h => by rw [parse] at h; simp at h, fun d s acc its _ _ h => by rw [plist] at h; simp at h⟩
 | succ k ih =>
  obtain ⟨ihA, ihB⟩ := ih
  refine ⟨?_, ?_⟩
  ·intro d s r x hs hd h
   generalize hc : cutS s = q
   obtain ⟨e, l, hh, n⟩ := q
   by_cases he : e = 0
   ·subst he
    have hin := cutS_in hc
    have hb := cut_back hs hc
    have hsplit : s = s.take hh ++ ((s.drop hh).take n ++ s.drop (hh + n)) := by
     rw [← List.drop_drop, List.take_append_drop, List.take_append_drop]
    have hlen : ((s.drop hh).take n).length = n := by rw [List.length_take, List.length_drop]; omega
    have hx1 : (s.take hh).length = hh := by rw [List.length_take]; omega
    cases l with
    | false =>
     rw [parse_text hc] at h
     simp only [Prod.mk.injEq, true_and] at h
     obtain ⟨rfl, rfl⟩ := h
     have henc : (It.mk false ((s.drop hh).take n) []).enc = s.take hh ++ (s.drop hh).take n := by
      rw [It.enc, if_neg (by decide)]
      rcases hb with ⟨rfl, rfl, _, h3⟩ | ⟨h3, h4⟩
      ·rw [if_pos (by unfold oneB; rw [decide_eq_true hlen, Bool.true_and]; unfold small at h3 ⊢; rw [List.drop_zero, List.getElem?_take, if_pos (by decide)]; exact h3), List.take_zero, List.nil_append]
      ·rw [if_neg ?_, h3, hlen]; · rfl
       intro ho
       obtain ⟨o1, o2⟩ := oneB_len ho
       have h5 := h4 rfl (by omega)
       unfold small at o2 h5
       rw [List.getElem?_take, if_pos (by omega), List.getElem?_drop, Nat.add_zero] at o2
       rw [h5] at o2
       cases o2
     refine ⟨(It.good_eq _).2 ⟨fun h => by simp [It.list] at h, fun _ => rfl, by simp [It.items, Its.good]⟩, ?_, by rw [It.dep]; simpa using hd, ?_⟩
     ·rw [henc, List.append_assoc]; exact hsplit
     ·rw [henc, It.w9, Its.w9, List.length_append, hx1, hlen]
      omega
    | true =>
     have hh0 := cutS_list hc
     rw [parse_list hc] at h
     by_cases h1 : d = 1024
     ·rw [if_pos h1] at h; simp at h
     ·rw [if_neg h1] at h
      generalize hp : plist k (d + 1) ((s.drop hh).take n) [] = q at h
      obtain ⟨e2, its⟩ := q
      dsimp only at h
      by_cases h2 : e2 = 0
      ·subst h2
       rw [if_pos rfl] at h
       simp only [Prod.mk.injEq, true_and] at h
       obtain ⟨rfl, rfl⟩ := h
       obtain ⟨l, e1, g1, g2, g3, g4⟩ := ihB (d + 1) _ _ _ (by omega) (by omega) hp
       rw [List.nil_append] at e1
       subst e1
       rcases hb with ⟨rfl, _⟩ | ⟨h3, _⟩
       ·omega
       have henc : (It.mk true [] its).enc = s.take hh ++ (s.drop hh).take n := by
        rw [It.enc, if_pos rfl, ← g2, h3, hlen]; rfl
       refine ⟨(It.good_eq _).2 ⟨fun _ => rfl, fun h => by simp [It.list] at h, by simpa [It.items] using g1⟩, ?_, by rw [It.dep, if_pos rfl]; omega, ?_⟩
       ·rw [henc, List.append_assoc]; exact hsplit
       ·rw [← g2, hlen] at g4
        rw [henc, It.w9, List.length_append, hx1, hlen, List.length_nil]
        omega
      ·rw [if_neg h2] at h
       simp only [Prod.mk.injEq] at h
       exact absurd h.1 h2
   ·rw [parse_err hc he] at h
    simp only [Prod.mk.injEq] at h
    exact absurd h.1 he
  ·intro d s acc its hs hd h
   by_cases h0 : s.length = 0
   ·obtain rfl : s = [] := List.length_eq_zero_iff.1 h0
    rw [plist_nil] at h
    simp only [Prod.mk.injEq, true_and] at h
    subst h
    exact ⟨[], by simp, trivial, by rw [Its.enc], by rw [Its.dep]; omega, by rw [Its.w9]; omega⟩
   ·rw [plist_cons h0] at h
    generalize hp : parse k d s = q at h
    obtain ⟨e, x, r⟩ := q
    dsimp only at h
    by_cases he : e = 0
    ·subst he
     rw [if_pos rfl] at h
     obtain ⟨a1, a2, a3, a4⟩ := ihA d s r x hs hd hp
     have hr : r.length ≤ 16777216 := by rw [a2, List.length_append] at hs; omega
     obtain ⟨l, e1, g1, g2, g3, g4⟩ := ihB d r _ _ hr hd h
     refine ⟨x :: l, by rw [e1, List.append_assoc]; rfl, ⟨a1, g1⟩, by rw [Its.enc, ← g2]; exact a2, by rw [Its.dep]; omega, ?_⟩
     rw [Its.w9, Its.enc, List.length_append]
     omega
    ·rw [if_neg he] at h
     simp only [Prod.mk.injEq] at h
     exact absurd h.1 he
theorem decode_back {b : List (BitVec 8)} {x : It} {e : Nat} (h : decodeR b = (x, e)) : (e ≠ 0 ∧ x = It.zero) ∨ (e = 0 ∧ x.good ∧ b = x.enc ∧ b.length ≤ 16777216 ∧ x.dep ≤ 1024 ∧ x.w9 ≤ 10 * b.length) := by
 unfold decodeR at h
 by_cases h0 : 16777216 < b.length
 ·rw [if_pos h0] at h
  simp only [Prod.mk.injEq] at h
  exact .inl ⟨by omega, h.1.symm⟩
 ·rw [if_neg h0] at h
  generalize hp : parse (2 * b.length + 1) 0 b = q at h
  obtain ⟨e1, x1, r⟩ := q
  dsimp only at h
  by_cases he : e1 = 0
  ·subst he
   rw [if_pos rfl] at h
   obtain ⟨a1, a2, a3, a4⟩ := (parse_back_all _).1 0 b r x1 (by omega) (by omega) hp
   by_cases hr : 0 < r.length
   ·rw [if_pos hr] at h
    simp only [Prod.mk.injEq] at h
    exact .inl ⟨by omega, h.1.symm⟩
   ·rw [if_neg hr] at h
    simp only [Prod.mk.injEq] at h
    obtain ⟨rfl, rfl⟩ := h
    obtain rfl : r = [] := List.length_eq_zero_iff.1 (by omega)
    rw [List.append_nil] at a2
    exact .inr ⟨rfl, a1, a2, by omega, a3, by rw [a2]; exact a4⟩
  ·rw [if_neg he] at h
   simp only [Prod.mk.injEq] at h
   exact .inl ⟨by omega, h.1.symm⟩
end Go.Fw
namespace Go.Fw
open Go
def Fd.itm : Fd → It
 | .text l => .mk false l []
 | .big v => .mk false (bytesN (val4 v)) []
 | .word x => .mk false (bytesN (val4 (lim x.toNat))) []
 | .ext l => .mk false l []
def FdFits : Slk → Fd → Prop
 | .text _ n, .text l => l.length = n
 | .big _, .big _ => True
 | .word _, .word _ => True
 | .ext _, .ext l => l.length ≤ 32
 | _, _ => False
theorem val4_word (x : BitVec 64) : val4 (lim x.toNat) = x.toNat := val4_lim _ (by have := x.isLt; omega)
theorem nb_word (x : BitVec 64) : nb x.toNat ≤ 8 := by
 have := bl_le x.isLt
 unfold nb; omega
theorem readS_some (s : Slk) (x : It) : ∃ f e, readS s x = some (f, e) := by
 cases s
 ·rename_i o n
  obtain ⟨b, e, h, _⟩ := getfixed_all x (n : Int)
  exact ⟨_, _, by rw [readS, h]; rfl⟩
 ·rename_i o
  obtain ⟨b, e, h, _⟩ := number_all x 32 (by decide)
  exact ⟨_, _, by rw [readS, rlp_GetNumber, h]; rfl⟩
 ·rename_i o
  obtain ⟨b, e, h, _⟩ := number_all x 8 (by decide)
  exact ⟨_, _, by rw [readS, rlp_GetSmall, h]; rfl⟩
 ·rename_i o
  obtain ⟨b, e, h, _⟩ := gettext_all x
  exact ⟨_, _, by rw [readS, h]; rfl⟩
end Go.Fw
namespace Go.Fw
open Go
theorem Hdr.fds_fit {h : Hdr} (he : h.extra.length ≤ 32) {i : Nat} {s : Slk} {f : Fd} (hs : slotL[i]? = some s) (hf : h.fds[i]? = some f) : FdFits s f := by
 have hi := (List.getElem?_eq_some_iff.1 hs).1
 change i < 21 at hi
 rcases i with _ | _ | _ | _ | _ | _ | _ | _ | _ | _ | _ | _ | _ | _ | _ | _ | _ | _ | _ | _ | _ | i
 all_goals first
  | (obtain rfl := Zi hs; obtain rfl := Zi hf; first | exact Zv | exact trivial | exact he)
  | omega
theorem Hdr.ext {a b : Hdr} (h : a.fds = b.fds) (ht : a.tail = b.tail) : a = b := by
 obtain ⟨a0, a1, a2, a3, a4, a5, a6, a7, a8, a9, a10, a11, a12, a13, a14, a15, a16, a17, a18, a19, a20, a21⟩ := a
 obtain ⟨b0, b1, b2, b3, b4, b5, b6, b7, b8, b9, b10, b11, b12, b13, b14, b15, b16, b17, b18, b19, b20, b21⟩ := b
 simp only [Hdr.fds, List.cons.injEq, Fd.text.injEq, Fd.big.injEq, Fd.word.injEq, Fd.ext.injEq, Vector.toList_inj, and_true] at h
 simp only at ht
 obtain ⟨rfl, rfl, rfl, rfl, rfl, rfl, rfl, rfl, rfl, rfl, rfl, rfl, rfl, rfl, rfl, rfl, rfl, rfl, rfl, rfl, rfl⟩ := h
 subst ht
 rfl
def FitsL : Nat → List Fd → Prop
 | _, [] => True
 | i, f :: r => (∃ s, slotL[i]? = some s ∧ FdFits s f) ∧ FitsL (i + 1) r
theorem FitsL.of {h : Hdr} (he : h.extra.length ≤ 32) : ∀ (d i n : Nat), n = i + d → n ≤ 21 → FitsL i ((h.fds.take n).drop i)
 | 0, i, n, e, hn => by rw [List.drop_eq_nil_of_le (by rw [List.length_take]; omega)]; trivial
 | d + 1, i, n, e, hn => by
  have hl := h.fds_length
  have hi : i < (h.fds.take n).length := by rw [List.length_take]; omega
  rw [List.drop_eq_getElem_cons hi]
  refine ⟨?_, FitsL.of he d (i + 1) n (by omega) hn⟩
  have hs : i < slotL.length := show i < 21 by omega
  exact ⟨slotL[i], List.getElem?_eq_getElem hs, Hdr.fds_fit he (List.getElem?_eq_getElem hs) (by rw [List.getElem_take]; exact List.getElem?_eq_getElem (by omega))⟩
theorem parseL_some : ∀ (xs : List It) (i : Nat) (h : Hdr), ∃ h2 e, parseL i xs h = some (h2, e)
 | [], i, h => ⟨_, _, rfl⟩
 | x :: r, i, h => by
  rw [parseL]
  cases hs : slotL[i]? with
  | none => exact ⟨_, _, rfl⟩
  | some s =>
   obtain ⟨f, e, hr⟩ := readS_some s x
   simp only [hr, Zb]
   by_cases he : e = 0
   ·rw [if_pos he]; exact parseL_some r _ _
   ·rw [if_neg he]; exact ⟨_, _, rfl⟩
def cnt (t : Int) : Nat := if t = 0 then 15 else if t = 1 then 16 else if t = 2 then 17 else if t = 3 then 20 else 21
theorem cnt_le (t : Int) : 15 ≤ cnt t ∧ cnt t ≤ 21 := by
 unfold cnt
 (repeat' split) <;> omega
theorem cnt_tailOf {n : Nat} {t : Int} (h : header_tailOf (n : Int) = some t) (ht : ¬ t < 0) : cnt t = n ∧ 0 ≤ t ∧ t ≤ 4 := by
 rw [tailOf_eq] at h
 obtain rfl := Zi h
 by_cases h1 : (n : Int) = 15
 ·rw [if_pos h1]; exact ⟨by show 15 = n; omega, by omega, by omega⟩
 by_cases h2 : (n : Int) = 16
 ·rw [if_neg h1, if_pos h2]; exact ⟨by show 16 = n; omega, by omega, by omega⟩
 by_cases h3 : (n : Int) = 17
 ·rw [if_neg h1, if_neg h2, if_pos h3]; exact ⟨by show 17 = n; omega, by omega, by omega⟩
 by_cases h4 : (n : Int) = 20
 ·rw [if_neg h1, if_neg h2, if_neg h3, if_pos h4]; exact ⟨by show 20 = n; omega, by omega, by omega⟩
 by_cases h5 : (n : Int) = 21
 ·rw [if_neg h1, if_neg h2, if_neg h3, if_neg h4, if_pos h5]; exact ⟨by show 21 = n; omega, by omega, by omega⟩
 rw [if_neg h1, if_neg h2, if_neg h3, if_neg h4, if_neg h5] at ht
 exact absurd (by decide) ht
def Hdr.its (h : Hdr) : List It := (h.fds.take (cnt h.tail)).map Fd.itm
end Go.Fw
namespace Go.Fw
open Go
def Flat (xs : List It) : Prop := ∀ x ∈ xs, ∃ d, x = .mk false d [] ∧ d.length ≤ 256
theorem Flat.wt : ∀ {xs : List It}, Flat xs → Its.wt xs ≤ 257 * xs.length
 | [], _ => by simp [Its.wt]
 | x :: r, h => by
  obtain ⟨d, rfl, hd⟩ := h x (List.mem_cons_self ..)
  have := Flat.wt (xs := r) fun y hy => h y (List.mem_cons_of_mem _ hy)
  simp only [Its.wt, It.wt, List.length_nil, List.length_cons]; omega
theorem Flat.w9 : ∀ {xs : List It}, Flat xs → Its.w9 xs ≤ 265 * xs.length
 | [], _ => by simp [Its.w9]
 | x :: r, h => by
  obtain ⟨d, rfl, hd⟩ := h x (List.mem_cons_self ..)
  have := Flat.w9 (xs := r) fun y hy => h y (List.mem_cons_of_mem _ hy)
  simp only [Its.w9, It.w9, List.length_cons]; omega
theorem Flat.good : ∀ {xs : List It}, Flat xs → Its.good xs
 | [], _ => by simp [Its.good]
 | x :: r, h => by
  obtain ⟨d, rfl, hd⟩ := h x (List.mem_cons_self ..)
  have := Flat.good (xs := r) fun y hy => h y (List.mem_cons_of_mem _ hy)
  rw [Its.good]
  exact ⟨by rw [It.good]; simp [Its.good], this⟩
theorem Flat.dep : ∀ {xs : List It}, Flat xs → Its.dep xs = 0
 | [], _ => by simp [Its.dep]
 | x :: r, h => by
  obtain ⟨d, rfl, hd⟩ := h x (List.mem_cons_self ..)
  have := Flat.dep (xs := r) fun y hy => h y (List.mem_cons_of_mem _ hy)
  rw [Its.dep, this, It.dep_eq, if_neg (by simp [It.list])]; rfl
theorem slot_n : ∀ {s : Slk} {f : Fd}, s ∈ slotL → FdFits s f → ∃ d, f.itm = .mk false d [] ∧ d.length ≤ 256
 | .text o n, .text l, hs, h => by
  have e : ∀ s ∈ slotL, s.sz ≤ 256 := by decide
  have h2 := e _ hs
  simp only [FdFits] at h
  exact ⟨l, rfl, by simp only [Slk.sz] at h2; omega⟩
 | .big o, .big v, _, _ => ⟨_, rfl, by have := nb_le (val4_lt v); rw [bytesN_length]; omega⟩
 | .word o, .word x, _, _ => ⟨_, rfl, by have := nb_word x; rw [bytesN_length, val4_word]; omega⟩
 | .ext o, .ext l, _, h => ⟨_, rfl, by simp only [FdFits] at h; omega⟩
theorem FitsL.flat : ∀ {l : List Fd} {i : Nat}, FitsL i l → Flat (l.map Fd.itm)
 | [], _, _ => fun x hx => by simp at hx
 | f :: r, i, ⟨⟨s, hs, hf⟩, hr⟩ => fun x hx => by
  rcases List.mem_cons.1 hx with rfl | hx
  ·exact slot_n (List.mem_of_getElem? hs) hf
  ·exact FitsL.flat hr x hx
def Hdr.it (h : Hdr) : It := .mk true [] h.its
theorem equal_loop (a : List (BitVec 8)) : ∀ (d i k : Nat), i + d = a.length → d < k → waybilllaw19_equal.l1 a a k i = some (Lp.go ())
 | 0, i, k + 1, e, _ => by rw [waybilllaw19_equal.l1, if_neg (by omega)]
 | d + 1, i, k + 1, e, hk => by
  rw [waybilllaw19_equal.l1, if_pos (by omega), List.getElem?_eq_getElem (by omega), Zb, Zb, if_pos rfl]
  exact equal_loop a d (i + 1) k (by omega) (by omega)
theorem equal_refl (a : List (BitVec 8)) : waybilllaw19_equal a a = some true := by
 unfold waybilllaw19_equal
 rw [if_pos rfl, equal_loop a a.length 0 _ (by omega) (by omega), Zb]
theorem hsame_loop (a : Hdr) : ∀ (d i k : Nat), i + d = a.extra.length → d < k → waybillref19_Same.l1 a a k i = some (Lp.go ())
 | 0, i, k + 1, e, _ => by rw [waybillref19_Same.l1, if_neg (by omega)]
 | d + 1, i, k + 1, e, hk => by
  rw [waybillref19_Same.l1, if_pos (by omega), List.getElem?_eq_getElem (by omega), Zb, Zb, if_pos rfl]
  exact hsame_loop a d (i + 1) k (by omega) (by omega)
theorem hsame_refl (a : Hdr) : waybillref19_Same a a = some true := by
 unfold waybillref19_Same
 rw [if_pos rfl, hsame_loop a a.extra.length 0 _ (by omega) (by omega), Zb]
 simp
end Go.Fw
namespace Go.Fw
open Go
def refS : Slk → It → Nat → Option (Fd × Nat)
 | .text _ n, x, e => (waybillref07_GetFixed x (n : Int)).bind fun p => some (.text (if p.1.length = n then p.1 else List.replicate n 0#8), if e = 0 then p.2 else e)
 | .big _, x, e => (waybillref07_GetNumber x).bind fun p => some (.big p.1, if e = 0 then p.2 else e)
 | .word _, x, e => (waybillref07_GetSmall x).bind fun p => some (.word p.1, if e = 0 then p.2 else e)
 | .ext _, x, e => (waybillref07_GetText x).bind fun p => some (.ext p.1, if (if e = 0 then p.2 else e) = 0 ∧ 32 < p.1.length then 192 else if e = 0 then p.2 else e)
def refL : Nat → List It → Hdr → Nat → Option (Hdr × Nat)
 | _, [], h, e => some (h, e)
 | i, x :: r, h, e => match slotL[i]? with
  | none => some (h, e)
  | some s => (refS s x e).bind fun p => refL (i + 1) r (h.put i p.1) p.2
def waybillref19_Parse (x : It) : Option (Hdr × Nat) := (waybillref07_GetList x).bind fun p => if p.2 = 0 then (waybillref19_tail ((p.1.length : Nat) : Int)).bind fun t => if t < (0 : Int) then some (Hdr.zero, 190) else (refL 0 p.1 { Hdr.zero with tail := t } 0).bind fun q => if q.2 = 0 then some (q.1, 0) else some (Hdr.zero, q.2) else some (Hdr.zero, p.2)
theorem getnumber_all (x : It) : ∃ v e, rlp_GetNumber x = some (v, e) ∧ waybillref07_GetNumber x = some (v, e) := by
 obtain ⟨v, e, h1, h2⟩ := number_all x 32 (by decide)
 exact ⟨v, e, by rw [rlp_GetNumber, h1]; rfl, by rw [waybillref07_GetNumber, h2]; rfl⟩
theorem getsmall_all (x : It) : ∃ v e, rlp_GetSmall x = some (v, e) ∧ waybillref07_GetSmall x = some (v, e) := by
 obtain ⟨v, e, h1, h2⟩ := number_all x 8 (by decide)
 exact ⟨v[0], e, by rw [rlp_GetSmall, h1]; rfl, by rw [waybillref07_GetSmall, h2]; rfl⟩
theorem refS_some (s : Slk) (x : It) (e : Nat) : ∃ f k, refS s x e = some (f, k) ∧ (e ≠ 0 → k = e) := by
 cases s
 ·rename_i o n
  obtain ⟨b, k, _, h⟩ := getfixed_all x (n : Int)
  exact ⟨_, _, by rw [refS, h]; rfl, fun he => if_neg he⟩
 ·obtain ⟨b, k, _, h⟩ := getnumber_all x
  exact ⟨_, _, by rw [refS, h]; rfl, fun he => if_neg he⟩
 ·obtain ⟨b, k, _, h⟩ := getsmall_all x
  exact ⟨_, _, by rw [refS, h]; rfl, fun he => if_neg he⟩
 ·obtain ⟨b, k, _, h⟩ := gettext_all x
  exact ⟨_, _, by rw [refS, h]; rfl, fun he => by rw [if_neg he, if_neg (fun q => he q.1)]⟩
theorem refS_read (s : Slk) (x : It) : ∃ f f2 k, readS s x = some (f, k) ∧ refS s x 0 = some (f2, k) ∧ (k = 0 → f2 = f) := by
 cases s
 ·rename_i o n
  obtain ⟨b, k, h1, h⟩ := getfixed_all x (n : Int)
  refine ⟨.text b, _, k, by rw [readS, h1]; rfl, by rw [refS, h]; rfl, fun hk => ?_⟩
  dsimp only
  rcases getFixed_len h1 with ⟨_, q⟩ | ⟨q, _⟩
  ·rw [if_pos q]
  ·exact absurd hk q
 ·obtain ⟨b, k, h1, h⟩ := getnumber_all x
  exact ⟨.big b, _, k, by rw [readS, h1]; rfl, by rw [refS, h]; rfl, fun _ => rfl⟩
 ·obtain ⟨b, k, h1, h⟩ := getsmall_all x
  exact ⟨.word b, _, k, by rw [readS, h1]; rfl, by rw [refS, h]; rfl, fun _ => rfl⟩
 ·obtain ⟨b, k, h1, h⟩ := gettext_all x
  exact ⟨.ext b, _, _, by rw [readS, h1]; rfl, by rw [refS, h]; rfl, fun _ => rfl⟩
theorem refL_bad : ∀ (xs : List It) (i : Nat) (h : Hdr) (e : Nat), e ≠ 0 → ∃ h2, refL i xs h e = some (h2, e)
 | [], i, h, e, _ => ⟨_, rfl⟩
 | x :: r, i, h, e, he => by
  rw [refL]
  cases hs : slotL[i]? with
  | none => exact ⟨_, rfl⟩
  | some s =>
   obtain ⟨f, k, h1, h2⟩ := refS_some s x e
   simp only [h1, Zb]
   rw [h2 he]
   exact refL_bad r _ _ e he
theorem refL_eq : ∀ (xs : List It) (i : Nat) (h : Hdr), ∃ h2 h3 e, parseL i xs h = some (h2, e) ∧ refL i xs h 0 = some (h3, e) ∧ (e = 0 → h3 = h2)
 | [], i, h => ⟨_, _, _, rfl, rfl, fun _ => rfl⟩
 | x :: r, i, h => by
  rw [refL, parseL]
  cases hs : slotL[i]? with
  | none => exact ⟨_, _, _, rfl, rfl, fun _ => rfl⟩
  | some s =>
   obtain ⟨f, f2, k, h1, h2, h3⟩ := refS_read s x
   simp only [h1, h2, Zb]
   by_cases hk : k = 0
   ·rw [if_pos hk, h3 hk, hk]
    exact refL_eq r (i + 1) _
   ·rw [if_neg hk]
    obtain ⟨h4, q⟩ := refL_bad r (i + 1) (h.put i f2) k hk
    exact ⟨_, _, _, rfl, q, fun e => absurd e hk⟩
theorem rtail_eq (n : Int) : waybillref19_tail n = header_tailOf n := by
 rw [tailOf_eq]
 unfold waybillref19_tail
 (repeat' split) <;> rfl
theorem rparse_eq (x : It) (hw : x.wt ≤ 2147483647) : waybillref19_Parse x = header_Parse x := by
 obtain ⟨l, e, h1, h2⟩ := getlist_all x hw
 unfold waybillref19_Parse header_Parse
 rw [h1, h2, Zb, Zb]
 dsimp only
 by_cases he : e = 0
 ·rw [if_pos he, if_pos he, rtail_eq]
  obtain ⟨t, ht⟩ : ∃ t, header_tailOf ((l.length : Nat) : Int) = some t := ⟨_, tailOf_eq _⟩
  rw [ht, Zb, Zb]
  by_cases h0 : t < 0
  ·rw [if_pos h0, if_pos h0]
  ·rw [if_neg h0, if_neg h0]
   obtain ⟨h2, h3, k, q1, q2, q3⟩ := refL_eq l 0 { Hdr.zero with tail := t }
   rw [q1, q2, Zb, Zb]
   dsimp only
   by_cases hk : k = 0
   ·rw [if_pos hk, if_pos hk, q3 hk]
   ·rw [if_neg hk, if_neg hk]
 ·rw [if_neg he, if_neg he]
theorem cnt_at {t : Int} (h0 : 0 ≤ t) (h4 : t ≤ 4) : (t < 1 → cnt t = 15) ∧ (1 ≤ t → 16 ≤ cnt t) ∧ (t < 2 → cnt t ≤ 16) ∧ (2 ≤ t → 17 ≤ cnt t) ∧ (t < 3 → cnt t ≤ 17) ∧ (3 ≤ t → 20 ≤ cnt t) ∧ (t < 4 → cnt t ≤ 20) ∧ (4 ≤ t → cnt t = 21) := by
 rcases (by omega : t = 0 ∨ t = 1 ∨ t = 2 ∨ t = 3 ∨ t = 4) with rfl | rfl | rfl | rfl | rfl <;> decide
end Go.Fw
namespace Go.Fw
def waybillref19_Decode (a0 : List (BitVec 8)) : Option ((Hdr) × (Nat)) := ((waybillref07_Decode a0).bind fun (x4, x5) => (if x5 = 0 then ((waybillref19_Parse x4).bind fun (x31, x32) => (some (x31, x32))) else (some ((Hdr.mk (Vector.replicate 32 0#8) (Vector.replicate 32 0#8) (Vector.replicate 20 0#8) (Vector.replicate 32 0#8) (Vector.replicate 32 0#8) (Vector.replicate 32 0#8) (Vector.replicate 256 0#8) (Vector.replicate 4 0#64) (0#64) (0#64) (0#64) (0#64) ([] : List (BitVec 8)) (Vector.replicate 32 0#8) (Vector.replicate 8 0#8) (0 : Int) (Vector.replicate 4 0#64) (Vector.replicate 32 0#8) (0#64) (0#64) (Vector.replicate 32 0#8) (Vector.replicate 32 0#8)), x5))))
end Go.Fw
namespace Go.Fw
open Go
theorem hparse_some {x : It} (hw : x.wt ≤ 2147483647) : ∃ h e, header_Parse x = some (h, e) ∧ waybillref19_Parse x = some (h, e) := by
 rw [rparse_eq x hw]
 obtain ⟨l, e, h1, _⟩ := getlist_all x hw
 unfold header_Parse
 rw [h1, Zb]
 dsimp only
 by_cases he : e = 0
 ·rw [if_pos he]
  obtain ⟨t, ht⟩ : ∃ t, header_tailOf ((l.length : Nat) : Int) = some t := ⟨_, tailOf_eq _⟩
  rw [ht, Zb]
  by_cases h0 : t < 0
  ·rw [if_pos h0]; exact ⟨_, _, rfl, rfl⟩
  ·rw [if_neg h0]
   obtain ⟨h2, k, hp⟩ := parseL_some l 0 { Hdr.zero with tail := t }
   rw [hp, Zb]
   dsimp only
   by_cases hk : k = 0
   ·rw [if_pos hk]; exact ⟨_, _, rfl, rfl⟩
   ·rw [if_neg hk]; exact ⟨_, _, rfl, rfl⟩
 ·rw [if_neg he]; exact ⟨_, _, rfl, rfl⟩
theorem hdecode_both (b : List (BitVec 8)) : ∃ h e, header_Decode b = some (h, e) ∧ waybillref19_Decode b = some (h, e) := by
 unfold header_Decode waybillref19_Decode
 rw [decode_eq, rdecode_eq]
 cases hd : decodeR b with
 | mk x e =>
  rw [Zb, Zb]
  dsimp only
  rcases decode_back hd with ⟨h1, _⟩ | ⟨rfl, hg, hb, hl, hdp, hw⟩
  ·rw [if_neg h1, if_neg h1]; exact ⟨_, _, rfl, rfl⟩
  ·rw [if_pos rfl, if_pos rfl]
   have := It.wt_w9 x
   obtain ⟨h, k, q1, q2⟩ := hparse_some (x := x) (by omega)
   rw [q1, q2]
   exact ⟨_, _, rfl, rfl⟩
end Go.Fw
namespace Go.Fw
open Go
structure Rdr where
 err : Int
def Rdr.C (s : Rdr) : List Value := [.int .i64 s.err]
theorem Rdr.C_length (s : Rdr) : s.C.length = 1 := by simp [Rdr.C]
theorem Rdr.C_one (s : Rdr) : ∀ u ∈ s.C, u.oneCell' = true := by
 intro u hu
 simp only [Rdr.C, List.mem_append, List.mem_singleton] at hu
 rcases hu with rfl
 ·rfl
end Go.Fw
namespace Go.Fw
open Go
theorem Mem.chunk {w0 w : World} {M M' : List Ent} (m : Mem w0 w M) (Cs : List (List Ent)) (is : List Nat) (h : (is ++ (List.range Cs.length).filter fun i => !is.contains i).isPerm (List.range Cs.length) = true) (e1 : M = Cs.flatten) (e2 : (is.map fun i => Cs.getD i []).flatten = M') : Mem w0 w M' := by
 subst e2
 rw [e1] at m
 have e : Cs = (List.range Cs.length).map fun i => Cs.getD i [] := by
  apply List.ext_getElem
  ·simp
  ·intro i h1 h2
   simp [List.getD_eq_getElem?_getD, List.getElem?_eq_getElem h1]
 have hp := (List.isPerm_iff.1 h).map (fun i => Cs.getD i [])
 rw [← e, List.map_append] at hp
 have m2 := m.perm hp.symm.flatten
 rw [List.flatten_append] at m2
 exact m2.appL
inductive Ow where
 | mk (list : Bool) (ob : Option Nat) (data : List (BitVec 8)) (r : List Value) (cap : Nat) (oi : Option Nat) (ci : Nat) (ri : List Value) (its : List Ow)
def Ow.cs : Ow → List Value
 | .mk l ob d r c oi ci ri its => [.bool l, sl ob 0 d.length c, sl oi 0 its.length ci]
def Ows.cs (l : List Ow) : List Value := l.flatMap Ow.cs
mutual
def Ow.it : Ow → It
 | .mk l ob d r c oi ci ri its => .mk l d (Ows.it its)
def Ows.it : List Ow → List It
 | [] => []
 | o :: r => o.it :: Ows.it r
end
mutual
def Ow.ents (t : TypeId) : Ow → List Ent
 | .mk l ob d r c oi ci ri its => (ob, blk (u8s d ++ r) 5) :: (oi, blk (Ows.cs its ++ ri) t) :: Ows.ents t its
def Ows.ents (t : TypeId) : List Ow → List Ent
 | [] => []
 | o :: r => o.ents t ++ Ows.ents t r
end
mutual
def Ow.Ok : Ow → Prop
 | .mk l ob d r c oi ci ri its => OwnS ob d.length c 1 (u8s d) r ∧ OwnS oi its.length ci 3 (Ows.cs its) ri ∧ Ows.Ok its
def Ows.Ok : List Ow → Prop
 | [] => True
 | o :: r => o.Ok ∧ Ows.Ok r
end
theorem Ow.cs_length (o : Ow) : o.cs.length = 3 := by cases o; rfl
theorem Ow.cs_one (o : Ow) : ∀ u ∈ o.cs, u.oneCell' = true := by
 cases o; intro u hu; simp [Ow.cs] at hu; rcases hu with rfl | rfl | rfl <;> rfl
theorem Ows.cs_length (l : List Ow) : (Ows.cs l).length = l.length * 3 := by
 induction l with
 | nil => rfl
 | cons o r ih => simp only [Ows.cs, List.flatMap_cons, List.length_append, Ow.cs_length, List.length_cons] at *; omega
theorem Ows.cs_one (l : List Ow) : ∀ u ∈ Ows.cs l, u.oneCell' = true := by
 intro u hu
 obtain ⟨o, _, h⟩ := List.mem_flatMap.1 hu
 exact o.cs_one u h
theorem Ows.cs_app (a b : List Ow) : Ows.cs (a ++ b) = Ows.cs a ++ Ows.cs b := List.flatMap_append ..
theorem Ows.cs_sing (o : Ow) : Ows.cs [o] = o.cs := by simp [Ows.cs]
theorem Ows.it_app (a b : List Ow) : Ows.it (a ++ b) = Ows.it a ++ Ows.it b := by
 induction a with
 | nil => simp [Ows.it]
 | cons o r ih => simp [Ows.it, ih]
theorem Ows.it_length (l : List Ow) : (Ows.it l).length = l.length := by
 induction l with
 | nil => simp [Ows.it]
 | cons o r ih => simp [Ows.it, ih]
theorem Ows.ents_app (t : TypeId) (a b : List Ow) : Ows.ents t (a ++ b) = Ows.ents t a ++ Ows.ents t b := by
 induction a with
 | nil => simp [Ows.ents]
 | cons o r ih => simp [Ows.ents, ih]
theorem Ows.Ok_app {a b : List Ow} : Ows.Ok (a ++ b) ↔ Ows.Ok a ∧ Ows.Ok b := by
 induction a with
 | nil => simp [Ows.Ok]
 | cons o r ih => simp [Ows.Ok, ih, and_assoc]
mutual
theorem Ow.rd {w0 : World} {Φ : Ctx} {t : TypeId} : ∀ (o : Ow), o.Ok → (∀ w, Φ w → Mem w0 w (o.ents t)) → ItRd Φ o.cs o.it
 | .mk l ob d r c oi ci ri its, h, hm => by
  rw [Ow.Ok] at h
  obtain ⟨h1, h2, h3⟩ := h
  rw [Ow.it]
  have e : (Ows.it its).length = its.length := Ows.it_length its
  show ItRd Φ [.bool l, sl ob 0 d.length c, sl oi 0 its.length ci] _
  rw [← e]
  refine ItRd.mk (h1.view (te := 5) (w0 := w0) (by decide) (fun w q => ?_)) (cells := Ows.cs its) (by rw [e]; exact h2.view (te := t) (w0 := w0) (by decide) (fun w q => by have := hm w q; rw [Ow.ents] at this; exact this.tail.sublist (List.singleton_sublist.2 (List.mem_cons_self ..)))) (Ows.rd (w0 := w0) (t := t) its h3 (fun w q => ?_))
  ·have := hm w q; rw [Ow.ents] at this; exact this.sublist (List.singleton_sublist.2 (List.mem_cons_self ..))
  ·have := hm w q; rw [Ow.ents] at this; exact this.tail.tail
theorem Ows.rd {w0 : World} {Φ : Ctx} {t : TypeId} : ∀ (l : List Ow), Ows.Ok l → (∀ w, Φ w → Mem w0 w (Ows.ents t l)) → Reps (ItRd Φ) (Ows.cs l) (Ows.it l)
 | [], _, _ => Reps.nil
 | o :: r, h, hm => by
  rw [Ows.Ok] at h
  rw [Ows.it]
  exact Reps.cons (Ow.rd o h.1 (fun w q => by have := hm w q; rw [Ows.ents] at this; exact this.appL)) (Ows.rd r h.2 (fun w q => by have := hm w q; rw [Ows.ents] at this; exact this.appR))
end
theorem OwnS.some_of {ob : Option Nat} {len cap s : Nat} {cells r : List Value} (h : OwnS ob len cap s cells r) (hs : 0 < s) {i : Nat} (hi : i < len) : ob.isSome = true := by
 cases ob with
 | none => have h1 := h.hn rfl; have h2 := h.le hs; omega
 | some b => rfl
end Go.Fw
