/- Part of a proof: rules that its law uses. -/
import Derived.Test.YtdmnfcjekomaiaaDoorT7
set_option linter.unusedVariables false
set_option linter.unusedSimpArgs false
set_option linter.unusedSectionVars false
set_option maxRecDepth 100000
set_option maxHeartbeats 1000000
namespace Go.Fw
open Go
def Flat (xs : List It) : Prop := ∀ x ∈ xs, ∃ d, x = .mk false d [] ∧ d.length ≤ 256
theorem Flat.wt : ∀ {xs : List It}, Flat xs → Its.wt xs ≤ 257 * xs.length
 | [], _ => by simp [Its.wt]
 | x :: r, h => by
  obtain ⟨d, rfl, hd⟩ := h x (List.mem_cons_self ..)
  have := Flat.wt (xs := r) fun y hy => h y (List.mem_cons_of_mem _ hy)
  simp only [Its.wt, It.wt, List.length_nil, List.length_cons]; omega
theorem Flat.w9 : ∀ {xs : List It}, Flat xs → Its.w9 xs ≤ 265 * xs.length
 | [], _ => by simp [Its.w9]
 | x :: r, h => by
  obtain ⟨d, rfl, hd⟩ := h x (List.mem_cons_self ..)
  have := Flat.w9 (xs := r) fun y hy => h y (List.mem_cons_of_mem _ hy)
  simp only [Its.w9, It.w9, List.length_cons]; omega
theorem Flat.good : ∀ {xs : List It}, Flat xs → Its.good xs
 | [], _ => by simp [Its.good]
 | x :: r, h => by
  obtain ⟨d, rfl, hd⟩ := h x (List.mem_cons_self ..)
  have := Flat.good (xs := r) fun y hy => h y (List.mem_cons_of_mem _ hy)
  rw [Its.good]
  exact ⟨by rw [It.good]; simp [Its.good], this⟩
theorem Flat.dep : ∀ {xs : List It}, Flat xs → Its.dep xs = 0
 | [], _ => by simp [Its.dep]
 | x :: r, h => by
  obtain ⟨d, rfl, hd⟩ := h x (List.mem_cons_self ..)
  have := Flat.dep (xs := r) fun y hy => h y (List.mem_cons_of_mem _ hy)
  rw [Its.dep, this, It.dep_eq, if_neg (by simp [It.list])]; rfl
theorem slot_n : ∀ {s : Slk} {f : Fd}, s ∈ slotL → FdFits s f → ∃ d, f.itm = .mk false d [] ∧ d.length ≤ 256
 | .text o n, .text l, hs, h => by
  have e : ∀ s ∈ slotL, s.sz ≤ 256 := by decide
  have h2 := e _ hs
  simp only [FdFits] at h
  exact ⟨l, rfl, by simp only [Slk.sz] at h2; omega⟩
 | .big o, .big v, _, _ => ⟨_, rfl, by have := nb_le (val4_lt v); rw [Z134]; omega⟩
 | .word o, .word x, _, _ => ⟨_, rfl, by have := nb_word x; rw [Z134, val4_word]; omega⟩
 | .ext o, .ext l, _, h => ⟨_, rfl, by simp only [FdFits] at h; omega⟩
theorem FitsL.flat : ∀ {l : List Fd} {i : Nat}, FitsL i l → Flat (l.map Fd.itm)
 | [], _, _ => fun x hx => by simp at hx
 | f :: r, i, ⟨⟨s, hs, hf⟩, hr⟩ => fun x hx => by
  rcases List.mem_cons.1 hx with rfl | hx
  ·exact slot_n (List.mem_of_getElem? hs) hf
  ·exact FitsL.flat hr x hx
theorem Hdr.its_flat {h : Hdr} (hc : h.chk = 0) : Flat h.its := by
 obtain ⟨h1, h2, h3, h4⟩ := Hdr.chk_ok.1 hc
 have hn := cnt_le h.tail
 have hF := FitsL.of h4 (cnt h.tail) 0 (cnt h.tail) (by omega) hn.2
 rw [List.drop_zero] at hF
 exact hF.flat
def Hdr.it (h : Hdr) : It := .mk true [] h.its
theorem Z153 {h : Hdr} (hc : h.chk = 0) : h.it.good ∧ h.it.dep ≤ 1024 ∧ h.it.w9 ≤ 16777216 ∧ Its.wt h.its ≤ 2147483647 := by
 have hf := Hdr.its_flat hc
 have hl := h.its_length
 have hn := cnt_le h.tail
 have h1 := hf.w9
 have h2 := hf.wt
 refine ⟨?_, ?_, ?_, by omega⟩
 ·rw [Hdr.it, It.good_eq]; exact ⟨fun _ => rfl, (fun e => by cases e), hf.good⟩
 ·rw [Hdr.it, It.dep_eq]; show (if true = true then Its.dep h.its + 1 else 0) ≤ 1024; rw [if_pos rfl, hf.dep]; decide
 ·rw [Hdr.it, It.w9_eq]; show 9 + ([] : List (BitVec 8)).length + Its.w9 h.its ≤ 16777216; simp only [List.length_nil]; omega
theorem item_ok {h : Hdr} (hc : h.chk = 0) : header_Item h = some (h.it, 0) := by
 obtain ⟨_, _, _, hw⟩ := Z153 hc
 unfold header_Item
 rw [check_eq, Zb, if_pos hc, count_eq, Zb, itemsOf_eq, Zb]
 show ((rlp_List h.its).bind _) = _
 unfold rlp_List
 rw [twin_eq hw]
 rfl
theorem item_bad {h : Hdr} (hc : h.chk ≠ 0) : header_Item h = some (It.mk false [] [], h.chk) := by
 unfold header_Item
 rw [check_eq, Zb, if_neg hc]
theorem hencode_ok {h : Hdr} (hc : h.chk = 0) : header_Encode h = some (h.it.enc, 0) := by
 obtain ⟨h1, h2, h3, _⟩ := Z153 hc
 unfold header_Encode
 rw [item_ok hc, Zb]
 dsimp only
 rw [if_pos rfl, encode_eq h1 h2 h3]
 rfl
theorem hencode_bad {h : Hdr} (hc : h.chk ≠ 0) : header_Encode h = some ([], h.chk) := by
 unfold header_Encode
 rw [item_bad hc, Zb]
 dsimp only
 rw [if_neg hc]
theorem Hdr.enc_len {h : Hdr} (hc : h.chk = 0) : h.it.enc.length ≤ 16777216 := by
 obtain ⟨h1, h2, h3, _⟩ := Z153 hc
 have := (It.enc_le h.it (by omega)).1
 omega
theorem hash_ok {h : Hdr} (hc : h.chk = 0) : ∃ d, keccak_Sum [h.it.enc] = some d ∧ header_Hash h = some (d, 0) := by
 have hl := Hdr.enc_len hc
 obtain ⟨d, hd⟩ := sum_total h.it.enc (by omega)
 refine ⟨d, hd, ?_⟩
 unfold header_Hash
 rw [hencode_ok hc, Zb]
 dsimp only
 rw [if_pos rfl, hd, Zb]
theorem hash_bad {h : Hdr} (hc : h.chk ≠ 0) : header_Hash h = some (Vector.replicate 32 0#8, h.chk) := by
 unfold header_Hash
 rw [hencode_bad hc, Zb]
 dsimp only
 rw [if_neg hc]
theorem hparse_ok {h : Hdr} (hc : h.chk = 0) : header_Parse h.it = some (h, 0) := by
 obtain ⟨_, _, _, hw⟩ := Z153 hc
 obtain ⟨h1, h2, _⟩ := Hdr.chk_ok.1 hc
 obtain ⟨e, k1, k2⟩ := kind_list h.it
 have k3 := k2.2 ⟨rfl, rfl⟩
 subst k3
 unfold header_Parse rlp_GetList
 rw [k1, Zb, if_pos rfl]
 show ((((rlp_twin h.its).bind _).bind _)) = _
 rw [twin_eq hw, Zb, Zb, if_pos rfl]
 dsimp only
 rw [h.its_length, tailOf_cnt h1 h2, Zb, if_neg (by omega), parse_its hc, Zb, if_pos rfl]
theorem hparse_any {x : It} (hw : x.w9 ≤ 2147483647) : ∃ h e, header_Parse x = some (h, e) ∧ (e ≠ 0 → h = Hdr.zero) ∧ (e = 0 → h.chk = 0 ∧ x = h.it) := by
 obtain ⟨k, k1, k2⟩ := kind_list x
 unfold header_Parse rlp_GetList
 rw [k1, Zb]
 by_cases hk : k = 0
 ·obtain ⟨q1, q2⟩ := k2.1 hk
  have hw2 : Its.wt x.items ≤ 2147483647 := by
   have := Its.wt_w9 x.items
   have := x.w9_eq
   omega
  rw [if_pos hk, twin_eq hw2, Zb, Zb]
  dsimp only
  rw [if_pos rfl]
  obtain ⟨t, ht⟩ : ∃ t, header_tailOf ((x.items.length : Nat) : Int) = some t := ⟨_, tailOf_eq _⟩
  rw [ht, Zb]
  by_cases h0 : t < 0
  ·rw [if_pos h0]
   exact ⟨_, _, rfl, fun _ => rfl, fun e => absurd e (by decide)⟩
  ·rw [if_neg h0]
   obtain ⟨h2, e, hp⟩ := parseL_some x.items 0 { Hdr.zero with tail := t }
   rw [hp, Zb]
   dsimp only
   by_cases he : e = 0
   ·subst he
    rw [if_pos rfl]
    obtain ⟨r1, r2⟩ := its_parse ht h0 hp
    refine ⟨_, _, rfl, fun e => absurd rfl e, fun _ => ⟨r1, ?_⟩⟩
    cases x
    simp only [It.list, It.data, It.items] at q1 q2 r2
    rw [q1, q2, r2]; rfl
   ·rw [if_neg he]
    exact ⟨_, _, rfl, fun _ => rfl, fun e => absurd e he⟩
 ·rw [if_neg hk, Zb]
  dsimp only
  rw [if_neg hk]
  exact ⟨_, _, rfl, fun _ => rfl, fun e => absurd e hk⟩
theorem hdecode_ok {h : Hdr} (hc : h.chk = 0) : header_Decode h.it.enc = some (h, 0) := by
 obtain ⟨h1, h2, h3, _⟩ := Z153 hc
 have hl := Hdr.enc_len hc
 have := decode_enc h1 h2 h3 [] (by rw [List.append_nil]; exact hl)
 rw [List.append_nil, if_neg (by simp)] at this
 unfold header_Decode
 rw [decode_eq, this, Zb]
 dsimp only
 rw [if_pos rfl, hparse_ok hc]
 rfl
theorem hdecode_any (b : List (BitVec 8)) : ∃ h e, header_Decode b = some (h, e) ∧ (e ≠ 0 → h = Hdr.zero) ∧ (e = 0 → h.chk = 0 ∧ b = h.it.enc) := by
 unfold header_Decode
 rw [decode_eq]
 cases hd : decodeR b with
 | mk x e =>
  rw [Zb]
  dsimp only
  rcases decode_back hd with ⟨h1, h2⟩ | ⟨rfl, hg, hb, hl, hdp, hw⟩
  ·rw [if_neg h1]
   exact ⟨_, _, rfl, fun _ => rfl, fun e => absurd e h1⟩
  ·rw [if_pos rfl]
   obtain ⟨h, e, q1, q2, q3⟩ := hparse_any (x := x) (by omega)
   rw [q1, Zb]
   exact ⟨h, e, rfl, q2, fun he => ⟨(q3 he).1, by rw [hb, (q3 he).2]⟩⟩
theorem Its.enc_append (a b : List It) : Its.enc (a ++ b) = Its.enc a ++ Its.enc b := by
 induction a with
 | nil => simp [Its.enc]
 | cons x r ih => rw [List.cons_append, Its.enc, Its.enc, ih, List.append_assoc]
theorem enc_text {d : List (BitVec 8)} (h1 : 2 ≤ d.length) (h2 : d.length ≤ 55) : (It.mk false d []).enc.length = d.length + 1 := by
 rw [It.enc_eq, if_neg (by simp [It.list])]
 show (if oneB d = true then d else headB 128 d.length ++ d).length = _
 rw [oneB_no (by omega), if_neg (by simp), List.length_append]
 unfold headB
 rw [if_pos h2, List.length_singleton]; omega
theorem enc_text2 {d : List (BitVec 8)} (h1 : d.length = 256) : (It.mk false d []).enc.length = 259 := by
 rw [It.enc_eq, if_neg (by simp [It.list])]
 show (if oneB d = true then d else headB 128 d.length ++ d).length = _
 rw [oneB_no (by omega), if_neg (by simp), List.length_append, h1]
 have : (headB 128 256).length = 3 := by decide
 rw [this]
theorem enc_pos {d : List (BitVec 8)} (h1 : d.length ≤ 256) : 1 ≤ (It.mk false d []).enc.length := by
 have := (It.enc_le (It.mk false d []) (by rw [It.w9_eq]; show 9 + d.length + Its.w9 [] ≤ _; simp only [Its.w9]; omega)).2
 exact this
theorem Hdr.enc_ge {h : Hdr} (hc : h.chk = 0) : 496 ≤ h.it.enc.length := by
 obtain ⟨h1, h2, h3, h4⟩ := Hdr.chk_ok.1 hc
 have hn := cnt_le h.tail
 obtain ⟨_, _, hw9, _⟩ := Z153 hc
 have e1 : h.its = (h.fds.take 15).map Fd.itm ++ (((h.fds.take (cnt h.tail)).drop 15).map Fd.itm) := by
  rw [Hdr.its, ← List.map_append]
  congr 1
  rw [← List.take_append_drop 15 (h.fds.take (cnt h.tail)), List.take_take, Nat.min_eq_left hn.1, List.drop_append_of_le_length (by rw [List.length_take, Hdr.fds_length]; omega)]
  simp
 have e2 : 493 ≤ (Its.enc ((h.fds.take 15).map Fd.itm)).length := by
  have t32 : ∀ v : Vector (BitVec 8) 32, (It.mk false v.toList []).enc.length = 33 := fun v => by rw [enc_text (by rw [Zv]; decide) (by rw [Zv]; decide), Zv]
  have t20 : (It.mk false h.coinbase.toList []).enc.length = 21 := by rw [enc_text (by rw [Zv]; decide) (by rw [Zv]; decide), Zv]
  have t8 : (It.mk false h.nonce.toList []).enc.length = 9 := by rw [enc_text (by rw [Zv]; decide) (by rw [Zv]; decide), Zv]
  have t256 : (It.mk false h.bloom.toList []).enc.length = 259 := enc_text2 Zv
  have tb : 1 ≤ (It.mk false (bytesN (val4 h.difficulty)) []).enc.length := enc_pos (by have := nb_le (val4_lt h.difficulty); rw [Z134]; omega)
  have tw : ∀ x : BitVec 64, 1 ≤ (It.mk false (bytesN (val4 (lim x.toNat))) []).enc.length := fun x => enc_pos (by have := nb_word x; rw [Z134, val4_word]; omega)
  have te : 1 ≤ (It.mk false h.extra []).enc.length := enc_pos (by omega)
  have w1 := tw h.number
  have w2 := tw h.limit
  have w3 := tw h.used
  have w4 := tw h.time
  show 493 ≤ (Its.enc [It.mk false h.parent.toList [], It.mk false h.uncles.toList [], It.mk false h.coinbase.toList [], It.mk false h.state.toList [], It.mk false h.txRoot.toList [], It.mk false h.receiptRoot.toList [], It.mk false h.bloom.toList [], It.mk false (bytesN (val4 h.difficulty)) [], It.mk false (bytesN (val4 (lim h.number.toNat))) [], It.mk false (bytesN (val4 (lim h.limit.toNat))) [], It.mk false (bytesN (val4 (lim h.used.toNat))) [], It.mk false (bytesN (val4 (lim h.time.toNat))) [], It.mk false h.extra [], It.mk false h.mix.toList [], It.mk false h.nonce.toList []]).length
  simp only [Its.enc, List.length_append, List.length_nil, t32, t20, t8, t256]
  omega
 have e3 : 493 ≤ (Its.enc h.its).length := by rw [e1, Its.enc_append, List.length_append]; omega
 rw [Hdr.it, It.enc_eq]
 show 496 ≤ (if true = true then headB 192 (Its.enc h.its).length ++ Its.enc h.its else _).length
 rw [if_pos rfl, List.length_append]
 have e4 : 3 ≤ (headB 192 (Its.enc h.its).length).length := by
  unfold headB
  rw [if_neg (by omega), List.length_cons, Z134]
  obtain ⟨k, k1, k2, k3⟩ := bl_spec (n := (Its.enc h.its).length) (by omega)
  have : 8 ≤ k := by
   rcases Nat.lt_or_ge k 8 with q | q
   ·have := Nat.pow_le_pow_right (n := 2) (by decide) (show k + 1 ≤ 8 by omega)
    omega
   ·exact q
  unfold nb; omega
 omega
theorem equal_loop (a : List (BitVec 8)) : ∀ (d i k : Nat), i + d = a.length → d < k → waybilllaw19_equal.l1 a a k i = some (Lp.go ())
 | 0, i, k + 1, e, _ => by rw [waybilllaw19_equal.l1, if_neg (by omega)]
 | d + 1, i, k + 1, e, hk => by
  rw [waybilllaw19_equal.l1, if_pos (by omega), List.getElem?_eq_getElem (by omega), Zb, Zb, if_pos rfl]
  exact equal_loop a d (i + 1) k (by omega) (by omega)
theorem equal_refl (a : List (BitVec 8)) : waybilllaw19_equal a a = some true := by
 unfold waybilllaw19_equal
 rw [if_pos rfl, equal_loop a a.length 0 _ (by omega) (by omega), Zb]
theorem hsame_loop (a : Hdr) : ∀ (d i k : Nat), i + d = a.extra.length → d < k → waybillref19_Same.l1 a a k i = some (Lp.go ())
 | 0, i, k + 1, e, _ => by rw [waybillref19_Same.l1, if_neg (by omega)]
 | d + 1, i, k + 1, e, hk => by
  rw [waybillref19_Same.l1, if_pos (by omega), List.getElem?_eq_getElem (by omega), Zb, Zb, if_pos rfl]
  exact hsame_loop a d (i + 1) k (by omega) (by omega)
theorem hsame_refl (a : Hdr) : waybillref19_Same a a = some true := by
 unfold waybillref19_Same
 rw [if_pos rfl, hsame_loop a a.extra.length 0 _ (by omega) (by omega), Zb]
 simp
theorem htwin_eq {h : Hdr} (hb : h.extra.length + 9 ≤ 140737488355328) : waybilllaw19_twin h = some h := if_pos hb
theorem fields_eq (t : Int) : waybilllaw19_fields t = some (cnt t) := count_eq t
theorem back_hdr (a0 : Hdr) (hb : a0.extra.length + 9 ≤ 140737488355328) (a1 : List (BitVec 8)) : waybilllaw19_HeaderBack a0 a1 = some true := by
 have hz : header_Check Hdr.zero = some 0 := (check_eq Hdr.zero).trans (congrArg some (by decide))
 unfold Hdr.zero at hz
 have fin : ∀ {α : Type} (o : Option α) (f : α → Option Bool), o.isSome → (∀ x, o = some x → f x = some true) → o.bind f = some true := by
  intro α o f h1 h2
  cases o with
  | none => cases h1
  | some x => exact h2 x rfl
 have last : ((header_Decode a1).bind fun (x158, x159) => (if x159 = 0 then ((waybilllaw19_twin x158).bind fun x179 => ((header_Encode x179).bind fun (x196, x197) => (((if x197 = 0 then ((waybilllaw19_twin x158).bind fun x221 => ((header_Check x221).bind fun x238 => (if x238 = 0 then ((waybilllaw19_equal x196 a1).bind fun x245 => (some ((x245)))) else (some (false))))) else (some (false))) : Option ((Bool))).bind fun p213 => (some (p213))))) else ((waybillref19_Same x158 Hdr.zero).bind fun x251 => (some (x251))))) = some true := by
  obtain ⟨h, e, q1, q2, q3⟩ := hdecode_any a1
  rw [q1, Zb]
  dsimp only
  by_cases he : e = 0
  ·obtain ⟨q4, q5⟩ := q3 he
   have hx := (Hdr.chk_ok.1 q4).2.2.2
   rw [if_pos he, htwin_eq (by omega), Zb, hencode_ok q4, Zb]
   dsimp only
   rw [if_pos rfl, Zb, check_eq, Zb, if_pos q4, ← q5, equal_refl]
   rfl
  ·rw [if_neg he, q2 he, hsame_refl]; rfl
 unfold waybilllaw19_HeaderBack
 rw [hz, Zb, if_pos rfl, htwin_eq hb, Zb, check_eq, Zb]
 simp only [Zb]
 unfold Hdr.zero at last
 by_cases hc : a0.chk = 0
 ·obtain ⟨d, hd1, hd2⟩ := hash_ok hc
  rw [hencode_ok hc, Zb, item_ok hc, Zb, hd2, Zb]
  dsimp only
  obtain ⟨g1, g2, g3, _⟩ := Z153 hc
  have hge := Hdr.enc_ge hc
  rw [if_pos hc, if_pos hc, show (!decide (a0.chk = 0)) = false by simp [hc], Zb, if_neg (by decide), if_pos hc, hdecode_ok hc, Zb, hparse_ok hc, Zb, encode_eq g1 g2 g3, Zb]
  dsimp only
  rw [if_pos rfl, if_pos rfl, if_pos rfl, hsame_refl, Zb, if_pos rfl, Zb, if_pos rfl, equal_refl, Zb, Zb, if_neg (by decide), if_pos (show a0.it.list = true from rfl), fields_eq, Zb, if_pos (show a0.it.items.length = cnt a0.tail from a0.its_length), hd1, Zb, if_pos rfl, Zb, if_neg (by simp; omega), Zb]
  exact last
 ·rw [hencode_bad hc, Zb, item_bad hc, Zb, hash_bad hc, Zb]
  dsimp only
  rw [if_pos rfl, if_pos rfl, show (!decide (a0.chk = a0.chk)) = false by simp, Zb, if_neg (by decide), if_neg hc, Zb]
  exact last
end Go.Fw
