/- Part of a proof: rules that its law uses. -/
import Derived.Test.YtojnakdlnlcmiaaT2
set_option linter.unusedVariables false
set_option linter.unusedSimpArgs false
set_option linter.unusedSectionVars false
set_option maxRecDepth 100000
set_option maxHeartbeats 1000000
namespace Go.Fw
theorem text14 (x : It) : waybillref14_Text x = some (if isT x = true then (x.data, true) else ([], false)) := by
 obtain ⟨l, d, it⟩ := x
 unfold waybillref14_Text isT
 cases l
 ·cases it with
  | nil => simp [It.list, It.data, It.items]
  | cons a it => simp [It.list, It.data, It.items]
 ·simp [It.list, It.data, It.items]
theorem list14 (x : It) : waybillref14_List x = some (if isL x = true then (x.items, true) else ([], false)) := by
 obtain ⟨l, d, it⟩ := x
 unfold waybillref14_List isL
 cases l
 ·simp [It.list, It.data, It.items]
 ·cases d with
  | nil => simp [It.list, It.data, It.items]
  | cons a it => simp [It.list, It.data, It.items]
theorem fixed14 (x : It) (n : Int) : waybillref14_Fixed x n = some (if isT x = true then (x.data, decide ((x.data.length : Int) = n)) else ([], false)) := by
 unfold waybillref14_Fixed
 rw [text14, Zb]
 by_cases h : isT x = true
 ·rw [if_pos h, if_pos h]; rfl
 ·rw [if_neg h, if_neg h]; rfl
theorem cpV_full {n : Nat} (w v : Vector (BitVec 8) n) {l : List (BitVec 8)} (h : v.toList = l) : cpV w 0 (l.take (min l.length (n - 0))) = v := by
 have hl : l.length = n := by rw [← h, Zv]
 have e1 : l.take (min l.length (n - 0)) = l := List.take_of_length_le (by omega)
 rw [e1]
 apply Vector.toList_inj.1
 rw [h]
 rw [cpV_toList w (by omega), List.take_zero, List.nil_append, Nat.zero_add, List.drop_of_length_le (by rw [Zv]; omega), List.append_nil]
theorem dtop_loop (its : List It) (ad : Vector (BitVec 8) 20) (dd : List (BitVec 8)) (hn : its.length * 32 ≤ 140737488355328) : ∀ (d i k : Nat) (l : List (Vector (BitVec 8) 32)), i + d = its.length → d < k → l.length ≤ i →
    ∃ o, waybillref17_ParseLog.l1 its k i ad l dd = some o ∧ ((∃ hs, o = Lp.go (ad, l ++ hs, dd) ∧ its.drop i = hs.map (fun h : Vector (BitVec 8) 32 => tIt h.toList)) ∨ (o = Lp.ret (some (Log.zero, 172)) ∧ ¬ ∃ hs : List (Vector (BitVec 8) 32), its.drop i = hs.map (fun h => tIt h.toList)))
 | 0, i, k, l, h, hk, hl => by
  obtain ⟨k, rfl⟩ : ∃ m, k = m + 1 := ⟨k - 1, by omega⟩
  rw [waybillref17_ParseLog.l1, if_neg (by omega)]
  exact ⟨_, rfl, .inl ⟨[], by rw [List.append_nil], by rw [List.drop_eq_nil_of_le (by omega)]; rfl⟩⟩
 | d + 1, i, k, l, h, hk, hl => by
  obtain ⟨k, rfl⟩ : ∃ m, k = m + 1 := ⟨k - 1, by omega⟩
  have h1 : i < its.length := by omega
  rw [waybillref17_ParseLog.l1, if_pos h1, List.getElem?_eq_getElem h1, Zb, fixed14, Zb, List.drop_eq_getElem_cons h1]
  by_cases hc : isT its[i] = true ∧ ((its[i]).data.length : Int) = 32
  ·obtain ⟨hc1, hc2⟩ := hc
   rw [if_pos hc1]
   dsimp only
   obtain ⟨v, hv, hvl⟩ := toVec_full (n := 32) (l := (its[i]).data) (by omega)
   have e1 : its[i] = tIt v.toList := by rw [hvl]; exact isT_iff.1 hc1
   rw [if_pos (decide_eq_true hc2), if_pos (by rw [List.length_singleton]; omega), cpV_full _ v hvl]
   obtain ⟨o, h2, h3⟩ := dtop_loop its ad dd hn d (i + 1) k (l ++ [v]) (by omega) (by omega) (by rw [List.length_append, List.length_singleton]; omega)
   refine ⟨o, h2, ?_⟩
   rcases h3 with ⟨hs, h4, h5⟩ | ⟨h4, h5⟩
   ·exact .inl ⟨v :: hs, by rw [h4, List.append_assoc]; rfl, by rw [List.map_cons, ← h5, ← e1]⟩
   ·refine .inr ⟨h4, fun ⟨hs, h6⟩ => h5 ?_⟩
    cases hs with
    | nil => cases h6
    | cons x hs => rw [List.map_cons] at h6; exact ⟨hs, (List.cons.inj h6).2⟩
  ·have hno : ¬ ∃ hs : List (Vector (BitVec 8) 32), its[i] :: its.drop (i + 1) = hs.map (fun h => tIt h.toList) := fun ⟨hs, h5⟩ => hc (by
     cases hs with
     | nil => cases h5
     | cons x hs =>
      rw [List.map_cons] at h5
      rw [(List.cons.inj h5).1]
      exact ⟨isT_tIt _, by show ((x.toList.length : Nat) : Int) = 32; rw [Zv]; rfl⟩)
   by_cases hc1 : isT its[i] = true
   ·rw [if_pos hc1]
    dsimp only
    rw [if_neg (by simp; exact fun h => hc ⟨hc1, by omega⟩)]
    exact ⟨_, rfl, .inr ⟨rfl, hno⟩⟩
   ·rw [if_neg hc1]
    dsimp only
    rw [if_neg (by decide)]
    exact ⟨_, rfl, .inr ⟨rfl, hno⟩⟩
theorem dparse_eq (it : It) (hw : it.wt ≤ 2147483647) : ∃ (x : Log) (e : Nat), receipt_ParseLog it = some (x, (e : Int)) ∧ waybillref17_ParseLog it = some (x, e) := by
 have hwi : Its.wt it.items ≤ 2147483647 := by rw [It.wt_eq] at hw; omega
 have hzl : (Log.mk (Vector.replicate 20 0#8) ([] : List (Vector (BitVec 8) 32)) ([] : List (BitVec 8))) = Log.zero := rfl
 unfold receipt_ParseLog waybillref17_ParseLog
 rw [list_spec _ _ hwi, if_pos rfl, Zb, list14, Zb]
 by_cases hL : isL it = true
 ·rw [if_pos hL, if_pos hL]
  dsimp only
  rw [if_pos rfl, Zb]
  by_cases h3 : it.items.length = 3
  ·rw [if_pos ⟨rfl, h3⟩, if_neg (by simp [h3])]
   obtain ⟨x0, x1, x2, hi⟩ : ∃ a b c, it.items = [a, b, c] := by
    match it.items, h3 with
    | [a, b, c], _ => exact ⟨a, b, c, rfl⟩
   have hw1 : Its.wt x1.items ≤ 2147483647 := Nat.le_trans (Its.wt_items (l := it.items) (x := x1) (by rw [hi]; simp)) hwi
   have hl1 : x1.items.length ≤ 2147483647 := Nat.le_trans (Its.len_wt x1.items) hw1
   rw [hi]
   rw [show ([x0, x1, x2] : List It)[0]? = some x0 from rfl, show ([x0, x1, x2] : List It)[1]? = some x1 from rfl, show ([x0, x1, x2] : List It)[2]? = some x2 from rfl, Zb, Zb, Z142, if_pos rfl, Zb, fixed14, Zb]
   by_cases ha : isT x0 = true ∧ ((20 : Int) < 0 ∨ (x0.data.length : Int) = 20)
   ·have hl0 : (x0.data.length : Int) = 20 := by omega
    rw [if_pos ha, if_pos ha.1]
    dsimp only
    rw [if_pos rfl]
    obtain ⟨v, hv, hvl⟩ := toVec_full (n := 20) (l := x0.data) (by omega)
    rw [hv, Zb, Zb, Zb, cpV_full _ v hvl, list14, Zb]
    unfold rtopics
    rw [list_spec _ _ hw1, if_pos rfl, Zb]
    by_cases hb : isL x1 = true
    ·rw [if_pos hb, if_pos hb]
     dsimp only
     obtain ⟨ts, r, ht1, ht2⟩ := topicsF_char x1.items [] (by simp; omega)
     rw [ht1, Zb, Zb, Zb, text14, Zb, Z142]
     by_cases hd : isT x2 = true
     ·obtain ⟨o, ho1, ho2⟩ := dtop_loop x1.items v [] (by omega) x1.items.length 0 (x1.items.length - 0 + 2) [] (by omega) (by omega) (by simp)
      rw [List.drop_zero] at ho2
      rcases ht2 with ⟨rfl, hs, e1, e2⟩ | ⟨rfl, e1⟩
      ·obtain rfl : hs = ts := by simpa using e1.symm
       rcases ho2 with ⟨hs2, q1, q2⟩ | ⟨_, q2⟩
       ·have hh : hs2 = hs := map_tIt_inj (q2.symm.trans e2)
        subst hh q1
        have hlen2 : x2.data.length ≤ 140737488355328 := by
         have h8 := Its.wt_mem (l := it.items) (x := x2) (by rw [hi]; simp)
         rw [It.wt_eq] at h8
         omega
        by_cases h4 : 4 < hs2.length
        ·refine ⟨Log.zero, 174, ?_, ?_⟩
         ·dsimp only
          rw [if_pos rfl, if_pos ⟨hd, .inl (by decide)⟩, Zb]
          dsimp only
          rw [if_pos rfl, if_pos h4]; rfl
         ·rw [if_pos hd]
          dsimp only
          rw [if_pos (decide_eq_true hl0), if_pos rfl, Zb, if_neg (by decide), ho1, Zb]
          dsimp only
          rw [List.nil_append, if_pos h4]; rfl
        ·refine ⟨⟨v, hs2, x2.data⟩, 0, ?_, ?_⟩
         ·dsimp only
          rw [if_pos rfl, if_pos ⟨hd, .inl (by decide)⟩, Zb]
          dsimp only
          rw [if_pos rfl, if_neg h4]; rfl
         ·rw [if_pos hd]
          dsimp only
          rw [if_pos (decide_eq_true hl0), if_pos rfl, Zb, if_neg (by decide), ho1, Zb]
          dsimp only
          rw [List.nil_append, if_neg h4, if_pos (by rw [List.length_nil]; omega), List.nil_append]
       ·exact absurd ⟨hs, e2⟩ q2
      ·rcases ho2 with ⟨hs2, q1, q2⟩ | ⟨q1, q2⟩
       ·exact absurd ⟨hs2, q2⟩ e1
       ·subst q1
        refine ⟨Log.zero, 172, ?_, ?_⟩
        ·dsimp only
         rw [if_neg (by decide), Zb]; rfl
        ·rw [if_pos hd]
         dsimp only
         rw [if_pos (decide_eq_true hl0), if_pos rfl, Zb, if_neg (by decide), ho1, Zb]
     ·have hr : r.err = 0 ∨ r = ⟨172⟩ := by
        rcases ht2 with ⟨rfl, _⟩ | ⟨rfl, _⟩
        ·exact .inl rfl
        ·exact .inr rfl
      refine ⟨Log.zero, 172, ?_, ?_⟩
      ·dsimp only
       rcases hr with hr | rfl
       ·rw [if_pos hr, if_neg (fun h => hd h.1), Zb]; rfl
       ·rw [if_neg (by decide), Zb]; rfl
      ·rw [if_neg hd]
       dsimp only
       rw [if_pos (decide_eq_true hl0), if_pos rfl, Zb, if_pos (by decide)]; rfl
    ·rw [if_neg hb, if_neg hb]
     dsimp only
     refine ⟨Log.zero, 172, ?_, ?_⟩
     ·rw [rtopicsF, Zb, Zb, Z142]
      dsimp only
      rw [if_neg (by decide), Zb]; rfl
     ·rw [Zb, text14, Zb, if_pos (decide_eq_true hl0), if_neg (by decide), Zb, if_pos (by decide)]; rfl
   ·refine ⟨Log.zero, 172, ?_, ?_⟩
    ·rw [if_neg ha]
     dsimp only
     rw [if_neg (by decide), Zb, Zb]
     unfold rtopics
     rw [list_spec _ _ hw1, if_neg (by decide), Zb]
     dsimp only
     rw [rtopicsF, Zb, Zb, Z142]
     dsimp only
     rw [if_neg (by decide), Zb]; rfl
    ·rw [Zb, list14, Zb, Zb, text14, Zb]
     have hp : (if isT x0 = true then (x0.data, decide ((x0.data.length : Int) = 20)) else (([] : List (BitVec 8)), false)).2 = false := by
      by_cases h0 : isT x0 = true
      ·rw [if_pos h0]; exact decide_eq_false (fun h => ha ⟨h0, .inr h⟩)
      ·rw [if_neg h0]
     rw [hp, if_neg (by decide), Zb, if_pos rfl]
     rfl
  ·rw [if_neg (by simp [h3]), if_pos (by simp [h3])]
   exact ⟨_, 172, rfl, rfl⟩
 ·rw [if_neg hL, if_neg hL]
  dsimp only
  rw [if_neg (by simp), if_neg (by decide), Zb, if_pos rfl]
  exact ⟨_, 172, rfl, rfl⟩
end Go.Fw
namespace Go.Fw
def waybillref17_LogItem (a0 : Log) : Option ((It) × (Nat)) := (if 4 < a0.topics.length then (some ((It.mk false ([] : List (BitVec 8)) ([] : List (It))), 174)) else ((waybillref17_logItem a0).bind fun x19 => ((waybillref07_Size x19).bind fun (x43, x44) => (if x44 = 0 then (some (x19, 0)) else (some ((It.mk false ([] : List (BitVec 8)) ([] : List (It))), 2))))))
end Go.Fw
namespace Go.Fw
mutual
theorem It.enc_leB : ∀ x : It, x.w9 ≤ 562949953421312 → x.enc.length ≤ x.w9 ∧ 0 < x.enc.length
 | .mk l d its, h => by
  simp only [It.w9] at h ⊢
  have h1 := Its.enc_leB its (by omega)
  have h2 := headB_length (c := 192) (n := (Its.enc its).length) (by omega)
  have h3 := headB_length (c := 128) (n := d.length) (by omega)
  rw [It.enc]
  split
  ·rw [List.length_append]; omega
  split
  ·rename_i h4; have := (oneB_len h4).1; omega
  ·rw [List.length_append]; omega
theorem Its.enc_leB : ∀ l : List It, Its.w9 l ≤ 562949953421312 → (Its.enc l).length ≤ Its.w9 l
 | [], h => by simp [Its.enc]
 | x :: l, h => by
  simp only [Its.w9] at h ⊢
  have := It.enc_leB x (by omega)
  have := Its.enc_leB l (by omega)
  rw [Its.enc, List.length_append]; omega
end
theorem size_loopB (x : It) (rc : It → Option Nat) (hw : (Its.enc x.items).length ≤ 562949953421312) (hrc : ∀ y ∈ x.items, rc y = some y.enc.length) : ∀ (d i k m : Nat), i + d = x.items.length → d < k → m + (Its.enc (x.items.drop i)).length = (Its.enc x.items).length → rlp_size.l1 x rc k m i = some (Its.enc x.items).length
 | 0, i, k, m, h, hk, hm => by
  obtain ⟨k, rfl⟩ : ∃ m, k = m + 1 := ⟨k - 1, by omega⟩
  rw [List.drop_of_length_le (by omega), Its.enc, List.length_nil] at hm
  rw [rlp_size.l1, if_neg (by omega)]
  congr 1
 | d + 1, i, k, m, h, hk, hm => by
  obtain ⟨k, rfl⟩ : ∃ m, k = m + 1 := ⟨k - 1, by omega⟩
  have h1 : i < x.items.length := by omega
  rw [Its.enc_drop h1, List.length_append] at hm
  rw [rlp_size.l1, if_pos h1, List.getElem?_eq_getElem h1, Zb, hrc _ (List.getElem_mem h1), Zb, if_pos (by omega)]
  exact size_loopB x rc hw hrc d (i + 1) k _ (by omega) (by omega) (by omega)
theorem size_rB : ∀ (k : Nat) (x : It), x.sz < k → x.w9 ≤ 562949953421312 → rlp_size.r k x = some x.enc.length
 | 0, x, h, _ => by omega
 | k + 1, x, h, hw => by
  have hs := It.sz_eq x
  have hw' := It.w9_eq x
  have hle := Its.enc_leB x.items (by omega)
  rw [rlp_size.r, It.enc_eq]
  by_cases hl : x.list = true
  ·have hh := headB_length (c := 192) (n := (Its.enc x.items).length) (by omega)
   rw [if_pos hl, if_pos hl, size_loopB x _ (by omega) (fun y hy => size_rB k y (by have := Z133 hy; omega) (by have := Its.w9_mem hy; omega)) x.items.length 0 _ 0 (by omega) (by omega) (by rw [List.drop_zero]; omega), Zb, show (192#8 : BitVec 8) = BitVec.ofNat 8 192 by rfl, head_spec 192 _ (by omega), Zb, if_pos (by omega), List.length_append]
  ·rw [if_neg hl, if_neg hl]
   by_cases h1 : x.data.length = 1
   ·obtain ⟨c, e1, e2⟩ := oneB_get h1
    rw [if_pos h1, e1, Zb, Zb, ← e2]
    by_cases ho : oneB x.data = true
    ·rw [if_pos ho, if_pos ho, h1]
    ·rw [if_neg ho, if_neg ho, show (128#8 : BitVec 8) = BitVec.ofNat 8 128 by rfl, head_spec 128 _ (by omega), Zb, List.length_append]
   ·rw [if_neg h1, Zb, if_neg (by simp), oneB_no h1, if_neg (by simp), show (128#8 : BitVec 8) = BitVec.ofNat 8 128 by rfl, head_spec 128 _ (by omega), Zb, List.length_append]
theorem rsize_loopB (x : It) (rc : It → Option Nat) (hw : (Its.enc x.items).length ≤ 562949953421312) (hrc : ∀ y ∈ x.items, rc y = some y.enc.length) (b : Nat) (hb : b ≤ 562949953421312) : ∀ (d i k m : Nat), i + d = x.items.length → d < k → m + (Its.enc (x.items.drop i)).length = b + (Its.enc x.items).length → waybillref07_size.l1 x rc k m i = some (b + (Its.enc x.items).length)
 | 0, i, k, m, h, hk, hm => by
  obtain ⟨k, rfl⟩ : ∃ m, k = m + 1 := ⟨k - 1, by omega⟩
  rw [List.drop_of_length_le (by omega), Its.enc, List.length_nil] at hm
  rw [waybillref07_size.l1, if_neg (by omega)]
  congr 1
 | d + 1, i, k, m, h, hk, hm => by
  obtain ⟨k, rfl⟩ : ∃ m, k = m + 1 := ⟨k - 1, by omega⟩
  have h1 : i < x.items.length := by omega
  rw [Its.enc_drop h1, List.length_append] at hm
  rw [waybillref07_size.l1, if_pos h1, List.getElem?_eq_getElem h1, Zb, hrc _ (List.getElem_mem h1), Zb, if_pos (by omega)]
  exact rsize_loopB x rc hw hrc b hb d (i + 1) k _ (by omega) (by omega) (by omega)
theorem rsize_rB : ∀ (k : Nat) (x : It), x.sz < k → x.good → x.w9 ≤ 562949953421312 → waybillref07_size.r k x = some x.enc.length
 | 0, x, h, _, _ => by omega
 | k + 1, x, h, hg, hw => by
  have hs := It.sz_eq x
  have hw' := It.w9_eq x
  have hg' := (It.good_eq x).1 hg
  have hle := Its.enc_leB x.items (by omega)
  have hloop := rsize_loopB x (waybillref07_size.r k) (by omega) (fun y hy => rsize_rB k y (by have := Z133 hy; omega) (Its.good_mem hg'.2.2 y hy) (by have := Its.w9_mem hy; omega)) x.data.length (by omega) x.items.length 0 (x.items.length - 0 + 2) x.data.length (by omega) (by omega) (by rw [List.drop_zero])
  have hh := headB_length (c := 128) (n := x.data.length + (Its.enc x.items).length) (by omega)
  rw [waybillref07_size.r, It.enc_eq]
  by_cases hl : x.list = true
  ·rw [if_pos hl, if_pos hl, Zb, if_neg (by simp), hloop, Zb, before_spec 128 _ (by omega) (by omega), Zb, if_pos (by omega), headB_len, hg'.1 hl, List.length_nil, Nat.zero_add, List.length_append]
  ·have hi : x.items = [] := hg'.2.1 (by simpa using hl)
   have he : (Its.enc x.items).length = 0 := by rw [hi, Its.enc]; rfl
   simp only [he, Nat.add_zero] at hloop hh
   rw [if_neg hl, if_neg hl]
   by_cases h1 : x.data.length = 1
   ·obtain ⟨c, e1, e2⟩ := oneB_get h1
    rw [if_pos h1, e1, Zb, Zb, ← e2]
    by_cases ho : oneB x.data = true
    ·rw [if_pos ho, if_pos ho, h1]
    ·rw [if_neg ho, if_neg ho, hloop, Zb, before_spec 128 _ (by omega) (by omega), Zb, if_pos (by omega), List.length_append]
   ·rw [if_neg h1, Zb, if_neg (by simp), oneB_no h1, if_neg (by simp), hloop, Zb, before_spec 128 _ (by omega) (by omega), Zb, if_pos (by omega), List.length_append]
theorem Its.len_sz : ∀ l : List It, l.length ≤ Its.sz l
 | [] => by simp [Its.sz]
 | x :: l => by
  have h1 := Its.len_sz l
  have h2 := It.sz_eq x
  simp only [Its.sz, List.length_cons]; omega
theorem twin_szr : ∀ (k : Nat) (a : List It), Its.sz a < k → Its.sz a ≤ 2147483647 → rlp_twin.r k a = some a
 | 0, a, h, _ => by omega
 | k + 1, a, h, hw => by
  rw [rlp_twin.r, twin_loop a _ (by have := Its.len_sz a; omega) (fun x hx => twin_szr k x.items (by have := Its.sz_items hx; omega) (by have := Its.sz_items hx; omega)) a.length 0 _ _ (by omega) (by omega) (by simp), Zb]
theorem list_sz {l : List It} (h : Its.sz l ≤ 2147483647) : rlp_List l = some (.mk true [] l) := by
 unfold rlp_List
 rw [show rlp_twin l = some l from twin_szr _ l (by omega) h, Zb]
theorem sz_hs (l : List (Vector (BitVec 8) 32)) : Its.sz (l.map fun h => tIt h.toList) = l.length := by
 induction l with
 | nil => rfl
 | cons a l ih => rw [List.map_cons, Its.sz, ih, List.length_cons]; show 1 + 0 + _ = _; omega
theorem enc_ge_data (d : List (BitVec 8)) : d.length ≤ (tIt d).enc.length := by
 unfold tIt
 rw [It.enc]
 split
 ·rename_i h; cases h
 split
 ·exact Nat.le_refl _
 ·rw [List.length_append]; omega
theorem logIt_ge (x : Log) : x.data.length ≤ (logIt x).enc.length := by
 have h := enc_ge_data x.data
 unfold logIt
 rw [It.enc, if_pos rfl, List.length_append, Its.enc, Its.enc, Its.enc, Its.enc]
 simp only [List.length_append]
 omega
theorem sizes_log (x : Log) (hx : x.topics.length ≤ 4) (hd : x.data.length ≤ 140737488351232) : rlp_Size (logIt x) = some (if (logIt x).enc.length ≤ 16777216 then ((logIt x).enc.length, 0) else (0, 2)) ∧ waybillref07_Size (logIt x) = some (if (logIt x).enc.length ≤ 16777216 then ((logIt x).enc.length, 0) else (0, 2)) := by
 have hw := w9_log x
 unfold szL at hw
 have hg := good_log x
 have hdep := dep_log x
 have h1 : rlp_size (logIt x) = some (logIt x).enc.length := size_rB _ _ (Nat.lt_succ_self _) (by omega)
 have h2 : waybillref07_size (logIt x) = some (logIt x).enc.length := rsize_rB _ _ (Nat.lt_succ_self _) hg (by omega)
 have c1 : rlp_Check (logIt x) = some (if (logIt x).enc.length ≤ 16777216 then 0 else 2) := by
  unfold rlp_Check
  rw [sound_eq hg (by omega), Zb]
  dsimp only
  rw [if_pos rfl, if_neg (show ¬ 1024 < (logIt x).dep by omega), h1, Zb]
  by_cases hl : (logIt x).enc.length ≤ 16777216
  ·rw [if_neg (show ¬ 16777216 < (logIt x).enc.length by omega), if_pos hl]
  ·rw [if_pos (show 16777216 < (logIt x).enc.length by omega), if_neg hl]
 have c2 : waybillref07_Check (logIt x) = some (if (logIt x).enc.length ≤ 16777216 then 0 else 2) := by
  unfold waybillref07_Check waybillref07_oddly waybillref07_depth
  rw [oddly_good _ _ (by omega) hg, Zb, if_neg (by simp), depth_r _ _ (by omega) (by omega), Zb, if_neg (show ¬ 1024 < (logIt x).dep by omega), h2, Zb]
  by_cases hl : (logIt x).enc.length ≤ 16777216
  ·rw [if_neg (show ¬ 16777216 < (logIt x).enc.length by omega), if_pos hl]
  ·rw [if_pos (show 16777216 < (logIt x).enc.length by omega), if_neg hl]
 unfold rlp_Size waybillref07_Size
 rw [c1, c2, Zb, Zb, h1, h2]
 by_cases hl : (logIt x).enc.length ≤ 16777216
 ·rw [if_pos hl, if_pos hl, if_pos rfl, Zb]; exact ⟨rfl, rfl⟩
 ·rw [if_neg hl, if_neg hl, if_neg (by decide)]; exact ⟨rfl, rfl⟩
theorem logitem_both (l : Log) (ht : l.topics.length * 32 ≤ 140737488351232) (hd : l.data.length ≤ 140737488351232) : ∃ (x : It) (e : Nat), receipt_LogItem l = some (x, e) ∧ waybillref17_LogItem l = some (x, e) ∧ x.wt ≤ 2147483647 := by
 unfold receipt_LogItem waybillref17_LogItem
 by_cases h4 : 4 < l.topics.length
 ·rw [if_pos h4, if_pos h4]
  exact ⟨_, _, rfl, rfl, by simp [It.wt, Its.wt]⟩
 rw [if_neg h4, if_neg h4]
 have hs := sz_hs l.topics
 obtain ⟨s1, s2⟩ := sizes_log l (by omega) hd
 rw [logitem_loop l (by omega) l.topics.length 0 _ [] (by omega) (by omega) (by simp), Zb, text_eq, Zb, List.nil_append, List.drop_zero, list_sz (by omega), Zb, text_eq, Zb]
 rw [list_sz (by simp only [Its.sz, It.sz, hs]; omega), Zb, dlog_eq l (by omega), Zb]
 have e1 : (It.mk true [] [It.mk false l.address.toList [], It.mk true [] (l.topics.map fun h => tIt h.toList), It.mk false l.data []]) = logIt l := rfl
 rw [e1, s1, s2, Zb, Zb]
 by_cases hl : (logIt l).enc.length ≤ 16777216
 ·rw [if_pos hl]
  dsimp only
  rw [if_pos rfl]
  refine ⟨_, _, rfl, rfl, ?_⟩
  have h1 := logIt_ge l
  have h2 := It.wt_w9 (logIt l)
  have h3 := w9_log l
  unfold szL at h3
  omega
 ·rw [if_neg hl]
  dsimp only
  rw [if_neg (by decide)]
  exact ⟨_, _, rfl, rfl, by simp [It.wt, Its.wt]⟩
theorem parse_both (it : It) (hw : it.wt ≤ 2147483647) : ∃ (x : Log) (e : Nat), receipt_ParseLog it = some (x, (e : Int)) ∧ waybillref17_ParseLog it = some (x, e) ∧ x.topics.length ≤ 4 ∧ x.data.length ≤ 2147483647 := by
 obtain ⟨x, e, h1, h2⟩ := dparse_eq it hw
 obtain ⟨x', e', h3, h4⟩ := parselog_char it hw
 rw [h1] at h3
 obtain ⟨rfl, rfl⟩ := Prod.mk.inj (Zi h3)
 refine ⟨x, e, h1, h2, ?_⟩
 rcases h4 with ⟨_, hl⟩ | ⟨_, rfl, _⟩
 ·obtain ⟨rfl, h5⟩ := hl
  refine ⟨h5, ?_⟩
  have : x.data.length ≤ It.wt (logIt x) := by
   simp only [logIt, tIt, It.wt, Its.wt]
   omega
  omega
 ·simp [Log.zero]
end Go.Fw
namespace Go.Fw.Try
open Go Go.Proofs Go.Fw
theorem u256_From_does (w0 : World) (Φ : Ctx) (N : List Ent) (hΦ : ∀ w, Mem w0 w N → Φ w) (a0 : BitVec 64) (res0 : Vector (BitVec 64) 4) (hf : u256_From a0 = some res0) : DoesG Try.prog 54 [U64 a0] w0 [] N (fun v G => v = .agg (u64s res0.toList).toArray) := by
 unfold u256_From at hf
 refine DoesG.enter Try.func54 rfl Try.ntmps54 rfl (M := (([] ++ N))) rfl (Z4 (Z2 (OW.alloc (l := (u64s (Vector.replicate 4 0#64).toList)) rfl (by rw [Vector.toList_replicate, ← u64s_rep]; rfl) rfl (fun b1 => (Z6 (Z1 (Z4 (Z2 (Z0 (Z3 rfl) rfl ?_)))))))))
 refine Z0 (Z144 (l := (u64s (Vector.replicate 4 0#64).toList)) (cs := (u64s ((Vector.replicate 4 0#64).setIfInBounds 0 a0).toList)) rfl rfl rfl (by rw [Vector.toList_replicate, ← u64s_rep]; rfl) rfl rfl (by simp only [setL, List.foldl, ← vset, Vector.toList_replicate, ← u64s_set'] <;> rfl)) rfl ?_
 refine Z28 (Z104 rfl rfl rfl (u64s_one _) rfl ((Z131 _).trans Zv) ((Z131 _).trans Zv)) (Z6 (Z1 (CW.ret ?_)))
 have e0 := Zi hf
 subst e0
 refine Z102 (rs := [.cell 2 91]) ([.agg (u64s ((Vector.replicate 4 0#64).setIfInBounds 0 a0).toList).toArray]) ((some b1, blk (u64s ((Vector.replicate 4 0#64).setIfInBounds 0 a0).toList) 91) :: []) rfl ?_ rfl ?_ ?_ _ (.inl rfl)
 ·exact ⟨⟨_, _, _, _, rfl, Zh, rfl, rfl, (congrArg some ((Z131 _).trans Zv).symm), rfl⟩, trivial⟩
 ·exact rfl
 ·exact (fun w m => m)
theorem waybillref01_From_does (w0 : World) (Φ : Ctx) (N : List Ent) (hΦ : ∀ w, Mem w0 w N → Φ w) (a0 : BitVec 64) (res0 : Vector (BitVec 64) 4) (hf : waybillref01_From a0 = some res0) : DoesG Try.prog 57 [U64 a0] w0 [] N (fun v G => v = .agg (u64s res0.toList).toArray) := by
 unfold waybillref01_From at hf
 refine DoesG.enter Try.func57 rfl Try.ntmps57 rfl (M := (([] ++ N))) rfl (Z4 (Z2 (OW.alloc (l := (u64s (Vector.replicate 4 0#64).toList)) rfl (by rw [Vector.toList_replicate, ← u64s_rep]; rfl) rfl (fun b1 => (Z6 (Z1 (Z4 (Z2 (Z0 (Z3 rfl) rfl ?_)))))))))
 refine Z0 (Z144 (l := (u64s (Vector.replicate 4 0#64).toList)) (cs := (u64s (((((Vector.replicate 4 0#64).setIfInBounds 0 a0).setIfInBounds 1 (0#64)).setIfInBounds 2 (0#64)).setIfInBounds 3 (0#64)).toList)) rfl rfl rfl (by rw [Vector.toList_replicate, ← u64s_rep]; rfl) rfl rfl (by simp only [setL, List.foldl, ← vset, Vector.toList_replicate, ← u64s_set'] <;> rfl)) rfl ?_
 refine Z28 (Z104 rfl rfl rfl (u64s_one _) rfl ((Z131 _).trans Zv) ((Z131 _).trans Zv)) (Z6 (Z1 (CW.ret ?_)))
 have e0 := Zi hf
 subst e0
 refine Z102 (rs := [.cell 2 91]) ([.agg (u64s (((((Vector.replicate 4 0#64).setIfInBounds 0 a0).setIfInBounds 1 (0#64)).setIfInBounds 2 (0#64)).setIfInBounds 3 (0#64)).toList).toArray]) ((some b1, blk (u64s (((((Vector.replicate 4 0#64).setIfInBounds 0 a0).setIfInBounds 1 (0#64)).setIfInBounds 2 (0#64)).setIfInBounds 3 (0#64)).toList) 91) :: []) rfl ?_ rfl ?_ ?_ _ (.inl rfl)
 ·exact ⟨⟨_, _, _, _, rfl, Zh, rfl, rfl, (congrArg some ((Z131 _).trans Zv).symm), rfl⟩, trivial⟩
 ·exact rfl
 ·exact (fun w m => m)
theorem rlp_clone_does (w0 : World) (Φ : Ctx) (N : List Ent) (hΦ : ∀ w, Mem w0 w N → Φ w) (A0_ : Option Addr) (c0_ : Nat) (a0 : List (BitVec 8)) (res0 : List (BitVec 8)) (va0 : View Φ A0_ a0.length c0_ 1 (u8s a0)) (hf : rlp_clone a0 = some res0) : DoesG Try.prog 36 [.slice A0_ a0.length c0_] w0 [] N (fun v G => ∃ B : List Ent, ∃ or0 : Option Nat, ∃ kr0 : Nat, ∃ rr0 : List Value, (OwnS or0 res0.length kr0 1 (u8s res0) rr0) ∧ v = sl or0 0 res0.length kr0 ∧ G = (or0, blk ((u8s res0) ++ rr0) 5) :: B) := by
 unfold rlp_clone at hf
 replace va0 := va0.mono (Ψ := More w0 Φ []) (fun w q => q.1)
 have m1 := va0.mx
 refine DoesG.enter Try.func36 rfl Try.ntmps36 rfl (M := (([] ++ N))) rfl (Z4 (Z2 (Z0 (Z5 rfl) rfl (Z6 (Z1 (Z4 (Z2 (Z0 (Z3 rfl) rfl (Z20 (M' := ((none, blk ((u8s ([] : List (BitVec 8))) ++ []) 5) :: ([] ++ N))) (fun w m => m.nil_ent _) (OW.appendOwn (s := 1) rfl rfl rfl rfl rfl rfl OwnS.nil (fun w m => va0.rd w (Z103 hΦ 1 m rfl)) va0.n (Z125 _) (va0.zero (by decide)) (by decide) (by decide) (by first | omega | (simp only [i5, List.length_nil]; omega)) rfl rfl (a0.length) (u8s a0) (Nat.zero_add _) rfl (fun ob2 r3 c4 o5 => ?_)))))))))))
 have m6 := o5.mx
 refine Z0 (Z5 rfl) rfl (Z6 (Z1 (CW.ret ?_)))
 have e0 := Zi hf
 subst e0
 refine Z102 (rs := [.tmp 2]) ([sl ob2 0 a0.length c4]) ((ob2, blk ((u8s a0) ++ r3) 5) :: []) rfl ?_ rfl ?_ ?_ _ (.inl rfl)
 ·exact ⟨rfl, trivial⟩
 ·exact ⟨[], ob2, c4, r3, o5, rfl, rfl⟩
 ·exact (fun w m => m.pick [0] 1 rfl rfl)
theorem Z140 (w0 : World) (Φ : Ctx) (N : List Ent) (hΦ : ∀ w, Mem w0 w N → Φ w) (A0_ : Option Addr) (c0_ : Nat) (a0 : List (BitVec 8)) (res0 : It) (va0 : View Φ A0_ a0.length c0_ 1 (u8s a0)) (hf : rlp_Text a0 = some res0) : DoesG Try.prog 19 [.slice A0_ a0.length c0_] w0 [] N (fun v G => ∃ B : List Ent, ∃ cr0 : List Value, (ItRd (More w0 Φ B) cr0 res0) ∧ v = .agg cr0.toArray ∧ G = B) := by
 unfold rlp_Text at hf
 replace va0 := va0.mono (Ψ := More w0 Φ []) (fun w q => q.1)
 have m1 := va0.mx
 refine DoesG.enter Try.func19 rfl Try.ntmps19 rfl (M := (([] ++ N))) rfl (Z4 (Z2 (OW.alloc (l := [.bool false, .slice none 0 0, .slice none 0 0]) rfl rfl rfl (fun b2 => (Z6 (Z1 (Z4 (Z2 (Z0 (Z3 rfl) rfl ?_)))))))))
 obtain ⟨x4, hx3, hf⟩ := Z100 hf
 refine Z12 Try.call36 rfl (rlp_clone_does w0 (More w0 Φ []) ((some b2, blk [.bool false, .slice none 0 0, .slice none 0 0] 30) :: ([] ++ N)) (fun w m => Z103 hΦ 1 m rfl) A0_ c0_ a0 x4 va0 hx3) rfl rfl ?_
 rintro L10 M11 ⟨B5, ob6, c7, r8, o9, e12, e13⟩
 rw [e12, e13]
 clear e12 e13 L10 M11
 refine Z20 (M' := ((ob6, blk ((u8s x4) ++ r8) 5) :: (some b2, blk [.bool false, .slice none 0 0, .slice none 0 0] 30) :: ((B5 ++ []) ++ N))) (fun w m => by have h := Z107 (A := B5) m 1 1 rfl rfl; exact h) ?_
 have gq1 : ∀ w, More w0 Φ (B5 ++ []) w → More w0 Φ [] w := fun w q => More.mono (fun w m => (m).appR) q
 replace va0 := va0.mono gq1
 have m14 := o9.mx
 refine Z0 (Z111 (l := [.bool false, .slice none 0 0, .slice none 0 0]) (cs := [.bool false, sl ob6 0 x4.length c7, .slice none 0 0]) [(1, [sl ob6 0 x4.length c7])] rfl rfl rfl rfl rfl rfl rfl) rfl (OW.rot1 ?_)
 refine Z28 (Z104 rfl rfl rfl (by intro u hu; simp at hu; rcases hu with rfl | rfl | rfl <;> rfl) rfl rfl rfl) ?_
 refine Z6 (Z1 (CW.ret (QW.mem (M' := (some b2, blk [.bool false, sl ob6 0 x4.length c7, .slice none 0 0] 30) :: (((ob6, blk ((u8s x4) ++ r8) 5) :: (B5 ++ [])) ++ N)) (fun w m => m.pick [0, 1] 2 rfl rfl) ?_)))
 have gq2 : ∀ w, More w0 Φ ((ob6, blk ((u8s x4) ++ r8) 5) :: (B5 ++ [])) w → More w0 Φ (B5 ++ []) w := fun w q => More.mono (fun w m => (m).tail) q
 replace va0 := va0.mono gq2
 have v15 : View (More w0 Φ ((ob6, blk ((u8s x4) ++ r8) 5) :: (B5 ++ []))) ((ob6).map fun k => ⟨k, 0, none⟩) x4.length c7 1 (u8s x4) := o9.view (by decide) (fun w q => q.2.sublist (List.singleton_sublist.2 (List.mem_cons_self ..)))
 have e0 := Zi hf
 subst e0
 have v16 : View (More w0 Φ ((ob6, blk ((u8s x4) ++ r8) 5) :: (B5 ++ []))) none ([] : List (It)).length 0 3 [] := View.nil
 refine Z102 (rs := [.cell 2 30]) ([.agg [.bool false, .slice ((ob6).map fun k => ⟨k, 0, none⟩) x4.length c7, .slice none 0 0].toArray]) (((ob6, blk ((u8s x4) ++ r8) 5) :: (B5 ++ []))) rfl ?_ rfl ?_ ?_ _ (.inl rfl)
 ·exact ⟨⟨_, _, _, _, rfl, Zh, rfl, rfl, rfl, rfl⟩, trivial⟩
 ·exact ⟨((ob6, blk ((u8s x4) ++ r8) 5) :: (B5 ++ [])), [.bool false, .slice ((ob6).map fun k => ⟨k, 0, none⟩) x4.length c7, .slice none 0 0], (ItRd.mk v15 v16 (Reps.nil)), rfl, rfl⟩
 ·exact (fun w m => m.pick [] 1 rfl rfl)
theorem rlp_odd_does (w0 : World) (Φ : Ctx) (N : List Ent) (hΦ : ∀ w, Mem w0 w N → Φ w) (cs0_ : List Value) (a0 : It) (res0 : Bool) (ha0 : ItRd Φ cs0_ a0) (hf : rlp_odd a0 = some res0) : DoesG Try.prog 52 [.agg cs0_.toArray] w0 [] N (fun v G => v = .bool res0) := by
 unfold rlp_odd at hf
 replace ha0 := ItRd.mono (Ψ := More w0 Φ []) (fun w q => q.1) _ _ ha0
 have h10 := ha0
 obtain ⟨A1, c2, A4, c5, cs7, e9, v3, v6, h8⟩ := ItRd.opn ha0
 subst e9
 have m11 := v3.mx
 have m12 := v6.mx
 refine DoesG.enter Try.func52 rfl Try.ntmps52 rfl (M := (([] ++ N))) rfl (Z4 (Z2 (OW.boxA rfl rfl (fun b13 => (Z0 (Z5 rfl) rfl (Z6 (Z1 (Z4 ?_))))))))
 obtain ⟨q14, hq15, hf⟩ := Z100 hf
 refine Z115 (fun L' M' => ∃ p16 : Bool, q14 = p16 ∧ L' = [(2, .bool (p16))] ∧ M' = (([] ++ N))) ?_ ?_
 ·rintro L18 M19 ⟨p16, e17, e20, e21⟩
  rw [e20, e21]
  clear e20 e21 L18 M19
  clear hq15
  rw [e17] at hf
  clear e17
  try dsimp only at hf
  refine Z1 (CW.ret ?_)
  have e0 := Zi hf
  subst e0
  refine Z102 (rs := [.tmp 2]) ([.bool (p16)]) ([]) rfl ?_ rfl ?_ ?_ _ (.inl rfl)
  ·exact ⟨rfl, trivial⟩
  ·exact rfl
  ·exact (fun w m => m)
 ·skip
  refine Z2 (Z0 (Z30 rfl rfl rfl rfl) rfl (Z0 (Z29 rfl Zh rfl rfl rfl rfl) rfl (Z0 (Z3 rfl) rfl ?_)))
  by_cases h22 : a0.list = true
  ·replace hq15 := if_t hq15 h22
   refine Z7 (.bool true) (congrArg Value.bool (h22)) (Z24 rfl (Z0 (Z30 rfl rfl rfl rfl) rfl (Z24 rfl (Z0 (Z29 rfl Zh rfl rfl rfl rfl) rfl (Z24 rfl (Z0 (RV.len rfl rfl) rfl (Z24 rfl ?_)))))))
   refine Z0 (RV.gtr rfl rfl) rfl (Z7 (.bool (decide (0 < a0.data.length))) (congrArg Value.bool (decide_eq_decide.2 (by omega))) (Z0 (Z112 rfl rfl rfl) rfl (Z0 (Z3 rfl) rfl ?_)))
   by_cases h23 : 0 < a0.data.length
   ·replace hq15 := if_t hq15 h23
    refine Z7 (.bool true) (congrArg Value.bool (decide_eq_true h23)) (Z23 rfl rfl rfl (Z23 rfl rfl rfl (Z23 rfl rfl rfl (Z23 rfl rfl rfl (Z23 rfl rfl rfl (Z23 rfl rfl rfl (Z23 rfl rfl rfl ?_)))))))
    refine Z23 rfl rfl rfl (Z23 rfl rfl rfl (Z0 (Z112 rfl rfl rfl) rfl (Z0 (Z5 rfl) rfl (Z6 ?_))))
    exact QW.join ⟨true, (Zi hq15).symm, rfl, rfl⟩ ⟨rfl, trivial⟩ (fun w m => m.pick [] 1 rfl rfl)
   ·replace hq15 := if_f hq15 h23
    refine Z7 (.bool false) (congrArg Value.bool (decide_eq_false h23)) (Z24 rfl (Z0 (Z30 rfl rfl rfl rfl) rfl (Z24 rfl (Z0 (Z29 rfl Zh rfl rfl rfl rfl) rfl (Z24 rfl (Z0 (RV.not rfl) rfl (Z24 rfl ?_)))))))
    refine Z0 (Z3 rfl) rfl ?_
    by_cases h24 : a0.list = true
    ·replace hq15 := if_t hq15 h24
     refine Z7 (.bool false) (congrArg Value.bool (congrArg (fun b => !b) (h24))) (Z23 rfl rfl rfl (Z23 rfl rfl rfl (Z23 rfl rfl rfl (Z23 rfl rfl rfl (Z24 rfl (Z0 (Z108 rfl rfl rfl) rfl (Z0 (Z108 rfl rfl rfl) rfl ?_)))))))
     refine Z0 (Z5 rfl) rfl (Z6 ?_)
     exact QW.join ⟨false, (Zi hq15).symm, rfl, rfl⟩ ⟨rfl, trivial⟩ (fun w m => m.pick [] 1 rfl rfl)
    ·replace hq15 := if_f hq15 h24
     refine Z7 (.bool true) (congrArg Value.bool (congrArg (fun b => !b) (Bool.eq_false_iff.2 h24))) (Z24 rfl (Z0 (Z30 rfl rfl rfl rfl) rfl (Z24 rfl (Z0 (Z29 rfl Zh rfl rfl rfl rfl) rfl (Z24 rfl (Z0 (RV.len rfl rfl) rfl (Z24 rfl ?_)))))))
     refine Z0 (RV.gtr rfl rfl) rfl (Z7 (.bool (decide (0 < a0.items.length))) (congrArg Value.bool (decide_eq_decide.2 (by omega))) (Z24 rfl (Z0 (Z112 rfl rfl rfl) rfl (Z0 (Z108 rfl rfl rfl) rfl (Z0 (Z5 rfl) rfl (Z6 ?_))))))
     exact QW.join ⟨(decide (0 < a0.items.length)), (Zi hq15).symm, rfl, rfl⟩ ⟨rfl, trivial⟩ (fun w m => m.pick [] 1 rfl rfl)
  ·replace hq15 := if_f hq15 h22
   refine Z7 (.bool false) (congrArg Value.bool (Bool.eq_false_iff.2 h22)) (Z23 rfl rfl rfl (Z23 rfl rfl rfl (Z23 rfl rfl rfl (Z23 rfl rfl rfl (Z0 (Z108 rfl rfl rfl) rfl (Z0 (Z3 rfl) rfl (Z24 rfl ?_)))))))
   refine Z0 (Z30 rfl rfl rfl rfl) rfl (Z24 rfl (Z0 (Z29 rfl Zh rfl rfl rfl rfl) rfl (Z24 rfl (Z0 (RV.not rfl) rfl (Z24 rfl (Z0 (Z3 rfl) rfl ?_))))))
   by_cases h25 : a0.list = true
   ·replace hq15 := if_t hq15 h25
    refine Z7 (.bool false) (congrArg Value.bool (congrArg (fun b => !b) (h25))) (Z23 rfl rfl rfl (Z23 rfl rfl rfl (Z23 rfl rfl rfl (Z23 rfl rfl rfl (Z24 rfl (Z0 (Z108 rfl rfl rfl) rfl (Z0 (Z108 rfl rfl rfl) rfl ?_)))))))
    refine Z0 (Z5 rfl) rfl (Z6 ?_)
    exact QW.join ⟨false, (Zi hq15).symm, rfl, rfl⟩ ⟨rfl, trivial⟩ (fun w m => m.pick [] 1 rfl rfl)
   ·replace hq15 := if_f hq15 h25
    refine Z7 (.bool true) (congrArg Value.bool (congrArg (fun b => !b) (Bool.eq_false_iff.2 h25))) (Z24 rfl (Z0 (Z30 rfl rfl rfl rfl) rfl (Z24 rfl (Z0 (Z29 rfl Zh rfl rfl rfl rfl) rfl (Z24 rfl (Z0 (RV.len rfl rfl) rfl (Z24 rfl ?_)))))))
    refine Z0 (RV.gtr rfl rfl) rfl (Z7 (.bool (decide (0 < a0.items.length))) (congrArg Value.bool (decide_eq_decide.2 (by omega))) (Z24 rfl (Z0 (Z112 rfl rfl rfl) rfl (Z0 (Z108 rfl rfl rfl) rfl (Z0 (Z5 rfl) rfl (Z6 ?_))))))
    exact QW.join ⟨(decide (0 < a0.items.length)), (Zi hq15).symm, rfl, rfl⟩ ⟨rfl, trivial⟩ (fun w m => m.pick [] 1 rfl rfl)
theorem waybillref07_odd_does (w0 : World) (Φ : Ctx) (N : List Ent) (hΦ : ∀ w, Mem w0 w N → Φ w) (cs0_ : List Value) (a0 : It) (res0 : Bool) (ha0 : ItRd Φ cs0_ a0) (hf : waybillref07_odd a0 = some res0) : DoesG Try.prog 55 [.agg cs0_.toArray] w0 [] N (fun v G => v = .bool res0) := by
 unfold waybillref07_odd at hf
 replace ha0 := ItRd.mono (Ψ := More w0 Φ []) (fun w q => q.1) _ _ ha0
 have h10 := ha0
 obtain ⟨A1, c2, A4, c5, cs7, e9, v3, v6, h8⟩ := ItRd.opn ha0
 subst e9
 have m11 := v3.mx
 have m12 := v6.mx
 refine DoesG.enter Try.func55 rfl Try.ntmps55 rfl (M := (([] ++ N))) rfl (Z4 (Z2 (OW.boxA rfl rfl (fun b13 => (Z0 (Z5 rfl) rfl (Z6 (Z1 (Z4 (Z4 (Z2 (Z0 (Z30 rfl rfl rfl rfl) rfl (Z0 (Z29 rfl Zh rfl rfl rfl rfl) rfl (Z6 (Z1 ?_))))))))))))))
 by_cases h14 : a0.list = true
 ·replace hf := if_t hf h14
  refine Z13 rfl (h14) (Z4 (Z2 (Z0 (Z30 rfl rfl rfl rfl) rfl (Z0 (Z29 rfl Zh rfl rfl rfl rfl) rfl (Z0 (RV.len rfl rfl) rfl (Z0 (RV.gtr rfl rfl) rfl (Z7 (.bool (decide (0 < a0.data.length))) (congrArg Value.bool (decide_eq_decide.2 (by omega))) (Z0 (Z5 rfl) rfl ?_))))))))
  refine Z6 (Z1 (CW.ret (Z8 ?_)))
  have e0 := Zi hf
  subst e0
  refine Z102 (rs := [.tmp 2]) ([.bool (decide (0 < a0.data.length))]) ((some b13, blk [.bool (a0.list), .slice A1 a0.data.length c2, .slice A4 a0.items.length c5] 30) :: []) rfl ?_ rfl ?_ ?_ _ (.inl rfl)
  ·exact ⟨rfl, trivial⟩
  ·exact rfl
  ·exact (fun w m => m)
 ·replace hf := if_f hf h14
  refine Z14 rfl (Bool.eq_false_iff.2 h14) (CW.skip (Z1 (Z4 (Z2 (Z0 (Z30 rfl rfl rfl rfl) rfl (Z0 (Z29 rfl Zh rfl rfl rfl rfl) rfl (Z0 (RV.len rfl rfl) rfl (Z0 (RV.gtr rfl rfl) rfl (Z7 (.bool (decide (0 < a0.items.length))) (congrArg Value.bool (decide_eq_decide.2 (by omega))) (Z0 (Z5 rfl) rfl ?_))))))))))
  refine Z6 (Z1 (CW.ret ?_))
  have e0 := Zi hf
  subst e0
  refine Z102 (rs := [.tmp 2]) ([.bool (decide (0 < a0.items.length))]) ((some b13, blk [.bool (a0.list), .slice A1 a0.data.length c2, .slice A4 a0.items.length c5] 30) :: []) rfl ?_ rfl ?_ ?_ _ (.inl rfl)
  ·exact ⟨rfl, trivial⟩
  ·exact rfl
  ·exact (fun w m => m)
theorem rlp_kind_does (w0 : World) (Φ : Ctx) (N : List Ent) (hΦ : ∀ w, Mem w0 w N → Φ w) (cs0_ : List Value) (a0 : It) (a1 : Bool) (res0 : Nat) (ha0 : ItRd Φ cs0_ a0) (hf : rlp_kind a0 a1 = some res0) : DoesG Try.prog 51 [.agg cs0_.toArray, .bool (a1)] w0 [] N (fun v G => (res0 ≤ 9223372036854775807) ∧ v = .int .i64 ((res0 : Nat) : Int)) := by
 unfold rlp_kind at hf
 replace ha0 := ItRd.mono (Ψ := More w0 Φ []) (fun w q => q.1) _ _ ha0
 have h10 := ha0
 obtain ⟨A1, c2, A4, c5, cs7, e9, v3, v6, h8⟩ := ItRd.opn ha0
 subst e9
 have m11 := v3.mx
 have m12 := v6.mx
 refine DoesG.enter Try.func51 rfl Try.ntmps51 rfl (M := (([] ++ N))) rfl (Z4 (Z2 (OW.boxA rfl rfl (fun b13 => (Z0 (Z5 rfl) rfl (Z6 (Z1 (Z4 (CW.block (Z4 (Z2 (Z0 (Z22 rfl Zh rfl rfl rfl rfl rfl) rfl ?_))))))))))))
 obtain ⟨x15, hx14, hf⟩ := Z100 hf
 refine Z12 Try.call52 rfl (rlp_odd_does w0 (More w0 Φ []) ((some b13, blk [.bool (a0.list), .slice A1 a0.data.length c2, .slice A4 a0.items.length c5] 30) :: ([] ++ N)) (fun w m => Z103 hΦ 1 m rfl) [.bool (a0.list), .slice A1 a0.data.length c2, .slice A4 a0.items.length c5] a0 x15 h10 hx14) rfl rfl ?_
 rintro _ G16 rfl
 refine Z20 (M' := ((some b13, blk [.bool (a0.list), .slice A1 a0.data.length c2, .slice A4 a0.items.length c5] 30) :: ([] ++ N))) (fun w m => m.appR) (Z0 (Z5 rfl) rfl (Z6 (Z1 ?_)))
 by_cases h18 : x15 = true
 ·replace hf := if_t hf h18
  refine Z13 rfl (h18) (Z4 (Z2 (Z0 (Z5 rfl) rfl (Z6 (Z1 (CW.ret (Z16 (Z8 ?_))))))))
  have e0 := Zi hf
  subst e0
  refine Z102 (rs := [.tmp 4]) ([.int .i64 (78 : Int)]) ((some b13, blk [.bool (a0.list), .slice A1 a0.data.length c2, .slice A4 a0.items.length c5] 30) :: []) rfl ?_ rfl ?_ ?_ _ (.inl rfl)
  ·exact ⟨rfl, trivial⟩
  ·exact ⟨(by omega), rfl⟩
  ·exact (fun w m => m)
 ·replace hf := if_f hf h18
  refine Z14 rfl (Bool.eq_false_iff.2 h18) (Z4 (Z2 (Z0 (Z30 rfl rfl rfl rfl) rfl (Z0 (Z29 rfl Zh rfl rfl rfl rfl) rfl (Z0 (Z3 rfl) rfl (Z0 (RV.neqB rfl rfl rfl) rfl (Z7 (.bool (!decide ((a0.list) = (a1)))) (by first | rfl | (congr 1) | simp) (Z0 (Z5 rfl) rfl ?_))))))))
  refine Z6 (Z1 ?_)
  by_cases h19 : (a0.list) = (a1)
  ·replace hf := if_t hf h19
   refine Z14 rfl (congrArg (fun b => !b) (decide_eq_true h19)) (CW.skip (Z27 (Z1 (Z4 (Z2 (Z0 (Z5 rfl) rfl (Z6 (Z1 (CW.ret ?_)))))))))
   have e0 := Zi hf
   subst e0
   refine Z102 (rs := [.tmp 4]) ([.int .i64 (0 : Int)]) ((some b13, blk [.bool (a0.list), .slice A1 a0.data.length c2, .slice A4 a0.items.length c5] 30) :: []) rfl ?_ rfl ?_ ?_ _ (.inl rfl)
   ·exact ⟨rfl, trivial⟩
   ·exact ⟨(by omega), rfl⟩
   ·exact (fun w m => m)
  ·replace hf := if_f hf h19
   refine Z13 rfl (congrArg (fun b => !b) (decide_eq_false h19)) (Z4 (Z2 (Z0 (Z5 rfl) rfl (Z6 (Z1 (CW.ret (Z16 (Z8 ?_))))))))
   have e0 := Zi hf
   subst e0
   refine Z102 (rs := [.tmp 4]) ([.int .i64 (75 : Int)]) ((some b13, blk [.bool (a0.list), .slice A1 a0.data.length c2, .slice A4 a0.items.length c5] 30) :: []) rfl ?_ rfl ?_ ?_ _ (.inl rfl)
   ·exact ⟨rfl, trivial⟩
   ·exact ⟨(by omega), rfl⟩
   ·exact (fun w m => m)
theorem math_bits_Len64_does (w0 : World) (Φ : Ctx) (N : List Ent) (hΦ : ∀ w, Mem w0 w N → Φ w) (a0 : BitVec 64) (res0 : Nat) (hf : math_bits_Len64 a0 = some res0) : DoesG Try.prog 61 [U64 a0] w0 [] N (fun v G => (res0 ≤ 9223372036854775807) ∧ v = .int .i64 ((res0 : Nat) : Int)) := by
 unfold math_bits_Len64 at hf
 refine DoesG.enter Try.func61 rfl Try.ntmps61 rfl (M := (([] ++ N))) rfl (Z4 (Z2 (Z0 (Z5 rfl) rfl (Z6 (Z1 (Z4 (Z4 (Z2 (Z0 (Z3 rfl) rfl (Z0 (RV.geq rfl rfl) rfl (Z7 (.bool (decide (4294967296 ≤ a0.toNat))) (congrArg Value.bool (decide_eq_decide.2 (by first | exact Int.ofNat_le | exact Int.ofNat_lt | omega | (simp; omega) | simp))) (Z6 (Z1 ?_)))))))))))))
 obtain ⟨q1, hq2, hf⟩ := Z100 hf
 refine Z115 (fun L' M' => ∃ w3 : BitVec 64, ∃ n4 : Nat, q1 = (w3, n4) ∧ (n4 ≤ 9223372036854775807) ∧ L' = [(0, U64 w3), (2, .int .i64 ((n4 : Nat) : Int))] ∧ M' = (([] ++ N))) ?_ ?_
 ·rintro L7 M8 ⟨w3, n4, e6, b5, e9, e10⟩
  rw [e9, e10]
  clear e9 e10 L7 M8
  clear hq2
  rw [e6] at hf
  clear e6
  try dsimp only at hf
  refine Z1 (Z4 (Z4 (Z2 (Z0 (Z3 rfl) rfl (Z0 (RV.geq rfl rfl) rfl (Z7 (.bool (decide (65536 ≤ w3.toNat))) (congrArg Value.bool (decide_eq_decide.2 (by first | exact Int.ofNat_le | exact Int.ofNat_lt | omega | (simp; omega) | simp))) (Z6 (Z1 ?_))))))))
  obtain ⟨q11, hq12, hf⟩ := Z100 hf
  refine Z115 (fun L' M' => ∃ w13 : BitVec 64, ∃ n14 : Nat, q11 = (w13, n14) ∧ (n14 ≤ 9223372036854775807) ∧ L' = [(0, U64 w13), (2, .int .i64 ((n14 : Nat) : Int))] ∧ M' = (([] ++ N))) ?_ ?_
  ·rintro L17 M18 ⟨w13, n14, e16, b15, e19, e20⟩
   rw [e19, e20]
   clear e19 e20 L17 M18
   clear hq12
   rw [e16] at hf
   clear e16
   try dsimp only at hf
   refine Z1 (Z4 (Z4 (Z2 (Z0 (Z3 rfl) rfl (Z0 (RV.geq rfl rfl) rfl (Z7 (.bool (decide (256 ≤ w13.toNat))) (congrArg Value.bool (decide_eq_decide.2 (by first | exact Int.ofNat_le | exact Int.ofNat_lt | omega | (simp; omega) | simp))) (Z6 (Z1 ?_))))))))
   obtain ⟨q21, hq22, hf⟩ := Z100 hf
   refine Z115 (fun L' M' => ∃ w23 : BitVec 64, ∃ n24 : Nat, q21 = (w23, n24) ∧ (n24 ≤ 9223372036854775807) ∧ L' = [(0, U64 w23), (2, .int .i64 ((n24 : Nat) : Int))] ∧ M' = (([] ++ N))) ?_ ?_
   ·rintro L27 M28 ⟨w23, n24, e26, b25, e29, e30⟩
    rw [e29, e30]
    clear e29 e30 L27 M28
    clear hq22
    rw [e26] at hf
    clear e26
    try dsimp only at hf
    refine Z1 (Z4 (Z2 (Z0 (Z3 rfl) rfl (Z0 (Z3 rfl) rfl (Z0 (RV.conv64_8 rfl (by first | rfl | exact lit64 _ rfl) rfl rfl) rfl (Z0 (RV.indexStr (i := ((w23.setWidth 8)).toNat) (BitVec.ofNat 8 (lenB (w23.setWidth 8))) rfl rfl rfl (len_table _)) rfl (Z0 (RV.conv8_i rfl (by first | rfl | exact lit8 _ rfl) rfl rfl) rfl ?_)))))))
    have m31 := ((BitVec.ofNat 8 (lenB (w23.setWidth 8)))).isLt
    obtain ⟨g32, hf⟩ := Z116 hf
    refine Z0 (RV.add rfl rfl (by omega)) rfl (Z7 (.int .i64 (((n24 + (BitVec.ofNat 8 (lenB (w23.setWidth 8))).toNat) : Nat) : Int)) (by first | rfl | (congr 1) | (congr 1; omega)) (Z0 (Z5 rfl) rfl (Z6 (Z1 (CW.ret ?_)))))
    have e0 := Zi hf
    subst e0
    refine Z102 (rs := [.tmp 2]) ([.int .i64 (((n24 + (BitVec.ofNat 8 (lenB (w23.setWidth 8))).toNat) : Nat) : Int)]) ([]) rfl ?_ rfl ?_ ?_ _ (.inl rfl)
    ·exact ⟨rfl, trivial⟩
    ·exact ⟨(by omega), rfl⟩
    ·exact (fun w m => m)
   ·skip
    by_cases h33 : 256 ≤ w13.toNat
    ·replace hq22 := if_t hq22 h33
     refine Z13 rfl (decide_eq_true h33) (Z4 (Z2 (Z0 (Z3 rfl) rfl ?_)))
     refine Z0 (RV.shr64 (s := 8) rfl (by first | rfl | exact lit64 _ rfl) rfl (by first | rfl | (simp [U64]; done))) rfl ?_
     refine Z0 (Z5 rfl) rfl (Z6 (Z1 (Z2 (Z0 (Z3 rfl) rfl ?_))))
     obtain ⟨g34, hq22⟩ := Z116 hq22
     refine Z0 (RV.add rfl rfl (by omega)) rfl (Z7 (.int .i64 (((n14 + 8) : Nat) : Int)) (by first | rfl | (congr 1) | (congr 1; omega)) (Z0 (Z5 rfl) rfl (Z6 ?_)))
     exact QW.join ⟨(w13 >>> 8), (n14 + 8), (Zi hq22).symm, (by omega), rfl, rfl⟩ ⟨rfl, rfl, trivial⟩ (fun w m => m.pick [] 0 rfl rfl)
    ·replace hq22 := if_f hq22 h33
     refine Z14 rfl (decide_eq_false h33) (CW.skip ?_)
     exact QW.join ⟨w13, n14, (Zi hq22).symm, (by omega), rfl, rfl⟩ ⟨rfl, rfl, trivial⟩ (fun w m => m.pick [] 0 rfl rfl)
  ·skip
   by_cases h35 : 65536 ≤ w3.toNat
   ·replace hq12 := if_t hq12 h35
    refine Z13 rfl (decide_eq_true h35) (Z4 (Z2 (Z0 (Z3 rfl) rfl ?_)))
    refine Z0 (RV.shr64 (s := 16) rfl (by first | rfl | exact lit64 _ rfl) rfl (by first | rfl | (simp [U64]; done))) rfl ?_
    refine Z0 (Z5 rfl) rfl (Z6 (Z1 (Z2 (Z0 (Z3 rfl) rfl ?_))))
    obtain ⟨g36, hq12⟩ := Z116 hq12
    refine Z0 (RV.add rfl rfl (by omega)) rfl (Z7 (.int .i64 (((n4 + 16) : Nat) : Int)) (by first | rfl | (congr 1) | (congr 1; omega)) (Z0 (Z5 rfl) rfl (Z6 ?_)))
    exact QW.join ⟨(w3 >>> 16), (n4 + 16), (Zi hq12).symm, (by omega), rfl, rfl⟩ ⟨rfl, rfl, trivial⟩ (fun w m => m.pick [] 0 rfl rfl)
   ·replace hq12 := if_f hq12 h35
    refine Z14 rfl (decide_eq_false h35) (CW.skip ?_)
    exact QW.join ⟨w3, n4, (Zi hq12).symm, (by omega), rfl, rfl⟩ ⟨rfl, rfl, trivial⟩ (fun w m => m.pick [] 0 rfl rfl)
 ·skip
  by_cases h37 : 4294967296 ≤ a0.toNat
  ·replace hq2 := if_t hq2 h37
   refine Z13 rfl (decide_eq_true h37) (Z4 (Z2 (Z0 (Z3 rfl) rfl ?_)))
   refine Z0 (RV.shr64 (s := 32) rfl (by first | rfl | exact lit64 _ rfl) rfl (by first | rfl | (simp [U64]; done))) rfl ?_
   refine Z0 (Z5 rfl) rfl (Z6 (Z1 (Z2 (Z0 (Z5 rfl) rfl (Z6 ?_)))))
   exact QW.join ⟨(a0 >>> 32), 32, (Zi hq2).symm, (by omega), rfl, rfl⟩ ⟨rfl, rfl, trivial⟩ (fun w m => m.pick [] 0 rfl rfl)
  ·replace hq2 := if_f hq2 h37
   refine Z14 rfl (decide_eq_false h37) (CW.skip ?_)
   exact QW.join ⟨a0, 0, (Zi hq2).symm, (by omega), rfl, rfl⟩ ⟨rfl, rfl, trivial⟩ (fun w m => m.pick [] 0 rfl rfl)
theorem u256_Len_does (w0 : World) (Φ : Ctx) (N : List Ent) (hΦ : ∀ w, Mem w0 w N → Φ w) (a0 : Vector (BitVec 64) 4) (res0 : Int) (hf : u256_Len a0 = some res0) : DoesG Try.prog 59 [.agg (u64s a0.toList).toArray] w0 [] N (fun v G => (-9223372036854775808 ≤ res0 ∧ res0 ≤ 9223372036854775807) ∧ v = .int .i64 res0) := by
 unfold u256_Len at hf
 refine DoesG.enter Try.func59 rfl Try.ntmps59 rfl (M := (([] ++ N))) rfl (Z4 (Z2 (OW.boxA rfl rfl (fun b1 => (Z0 (Z5 rfl) rfl (Z6 (Z1 (Z4 (Z4 (Z2 (Z0 (Z5 rfl) rfl (Z6 (Z1 ?_)))))))))))))
 obtain ⟨q2, hq3, hf⟩ := Z100 hf
 refine Z115 (fun L' M' => q2 = Lp.go () ∧ L' = [] ∧ M' = (([] ++ N))) ?_ ?_
 ·rintro L5 M6 ⟨e4, e7, e8⟩
  rw [e7, e8]
  clear e7 e8 L5 M6
  clear hq3
  rw [e4] at hf
  clear e4
  try dsimp only at hf
  refine Z1 (Z4 (Z2 (Z0 (Z5 rfl) rfl (Z6 (Z1 (CW.ret ?_))))))
  have e0 := Zi hf
  subst e0
  refine Z102 (rs := [.tmp 2]) ([.int .i64 (0 : Int)]) ([]) rfl ?_ rfl ?_ ?_ _ (.inl rfl)
  ·exact ⟨rfl, trivial⟩
  ·exact ⟨(by omega), rfl⟩
  ·exact (fun w m => m)
 ·skip
  refine CW.block (Z114 (fun k L' M' => ∃ z9 : Int, (u256_Len.l1 a0 k z9) = some q2 ∧ (-9223372036854775808 ≤ z9 ∧ z9 ≤ 9223372036854775807) ∧ L' = [(1, ptr (some b1) 0), (3, .int .i64 z9)] ∧ M' = ((some b1, blk (u64s a0.toList) 91) :: ([] ++ N))) (k0 := 5) ⟨(3 : Int), hq3, (by omega), rfl, rfl⟩ ⟨rfl, rfl, trivial⟩ (fun w m => m.pick [0] 1 rfl rfl) ?_)
  clear hq3
  rintro k11 L14 M15 ⟨z9, hl12, b10, e16, e17⟩
  rw [e16, e17]
  clear e16 e17 L14 M15
  rcases k11 with _ | k11
  ·rw [u256_Len.l1] at hl12; cases hl12
  rw [u256_Len.l1] at hl12
  refine Z4 (Z4 (Z2 (Z0 (Z3 rfl) rfl (Z0 (RV.geq rfl rfl) rfl (Z6 (Z1 ?_))))))
  by_cases h18 : (0 : Int) ≤ z9
  ·replace hl12 := if_t hl12 h18
   refine Z13 rfl (decide_eq_true h18) (CW.skip (Z1 (Z4 (CW.block (Z4 (Z2 (Z0 (Z3 rfl) rfl ?_)))))))
   obtain ⟨g19, hl12⟩ := Z116 hl12
   refine Z0 (RV.idx_a ((z9).toNat) rfl rfl (by omega) rfl rfl (by omega)) rfl ?_
   obtain ⟨x20, hx21, hl12⟩ := Z100 hl12
   refine Z0 (Z29 rfl Zh rfl rfl rfl (by rw [Nat.zero_add]; exact u64s_at (vat hx21))) rfl ?_
   refine Z0 (RV.neq64 rfl (by first | rfl | exact lit64 _ rfl) rfl (by first | rfl | exact lit64 _ rfl)) rfl (Z6 (Z1 ?_))
   by_cases h22 : x20 = 0#64
   ·replace hl12 := if_t hl12 h22
    refine Z14 rfl (congrArg (fun b => !b) (decide_eq_true h22)) (CW.skip (Z27 (Z1 (Z2 (Z0 (Z3 rfl) rfl ?_)))))
    obtain ⟨g23, hl12⟩ := Z116 hl12
    refine Z0 (RV.sub rfl rfl (by omega)) rfl (Z0 (Z5 rfl) rfl (Z6 ?_))
    exact Z109 (k' := k11) (Nat.lt_succ_self _) ⟨(z9 - (1 : Int)), hl12, (by omega), rfl, rfl⟩ ⟨rfl, rfl, trivial⟩ (fun w m => m.pick [0] 1 rfl rfl)
   ·replace hl12 := if_f hl12 h22
    refine Z13 rfl (congrArg (fun b => !b) (decide_eq_false h22)) (Z4 (Z2 (Z0 (Z3 rfl) rfl ?_)))
    obtain ⟨g24, hl12⟩ := Z116 hl12
    refine Z0 (RV.mul rfl rfl (by omega)) rfl (Z0 (Z3 rfl) rfl (Z0 (RV.idx_a ((z9).toNat) rfl rfl (by omega) rfl rfl (by omega)) rfl ?_))
    obtain ⟨x25, hx26, hl12⟩ := Z100 hl12
    refine Z0 (Z29 rfl Zh rfl rfl rfl (by rw [Nat.zero_add]; exact u64s_at (vat hx26))) rfl ?_
    obtain ⟨x28, hx27, hl12⟩ := Z100 hl12
    refine Z12 Try.call61 rfl (math_bits_Len64_does w0 (More w0 Φ []) ((some b1, blk (u64s a0.toList) 91) :: ([] ++ N)) (fun w m => Z103 hΦ 1 m rfl) x25 x28 hx27) rfl rfl ?_
    rintro _ G30 ⟨b29, rfl⟩
    refine Z20 (M' := ((some b1, blk (u64s a0.toList) 91) :: ([] ++ N))) (fun w m => m.appR) ?_
    obtain ⟨g32, hl12⟩ := Z116 hl12
    refine Z0 (RV.add rfl rfl (by omega)) rfl (Z0 (Z5 rfl) rfl (Z6 (Z1 (CW.ret (Z16 (Z8 (Z8 (Z16 (Z8 ?_)))))))))
    have hc := Zi hl12
    subst hc
    try dsimp only at hf
    refine Z8 ?_
    have e0 := Zi hf
    subst e0
    refine Z102 (rs := [.tmp 2]) ([.int .i64 (((64 : Int) * z9) + ((x28 : Nat) : Int))]) ((some b1, blk (u64s a0.toList) 91) :: []) rfl ?_ rfl ?_ ?_ _ (.inl rfl)
    ·exact ⟨rfl, trivial⟩
    ·exact ⟨(by omega), rfl⟩
    ·exact (fun w m => m)
  ·replace hl12 := if_f hl12 h18
   refine Z14 rfl (decide_eq_false h18) (CW.exit (Z9 (Z9 (Z15 ?_))))
   exact QW.join ⟨(Zi hl12).symm, rfl, rfl⟩ trivial (fun w m => m.pick [] 1 rfl rfl)
theorem u256_Put_does (w0 : World) (Φ : Ctx) (N : List Ent) (hΦ : ∀ w, Mem w0 w N → Φ w) (a0 : Vector (BitVec 64) 4) (res0 : Vector (BitVec 8) 32) (hf : u256_Put a0 = some res0) : DoesG Try.prog 58 [.agg (u64s a0.toList).toArray] w0 [] N (fun v G => v = .agg (u8s res0.toList).toArray) := by
 unfold u256_Put at hf
 refine DoesG.enter Try.func58 rfl Try.ntmps58 rfl (M := (([] ++ N))) rfl (Z4 (Z2 (OW.boxA rfl rfl (fun b1 => (OW.alloc (l := (u8s (Vector.replicate 32 0#8).toList)) rfl (by rw [Vector.toList_replicate, ← Z135]; rfl) rfl (fun b2 => (Z6 (Z1 (Z4 (Z2 (OW.alloc (l := (u8s (Vector.replicate 32 0#8).toList)) rfl (by rw [Vector.toList_replicate, ← Z135]; rfl) rfl (fun b3 => (Z6 (Z1 (Z4 (Z4 (Z2 (Z0 (Z3 rfl) rfl ?_))))))))))))))))))
 refine Z6 (Z1 ?_)
 obtain ⟨q4, hq5, hf⟩ := Z100 hf
 refine Z115 (fun L' M' => ∃ w6 : Vector (BitVec 8) 32, q4 = w6 ∧ L' = [(2, ptr (some b2) 0), (3, ptr (some b3) 0)] ∧ M' = ((some b3, blk (u8s w6.toList) 50) :: (some b2, blk (u8s (Vector.replicate 32 0#8).toList) 50) :: ([] ++ N))) ?_ ?_
 ·rintro L8 M9 ⟨w6, e7, e10, e11⟩
  rw [e10, e11]
  clear e10 e11 L8 M9
  clear hq5
  rw [e7] at hf
  clear e7
  try dsimp only at hf
  refine Z1 (Z4 (Z2 (Z0 (Z22 rfl Zh rfl rfl rfl rfl ((Z101 _).trans Zv)) rfl (OW.rot1 (Z28 (Z104 rfl rfl rfl (Z125 _) rfl ((Z101 _).trans Zv) ((Z101 _).trans Zv)) (Z6 (Z1 (CW.ret ?_))))))))
  have e0 := Zi hf
  subst e0
  refine Z102 (rs := [.cell 2 50]) ([.agg (u8s w6.toList).toArray]) ((some b2, blk (u8s w6.toList) 50) :: (some b3, blk (u8s w6.toList) 50) :: []) rfl ?_ rfl ?_ ?_ _ (.inl rfl)
  ·exact ⟨⟨_, _, _, _, rfl, Zh, rfl, rfl, (congrArg some ((Z101 _).trans Zv).symm), rfl⟩, trivial⟩
  ·exact rfl
  ·exact (fun w m => m)
 ·skip
  refine CW.block (Z114 (fun k L' M' => ∃ n12 : Nat, ∃ w14 : Vector (BitVec 8) 32, (u256_Put.l1 a0 k n12 w14) = some q4 ∧ (n12 ≤ 9223372036854775807) ∧ L' = [(1, ptr (some b1) 0), (2, ptr (some b2) 0), (3, ptr (some b3) 0), (5, .int .i64 ((n12 : Nat) : Int))] ∧ M' = ((some b3, blk (u8s w14.toList) 50) :: (some b2, blk (u8s (Vector.replicate 32 0#8).toList) 50) :: (some b1, blk (u64s a0.toList) 91) :: ([] ++ N))) (k0 := (32 - 0 + 2)) ⟨0, (Vector.replicate 32 0#8), hq5, (by omega), rfl, rfl⟩ ⟨rfl, rfl, rfl, rfl, trivial⟩ (fun w m => m.pick [0, 1, 2] 3 rfl rfl) ?_)
  clear hq5
  rintro k15 L18 M19 ⟨n12, w14, hl16, b13, e20, e21⟩
  rw [e20, e21]
  clear e20 e21 L18 M19
  rcases k15 with _ | k15
  ·rw [u256_Put.l1] at hl16; cases hl16
  rw [u256_Put.l1] at hl16
  refine Z4 (Z2 (Z0 (RV.lss rfl rfl) rfl (Z7 (.bool (decide (n12 < 32))) (congrArg Value.bool (decide_eq_decide.2 (by omega))) (Z6 (Z1 (Z4 ?_))))))
  by_cases h22 : n12 < 32
  ·replace hl16 := if_t hl16 h22
   refine Z13 rfl (decide_eq_true h22) (CW.skip (Z1 (Z4 (CW.block (Z4 (Z2 (Z0 (Z3 rfl) rfl (Z0 (Z5 rfl) rfl (Z6 (Z1 (Z2 (Z0 (Z3 rfl) rfl ?_))))))))))))
   obtain ⟨g23, hl16⟩ := Z116 hl16
   refine Z0 (RV.sub rfl rfl (by omega)) rfl (Z7 (.int .i64 ((31 - n12 : Nat) : Int)) (by congr 1; omega) (Z0 (Z3 rfl) rfl (Z0 (RV.quo rfl rfl (by omega) (by omega) (by omega)) rfl (Z7 (.int .i64 ((n12 / 8 : Nat) : Int)) (by first | rfl | (congr 1; omega)) ?_))))
   obtain ⟨g24, hl16⟩ := Z116 hl16
   refine Z0 (RV.idx_a ((n12 / 8)) rfl rfl rfl rfl rfl (by omega)) rfl ?_
   obtain ⟨x25, hx26, hl16⟩ := Z100 hl16
   refine Z0 (Z29 rfl (List.Mem.tail _ (List.Mem.tail _ Zh)) rfl rfl rfl (by rw [Nat.zero_add]; exact u64s_at (vat hx26))) rfl ?_
   refine Z0 (Z3 rfl) rfl (Z0 (RV.rem rfl rfl (by omega) (by omega)) rfl (Z7 (.int .i64 ((n12 % 8 : Nat) : Int)) (by first | rfl | (congr 1; omega)) (Z0 (RV.mul rfl rfl (by omega)) rfl (Z7 (.int .i64 (((8 * (n12 % 8)) : Nat) : Int)) (by first | rfl | (congr 1) | (congr 1; omega)) (Z0 (RV.shr64 (s := (8 * (n12 % 8))) rfl (by first | rfl | exact lit64 _ rfl) rfl (by first | rfl | (congr 1))) rfl (Z0 (RV.conv64_8 rfl (by first | rfl | exact lit64 _ rfl) rfl rfl) rfl ?_))))))
   obtain ⟨g27, hl16⟩ := Z116 hl16
   refine Z0 (RV.idx_a ((31 - n12)) rfl rfl rfl rfl rfl (by omega)) rfl (Z28 (SV.store rfl rfl rfl rfl rfl (by rw [Z101, Zv]; omega)) (OW.cells (u8s (w14.setIfInBounds (31 - n12) ((x25 >>> (8 * (n12 % 8))).setWidth 8)).toList) (by rw [Nat.zero_add, u8s_set', vset]) (Z6 (Z27 (Z1 (Z2 (Z0 (RV.add rfl rfl (by omega)) rfl (Z7 (.int .i64 (((n12 + 1) : Nat) : Int)) (by first | rfl | (congr 1) | (congr 1; omega)) (Z0 (Z3 rfl) rfl (Z6 ?_))))))))))
   exact Z109 (k' := k15) (Nat.lt_succ_self _) ⟨(n12 + 1), (w14.setIfInBounds (31 - n12) ((x25 >>> (8 * (n12 % 8))).setWidth 8)), hl16, (by omega), rfl, rfl⟩ ⟨rfl, rfl, rfl, rfl, trivial⟩ (fun w m => m.pick [0, 1, 2] 3 rfl rfl)
  ·replace hl16 := if_f hl16 h22
   refine Z14 rfl (decide_eq_false h22) (CW.exit (Z9 (Z9 (Z15 ?_))))
   exact QW.join ⟨w14, (Zi hl16).symm, rfl, rfl⟩ ⟨rfl, rfl, trivial⟩ (fun w m => m.pick [0, 1] 3 rfl rfl)
theorem waybillref01_Put_does (w0 : World) (Φ : Ctx) (N : List Ent) (hΦ : ∀ w, Mem w0 w N → Φ w) (a0 : Vector (BitVec 64) 4) (res0 : Vector (BitVec 8) 32) (hf : waybillref01_Put a0 = some res0) : DoesG Try.prog 60 [.agg (u64s a0.toList).toArray] w0 [] N (fun v G => v = .agg (u8s res0.toList).toArray) := by
 unfold waybillref01_Put at hf
 refine DoesG.enter Try.func60 rfl Try.ntmps60 rfl (M := (([] ++ N))) rfl (Z4 (Z2 (OW.boxA rfl rfl (fun b1 => (OW.alloc (l := (u8s (Vector.replicate 32 0#8).toList)) rfl (by rw [Vector.toList_replicate, ← Z135]; rfl) rfl (fun b2 => (Z6 (Z1 (Z4 (Z2 (OW.alloc (l := (u8s (Vector.replicate 32 0#8).toList)) rfl (by rw [Vector.toList_replicate, ← Z135]; rfl) rfl (fun b3 => (Z6 (Z1 (Z4 (Z4 (Z2 (Z0 (Z5 rfl) rfl ?_))))))))))))))))))
 refine Z6 (Z1 ?_)
 obtain ⟨q4, hq5, hf⟩ := Z100 hf
 refine Z115 (fun L' M' => ∃ w6 : Vector (BitVec 8) 32, q4 = w6 ∧ L' = [(2, ptr (some b2) 0), (3, ptr (some b3) 0)] ∧ M' = ((some b3, blk (u8s w6.toList) 50) :: (some b2, blk (u8s (Vector.replicate 32 0#8).toList) 50) :: ([] ++ N))) ?_ ?_
 ·rintro L8 M9 ⟨w6, e7, e10, e11⟩
  rw [e10, e11]
  clear e10 e11 L8 M9
  clear hq5
  rw [e7] at hf
  clear e7
  try dsimp only at hf
  refine Z1 (Z4 (Z2 (Z0 (Z22 rfl Zh rfl rfl rfl rfl ((Z101 _).trans Zv)) rfl (OW.rot1 (Z28 (Z104 rfl rfl rfl (Z125 _) rfl ((Z101 _).trans Zv) ((Z101 _).trans Zv)) (Z6 (Z1 (CW.ret ?_))))))))
  have e0 := Zi hf
  subst e0
  refine Z102 (rs := [.cell 2 50]) ([.agg (u8s w6.toList).toArray]) ((some b2, blk (u8s w6.toList) 50) :: (some b3, blk (u8s w6.toList) 50) :: []) rfl ?_ rfl ?_ ?_ _ (.inl rfl)
  ·exact ⟨⟨_, _, _, _, rfl, Zh, rfl, rfl, (congrArg some ((Z101 _).trans Zv).symm), rfl⟩, trivial⟩
  ·exact rfl
  ·exact (fun w m => m)
 ·skip
  refine CW.block (Z114 (fun k L' M' => ∃ n12 : Nat, ∃ w14 : Vector (BitVec 8) 32, (waybillref01_Put.l1 a0 k n12 w14) = some q4 ∧ (n12 ≤ 9223372036854775807) ∧ L' = [(1, ptr (some b1) 0), (2, ptr (some b2) 0), (3, ptr (some b3) 0), (4, .int .i64 ((n12 : Nat) : Int))] ∧ M' = ((some b3, blk (u8s w14.toList) 50) :: (some b2, blk (u8s (Vector.replicate 32 0#8).toList) 50) :: (some b1, blk (u64s a0.toList) 91) :: ([] ++ N))) (k0 := (32 - 0 + 2)) ⟨0, (Vector.replicate 32 0#8), hq5, (by omega), rfl, rfl⟩ ⟨rfl, rfl, rfl, rfl, trivial⟩ (fun w m => m.pick [0, 1, 2] 3 rfl rfl) ?_)
  clear hq5
  rintro k15 L18 M19 ⟨n12, w14, hl16, b13, e20, e21⟩
  rw [e20, e21]
  clear e20 e21 L18 M19
  rcases k15 with _ | k15
  ·rw [waybillref01_Put.l1] at hl16; cases hl16
  rw [waybillref01_Put.l1] at hl16
  refine Z4 (Z4 (Z2 (Z0 (Z3 rfl) rfl (Z0 (RV.lss rfl rfl) rfl (Z7 (.bool (decide (n12 < 32))) (congrArg Value.bool (decide_eq_decide.2 (by omega))) (Z6 (Z1 ?_)))))))
  by_cases h22 : n12 < 32
  ·replace hl16 := if_t hl16 h22
   refine Z13 rfl (decide_eq_true h22) (CW.skip (Z1 (Z4 (CW.block (Z2 (Z0 (Z3 rfl) rfl ?_))))))
   obtain ⟨g23, hl16⟩ := Z116 hl16
   refine Z0 (RV.sub rfl rfl (by omega)) rfl (Z7 (.int .i64 ((31 - n12 : Nat) : Int)) (by congr 1; omega) (Z0 (Z3 rfl) rfl (Z0 (RV.quo rfl rfl (by omega) (by omega) (by omega)) rfl (Z7 (.int .i64 ((n12 / 8 : Nat) : Int)) (by first | rfl | (congr 1; omega)) ?_))))
   obtain ⟨g24, hl16⟩ := Z116 hl16
   refine Z0 (RV.idx_a ((n12 / 8)) rfl rfl rfl rfl rfl (by omega)) rfl ?_
   obtain ⟨x25, hx26, hl16⟩ := Z100 hl16
   refine Z0 (Z29 rfl (List.Mem.tail _ (List.Mem.tail _ Zh)) rfl rfl rfl (by rw [Nat.zero_add]; exact u64s_at (vat hx26))) rfl ?_
   refine Z0 (Z3 rfl) rfl (Z0 (RV.rem rfl rfl (by omega) (by omega)) rfl (Z7 (.int .i64 ((n12 % 8 : Nat) : Int)) (by first | rfl | (congr 1; omega)) (Z0 (RV.mul rfl rfl (by omega)) rfl (Z7 (.int .i64 (((8 * (n12 % 8)) : Nat) : Int)) (by first | rfl | (congr 1) | (congr 1; omega)) (Z0 (RV.conv_i64 rfl rfl rfl) rfl (Z7 (U64 (BitVec.ofNat 64 (8 * (n12 % 8)))) (congrArg U64 (BitVec.ofInt_natCast ..)) ?_))))))
   refine Z0 (RV.shr64 (s := (BitVec.ofNat 64 (8 * (n12 % 8))).toNat) rfl (by first | rfl | exact lit64 _ rfl) rfl (by first | rfl | (simp [U64]; done))) rfl ?_
   refine Z0 (RV.conv64_8 rfl (by first | rfl | exact lit64 _ rfl) rfl rfl) rfl ?_
   obtain ⟨g27, hl16⟩ := Z116 hl16
   refine Z0 (RV.idx_a ((31 - n12)) rfl rfl rfl rfl rfl (by omega)) rfl (Z28 (SV.store rfl rfl rfl rfl rfl (by rw [Z101, Zv]; omega)) (OW.cells (u8s (w14.setIfInBounds (31 - n12) ((x25 >>> (BitVec.ofNat 64 (8 * (n12 % 8))).toNat).setWidth 8)).toList) (by rw [Nat.zero_add, u8s_set', vset]) (Z6 (Z27 (Z1 (Z2 (Z0 (Z3 rfl) rfl (Z0 (RV.add rfl rfl (by omega)) rfl (Z7 (.int .i64 (((n12 + 1) : Nat) : Int)) (by first | rfl | (congr 1) | (congr 1; omega)) (Z0 (Z5 rfl) rfl ?_))))))))))
   refine Z6 ?_
   exact Z109 (k' := k15) (Nat.lt_succ_self _) ⟨(n12 + 1), (w14.setIfInBounds (31 - n12) ((x25 >>> (BitVec.ofNat 64 (8 * (n12 % 8))).toNat).setWidth 8)), hl16, (by omega), rfl, rfl⟩ ⟨rfl, rfl, rfl, rfl, trivial⟩ (fun w m => m.pick [0, 1, 2] 3 rfl rfl)
  ·replace hl16 := if_f hl16 h22
   refine Z14 rfl (decide_eq_false h22) (CW.exit (Z9 (Z9 (Z15 ?_))))
   exact QW.join ⟨w14, (Zi hl16).symm, rfl, rfl⟩ ⟨rfl, rfl, trivial⟩ (fun w m => m.pick [0, 1] 3 rfl rfl)
theorem u256_Bytes_does (w0 : World) (Φ : Ctx) (N : List Ent) (hΦ : ∀ w, Mem w0 w N → Φ w) (a0 : Vector (BitVec 64) 4) (res0 : List (BitVec 8)) (hf : u256_Bytes a0 = some res0) : DoesG Try.prog 53 [.agg (u64s a0.toList).toArray] w0 [] N (fun v G => ∃ B : List Ent, ∃ or0 : Option Nat, ∃ kr0 : Nat, ∃ rr0 : List Value, (OwnS or0 res0.length kr0 1 (u8s res0) rr0) ∧ v = sl or0 0 res0.length kr0 ∧ G = (or0, blk ((u8s res0) ++ rr0) 5) :: B) := by
 unfold u256_Bytes at hf
 refine DoesG.enter Try.func53 rfl Try.ntmps53 rfl (M := (([] ++ N))) rfl (Z4 (Z2 (OW.boxA rfl rfl (fun b1 => (Z0 (Z5 rfl) rfl (Z6 (Z1 (Z4 (Z2 (Z0 (Z22 rfl Zh rfl rfl rfl rfl ((Z131 _).trans Zv)) rfl ?_))))))))))
 obtain ⟨x3, hx2, hf⟩ := Z100 hf
 refine Z12 Try.call58 rfl (u256_Put_does w0 (More w0 Φ []) ((some b1, blk (u64s a0.toList) 91) :: ([] ++ N)) (fun w m => Z103 hΦ 1 m rfl) a0 x3 hx2) rfl rfl ?_
 rintro _ G4 rfl
 refine Z20 (M' := ((some b1, blk (u64s a0.toList) 91) :: ([] ++ N))) (fun w m => m.appR) (OW.alloc (l := (u8s (Vector.replicate 32 0#8).toList)) rfl (by rw [Vector.toList_replicate, ← Z135]; rfl) rfl (fun b6 => (Z28 (Z104 rfl rfl rfl (Z125 _) rfl ((Z101 _).trans Zv) ((Z101 _).trans Zv)) (Z6 (Z1 (Z4 (Z2 (Z0 (Z22 rfl (List.Mem.tail _ Zh) rfl rfl rfl rfl ((Z131 _).trans Zv)) rfl ?_))))))))
 obtain ⟨x8, hx7, hf⟩ := Z100 hf
 refine Z12 Try.call59 rfl (u256_Len_does w0 (More w0 Φ []) ((some b6, blk (u8s x3.toList) 50) :: (some b1, blk (u64s a0.toList) 91) :: ([] ++ N)) (fun w m => Z103 hΦ 2 m rfl) a0 x8 hx7) rfl rfl ?_
 rintro _ G10 ⟨b9, rfl⟩
 refine Z20 (M' := ((some b6, blk (u8s x3.toList) 50) :: (some b1, blk (u64s a0.toList) 91) :: ([] ++ N))) (fun w m => m.appR) ?_
 obtain ⟨g12, hf⟩ := Z116 hf
 refine Z0 (RV.add rfl rfl (by omega)) rfl ?_
 obtain ⟨g13, hf⟩ := Z116 hf
 refine Z0 (RV.quo rfl rfl (by omega) (by omega) (by omega)) rfl (Z7 (.int .i64 ((((x8 + (7 : Int))).toNat / 8 : Nat) : Int)) (by first | rfl | (congr 1; omega)) (Z0 (Z5 rfl) rfl (Z6 (Z1 (Z4 (Z2 (Z0 (Z3 rfl) rfl (Z0 (RV.sub rfl rfl (by omega)) rfl (Z20 (M' := (some b1, blk (u64s a0.toList) 91) :: (((some b6, blk (u8s x3.toList) 50) :: []) ++ N)) (fun w m => m.pick [1, 0] 2 rfl rfl) ?_)))))))))
 have v14 : View (More w0 Φ ((some b6, blk (u8s x3.toList) 50) :: [])) (some ⟨b6, 0, none⟩) x3.toList.length 32 1 (u8s x3.toList) := View.arr (w0 := w0) (te := 50) (fun w q => q.2.sublist (List.singleton_sublist.2 (List.mem_cons_self ..))) (by decide)
 obtain ⟨g16, hf⟩ := Z116 hf
 obtain ⟨g17, hf⟩ := Z116 hf
 refine Z0 (RV.arr_lo (s := 1) ((((32 : Int) - ((((x8 + (7 : Int))).toNat / 8 : Nat) : Int))).toNat) rfl rfl (by omega) rfl rfl (by omega)) rfl ?_
 refine Z7 (.slice (subA (some ⟨b6, 0, none⟩) 32 ((((32 : Int) - ((((x8 + (7 : Int))).toNat / 8 : Nat) : Int))).toNat) 1) (x3.toList.drop ((((32 : Int) - ((((x8 + (7 : Int))).toNat / 8 : Nat) : Int))).toNat)).length (32 - (((32 : Int) - ((((x8 + (7 : Int))).toNat / 8 : Nat) : Int))).toNat)) (by rw [show ((x3.toList.drop ((((32 : Int) - ((((x8 + (7 : Int))).toNat / 8 : Nat) : Int))).toNat))).length = 32 - ((((32 : Int) - ((((x8 + (7 : Int))).toNat / 8 : Nat) : Int))).toNat) from List.length_drop.trans (by rw [Zv])]; try rfl) ?_
 have hlen_ : x3.toList.length = 32 := Zv
 have v15 : View (More w0 Φ ((some b6, blk (u8s x3.toList) 50) :: [])) (subA (some ⟨b6, 0, none⟩) 32 ((((32 : Int) - ((((x8 + (7 : Int))).toNat / 8 : Nat) : Int))).toNat) 1) (x3.toList.drop ((((32 : Int) - ((((x8 + (7 : Int))).toNat / 8 : Nat) : Int))).toNat)).length (32 - (((32 : Int) - ((((x8 + (7 : Int))).toNat / 8 : Nat) : Int))).toNat) 1 (u8s (x3.toList.drop ((((32 : Int) - ((((x8 + (7 : Int))).toNat / 8 : Nat) : Int))).toNat))) := v14.lo8 (by omega)
 have m18 := v15.mx
 refine Z20 (M' := ((none, blk ((u8s ([] : List (BitVec 8))) ++ []) 5) :: (some b1, blk (u64s a0.toList) 91) :: (((some b6, blk (u8s x3.toList) 50) :: []) ++ N))) (fun w m => m.nil_ent _) (OW.appendOwn (s := 1) rfl rfl rfl rfl rfl rfl OwnS.nil (fun w m => v15.rd w (Z103 hΦ 2 m rfl)) v15.n (Z125 _) (v15.zero (by decide)) (by decide) (by decide) (by first | omega | (simp only [i5, List.length_nil]; omega)) rfl rfl ((x3.toList.drop ((((32 : Int) - ((((x8 + (7 : Int))).toNat / 8 : Nat) : Int))).toNat)).length) (u8s (x3.toList.drop ((((32 : Int) - ((((x8 + (7 : Int))).toNat / 8 : Nat) : Int))).toNat))) (Nat.zero_add _) rfl (fun ob19 r20 c21 o22 => ?_))
 have m23 := o22.mx
 refine Z0 (Z5 rfl) rfl (Z6 (Z1 (CW.ret ?_)))
 have e0 := Zi hf
 subst e0
 refine Z102 (rs := [.tmp 2]) ([sl ob19 0 (x3.toList.drop ((((32 : Int) - ((((x8 + (7 : Int))).toNat / 8 : Nat) : Int))).toNat)).length c21]) ((ob19, blk ((u8s (x3.toList.drop ((((32 : Int) - ((((x8 + (7 : Int))).toNat / 8 : Nat) : Int))).toNat))) ++ r20) 5) :: ((some b6, blk (u8s x3.toList) 50) :: [])) rfl ?_ rfl ?_ ?_ _ (.inl rfl)
 ·exact ⟨rfl, trivial⟩
 ·exact ⟨((some b6, blk (u8s x3.toList) 50) :: []), ob19, c21, r20, o22, rfl, rfl⟩
 ·exact (fun w m => m.pick [0] 2 rfl rfl)
theorem waybillref01_Bytes_does (w0 : World) (Φ : Ctx) (N : List Ent) (hΦ : ∀ w, Mem w0 w N → Φ w) (a0 : Vector (BitVec 64) 4) (res0 : List (BitVec 8)) (hf : waybillref01_Bytes a0 = some res0) : DoesG Try.prog 56 [.agg (u64s a0.toList).toArray] w0 [] N (fun v G => ∃ B : List Ent, ∃ or0 : Option Nat, ∃ kr0 : Nat, ∃ rr0 : List Value, (OwnS or0 res0.length kr0 1 (u8s res0) rr0) ∧ v = sl or0 0 res0.length kr0 ∧ G = (or0, blk ((u8s res0) ++ rr0) 5) :: B) := by
 unfold waybillref01_Bytes at hf
 refine DoesG.enter Try.func56 rfl Try.ntmps56 rfl (M := (([] ++ N))) rfl (Z4 (Z2 (OW.boxA rfl rfl (fun b1 => (Z0 (Z5 rfl) rfl (Z6 (Z1 (Z4 (Z2 (Z0 (Z22 rfl Zh rfl rfl rfl rfl ((Z131 _).trans Zv)) rfl ?_))))))))))
 obtain ⟨x3, hx2, hf⟩ := Z100 hf
 refine Z12 Try.call60 rfl (waybillref01_Put_does w0 (More w0 Φ []) ((some b1, blk (u64s a0.toList) 91) :: ([] ++ N)) (fun w m => Z103 hΦ 1 m rfl) a0 x3 hx2) rfl rfl ?_
 rintro _ G4 rfl
 refine Z20 (M' := ((some b1, blk (u64s a0.toList) 91) :: ([] ++ N))) (fun w m => m.appR) (OW.alloc (l := (u8s (Vector.replicate 32 0#8).toList)) rfl (by rw [Vector.toList_replicate, ← Z135]; rfl) rfl (fun b6 => (Z28 (Z104 rfl rfl rfl (Z125 _) rfl ((Z101 _).trans Zv) ((Z101 _).trans Zv)) (Z6 (Z1 (Z4 (Z2 (Z0 (Z5 rfl) rfl (Z6 (Z1 (Z4 (Z4 (Z2 (Z0 (Z5 rfl) rfl (Z6 (Z1 ?_))))))))))))))))
 obtain ⟨q7, hq8, hf⟩ := Z100 hf
 refine Z115 (fun L' M' => ∃ l9 : List (BitVec 8), ∃ ob10 : Option Nat, ∃ c11 : Nat, ∃ r12 : List Value, q7 = l9 ∧ (OwnS ob10 l9.length c11 1 (u8s l9) r12) ∧ L' = [(4, sl ob10 0 l9.length c11)] ∧ M' = ((ob10, blk ((u8s l9) ++ r12) 5) :: ([] ++ N))) ?_ ?_
 ·rintro L15 M16 ⟨l9, ob10, c11, r12, e14, o13, e17, e18⟩
  rw [e17, e18]
  clear e17 e18 L15 M16
  clear hq8
  rw [e14] at hf
  clear e14
  try dsimp only at hf
  have m19 := o13.mx
  refine Z1 (Z4 (Z2 (Z0 (Z3 rfl) rfl (Z0 (Z5 rfl) rfl (Z6 (Z1 (CW.ret ?_)))))))
  have e0 := Zi hf
  subst e0
  refine Z102 (rs := [.tmp 2]) ([sl ob10 0 l9.length c11]) ((ob10, blk ((u8s l9) ++ r12) 5) :: []) rfl ?_ rfl ?_ ?_ _ (.inl rfl)
  ·exact ⟨rfl, trivial⟩
  ·exact ⟨[], ob10, c11, r12, o13, rfl, rfl⟩
  ·exact (fun w m => m.pick [0] 1 rfl rfl)
 ·skip
  refine CW.block (CW.mem (M' := ((none, blk ((u8s ([] : List (BitVec 8))) ++ []) 5) :: (some b6, blk (u8s x3.toList) 50) :: (some b1, blk (u64s a0.toList) 91) :: ([] ++ N))) (fun w m => m.nil_ent _) (Z114 (fun k L' M' => ∃ l20 : List (BitVec 8), ∃ n25 : Nat, ∃ ob21 : Option Nat, ∃ c22 : Nat, ∃ r23 : List Value, (waybillref01_Bytes.l1 x3 k l20 n25) = some q7 ∧ (OwnS ob21 l20.length c22 1 (u8s l20) r23) ∧ (n25 ≤ 9223372036854775807) ∧ L' = [(3, ptr (some b6) 0), (4, sl ob21 0 l20.length c22), (5, .int .i64 ((n25 : Nat) : Int))] ∧ M' = ((ob21, blk ((u8s l20) ++ r23) 5) :: (some b6, blk (u8s x3.toList) 50) :: ([] ++ N))) (k0 := 40) ⟨([] : List (BitVec 8)), 0, none, 0, [], hq8, OwnS.nil, (by omega), rfl, rfl⟩ ⟨rfl, rfl, rfl, trivial⟩ (fun w m => m.pick [0, 1] 3 rfl rfl) ?_))
  clear hq8
  rintro k27 L30 M31 ⟨l20, n25, ob21, c22, r23, hl28, o24, b26, e32, e33⟩
  rw [e32, e33]
  clear e32 e33 L30 M31
  rcases k27 with _ | k27
  ·rw [waybillref01_Bytes.l1] at hl28; cases hl28
  rw [waybillref01_Bytes.l1] at hl28
  have m34 := o24.mx
  refine Z4 (Z4 (Z2 (Z0 (Z3 rfl) rfl (Z0 (RV.lss rfl rfl) rfl (Z7 (.bool (decide (n25 < 32))) (congrArg Value.bool (decide_eq_decide.2 (by omega))) (Z6 (Z1 ?_)))))))
  by_cases h35 : n25 < 32
  ·replace hl28 := if_t hl28 h35
   refine Z13 rfl (decide_eq_true h35) (CW.skip (Z1 (Z4 (CW.block (Z4 (Z2 (Z0 (Z3 rfl) rfl (Z0 (RV.len rfl rfl) rfl (Z0 (RV.gtr rfl rfl) rfl (Z7 (.bool (decide (0 < l20.length))) (congrArg Value.bool (decide_eq_decide.2 (by omega))) (Z0 (Z3 rfl) rfl ?_)))))))))))
   by_cases h36 : 0 < l20.length
   ·replace hl28 := if_t hl28 h36
    refine Z7 (.bool true) (congrArg Value.bool (decide_eq_true h36)) (Z23 rfl rfl rfl (Z23 rfl rfl rfl (Z23 rfl rfl rfl (Z23 rfl rfl rfl (Z0 (Z112 rfl rfl rfl) rfl (Z6 (Z1 ?_)))))))
    obtain ⟨q37, hq38, hl28⟩ := Z100 hl28
    refine Z115 (fun L' M' => ∃ l39 : List (BitVec 8), ∃ ob40 : Option Nat, ∃ c41 : Nat, ∃ r42 : List Value, q37 = l39 ∧ (OwnS ob40 l39.length c41 1 (u8s l39) r42) ∧ L' = [(3, ptr (some b6) 0), (4, sl ob40 0 l39.length c41), (5, .int .i64 ((n25 : Nat) : Int))] ∧ M' = ((ob40, blk ((u8s l39) ++ r42) 5) :: (some b6, blk (u8s x3.toList) 50) :: ([] ++ N))) ?_ ?_
    ·rintro L45 M46 ⟨l39, ob40, c41, r42, e44, o43, e47, e48⟩
     rw [e47, e48]
     clear e47 e48 L45 M46
     clear hq38
     rw [e44] at hl28
     clear e44
     try dsimp only at hl28
     have m49 := o43.mx
     refine Z27 (Z1 (Z2 (Z0 (Z3 rfl) rfl (Z0 (RV.add rfl rfl (by omega)) rfl (Z7 (.int .i64 (((n25 + 1) : Nat) : Int)) (by first | rfl | (congr 1) | (congr 1; omega)) (Z0 (Z5 rfl) rfl (Z6 ?_)))))))
     exact Z109 (k' := k27) (Nat.lt_succ_self _) ⟨l39, (n25 + 1), ob40, c41, r42, hl28, o43, (by omega), rfl, rfl⟩ ⟨rfl, rfl, rfl, trivial⟩ (fun w m => m.pick [0, 1] 2 rfl rfl)
    ·skip
     refine Z13 rfl rfl (Z2 (Z0 (Z3 rfl) rfl (Z0 (Z3 rfl) rfl (Z0 (RV.idx_a (n25) rfl rfl rfl rfl rfl (by omega)) rfl ?_))))
     obtain ⟨x50, hx51, hq38⟩ := Z100 hq38
     refine Z0 (Z29 rfl (List.Mem.tail _ Zh) rfl rfl rfl (by rw [Nat.zero_add]; exact u8s_at (vat hx51))) rfl ?_
     refine OW.ofN (NV.bs1 rfl rfl rfl rfl rfl rfl) rfl (fun b52 => (Z20 (M' := (((some b52), blk ((u8s ([x50] : List (BitVec 8))) ++ []) 5) :: (ob21, blk ((u8s l20) ++ r23) 5) :: (some b6, blk (u8s x3.toList) 50) :: ([] ++ N))) (fun w m => by first | exact m | simpa [u8s] using m) ?_))
     have o53 : OwnS (some b52) ([x50] : List (BitVec 8)).length 1 1 (u8s ([x50] : List (BitVec 8))) [] := ⟨by simp [u8s], by simp [u8s], (fun h => nomatch h), by simp⟩
     have mx_o53 := o53.mx
     refine Z7 (sl (some b52) 0 ([x50] : List (BitVec 8)).length 1) (rfl) (OW.rot1 ?_)
     obtain ⟨g54, hq38⟩ := Z116 hq38
     refine OW.appendOwn (s := 1) rfl rfl rfl rfl rfl rfl o24 (fun w m => m.rd0 (List.Mem.tail _ Zh) (fun e => o53.nilc (by decide) e)) o53.n (Z125 _) (o53.zeroO (by decide)) (by decide) (by decide) (by first | omega | (simp only [i5, List.length_nil]; omega)) rfl rfl ((l20 ++ ([x50] : List (BitVec 8))).length) (u8s (l20 ++ ([x50] : List (BitVec 8)))) (List.length_append ..).symm (u8s_app _ _) (fun ob55 r56 c57 o58 => ?_)
     have m59 := o58.mx
     refine Z0 (Z5 rfl) rfl (Z6 ?_)
     exact QW.join ⟨(l20 ++ ([x50] : List (BitVec 8))), ob55, c57, r56, (Zi hq38).symm, o58, rfl, rfl⟩ ⟨rfl, rfl, rfl, trivial⟩ (fun w m => m.pick [0, 2] 3 rfl rfl)
   ·replace hl28 := if_f hl28 h36
    refine Z7 (.bool false) (congrArg Value.bool (decide_eq_false h36)) (Z24 rfl (Z0 (Z3 rfl) rfl (Z24 rfl (Z0 (RV.idx_a (n25) rfl rfl rfl rfl rfl (by omega)) rfl (Z24 rfl ?_)))))
    obtain ⟨x60, hx61, hl28⟩ := Z100 hl28
    refine Z0 (Z29 rfl (List.Mem.tail _ Zh) rfl rfl rfl (by rw [Nat.zero_add]; exact u8s_at (vat hx61))) rfl ?_
    refine Z24 rfl (Z0 (RV.neq8 rfl (by first | rfl | exact lit8 _ rfl) rfl (by first | rfl | exact lit8 _ rfl)) rfl (Z0 (Z108 rfl rfl rfl) rfl (Z6 (Z1 ?_))))
    obtain ⟨q62, hq63, hl28⟩ := Z100 hl28
    refine Z115 (fun L' M' => ∃ l64 : List (BitVec 8), ∃ ob65 : Option Nat, ∃ c66 : Nat, ∃ r67 : List Value, q62 = l64 ∧ (OwnS ob65 l64.length c66 1 (u8s l64) r67) ∧ L' = [(3, ptr (some b6) 0), (4, sl ob65 0 l64.length c66), (5, .int .i64 ((n25 : Nat) : Int))] ∧ M' = ((ob65, blk ((u8s l64) ++ r67) 5) :: (some b6, blk (u8s x3.toList) 50) :: ([] ++ N))) ?_ ?_
    ·rintro L70 M71 ⟨l64, ob65, c66, r67, e69, o68, e72, e73⟩
     rw [e72, e73]
     clear e72 e73 L70 M71
     clear hq63
     rw [e69] at hl28
     clear e69
     try dsimp only at hl28
     have m74 := o68.mx
     refine Z27 (Z1 (Z2 (Z0 (Z3 rfl) rfl (Z0 (RV.add rfl rfl (by omega)) rfl (Z7 (.int .i64 (((n25 + 1) : Nat) : Int)) (by first | rfl | (congr 1) | (congr 1; omega)) (Z0 (Z5 rfl) rfl (Z6 ?_)))))))
     exact Z109 (k' := k27) (Nat.lt_succ_self _) ⟨l64, (n25 + 1), ob65, c66, r67, hl28, o68, (by omega), rfl, rfl⟩ ⟨rfl, rfl, rfl, trivial⟩ (fun w m => m.pick [0, 1] 2 rfl rfl)
    ·skip
     by_cases h75 : x60 = 0#8
     ·replace hq63 := if_t hq63 h75
      refine Z14 rfl (congrArg (fun b => !b) (decide_eq_true h75)) (CW.skip ?_)
      exact QW.join ⟨l20, ob21, c22, r23, (Zi hq63).symm, o24, rfl, rfl⟩ ⟨rfl, rfl, rfl, trivial⟩ (fun w m => m.pick [0, 1] 2 rfl rfl)
     ·replace hq63 := if_f hq63 h75
      refine Z13 rfl (congrArg (fun b => !b) (decide_eq_false h75)) (Z2 (Z0 (Z3 rfl) rfl (Z0 (Z3 rfl) rfl (Z0 (RV.idx_a (n25) rfl rfl rfl rfl rfl (by omega)) rfl ?_))))
      obtain ⟨x76, hx77, hq63⟩ := Z100 hq63
      refine Z0 (Z29 rfl (List.Mem.tail _ Zh) rfl rfl rfl (by rw [Nat.zero_add]; exact u8s_at (vat hx77))) rfl ?_
      refine OW.ofN (NV.bs1 rfl rfl rfl rfl rfl rfl) rfl (fun b78 => (Z20 (M' := (((some b78), blk ((u8s ([x76] : List (BitVec 8))) ++ []) 5) :: (ob21, blk ((u8s l20) ++ r23) 5) :: (some b6, blk (u8s x3.toList) 50) :: ([] ++ N))) (fun w m => by first | exact m | simpa [u8s] using m) ?_))
      have o79 : OwnS (some b78) ([x76] : List (BitVec 8)).length 1 1 (u8s ([x76] : List (BitVec 8))) [] := ⟨by simp [u8s], by simp [u8s], (fun h => nomatch h), by simp⟩
      have mx_o79 := o79.mx
      refine Z7 (sl (some b78) 0 ([x76] : List (BitVec 8)).length 1) (rfl) (OW.rot1 ?_)
      obtain ⟨g80, hq63⟩ := Z116 hq63
      refine OW.appendOwn (s := 1) rfl rfl rfl rfl rfl rfl o24 (fun w m => m.rd0 (List.Mem.tail _ Zh) (fun e => o79.nilc (by decide) e)) o79.n (Z125 _) (o79.zeroO (by decide)) (by decide) (by decide) (by first | omega | (simp only [i5, List.length_nil]; omega)) rfl rfl ((l20 ++ ([x76] : List (BitVec 8))).length) (u8s (l20 ++ ([x76] : List (BitVec 8)))) (List.length_append ..).symm (u8s_app _ _) (fun ob81 r82 c83 o84 => ?_)
      have m85 := o84.mx
      refine Z0 (Z5 rfl) rfl (Z6 ?_)
      exact QW.join ⟨(l20 ++ ([x76] : List (BitVec 8))), ob81, c83, r82, (Zi hq63).symm, o84, rfl, rfl⟩ ⟨rfl, rfl, rfl, trivial⟩ (fun w m => m.pick [0, 2] 3 rfl rfl)
  ·replace hl28 := if_f hl28 h35
   refine Z14 rfl (decide_eq_false h35) (CW.exit (Z9 (Z9 (Z15 ?_))))
   exact QW.join ⟨l20, ob21, c22, r23, (Zi hl28).symm, o24, rfl, rfl⟩ ⟨rfl, trivial⟩ (fun w m => m.pick [0] 2 rfl rfl)
theorem rlp_head_does (w0 : World) (Φ : Ctx) (N : List Ent) (hΦ : ∀ w, Mem w0 w N → Φ w) (a0 : BitVec 8) (a1 : Nat) (res0 : List (BitVec 8)) (ba1 : a1 ≤ 9223372036854775807) (hf : rlp_head a0 a1 = some res0) : DoesG Try.prog 47 [U8 a0, .int .i64 ((a1 : Nat) : Int)] w0 [] N (fun v G => ∃ B : List Ent, ∃ or0 : Option Nat, ∃ kr0 : Nat, ∃ rr0 : List Value, (OwnS or0 res0.length kr0 1 (u8s res0) rr0) ∧ v = sl or0 0 res0.length kr0 ∧ G = (or0, blk ((u8s res0) ++ rr0) 5) :: B) := by
 unfold rlp_head at hf
 refine DoesG.enter Try.func47 rfl Try.ntmps47 rfl (M := (([] ++ N))) rfl (Z4 (Z2 (Z0 (Z5 rfl) rfl (Z6 (Z1 (Z4 (Z4 (Z2 (Z0 (Z3 rfl) rfl (Z0 (RV.leq rfl rfl) rfl (Z7 (.bool (decide (a1 ≤ 55))) (congrArg Value.bool (decide_eq_decide.2 (by omega))) (Z6 (Z1 ?_)))))))))))))
 by_cases h1 : a1 ≤ 55
 ·replace hf := if_t hf h1
  refine Z13 rfl (decide_eq_true h1) (Z4 (Z2 (Z0 (Z3 rfl) rfl (Z0 (Z3 rfl) rfl (Z0 (Z137 rfl rfl rfl) rfl (Z7 (U8 (BitVec.ofNat 8 a1)) (congrArg U8 (BitVec.ofInt_natCast ..)) (Z0 (RV.add8 rfl (by first | rfl | exact lit8 _ rfl) rfl (by first | rfl | exact lit8 _ rfl)) rfl (OW.ofN (NV.bs1 rfl rfl rfl rfl rfl rfl) rfl (fun b2 => ?_)))))))))
  refine Z20 (M' := (((some b2), blk ((u8s ([(a0 + (BitVec.ofNat 8 a1))] : List (BitVec 8))) ++ []) 5) :: ([] ++ N))) (fun w m => by first | exact m | simpa [u8s] using m) ?_
  have o3 : OwnS (some b2) ([(a0 + (BitVec.ofNat 8 a1))] : List (BitVec 8)).length 1 1 (u8s ([(a0 + (BitVec.ofNat 8 a1))] : List (BitVec 8))) [] := ⟨by simp [u8s], by simp [u8s], (fun h => nomatch h), by simp⟩
  have mx_o3 := o3.mx
  refine Z7 (sl (some b2) 0 ([(a0 + (BitVec.ofNat 8 a1))] : List (BitVec 8)).length 1) (rfl) (Z0 (Z5 rfl) rfl (Z6 (Z1 (CW.ret (Z8 ?_)))))
  have e0 := Zi hf
  subst e0
  refine Z102 (rs := [.tmp 4]) ([sl (some b2) 0 ([(a0 + (BitVec.ofNat 8 a1))] : List (BitVec 8)).length 1]) (((some b2), blk ((u8s ([(a0 + (BitVec.ofNat 8 a1))] : List (BitVec 8))) ++ []) 5) :: []) rfl ?_ rfl ?_ ?_ _ (.inl rfl)
  ·exact ⟨rfl, trivial⟩
  ·exact ⟨[], (some b2), 1, [], o3, rfl, rfl⟩
  ·exact (fun w m => m.pick [0] 1 rfl rfl)
 ·replace hf := if_f hf h1
  refine Z14 rfl (decide_eq_false h1) (CW.skip (Z1 (Z4 (Z2 (Z0 (Z3 rfl) rfl (Z0 (RV.conv_i64 rfl rfl rfl) rfl (Z7 (U64 (BitVec.ofNat 64 a1)) (congrArg U64 (BitVec.ofInt_natCast ..)) ?_)))))))
  obtain ⟨x5, hx4, hf⟩ := Z100 hf
  refine Z12 Try.call54 rfl (u256_From_does w0 (More w0 Φ []) (([] ++ N)) (fun w m => Z103 hΦ 0 m rfl) (BitVec.ofNat 64 a1) x5 hx4) rfl rfl ?_
  rintro _ G6 rfl
  refine Z20 (M' := (([] ++ N))) (fun w m => m.appR) ?_
  obtain ⟨x9, hx8, hf⟩ := Z100 hf
  refine Z12 Try.call53 rfl (u256_Bytes_does w0 (More w0 Φ []) (([] ++ N)) (fun w m => Z103 hΦ 0 m rfl) x5 x9 hx8) rfl rfl ?_
  rintro L15 M16 ⟨B10, ob11, c12, r13, o14, e17, e18⟩
  rw [e17, e18]
  clear e17 e18 L15 M16
  refine Z20 (M' := ((ob11, blk ((u8s x9) ++ r13) 5) :: ((B10 ++ []) ++ N))) (fun w m => by have h := Z107 (A := B10) m 1 0 rfl rfl; exact h) ?_
  have m19 := o14.mx
  refine Z0 (Z5 rfl) rfl (Z6 (Z1 (Z4 (Z2 (Z0 (Z3 rfl) rfl (Z0 (RV.add8 rfl (by first | rfl | exact lit8 _ rfl) rfl (by first | rfl | exact lit8 _ rfl)) rfl (Z0 (Z3 rfl) rfl (Z0 (RV.len rfl rfl) rfl (Z0 (Z137 rfl rfl rfl) rfl (Z7 (U8 (BitVec.ofNat 8 x9.length)) (congrArg U8 (BitVec.ofInt_natCast ..)) ?_))))))))))
  refine Z0 (RV.add8 rfl (by first | rfl | exact lit8 _ rfl) rfl (by first | rfl | exact lit8 _ rfl)) rfl (OW.ofN (NV.bs1 rfl rfl rfl rfl rfl rfl) rfl (fun b20 => (Z20 (M' := (((some b20), blk ((u8s ([((a0 + 55#8) + (BitVec.ofNat 8 x9.length))] : List (BitVec 8))) ++ []) 5) :: (ob11, blk ((u8s x9) ++ r13) 5) :: ((B10 ++ []) ++ N))) (fun w m => by first | exact m | simpa [u8s] using m) ?_)))
  have o21 : OwnS (some b20) ([((a0 + 55#8) + (BitVec.ofNat 8 x9.length))] : List (BitVec 8)).length 1 1 (u8s ([((a0 + 55#8) + (BitVec.ofNat 8 x9.length))] : List (BitVec 8))) [] := ⟨by simp [u8s], by simp [u8s], (fun h => nomatch h), by simp⟩
  have mx_o21 := o21.mx
  refine Z7 (sl (some b20) 0 ([((a0 + 55#8) + (BitVec.ofNat 8 x9.length))] : List (BitVec 8)).length 1) (rfl) (Z0 (Z3 rfl) rfl ?_)
  obtain ⟨g22, hf⟩ := Z116 hf
  refine OW.appendOwn (s := 1) rfl rfl rfl rfl rfl rfl o21 (fun w m => m.rd0 (List.Mem.tail _ Zh) (fun e => o14.nilc (by decide) e)) o14.n (Z125 _) (o14.zeroO (by decide)) (by decide) (by decide) (by first | omega | (simp only [i5, List.length_nil]; omega)) rfl rfl ((([((a0 + 55#8) + (BitVec.ofNat 8 x9.length))] : List (BitVec 8)) ++ x9).length) (u8s (([((a0 + 55#8) + (BitVec.ofNat 8 x9.length))] : List (BitVec 8)) ++ x9)) (List.length_append ..).symm (u8s_app _ _) (fun ob23 r24 c25 o26 => ?_)
  have m27 := o26.mx
  refine Z0 (Z5 rfl) rfl (Z6 (Z1 (CW.ret ?_)))
  have e0 := Zi hf
  subst e0
  refine Z102 (rs := [.tmp 4]) ([sl ob23 0 (([((a0 + 55#8) + (BitVec.ofNat 8 x9.length))] : List (BitVec 8)) ++ x9).length c25]) ((ob23, blk ((u8s (([((a0 + 55#8) + (BitVec.ofNat 8 x9.length))] : List (BitVec 8)) ++ x9)) ++ r24) 5) :: (B10 ++ [])) rfl ?_ rfl ?_ ?_ _ (.inl rfl)
  ·exact ⟨rfl, trivial⟩
  ·exact ⟨(B10 ++ []), ob23, c25, r24, o26, rfl, rfl⟩
  ·exact (fun w m => m.pick [0] 2 rfl rfl)
theorem waybillref07_before_does (w0 : World) (Φ : Ctx) (N : List Ent) (hΦ : ∀ w, Mem w0 w N → Φ w) (a0 : Nat) (a1 : Nat) (res0 : List (BitVec 8)) (ba0 : a0 ≤ 9223372036854775807) (ba1 : a1 ≤ 9223372036854775807) (hf : waybillref07_before a0 a1 = some res0) : DoesG Try.prog 50 [.int .i64 ((a0 : Nat) : Int), .int .i64 ((a1 : Nat) : Int)] w0 [] N (fun v G => ∃ B : List Ent, ∃ or0 : Option Nat, ∃ kr0 : Nat, ∃ rr0 : List Value, (OwnS or0 res0.length kr0 1 (u8s res0) rr0) ∧ v = sl or0 0 res0.length kr0 ∧ G = (or0, blk ((u8s res0) ++ rr0) 5) :: B) := by
 unfold waybillref07_before at hf
 refine DoesG.enter Try.func50 rfl Try.ntmps50 rfl (M := (([] ++ N))) rfl (Z4 (Z2 (Z0 (Z5 rfl) rfl (Z6 (Z1 (Z4 (Z4 (Z2 (Z0 (Z3 rfl) rfl (Z0 (RV.leq rfl rfl) rfl (Z7 (.bool (decide (a0 ≤ 55))) (congrArg Value.bool (decide_eq_decide.2 (by omega))) (Z6 (Z1 ?_)))))))))))))
 by_cases h1 : a0 ≤ 55
 ·replace hf := if_t hf h1
  refine Z13 rfl (decide_eq_true h1) (Z4 (Z2 (Z0 (Z3 rfl) rfl (Z0 (Z3 rfl) rfl ?_))))
  obtain ⟨g2, hf⟩ := Z116 hf
  refine Z0 (RV.add rfl rfl (by omega)) rfl (Z7 (.int .i64 (((a1 + a0) : Nat) : Int)) (by first | rfl | (congr 1) | (congr 1; omega)) (Z0 (Z137 rfl rfl rfl) rfl (Z7 (U8 (BitVec.ofNat 8 (a1 + a0))) (congrArg U8 (BitVec.ofInt_natCast ..)) (OW.ofN (NV.bs1 rfl rfl rfl rfl rfl rfl) rfl (fun b3 => (Z20 (M' := (((some b3), blk ((u8s ([(BitVec.ofNat 8 (a1 + a0))] : List (BitVec 8))) ++ []) 5) :: ([] ++ N))) (fun w m => by first | exact m | simpa [u8s] using m) ?_))))))
  have o4 : OwnS (some b3) ([(BitVec.ofNat 8 (a1 + a0))] : List (BitVec 8)).length 1 1 (u8s ([(BitVec.ofNat 8 (a1 + a0))] : List (BitVec 8))) [] := ⟨by simp [u8s], by simp [u8s], (fun h => nomatch h), by simp⟩
  have mx_o4 := o4.mx
  refine Z7 (sl (some b3) 0 ([(BitVec.ofNat 8 (a1 + a0))] : List (BitVec 8)).length 1) (rfl) (Z0 (Z5 rfl) rfl (Z6 (Z1 (CW.ret (Z8 ?_)))))
  have e0 := Zi hf
  subst e0
  refine Z102 (rs := [.tmp 4]) ([sl (some b3) 0 ([(BitVec.ofNat 8 (a1 + a0))] : List (BitVec 8)).length 1]) (((some b3), blk ((u8s ([(BitVec.ofNat 8 (a1 + a0))] : List (BitVec 8))) ++ []) 5) :: []) rfl ?_ rfl ?_ ?_ _ (.inl rfl)
  ·exact ⟨rfl, trivial⟩
  ·exact ⟨[], (some b3), 1, [], o4, rfl, rfl⟩
  ·exact (fun w m => m.pick [0] 1 rfl rfl)
 ·replace hf := if_f hf h1
  refine Z14 rfl (decide_eq_false h1) (CW.skip (Z1 (Z4 (Z2 (Z0 (Z3 rfl) rfl (Z0 (RV.conv_i64 rfl rfl rfl) rfl (Z7 (U64 (BitVec.ofNat 64 a0)) (congrArg U64 (BitVec.ofInt_natCast ..)) ?_)))))))
  obtain ⟨x6, hx5, hf⟩ := Z100 hf
  refine Z12 Try.call57 rfl (waybillref01_From_does w0 (More w0 Φ []) (([] ++ N)) (fun w m => Z103 hΦ 0 m rfl) (BitVec.ofNat 64 a0) x6 hx5) rfl rfl ?_
  rintro _ G7 rfl
  refine Z20 (M' := (([] ++ N))) (fun w m => m.appR) ?_
  obtain ⟨x10, hx9, hf⟩ := Z100 hf
  refine Z12 Try.call56 rfl (waybillref01_Bytes_does w0 (More w0 Φ []) (([] ++ N)) (fun w m => Z103 hΦ 0 m rfl) x6 x10 hx9) rfl rfl ?_
  rintro L16 M17 ⟨B11, ob12, c13, r14, o15, e18, e19⟩
  rw [e18, e19]
  clear e18 e19 L16 M17
  refine Z20 (M' := ((ob12, blk ((u8s x10) ++ r14) 5) :: ((B11 ++ []) ++ N))) (fun w m => by have h := Z107 (A := B11) m 1 0 rfl rfl; exact h) ?_
  have m20 := o15.mx
  refine Z0 (Z5 rfl) rfl (Z6 (Z1 (Z4 (Z2 (Z0 (Z3 rfl) rfl ?_)))))
  obtain ⟨g21, hf⟩ := Z116 hf
  refine Z0 (RV.add rfl rfl (by omega)) rfl (Z7 (.int .i64 (((a1 + 55) : Nat) : Int)) (by first | rfl | (congr 1) | (congr 1; omega)) (Z0 (Z3 rfl) rfl (Z0 (RV.len rfl rfl) rfl ?_)))
  obtain ⟨g22, hf⟩ := Z116 hf
  refine Z0 (RV.add rfl rfl (by omega)) rfl (Z7 (.int .i64 ((((a1 + 55) + x10.length) : Nat) : Int)) (by first | rfl | (congr 1) | (congr 1; omega)) (Z0 (Z137 rfl rfl rfl) rfl (Z7 (U8 (BitVec.ofNat 8 ((a1 + 55) + x10.length))) (congrArg U8 (BitVec.ofInt_natCast ..)) (OW.ofN (NV.bs1 rfl rfl rfl rfl rfl rfl) rfl (fun b23 => (Z20 (M' := (((some b23), blk ((u8s ([(BitVec.ofNat 8 ((a1 + 55) + x10.length))] : List (BitVec 8))) ++ []) 5) :: (ob12, blk ((u8s x10) ++ r14) 5) :: ((B11 ++ []) ++ N))) (fun w m => by first | exact m | simpa [u8s] using m) ?_))))))
  have o24 : OwnS (some b23) ([(BitVec.ofNat 8 ((a1 + 55) + x10.length))] : List (BitVec 8)).length 1 1 (u8s ([(BitVec.ofNat 8 ((a1 + 55) + x10.length))] : List (BitVec 8))) [] := ⟨by simp [u8s], by simp [u8s], (fun h => nomatch h), by simp⟩
  have mx_o24 := o24.mx
  refine Z7 (sl (some b23) 0 ([(BitVec.ofNat 8 ((a1 + 55) + x10.length))] : List (BitVec 8)).length 1) (rfl) (Z0 (Z5 rfl) rfl (Z6 (Z1 (Z4 (Z2 (Z0 (Z3 rfl) rfl (Z0 (Z3 rfl) rfl ?_)))))))
  obtain ⟨g25, hf⟩ := Z116 hf
  refine OW.appendOwn (s := 1) rfl rfl rfl rfl rfl rfl o24 (fun w m => m.rd0 (List.Mem.tail _ Zh) (fun e => o15.nilc (by decide) e)) o15.n (Z125 _) (o15.zeroO (by decide)) (by decide) (by decide) (by first | omega | (simp only [i5, List.length_nil]; omega)) rfl rfl ((([(BitVec.ofNat 8 ((a1 + 55) + x10.length))] : List (BitVec 8)) ++ x10).length) (u8s (([(BitVec.ofNat 8 ((a1 + 55) + x10.length))] : List (BitVec 8)) ++ x10)) (List.length_append ..).symm (u8s_app _ _) (fun ob26 r27 c28 o29 => ?_)
  have m30 := o29.mx
  refine Z0 (Z5 rfl) rfl (Z6 (Z1 (CW.ret ?_)))
  have e0 := Zi hf
  subst e0
  refine Z102 (rs := [.tmp 4]) ([sl ob26 0 (([(BitVec.ofNat 8 ((a1 + 55) + x10.length))] : List (BitVec 8)) ++ x10).length c28]) ((ob26, blk ((u8s (([(BitVec.ofNat 8 ((a1 + 55) + x10.length))] : List (BitVec 8)) ++ x10)) ++ r27) 5) :: (B11 ++ [])) rfl ?_ rfl ?_ ?_ _ (.inl rfl)
  ·exact ⟨rfl, trivial⟩
  ·exact ⟨(B11 ++ []), ob26, c28, r27, o29, rfl, rfl⟩
  ·exact (fun w m => m.pick [0] 2 rfl rfl)
theorem waybillref07_Same_rec (w0 : World) : ∀ (kf : Nat) (Φ : Ctx) (N : List Ent) (hΦ : ∀ w, Mem w0 w N → Φ w) (cs0_ : List Value) (a0 : It) (cs1_ : List Value) (a1 : It) (res0 : Bool) (ha0 : ItRd Φ cs0_ a0) (ha1 : ItRd Φ cs1_ a1) (hf : waybillref07_Same.r kf a0 a1 = some res0), DoesG Try.prog 8 [.agg cs0_.toArray, .agg cs1_.toArray] w0 [] N (fun v G => v = .bool res0) := by
 intro kf
 induction kf with
 | zero => intro Φ N hΦ cs0_ a0 cs1_ a1 res0 ha0 ha1 hf; rw [waybillref07_Same.r] at hf; cases hf
 | succ kf ih =>
  intro Φ N hΦ cs0_ a0 cs1_ a1 res0 ha0 ha1 hf
  rw [waybillref07_Same.r] at hf
  replace ha0 := ItRd.mono (Ψ := More w0 Φ []) (fun w q => q.1) _ _ ha0
  have h10 := ha0
  obtain ⟨A1, c2, A4, c5, cs7, e9, v3, v6, h8⟩ := ItRd.opn ha0
  subst e9
  have m11 := v3.mx
  have m12 := v6.mx
  replace ha1 := ItRd.mono (Ψ := More w0 Φ []) (fun w q => q.1) _ _ ha1
  have h22 := ha1
  obtain ⟨A13, c14, A16, c17, cs19, e21, v15, v18, h20⟩ := ItRd.opn ha1
  subst e21
  have m23 := v15.mx
  have m24 := v18.mx
  refine DoesG.enter Try.func8 rfl Try.ntmps8 rfl (M := (([] ++ N))) rfl (Z4 (Z2 (OW.boxA rfl rfl (fun b25 => (OW.boxA rfl rfl (fun b26 => (Z0 (Z5 rfl) rfl (Z6 (Z1 (Z4 (Z4 ?_)))))))))))
  obtain ⟨q27, hq28, hf⟩ := Z100 hf
  refine Z115 (fun L' M' => ∃ p29 : Bool, q27 = p29 ∧ L' = [(2, ptr (some b25) 0), (3, ptr (some b26) 0), (29, .bool (p29))] ∧ M' = ((some b26, blk [.bool (a1.list), .slice A13 a1.data.length c14, .slice A16 a1.items.length c17] 30) :: (some b25, blk [.bool (a0.list), .slice A1 a0.data.length c2, .slice A4 a0.items.length c5] 30) :: ([] ++ N))) ?_ ?_
  ·rintro L31 M32 ⟨p29, e30, e33, e34⟩
   rw [e33, e34]
   clear e33 e34 L31 M32
   clear hq28
   rw [e30] at hf
   clear e30
   try dsimp only at hf
   refine Z1 ?_
   by_cases h35 : p29 = true
   ·replace hf := if_t hf h35
    refine Z13 rfl (h35) (Z4 (Z2 (Z0 (Z5 rfl) rfl (Z6 (Z1 (CW.ret (Z8 ?_)))))))
    have e0 := Zi hf
    subst e0
    refine Z102 (rs := [.tmp 4]) ([.bool false]) ((some b26, blk [.bool (a1.list), .slice A13 a1.data.length c14, .slice A16 a1.items.length c17] 30) :: (some b25, blk [.bool (a0.list), .slice A1 a0.data.length c2, .slice A4 a0.items.length c5] 30) :: []) rfl ?_ rfl ?_ ?_ _ (.inl rfl)
    ·exact ⟨rfl, trivial⟩
    ·exact rfl
    ·exact (fun w m => m)
   ·replace hf := if_f hf h35
    refine Z14 rfl (Bool.eq_false_iff.2 h35) (CW.skip (Z1 (Z4 (Z4 (Z2 (Z0 (Z5 rfl) rfl (Z6 (Z1 ?_))))))))
    obtain ⟨q36, hq37, hf⟩ := Z100 hf
    refine Z115 (fun L' M' => q36 = Lp.go () ∧ L' = [(2, ptr (some b25) 0), (3, ptr (some b26) 0)] ∧ M' = ((some b26, blk [.bool (a1.list), .slice A13 a1.data.length c14, .slice A16 a1.items.length c17] 30) :: (some b25, blk [.bool (a0.list), .slice A1 a0.data.length c2, .slice A4 a0.items.length c5] 30) :: ([] ++ N))) ?_ ?_
    ·rintro L39 M40 ⟨e38, e41, e42⟩
     rw [e41, e42]
     clear e41 e42 L39 M40
     clear hq37
     rw [e38] at hf
     clear e38
     try dsimp only at hf
     refine Z1 (Z4 (Z4 (Z2 (Z0 (Z5 rfl) rfl (Z6 (Z1 ?_))))))
     obtain ⟨q43, hq44, hf⟩ := Z100 hf
     refine Z115 (fun L' M' => q43 = Lp.go () ∧ L' = [] ∧ M' = (([] ++ N))) ?_ ?_
     ·rintro L46 M47 ⟨e45, e48, e49⟩
      rw [e48, e49]
      clear e48 e49 L46 M47
      clear hq44
      rw [e45] at hf
      clear e45
      try dsimp only at hf
      refine Z1 (Z4 (Z2 (Z0 (Z5 rfl) rfl (Z6 (Z1 (CW.ret ?_))))))
      have e0 := Zi hf
      subst e0
      refine Z102 (rs := [.tmp 4]) ([.bool true]) ([]) rfl ?_ rfl ?_ ?_ _ (.inl rfl)
      ·exact ⟨rfl, trivial⟩
      ·exact rfl
      ·exact (fun w m => m)
     ·skip
      refine CW.block (Z114 (fun k L' M' => ∃ n50 : Nat, (waybillref07_Same.l1 a0 a1 (waybillref07_Same.r kf) k n50) = some q43 ∧ (n50 ≤ 9223372036854775807) ∧ L' = [(2, ptr (some b25) 0), (3, ptr (some b26) 0), (6, .int .i64 ((n50 : Nat) : Int))] ∧ M' = ((some b26, blk [.bool (a1.list), .slice A13 a1.data.length c14, .slice A16 a1.items.length c17] 30) :: (some b25, blk [.bool (a0.list), .slice A1 a0.data.length c2, .slice A4 a0.items.length c5] 30) :: ([] ++ N))) (k0 := (a0.items.length - 0 + 2)) ⟨0, hq44, (by omega), rfl, rfl⟩ ⟨rfl, rfl, rfl, trivial⟩ (fun w m => m.pick [0, 1] 2 rfl rfl) ?_)
      clear hq44
      rintro k52 L55 M56 ⟨n50, hl53, b51, e57, e58⟩
      rw [e57, e58]
      clear e57 e58 L55 M56
      rcases k52 with _ | k52
      ·rw [waybillref07_Same.l1] at hl53; cases hl53
      rw [waybillref07_Same.l1] at hl53
      refine Z4 (Z4 (Z2 (Z0 (Z3 rfl) rfl (Z0 (Z30 rfl rfl rfl rfl) rfl (Z0 (Z29 rfl (List.Mem.tail _ Zh) rfl rfl rfl rfl) rfl (Z0 (RV.len rfl rfl) rfl (Z0 (RV.lss rfl rfl) rfl (Z7 (.bool (decide (n50 < a0.items.length))) (congrArg Value.bool (decide_eq_decide.2 (by omega))) (Z6 (Z1 ?_))))))))))
      by_cases h59 : n50 < a0.items.length
      ·replace hl53 := if_t hl53 h59
       refine Z13 rfl (decide_eq_true h59) (CW.skip (Z1 (Z4 (CW.block (Z4 (Z134 12 mixed (by kernel_rfl) rfl (Z18 0 rfl (by kernel_rfl) rfl (Z30 rfl rfl rfl rfl) rfl (Z18 1 rfl (by kernel_rfl) rfl (Z29 rfl (List.Mem.tail _ Zh) rfl rfl rfl rfl) rfl (Z18 2 rfl (by kernel_rfl) rfl (Z3 rfl) rfl ?_)))))))))
       obtain ⟨x60, hx61, hl53⟩ := Z100 hl53
       have hl62 := Z113 hx61
       refine Z18 3 rfl (by kernel_rfl) rfl (Z105 (n50) rfl rfl rfl rfl rfl (v6.isSome (by decide) hl62) (by omega)) rfl ?_
       obtain ⟨cs63, h64, h65⟩ := h8.get ItRd.len hx61
       have h75 := h64
       obtain ⟨A66, c67, A69, c70, cs72, e74, v68, v71, h73⟩ := ItRd.opn h64
       subst e74
       have m76 := v68.mx
       have m77 := v71.mx
       refine Z18 4 rfl (by kernel_rfl) rfl (Z110 rfl rfl rfl rfl (fun w m => v6.load (Z103 hΦ 2 m rfl) h65) rfl) rfl (Z18 5 rfl (by kernel_rfl) rfl (Z30 rfl rfl rfl rfl) rfl (Z18 6 rfl (by kernel_rfl) rfl (Z29 rfl Zh rfl rfl rfl rfl) rfl (Z18 7 rfl (by kernel_rfl) rfl (Z3 rfl) rfl ?_)))
       obtain ⟨x78, hx79, hl53⟩ := Z100 hl53
       have hl80 := Z113 hx79
       refine Z18 8 rfl (by kernel_rfl) rfl (Z105 (n50) rfl rfl rfl rfl rfl (v18.isSome (by decide) hl80) (by omega)) rfl ?_
       obtain ⟨cs81, h82, h83⟩ := h20.get ItRd.len hx79
       have h93 := h82
       obtain ⟨A84, c85, A87, c88, cs90, e92, v86, v89, h91⟩ := ItRd.opn h82
       subst e92
       have m94 := v86.mx
       have m95 := v89.mx
       refine Z18 9 rfl (by kernel_rfl) rfl (Z110 rfl rfl rfl rfl (fun w m => v18.load (Z103 hΦ 2 m rfl) h83) rfl) rfl ?_
       obtain ⟨x97, hx96, hl53⟩ := Z100 hl53
       refine Z25 10 rfl (by kernel_rfl) rfl Try.call8 rfl (fun N' hN' => ih (More w0 Φ []) N' (fun w m => Z103 hΦ 2 (hN' w m) rfl) [.bool (x60.list), .slice A66 x60.data.length c67, .slice A69 x60.items.length c70] x60 [.bool (x78.list), .slice A84 x78.data.length c85, .slice A87 x78.items.length c88] x78 x97 h75 h93 hx96) rfl ?_
       rintro _ G98 rfl
       refine UW.mem (M' := ((some b26, blk [.bool (a1.list), .slice A13 a1.data.length c14, .slice A16 a1.items.length c17] 30) :: (some b25, blk [.bool (a0.list), .slice A1 a0.data.length c2, .slice A4 a0.items.length c5] 30) :: ([] ++ N))) (fun w m => m.appR) (Z18 11 rfl (by kernel_rfl) rfl (RV.not rfl) rfl (UW.nil (by kernel_rfl) (Z6 (Z1 ?_))))
       by_cases h100 : x97 = true
       ·replace hl53 := if_t hl53 h100
        refine Z14 rfl (congrArg (fun b => !b) (h100)) (CW.skip (Z27 (Z1 (Z2 (Z0 (Z3 rfl) rfl (Z0 (RV.add rfl rfl (by omega)) rfl (Z7 (.int .i64 (((n50 + 1) : Nat) : Int)) (by first | rfl | (congr 1) | (congr 1; omega)) (Z0 (Z5 rfl) rfl (Z6 ?_)))))))))
        exact Z109 (k' := k52) (Nat.lt_succ_self _) ⟨(n50 + 1), hl53, (by omega), rfl, rfl⟩ ⟨rfl, rfl, rfl, trivial⟩ (fun w m => m.pick [0, 1] 2 rfl rfl)
       ·replace hl53 := if_f hl53 h100
        refine Z13 rfl (congrArg (fun b => !b) (Bool.eq_false_iff.2 h100)) (Z4 (Z2 (Z0 (Z5 rfl) rfl (Z6 (Z1 (CW.ret (Z16 (Z8 (Z8 (Z16 (Z8 ?_)))))))))))
        have hc := Zi hl53
        subst hc
        try dsimp only at hf
        refine Z8 ?_
        have e0 := Zi hf
        subst e0
        refine Z102 (rs := [.tmp 4]) ([.bool false]) ((some b26, blk [.bool (a1.list), .slice A13 a1.data.length c14, .slice A16 a1.items.length c17] 30) :: (some b25, blk [.bool (a0.list), .slice A1 a0.data.length c2, .slice A4 a0.items.length c5] 30) :: []) rfl ?_ rfl ?_ ?_ _ (.inl rfl)
        ·exact ⟨rfl, trivial⟩
        ·exact rfl
        ·exact (fun w m => m)
      ·replace hl53 := if_f hl53 h59
       refine Z14 rfl (decide_eq_false h59) (CW.exit (Z9 (Z9 (Z15 ?_))))
       exact QW.join ⟨(Zi hl53).symm, rfl, rfl⟩ trivial (fun w m => m.pick [] 2 rfl rfl)
    ·skip
     refine CW.block (Z114 (fun k L' M' => ∃ n101 : Nat, (waybillref07_Same.l2 a0 a1 k n101) = some q36 ∧ (n101 ≤ 9223372036854775807) ∧ L' = [(2, ptr (some b25) 0), (3, ptr (some b26) 0), (5, .int .i64 ((n101 : Nat) : Int))] ∧ M' = ((some b26, blk [.bool (a1.list), .slice A13 a1.data.length c14, .slice A16 a1.items.length c17] 30) :: (some b25, blk [.bool (a0.list), .slice A1 a0.data.length c2, .slice A4 a0.items.length c5] 30) :: ([] ++ N))) (k0 := (a0.data.length - 0 + 2)) ⟨0, hq37, (by omega), rfl, rfl⟩ ⟨rfl, rfl, rfl, trivial⟩ (fun w m => m.pick [0, 1] 2 rfl rfl) ?_)
     clear hq37
     rintro k103 L106 M107 ⟨n101, hl104, b102, e108, e109⟩
     rw [e108, e109]
     clear e108 e109 L106 M107
     rcases k103 with _ | k103
     ·rw [waybillref07_Same.l2] at hl104; cases hl104
     rw [waybillref07_Same.l2] at hl104
     refine Z4 (Z4 (Z2 (Z0 (Z3 rfl) rfl (Z0 (Z30 rfl rfl rfl rfl) rfl (Z0 (Z29 rfl (List.Mem.tail _ Zh) rfl rfl rfl rfl) rfl (Z0 (RV.len rfl rfl) rfl (Z0 (RV.lss rfl rfl) rfl (Z7 (.bool (decide (n101 < a0.data.length))) (congrArg Value.bool (decide_eq_decide.2 (by omega))) (Z6 (Z1 ?_))))))))))
     by_cases h110 : n101 < a0.data.length
     ·replace hl104 := if_t hl104 h110
      refine Z13 rfl (decide_eq_true h110) (CW.skip (Z1 (Z4 (CW.block (Z4 (Z134 11 mixed (by kernel_rfl) rfl (Z18 0 rfl (by kernel_rfl) rfl (Z30 rfl rfl rfl rfl) rfl (Z18 1 rfl (by kernel_rfl) rfl (Z29 rfl (List.Mem.tail _ Zh) rfl rfl rfl rfl) rfl (Z18 2 rfl (by kernel_rfl) rfl (Z3 rfl) rfl ?_)))))))))
      obtain ⟨x111, hx112, hl104⟩ := Z100 hl104
      have hl113 := Z113 hx112
      refine Z18 3 rfl (by kernel_rfl) rfl (RV.idx_r (n101) rfl rfl rfl rfl rfl (v3.isSome (by decide) hl113) (by omega)) rfl (Z18 4 rfl (by kernel_rfl) rfl (Z21 rfl rfl rfl (fun w m => v3.cell (Z103 hΦ 2 m rfl) (u8s_at hx112))) rfl (Z18 5 rfl (by kernel_rfl) rfl (Z30 rfl rfl rfl rfl) rfl (Z18 6 rfl (by kernel_rfl) rfl (Z29 rfl Zh rfl rfl rfl rfl) rfl (Z18 7 rfl (by kernel_rfl) rfl (Z3 rfl) rfl ?_))))
      obtain ⟨x114, hx115, hl104⟩ := Z100 hl104
      have hl116 := Z113 hx115
      refine Z18 8 rfl (by kernel_rfl) rfl (RV.idx_r (n101) rfl rfl rfl rfl rfl (v15.isSome (by decide) hl116) (by omega)) rfl (Z18 9 rfl (by kernel_rfl) rfl (Z21 rfl rfl rfl (fun w m => v15.cell (Z103 hΦ 2 m rfl) (u8s_at hx115))) rfl (Z18 10 rfl (by kernel_rfl) rfl (RV.neq8 rfl (by first | rfl | exact lit8 _ rfl) rfl (by first | rfl | exact lit8 _ rfl)) rfl (UW.nil (by kernel_rfl) (Z6 (Z1 ?_)))))
      by_cases h117 : x111 = x114
      ·replace hl104 := if_t hl104 h117
       refine Z14 rfl (congrArg (fun b => !b) (decide_eq_true h117)) (CW.skip (Z27 (Z1 (Z2 (Z0 (Z3 rfl) rfl (Z0 (RV.add rfl rfl (by omega)) rfl (Z7 (.int .i64 (((n101 + 1) : Nat) : Int)) (by first | rfl | (congr 1) | (congr 1; omega)) (Z0 (Z5 rfl) rfl (Z6 ?_)))))))))
       exact Z109 (k' := k103) (Nat.lt_succ_self _) ⟨(n101 + 1), hl104, (by omega), rfl, rfl⟩ ⟨rfl, rfl, rfl, trivial⟩ (fun w m => m.pick [0, 1] 2 rfl rfl)
      ·replace hl104 := if_f hl104 h117
       refine Z13 rfl (congrArg (fun b => !b) (decide_eq_false h117)) (Z4 (Z2 (Z0 (Z5 rfl) rfl (Z6 (Z1 (CW.ret (Z16 (Z8 (Z8 (Z16 (Z8 ?_)))))))))))
       have hc := Zi hl104
       subst hc
       try dsimp only at hf
       refine Z8 ?_
       have e0 := Zi hf
       subst e0
       refine Z102 (rs := [.tmp 4]) ([.bool false]) ((some b26, blk [.bool (a1.list), .slice A13 a1.data.length c14, .slice A16 a1.items.length c17] 30) :: (some b25, blk [.bool (a0.list), .slice A1 a0.data.length c2, .slice A4 a0.items.length c5] 30) :: []) rfl ?_ rfl ?_ ?_ _ (.inl rfl)
       ·exact ⟨rfl, trivial⟩
       ·exact rfl
       ·exact (fun w m => m)
     ·replace hl104 := if_f hl104 h110
      refine Z14 rfl (decide_eq_false h110) (CW.exit (Z9 (Z9 (Z15 ?_))))
      exact QW.join ⟨(Zi hl104).symm, rfl, rfl⟩ ⟨rfl, rfl, trivial⟩ (fun w m => m.pick [0, 1] 2 rfl rfl)
  ·skip
   refine Z2 (Z0 (Z30 rfl rfl rfl rfl) rfl (Z0 (Z29 rfl (List.Mem.tail _ Zh) rfl rfl rfl rfl) rfl (Z0 (Z30 rfl rfl rfl rfl) rfl (Z0 (Z29 rfl Zh rfl rfl rfl rfl) rfl (Z0 (RV.neqB rfl rfl rfl) rfl (Z7 (.bool (!decide ((a0.list) = (a1.list)))) (by first | rfl | (congr 1) | simp) (Z0 (Z3 rfl) rfl ?_)))))))
   by_cases h118 : (a0.list) = (a1.list)
   ·replace hq28 := if_t hq28 h118
    refine Z7 (.bool false) (congrArg Value.bool (congrArg (fun b => !b) (decide_eq_true h118))) (Z24 rfl (Z0 (Z30 rfl rfl rfl rfl) rfl (Z24 rfl (Z0 (Z29 rfl (List.Mem.tail _ Zh) rfl rfl rfl rfl) rfl (Z24 rfl (Z0 (RV.len rfl rfl) rfl (Z24 rfl ?_)))))))
    refine Z0 (Z30 rfl rfl rfl rfl) rfl (Z24 rfl (Z0 (Z29 rfl Zh rfl rfl rfl rfl) rfl (Z24 rfl (Z0 (RV.len rfl rfl) rfl (Z24 rfl (Z0 (RV.neq rfl rfl) rfl (Z7 (.bool (!decide (a0.data.length = a1.data.length))) (congrArg (fun b => Value.bool (!b)) (decide_eq_decide.2 (by omega))) ?_)))))))
    refine Z0 (Z108 rfl rfl rfl) rfl (Z0 (Z3 rfl) rfl ?_)
    by_cases h119 : a0.data.length = a1.data.length
    ·replace hq28 := if_t hq28 h119
     refine Z7 (.bool false) (congrArg Value.bool (congrArg (fun b => !b) (decide_eq_true h119))) (Z24 rfl (Z0 (Z30 rfl rfl rfl rfl) rfl (Z24 rfl (Z0 (Z29 rfl (List.Mem.tail _ Zh) rfl rfl rfl rfl) rfl (Z24 rfl (Z0 (RV.len rfl rfl) rfl (Z24 rfl ?_)))))))
     refine Z0 (Z30 rfl rfl rfl rfl) rfl (Z24 rfl (Z0 (Z29 rfl Zh rfl rfl rfl rfl) rfl (Z24 rfl (Z0 (RV.len rfl rfl) rfl (Z24 rfl (Z0 (RV.neq rfl rfl) rfl (Z7 (.bool (!decide (a0.items.length = a1.items.length))) (congrArg (fun b => Value.bool (!b)) (decide_eq_decide.2 (by omega))) ?_)))))))
     refine Z0 (Z108 rfl rfl rfl) rfl (Z6 ?_)
     exact QW.join ⟨(!decide (a0.items.length = a1.items.length)), (Zi hq28).symm, rfl, rfl⟩ ⟨rfl, rfl, rfl, trivial⟩ (fun w m => m.pick [0, 1] 2 rfl rfl)
    ·replace hq28 := if_f hq28 h119
     refine Z7 (.bool true) (congrArg Value.bool (congrArg (fun b => !b) (decide_eq_false h119))) (Z23 rfl rfl rfl (Z23 rfl rfl rfl (Z23 rfl rfl rfl (Z23 rfl rfl rfl (Z23 rfl rfl rfl (Z23 rfl rfl rfl (Z23 rfl rfl rfl ?_)))))))
     refine Z0 (Z112 rfl rfl rfl) rfl (Z6 ?_)
     exact QW.join ⟨true, (Zi hq28).symm, rfl, rfl⟩ ⟨rfl, rfl, rfl, trivial⟩ (fun w m => m.pick [0, 1] 2 rfl rfl)
   ·replace hq28 := if_f hq28 h118
    refine Z7 (.bool true) (congrArg Value.bool (congrArg (fun b => !b) (decide_eq_false h118))) (Z23 rfl rfl rfl (Z23 rfl rfl rfl (Z23 rfl rfl rfl (Z23 rfl rfl rfl (Z23 rfl rfl rfl (Z23 rfl rfl rfl (Z23 rfl rfl rfl ?_)))))))
    refine Z0 (Z112 rfl rfl rfl) rfl (Z0 (Z3 rfl) rfl (Z23 rfl rfl rfl (Z23 rfl rfl rfl (Z23 rfl rfl rfl (Z23 rfl rfl rfl (Z23 rfl rfl rfl (Z23 rfl rfl rfl ?_)))))))
    refine Z23 rfl rfl rfl (Z0 (Z112 rfl rfl rfl) rfl (Z6 ?_))
    exact QW.join ⟨true, (Zi hq28).symm, rfl, rfl⟩ ⟨rfl, rfl, rfl, trivial⟩ (fun w m => m.pick [0, 1] 2 rfl rfl)
theorem waybillref07_Same_does (w0 : World) (Φ : Ctx) (N : List Ent) (hΦ : ∀ w, Mem w0 w N → Φ w) (cs0_ : List Value) (a0 : It) (cs1_ : List Value) (a1 : It) (res0 : Bool) (ha0 : ItRd Φ cs0_ a0) (ha1 : ItRd Φ cs1_ a1) (hf : waybillref07_Same a0 a1 = some res0) : DoesG Try.prog 8 [.agg cs0_.toArray, .agg cs1_.toArray] w0 [] N (fun v G => v = .bool res0) := waybillref07_Same_rec w0 _ Φ N hΦ cs0_ a0 cs1_ a1 res0 ha0 ha1 hf
theorem rlp_twin_rec (w0 : World) : ∀ (kf : Nat) (Φ : Ctx) (N : List Ent) (hΦ : ∀ w, Mem w0 w N → Φ w) (A0_ : Option Addr) (c0_ : Nat) (cs0_ : List Value) (a0 : List (It)) (res0 : List (It)) (va0 : View Φ A0_ a0.length c0_ 3 cs0_) (ha0 : Reps (ItRd Φ) cs0_ a0) (hf : rlp_twin.r kf a0 = some res0), DoesG Try.prog 37 [.slice A0_ a0.length c0_] w0 [] N (fun v G => ∃ B : List Ent, ∃ cr0 : List Value, ∃ or0 : Option Nat, ∃ kr0 : Nat, ∃ rr0 : List Value, (Reps (ItRd (More w0 Φ B)) cr0 res0) ∧ (OwnS or0 res0.length kr0 3 cr0 rr0) ∧ v = sl or0 0 res0.length kr0 ∧ G = (or0, blk (cr0 ++ rr0) 30) :: B) := by
 intro kf
 induction kf with
 | zero => intro Φ N hΦ A0_ c0_ cs0_ a0 res0 va0 ha0 hf; rw [rlp_twin.r] at hf; cases hf
 | succ kf ih =>
  intro Φ N hΦ A0_ c0_ cs0_ a0 res0 va0 ha0 hf
  rw [rlp_twin.r] at hf
  replace va0 := va0.mono (Ψ := More w0 Φ []) (fun w q => q.1)
  replace ha0 := ha0.mono (ItRd.mono (Ψ := More w0 Φ []) (fun w q => q.1))
  have m1 := va0.mx
  refine DoesG.enter Try.func37 rfl Try.ntmps37 rfl (M := (([] ++ N))) rfl (Z4 (Z2 (Z0 (Z5 rfl) rfl (Z6 (Z1 (Z4 (Z2 (Z0 (Z5 rfl) rfl (Z6 (Z1 (Z4 (Z4 (Z2 (Z0 (Z3 rfl) rfl (Z0 (RV.len rfl rfl) rfl ?_)))))))))))))))
  refine Z0 (Z3 rfl) rfl (Z6 (Z1 ?_))
  obtain ⟨q2, hq3, hf⟩ := Z100 hf
  refine Z115 (fun L' M' => ∃ l6 : List (It), ∃ B4 : List Ent, ∃ cs7 : List Value, ∃ ob9 : Option Nat, ∃ c10 : Nat, ∃ r11 : List Value, q2 = l6 ∧ (∀ w, Mem w0 w B4 → Mem w0 w []) ∧ (Reps (ItRd (More w0 Φ B4)) cs7 l6) ∧ (OwnS ob9 l6.length c10 3 cs7 r11) ∧ L' = [(3, sl ob9 0 l6.length c10)] ∧ M' = ((ob9, blk (cs7 ++ r11) 30) :: (B4 ++ N))) ?_ ?_
  ·rintro L14 M15 ⟨l6, B4, cs7, ob9, c10, r11, e13, hB5, h8, o12, e16, e17⟩
   rw [e16, e17]
   clear e16 e17 L14 M15
   clear hq3
   rw [e13] at hf
   clear e13
   try dsimp only at hf
   have m18 := o12.mx
   refine Z1 (Z4 (Z2 (Z0 (Z3 rfl) rfl (Z0 (Z5 rfl) rfl (Z6 (Z1 (CW.ret ?_)))))))
   have e0 := Zi hf
   subst e0
   refine Z102 (rs := [.tmp 2]) ([sl ob9 0 l6.length c10]) ((ob9, blk (cs7 ++ r11) 30) :: B4) rfl ?_ rfl ?_ ?_ _ (.inl rfl)
   ·exact ⟨rfl, trivial⟩
   ·exact ⟨B4, cs7, ob9, c10, r11, h8, o12, rfl, rfl⟩
   ·exact (fun w m => m.pick [0] 1 rfl rfl)
  ·skip
   refine CW.block (CW.mem (M' := ((none, blk ([] ++ []) 30) :: ([] ++ N))) (fun w m => m.nil_ent _) (Z114 (fun k L' M' => ∃ l21 : List (It), ∃ n28 : Nat, ∃ B19 : List Ent, ∃ cs22 : List Value, ∃ ob24 : Option Nat, ∃ c25 : Nat, ∃ r26 : List Value, (rlp_twin.l1 a0 (rlp_twin.r kf) k l21 n28) = some q2 ∧ (∀ w, Mem w0 w B19 → Mem w0 w []) ∧ (Reps (ItRd (More w0 Φ B19)) cs22 l21) ∧ (OwnS ob24 l21.length c25 3 cs22 r26) ∧ (n28 ≤ 9223372036854775807) ∧ L' = [(3, sl ob24 0 l21.length c25), (6, .slice A0_ a0.length c0_), (7, .int .i64 ((a0.length : Nat) : Int)), (8, .int .i64 ((n28 : Nat) : Int))] ∧ M' = ((ob24, blk (cs22 ++ r26) 30) :: (B19 ++ N))) (k0 := (a0.length - 0 + 2)) ⟨([] : List (It)), 0, [], [], none, 0, [], hq3, (fun w m => m), Reps.nil, OwnS.nil, (by omega), rfl, rfl⟩ ⟨rfl, rfl, rfl, rfl, trivial⟩ (fun w m => m.pick [0] 1 rfl rfl) ?_))
   clear hq3
   rintro k30 L33 M34 ⟨l21, n28, B19, cs22, ob24, c25, r26, hl31, hB20, h23, o27, b29, e35, e36⟩
   rw [e35, e36]
   clear e35 e36 L33 M34
   rcases k30 with _ | k30
   ·rw [rlp_twin.l1] at hl31; cases hl31
   rw [rlp_twin.l1] at hl31
   have gq6 : ∀ w, More w0 Φ B19 w → More w0 Φ [] w := fun w q => More.mono (fun w m => hB20 w (m)) q
   replace va0 := va0.mono gq6
   replace ha0 := ha0.mono (ItRd.mono gq6)
   have m37 := o27.mx
   refine Z4 (Z2 (Z0 (RV.lss rfl rfl) rfl (Z7 (.bool (decide (n28 < a0.length))) (congrArg Value.bool (decide_eq_decide.2 (by omega))) (Z6 (Z1 (Z4 ?_))))))
   by_cases h38 : n28 < a0.length
   ·replace hl31 := if_t hl31 h38
    refine Z13 rfl (decide_eq_true h38) (CW.skip (Z1 (Z4 (CW.block (Z4 (Z2 ?_))))))
    obtain ⟨x39, hx40, hl31⟩ := Z100 hl31
    have hl41 := Z113 hx40
    refine Z0 (Z105 (n28) rfl rfl rfl rfl rfl (va0.isSome (by decide) hl41) (by omega)) rfl ?_
    obtain ⟨cs42, h43, h44⟩ := ha0.get ItRd.len hx40
    have h54 := h43
    obtain ⟨A45, c46, A48, c49, cs51, e53, v47, v50, h52⟩ := ItRd.opn h43
    subst e53
    have m55 := v47.mx
    have m56 := v50.mx
    refine Z0 (Z110 rfl rfl rfl rfl (fun w m => va0.load (Z103 hΦ 1 m rfl) h44) rfl) rfl (OW.alloc (l := [.bool false, .slice none 0 0, .slice none 0 0]) rfl rfl rfl (fun b57 => ?_))
    refine Z28 (Z104 rfl rfl rfl (by intro u hu; simp at hu; rcases hu with rfl | rfl | rfl <;> rfl) rfl rfl rfl) ?_
    refine Z6 (Z1 (Z134 11 mixed (by kernel_rfl) rfl (Z18 0 rfl (by kernel_rfl) rfl (Z3 rfl) rfl (Z18 1 rfl (by kernel_rfl) rfl (Z30 rfl rfl rfl rfl) rfl (Z18 2 rfl (by kernel_rfl) rfl (Z29 rfl Zh rfl rfl rfl rfl) rfl (Z18 3 rfl (by kernel_rfl) rfl (Z30 rfl rfl rfl rfl) rfl (Z18 4 rfl (by kernel_rfl) rfl (Z29 rfl Zh rfl rfl rfl rfl) rfl (Z18 6 rfl (by kernel_rfl) rfl (Z30 rfl rfl rfl rfl) rfl ?_))))))))
    refine Z18 7 rfl (by kernel_rfl) rfl (Z29 rfl Zh rfl rfl rfl rfl) rfl ?_
    obtain ⟨x59, hx58, hl31⟩ := Z100 hl31
    refine Z25 5 rfl (by kernel_rfl) rfl Try.call36 rfl (fun N' hN' => rlp_clone_does w0 (More w0 Φ B19) N' (fun w m => Z103 hΦ 2 (hN' w m) rfl) A45 c46 x39.data x59 v47 hx58) rfl ?_
    rintro L65 M66 ⟨B60, ob61, c62, r63, o64, e67, e68⟩
    rw [e67, e68]
    clear e67 e68 L65 M66
    refine UW.mem (M' := ((ob61, blk ((u8s x59) ++ r63) 5) :: (some b57, blk [.bool (x39.list), .slice A45 x39.data.length c46, .slice A48 x39.items.length c49] 30) :: (ob24, blk (cs22 ++ r26) 30) :: ((B60 ++ B19) ++ N))) (fun w m => by have h := Z107 (A := B60) m 1 2 rfl rfl; exact h) ?_
    have gq7 : ∀ w, More w0 Φ (B60 ++ B19) w → More w0 Φ B19 w := fun w q => More.mono (fun w m => (m).appR) q
    replace va0 := va0.mono gq7
    replace ha0 := ha0.mono (ItRd.mono gq7)
    replace h23 := h23.mono (ItRd.mono gq7)
    replace h54 := ItRd.mono gq7 _ _ h54
    replace v47 := v47.mono gq7
    replace v50 := v50.mono gq7
    replace h52 := h52.mono (ItRd.mono gq7)
    have m69 := o64.mx
    obtain ⟨x71, hx70, hl31⟩ := Z100 hl31
    refine Z25 8 rfl (by kernel_rfl) rfl Try.call37 rfl (fun N' hN' => ih (More w0 Φ (B60 ++ B19)) N' (fun w m => Z103 hΦ 3 (hN' w m) rfl) A48 c49 cs51 x39.items x71 v50 h52 hx70) rfl ?_
    rintro L79 M80 ⟨B72, cs73, ob75, c76, r77, h74, o78, e81, e82⟩
    rw [e81, e82]
    clear e81 e82 L79 M80
    refine UW.mem (M' := ((ob75, blk (cs73 ++ r77) 30) :: (ob61, blk ((u8s x59) ++ r63) 5) :: (some b57, blk [.bool (x39.list), .slice A45 x39.data.length c46, .slice A48 x39.items.length c49] 30) :: (ob24, blk (cs22 ++ r26) 30) :: ((B72 ++ (B60 ++ B19)) ++ N))) (fun w m => by have h := Z107 (A := B72) m 1 3 rfl rfl; exact h) ?_
    have gq8 : ∀ w, More w0 Φ (B72 ++ (B60 ++ B19)) w → More w0 Φ (B60 ++ B19) w := fun w q => More.mono (fun w m => (m).appR) q
    replace va0 := va0.mono gq8
    replace ha0 := ha0.mono (ItRd.mono gq8)
    replace h23 := h23.mono (ItRd.mono gq8)
    replace h54 := ItRd.mono gq8 _ _ h54
    replace v47 := v47.mono gq8
    replace v50 := v50.mono gq8
    replace h52 := h52.mono (ItRd.mono gq8)
    replace h74 := h74.mono (ItRd.mono (Ψ := (More w0 Φ (B72 ++ (B60 ++ B19)))) (fun w q => Z117 q))
    have m83 := o78.mx
    refine Z18 9 rfl (by kernel_rfl) rfl (Z111 (l := [.bool false, .slice none 0 0, .slice none 0 0]) (cs := [.bool (x39.list), sl ob61 0 x59.length c62, sl ob75 0 x71.length c76]) [(0, [.bool (x39.list)]), (1, [sl ob61 0 x59.length c62]), (2, [sl ob75 0 x71.length c76])] rfl rfl rfl rfl rfl rfl rfl) rfl (UW.mem (M' := (ob75, blk (cs73 ++ r77) 30) :: (some b57, blk [.bool (x39.list), .slice A45 x39.data.length c46, .slice A48 x39.items.length c49] 30) :: (ob24, blk (cs22 ++ r26) 30) :: (((ob61, blk ((u8s x59) ++ r63) 5) :: (B72 ++ (B60 ++ B19))) ++ N)) (fun w m => m.pick [0, 2, 3, 1] 4 rfl rfl) ?_)
    have gq9 : ∀ w, More w0 Φ ((ob61, blk ((u8s x59) ++ r63) 5) :: (B72 ++ (B60 ++ B19))) w → More w0 Φ (B72 ++ (B60 ++ B19)) w := fun w q => More.mono (fun w m => (m).tail) q
    replace va0 := va0.mono gq9
    replace ha0 := ha0.mono (ItRd.mono gq9)
    replace h23 := h23.mono (ItRd.mono gq9)
    replace h54 := ItRd.mono gq9 _ _ h54
    replace v47 := v47.mono gq9
    replace v50 := v50.mono gq9
    replace h52 := h52.mono (ItRd.mono gq9)
    replace h74 := h74.mono (ItRd.mono gq9)
    have v86 : View (More w0 Φ ((ob61, blk ((u8s x59) ++ r63) 5) :: (B72 ++ (B60 ++ B19)))) ((ob61).map fun k => ⟨k, 0, none⟩) x59.length c62 1 (u8s x59) := o64.view (by decide) (fun w q => q.2.sublist (List.singleton_sublist.2 (List.mem_cons_self ..)))
    refine UW.mem (M' := (some b57, blk [.bool (x39.list), .slice A45 x39.data.length c46, .slice A48 x39.items.length c49] 30) :: (ob24, blk (cs22 ++ r26) 30) :: (((ob75, blk (cs73 ++ r77) 30) :: ((ob61, blk ((u8s x59) ++ r63) 5) :: (B72 ++ (B60 ++ B19)))) ++ N)) (fun w m => m.pick [1, 2, 0] 3 rfl rfl) ?_
    have gq10 : ∀ w, More w0 Φ ((ob75, blk (cs73 ++ r77) 30) :: ((ob61, blk ((u8s x59) ++ r63) 5) :: (B72 ++ (B60 ++ B19)))) w → More w0 Φ ((ob61, blk ((u8s x59) ++ r63) 5) :: (B72 ++ (B60 ++ B19))) w := fun w q => More.mono (fun w m => (m).tail) q
    replace va0 := va0.mono gq10
    replace ha0 := ha0.mono (ItRd.mono gq10)
    replace h23 := h23.mono (ItRd.mono gq10)
    replace h54 := ItRd.mono gq10 _ _ h54
    replace v47 := v47.mono gq10
    replace v50 := v50.mono gq10
    replace h52 := h52.mono (ItRd.mono gq10)
    replace v86 := v86.mono gq10
    replace h74 := h74.mono (ItRd.mono gq10)
    have v87 : View (More w0 Φ ((ob75, blk (cs73 ++ r77) 30) :: ((ob61, blk ((u8s x59) ++ r63) 5) :: (B72 ++ (B60 ++ B19))))) ((ob75).map fun k => ⟨k, 0, none⟩) x71.length c76 3 cs73 := o78.view (by decide) (fun w q => q.2.sublist (List.singleton_sublist.2 (List.mem_cons_self ..)))
    refine UW.new 10 rfl (by kernel_rfl) rfl (NV.bsA rfl rfl (by intro x hx; simp at hx; subst hx; exact rfl) rfl rfl rfl (by decide) (by decide) rfl) rfl (fun b84 => ?_)
    have h89 : Reps (ItRd (More w0 Φ ((ob75, blk (cs73 ++ r77) 30) :: ((ob61, blk ((u8s x59) ++ r63) 5) :: (B72 ++ (B60 ++ B19)))))) (([.bool (x39.list), .slice ((ob61).map fun k => ⟨k, 0, none⟩) x59.length c62, .slice ((ob75).map fun k => ⟨k, 0, none⟩) x71.length c76] : List Value)) [(It.mk (x39.list) x59 x71)] := Reps.one (ItRd.mk v86 v87 h74)
    refine UW.mem (M' := (((some b84), blk ((([.bool (x39.list), .slice ((ob61).map fun k => ⟨k, 0, none⟩) x59.length c62, .slice ((ob75).map fun k => ⟨k, 0, none⟩) x71.length c76] : List Value)) ++ []) 30) :: (some b57, blk [.bool (x39.list), .slice A45 x39.data.length c46, .slice A48 x39.items.length c49] 30) :: (ob24, blk (cs22 ++ r26) 30) :: (((ob75, blk (cs73 ++ r77) 30) :: ((ob61, blk ((u8s x59) ++ r63) 5) :: (B72 ++ (B60 ++ B19)))) ++ N))) (fun w m => m) ?_
    have o85 : OwnS (some b84) ([(It.mk (x39.list) x59 x71)] : List (It)).length 1 3 (([.bool (x39.list), .slice ((ob61).map fun k => ⟨k, 0, none⟩) x59.length c62, .slice ((ob75).map fun k => ⟨k, 0, none⟩) x71.length c76] : List Value)) [] := ⟨by simp [ItRd], by simp [ItRd], (fun h => nomatch h), by simp⟩
    have mx_o85 := o85.mx
    refine UW.slot (sl (some b84) 0 ([(It.mk (x39.list) x59 x71)] : List (It)).length 1) (rfl) (UW.nil (by kernel_rfl) (OW.rot2 ?_))
    obtain ⟨g90, hl31⟩ := Z116 hl31
    have h95 := h23.app h89
    refine OW.appendOwn (s := 3) rfl rfl rfl rfl rfl rfl o27 (fun w m => m.rd0 (List.Mem.tail _ Zh) (fun e => o85.nilc (by decide) e)) o85.n (h89.cell1 ItRd.one) (o85.zeroO (by decide)) (by decide) (by decide) (by first | omega | (simp only [i30, List.length_nil]; omega)) rfl rfl ((l21 ++ ([(It.mk (x39.list) x59 x71)] : List (It))).length) (cs22 ++ (([.bool (x39.list), .slice ((ob61).map fun k => ⟨k, 0, none⟩) x59.length c62, .slice ((ob75).map fun k => ⟨k, 0, none⟩) x71.length c76] : List Value))) (List.length_append ..).symm rfl (fun ob91 r92 c93 o94 => ?_)
    have m96 := o94.mx
    refine Z0 (Z5 rfl) rfl (Z6 (Z27 (Z1 (Z2 (Z0 (RV.add rfl rfl (by omega)) rfl (Z7 (.int .i64 (((n28 + 1) : Nat) : Int)) (by first | rfl | (congr 1) | (congr 1; omega)) (Z0 (Z3 rfl) rfl (Z6 ?_))))))))
    exact Z109 (k' := k30) (Nat.lt_succ_self _) ⟨(l21 ++ ([(It.mk (x39.list) x59 x71)] : List (It))), (n28 + 1), ((ob75, blk (cs73 ++ r77) 30) :: ((ob61, blk ((u8s x59) ++ r63) 5) :: (B72 ++ (B60 ++ B19)))), (cs22 ++ (([.bool (x39.list), .slice ((ob61).map fun k => ⟨k, 0, none⟩) x59.length c62, .slice ((ob75).map fun k => ⟨k, 0, none⟩) x71.length c76] : List Value))), ob91, c93, r92, hl31, (fun w m => hB20 w (((((m).tail).tail).appR).appR)), h95, o94, (by omega), rfl, rfl⟩ ⟨rfl, rfl, rfl, rfl, trivial⟩ (fun w m => m.pick [0] 3 rfl rfl)
   ·replace hl31 := if_f hl31 h38
    refine Z14 rfl (decide_eq_false h38) (CW.exit (Z9 (Z9 (Z15 ?_))))
    exact QW.join ⟨l21, B19, cs22, ob24, c25, r26, (Zi hl31).symm, (fun w m => hB20 w (m)), h23, o27, rfl, rfl⟩ ⟨rfl, trivial⟩ (fun w m => m.pick [0] 1 rfl rfl)
theorem rlp_twin_does (w0 : World) (Φ : Ctx) (N : List Ent) (hΦ : ∀ w, Mem w0 w N → Φ w) (A0_ : Option Addr) (c0_ : Nat) (cs0_ : List Value) (a0 : List (It)) (res0 : List (It)) (va0 : View Φ A0_ a0.length c0_ 3 cs0_) (ha0 : Reps (ItRd Φ) cs0_ a0) (hf : rlp_twin a0 = some res0) : DoesG Try.prog 37 [.slice A0_ a0.length c0_] w0 [] N (fun v G => ∃ B : List Ent, ∃ cr0 : List Value, ∃ or0 : Option Nat, ∃ kr0 : Nat, ∃ rr0 : List Value, (Reps (ItRd (More w0 Φ B)) cr0 res0) ∧ (OwnS or0 res0.length kr0 3 cr0 rr0) ∧ v = sl or0 0 res0.length kr0 ∧ G = (or0, blk (cr0 ++ rr0) 30) :: B) := rlp_twin_rec w0 _ Φ N hΦ A0_ c0_ cs0_ a0 res0 va0 ha0 hf
theorem rlp_size_rec (w0 : World) : ∀ (kf : Nat) (Φ : Ctx) (N : List Ent) (hΦ : ∀ w, Mem w0 w N → Φ w) (cs0_ : List Value) (a0 : It) (res0 : Nat) (ha0 : ItRd Φ cs0_ a0) (hf : rlp_size.r kf a0 = some res0), DoesG Try.prog 39 [.agg cs0_.toArray] w0 [] N (fun v G => (res0 ≤ 9223372036854775807) ∧ v = .int .i64 ((res0 : Nat) : Int)) := by
 intro kf
 induction kf with
 | zero => intro Φ N hΦ cs0_ a0 res0 ha0 hf; rw [rlp_size.r] at hf; cases hf
 | succ kf ih =>
  intro Φ N hΦ cs0_ a0 res0 ha0 hf
  rw [rlp_size.r] at hf
  replace ha0 := ItRd.mono (Ψ := More w0 Φ []) (fun w q => q.1) _ _ ha0
  have h10 := ha0
  obtain ⟨A1, c2, A4, c5, cs7, e9, v3, v6, h8⟩ := ItRd.opn ha0
  subst e9
  have m11 := v3.mx
  have m12 := v6.mx
  refine DoesG.enter Try.func39 rfl Try.ntmps39 rfl (M := (([] ++ N))) rfl (Z4 (Z2 (OW.boxA rfl rfl (fun b13 => (Z0 (Z5 rfl) rfl (Z6 (Z1 (Z4 (Z4 (Z2 (Z0 (Z30 rfl rfl rfl rfl) rfl (Z0 (Z29 rfl Zh rfl rfl rfl rfl) rfl (Z0 (RV.not rfl) rfl ?_)))))))))))))
  refine Z6 (Z1 ?_)
  by_cases h14 : a0.list = true
  ·replace hf := if_t hf h14
   refine Z14 rfl (congrArg (fun b => !b) (h14)) (CW.skip (Z1 (Z4 (Z2 (Z0 (Z5 rfl) rfl (Z6 (Z1 (Z4 (Z4 (Z2 (Z0 (Z30 rfl rfl rfl rfl) rfl (Z0 (Z29 rfl Zh rfl rfl rfl rfl) rfl (Z0 (RV.len rfl rfl) rfl (Z0 (Z3 rfl) rfl ?_))))))))))))))
   refine Z6 (Z1 ?_)
   obtain ⟨q15, hq16, hf⟩ := Z100 hf
   refine Z115 (fun L' M' => ∃ n17 : Nat, q15 = n17 ∧ (n17 ≤ 9223372036854775807) ∧ L' = [(3, .int .i64 ((n17 : Nat) : Int))] ∧ M' = (([] ++ N))) ?_ ?_
   ·rintro L20 M21 ⟨n17, e19, b18, e22, e23⟩
    rw [e22, e23]
    clear e22 e23 L20 M21
    clear hq16
    rw [e19] at hf
    clear e19
    try dsimp only at hf
    refine Z1 (Z4 (Z2 (Z0 (Z3 rfl) rfl ?_)))
    obtain ⟨x25, hx24, hf⟩ := Z100 hf
    refine Z12 Try.call47 rfl (rlp_head_does w0 (More w0 Φ []) (([] ++ N)) (fun w m => Z103 hΦ 0 m rfl) (192#8) n17 x25 (by omega) hx24) rfl rfl ?_
    rintro L31 M32 ⟨B26, ob27, c28, r29, o30, e33, e34⟩
    rw [e33, e34]
    clear e33 e34 L31 M32
    refine Z20 (M' := ((ob27, blk ((u8s x25) ++ r29) 5) :: ((B26 ++ []) ++ N))) (fun w m => by have h := Z107 (A := B26) m 1 0 rfl rfl; exact h) ?_
    have m35 := o30.mx
    refine Z0 (RV.len rfl rfl) rfl (Z0 (Z3 rfl) rfl ?_)
    obtain ⟨g36, hf⟩ := Z116 hf
    refine Z0 (RV.add rfl rfl (by omega)) rfl (Z7 (.int .i64 (((x25.length + n17) : Nat) : Int)) (by first | rfl | (congr 1) | (congr 1; omega)) (Z0 (Z5 rfl) rfl (Z6 (Z1 (CW.ret ?_)))))
    have e0 := Zi hf
    subst e0
    refine Z102 (rs := [.tmp 2]) ([.int .i64 (((x25.length + n17) : Nat) : Int)]) ((ob27, blk ((u8s x25) ++ r29) 5) :: (B26 ++ [])) rfl ?_ rfl ?_ ?_ _ (.inl rfl)
    ·exact ⟨rfl, trivial⟩
    ·exact ⟨(by omega), rfl⟩
    ·exact (fun w m => m)
   ·skip
    refine CW.block (Z114 (fun k L' M' => ∃ n37 : Nat, ∃ n39 : Nat, (rlp_size.l1 a0 (rlp_size.r kf) k n37 n39) = some q15 ∧ (n37 ≤ 9223372036854775807) ∧ (n39 ≤ 9223372036854775807) ∧ L' = [(3, .int .i64 ((n37 : Nat) : Int)), (30, .slice A4 a0.items.length c5), (31, .int .i64 ((a0.items.length : Nat) : Int)), (32, .int .i64 ((n39 : Nat) : Int))] ∧ M' = (([] ++ N))) (k0 := (a0.items.length - 0 + 2)) ⟨0, 0, hq16, (by omega), (by omega), rfl, rfl⟩ ⟨rfl, rfl, rfl, rfl, trivial⟩ (fun w m => m.pick [] 1 rfl rfl) ?_)
    clear hq16
    rintro k41 L44 M45 ⟨n37, n39, hl42, b38, b40, e46, e47⟩
    rw [e46, e47]
    clear e46 e47 L44 M45
    rcases k41 with _ | k41
    ·rw [rlp_size.l1] at hl42; cases hl42
    rw [rlp_size.l1] at hl42
    refine Z4 (Z2 (Z0 (RV.lss rfl rfl) rfl (Z7 (.bool (decide (n39 < a0.items.length))) (congrArg Value.bool (decide_eq_decide.2 (by omega))) (Z6 (Z1 (Z4 ?_))))))
    by_cases h48 : n39 < a0.items.length
    ·replace hl42 := if_t hl42 h48
     refine Z13 rfl (decide_eq_true h48) (CW.skip (Z1 (Z4 (CW.block (Z4 (Z2 ?_))))))
     obtain ⟨x49, hx50, hl42⟩ := Z100 hl42
     have hl51 := Z113 hx50
     refine Z0 (Z105 (n39) rfl rfl rfl rfl rfl (v6.isSome (by decide) hl51) (by omega)) rfl ?_
     obtain ⟨cs52, h53, h54⟩ := h8.get ItRd.len hx50
     have h64 := h53
     obtain ⟨A55, c56, A58, c59, cs61, e63, v57, v60, h62⟩ := ItRd.opn h53
     subst e63
     have m65 := v57.mx
     have m66 := v60.mx
     refine Z0 (Z110 rfl rfl rfl rfl (fun w m => v6.load (Z103 hΦ 0 m rfl) h54) rfl) rfl (OW.alloc (l := [.bool false, .slice none 0 0, .slice none 0 0]) rfl rfl rfl (fun b67 => ?_))
     refine Z28 (Z104 rfl rfl rfl (by intro u hu; simp at hu; rcases hu with rfl | rfl | rfl <;> rfl) rfl rfl rfl) ?_
     refine Z6 (Z1 (Z2 (Z0 (Z3 rfl) rfl (Z0 (Z22 rfl Zh rfl rfl rfl rfl rfl) rfl ?_))))
     obtain ⟨x69, hx68, hl42⟩ := Z100 hl42
     refine Z12 Try.call39 rfl (ih (More w0 Φ []) ((some b67, blk [.bool (x49.list), .slice A55 x49.data.length c56, .slice A58 x49.items.length c59] 30) :: ([] ++ N)) (fun w m => Z103 hΦ 1 m rfl) [.bool (x49.list), .slice A55 x49.data.length c56, .slice A58 x49.items.length c59] x49 x69 h64 hx68) rfl rfl ?_
     rintro _ G71 ⟨b70, rfl⟩
     refine Z20 (M' := ((some b67, blk [.bool (x49.list), .slice A55 x49.data.length c56, .slice A58 x49.items.length c59] 30) :: ([] ++ N))) (fun w m => m.appR) ?_
     obtain ⟨g73, hl42⟩ := Z116 hl42
     refine Z0 (RV.add rfl rfl (by omega)) rfl (Z7 (.int .i64 (((n37 + x69) : Nat) : Int)) (by first | rfl | (congr 1) | (congr 1; omega)) (Z0 (Z5 rfl) rfl (Z6 (Z27 (Z1 (Z2 (Z0 (RV.add rfl rfl (by omega)) rfl (Z7 (.int .i64 (((n39 + 1) : Nat) : Int)) (by first | rfl | (congr 1) | (congr 1; omega)) (Z0 (Z3 rfl) rfl (Z6 ?_))))))))))
     exact Z109 (k' := k41) (Nat.lt_succ_self _) ⟨(n37 + x69), (n39 + 1), hl42, (by omega), (by omega), rfl, rfl⟩ ⟨rfl, rfl, rfl, rfl, trivial⟩ (fun w m => m.pick [] 1 rfl rfl)
    ·replace hl42 := if_f hl42 h48
     refine Z14 rfl (decide_eq_false h48) (CW.exit (Z9 (Z9 (Z15 ?_))))
     exact QW.join ⟨n37, (Zi hl42).symm, (by omega), rfl, rfl⟩ ⟨rfl, trivial⟩ (fun w m => m.pick [] 0 rfl rfl)
  ·replace hf := if_f hf h14
   refine Z13 rfl (congrArg (fun b => !b) (Bool.eq_false_iff.2 h14)) (Z4 (Z4 ?_))
   obtain ⟨q74, hq75, hf⟩ := Z100 hf
   refine Z115 (fun L' M' => ∃ p76 : Bool, q74 = p76 ∧ L' = [(1, ptr (some b13) 0), (19, .bool (p76))] ∧ M' = ((some b13, blk [.bool (a0.list), .slice A1 a0.data.length c2, .slice A4 a0.items.length c5] 30) :: ([] ++ N))) ?_ ?_
   ·rintro L78 M79 ⟨p76, e77, e80, e81⟩
    rw [e80, e81]
    clear e80 e81 L78 M79
    clear hq75
    rw [e77] at hf
    clear e77
    try dsimp only at hf
    refine Z1 ?_
    by_cases h82 : p76 = true
    ·replace hf := if_t hf h82
     refine Z13 rfl (h82) (Z4 (Z2 (Z0 (Z5 rfl) rfl (Z6 (Z1 (CW.ret (Z8 (Z8 ?_))))))))
     have e0 := Zi hf
     subst e0
     refine Z102 (rs := [.tmp 2]) ([.int .i64 (1 : Int)]) ((some b13, blk [.bool (a0.list), .slice A1 a0.data.length c2, .slice A4 a0.items.length c5] 30) :: []) rfl ?_ rfl ?_ ?_ _ (.inl rfl)
     ·exact ⟨rfl, trivial⟩
     ·exact ⟨(by omega), rfl⟩
     ·exact (fun w m => m)
    ·replace hf := if_f hf h82
     refine Z14 rfl (Bool.eq_false_iff.2 h82) (CW.skip (Z1 (Z4 (Z134 10 mixed (by kernel_rfl) rfl (Z18 0 rfl (by kernel_rfl) rfl (Z30 rfl rfl rfl rfl) rfl (Z18 1 rfl (by kernel_rfl) rfl (Z29 rfl Zh rfl rfl rfl rfl) rfl (Z18 2 rfl (by kernel_rfl) rfl (RV.len rfl rfl) rfl (Z18 5 rfl (by kernel_rfl) rfl (Z30 rfl rfl rfl rfl) rfl (Z18 6 rfl (by kernel_rfl) rfl (Z29 rfl Zh rfl rfl rfl rfl) rfl ?_)))))))))
     refine Z18 7 rfl (by kernel_rfl) rfl (RV.len rfl rfl) rfl ?_
     obtain ⟨x84, hx83, hf⟩ := Z100 hf
     refine Z25 3 rfl (by kernel_rfl) rfl Try.call47 rfl (fun N' hN' => rlp_head_does w0 (More w0 Φ []) N' (fun w m => Z103 hΦ 1 (hN' w m) rfl) (128#8) a0.data.length x84 (by omega) hx83) rfl ?_
     rintro L90 M91 ⟨B85, ob86, c87, r88, o89, e92, e93⟩
     rw [e92, e93]
     clear e92 e93 L90 M91
     refine UW.mem (M' := ((ob86, blk ((u8s x84) ++ r88) 5) :: (some b13, blk [.bool (a0.list), .slice A1 a0.data.length c2, .slice A4 a0.items.length c5] 30) :: ((B85 ++ []) ++ N))) (fun w m => by have h := Z107 (A := B85) m 1 1 rfl rfl; exact h) ?_
     have gq1 : ∀ w, More w0 Φ (B85 ++ []) w → More w0 Φ [] w := fun w q => More.mono (fun w m => (m).appR) q
     replace v3 := v3.mono gq1
     replace h10 := ItRd.mono gq1 _ _ h10
     replace v6 := v6.mono gq1
     replace h8 := h8.mono (ItRd.mono gq1)
     have m94 := o89.mx
     refine Z18 4 rfl (by kernel_rfl) rfl (RV.len rfl rfl) rfl (Z18 8 rfl (by kernel_rfl) rfl (RV.add rfl rfl (by omega)) rfl (UW.slot (.int .i64 (((x84.length + a0.data.length) : Nat) : Int)) (by first | rfl | (congr 1) | (congr 1; omega)) (Z18 9 rfl (by kernel_rfl) rfl (Z5 rfl) rfl (UW.nil (by kernel_rfl) (Z6 (Z1 (CW.ret (Z8 ?_))))))))
     have e0 := Zi hf
     subst e0
     refine Z102 (rs := [.tmp 2]) ([.int .i64 (((x84.length + a0.data.length) : Nat) : Int)]) ((ob86, blk ((u8s x84) ++ r88) 5) :: (some b13, blk [.bool (a0.list), .slice A1 a0.data.length c2, .slice A4 a0.items.length c5] 30) :: (B85 ++ [])) rfl ?_ rfl ?_ ?_ _ (.inl rfl)
     ·exact ⟨rfl, trivial⟩
     ·exact ⟨(by omega), rfl⟩
     ·exact (fun w m => m)
   ·skip
    refine Z2 (Z0 (Z30 rfl rfl rfl rfl) rfl (Z0 (Z29 rfl Zh rfl rfl rfl rfl) rfl (Z0 (RV.len rfl rfl) rfl (Z0 (RV.eql rfl rfl) rfl (Z7 (.bool (decide (a0.data.length = 1))) (congrArg Value.bool (decide_eq_decide.2 (by omega))) (Z0 (Z3 rfl) rfl ?_))))))
    by_cases h95 : a0.data.length = 1
    ·replace hq75 := if_t hq75 h95
     refine Z7 (.bool true) (congrArg Value.bool (decide_eq_true h95)) (Z24 rfl (Z0 (Z30 rfl rfl rfl rfl) rfl (Z24 rfl (Z0 (Z29 rfl Zh rfl rfl rfl rfl) rfl (Z24 rfl ?_)))))
     obtain ⟨x96, hx97, hq75⟩ := Z100 hq75
     have hl98 := Z113 hx97
     refine Z0 (RV.idx_r (0) rfl rfl rfl rfl rfl (v3.isSome (by decide) hl98) (by omega)) rfl (Z24 rfl (Z0 (Z21 rfl rfl rfl (fun w m => v3.cell (Z103 hΦ 1 m rfl) (u8s_at hx97))) rfl (Z24 rfl (Z0 (RV.lss rfl rfl) rfl (Z7 (.bool (decide (x96.toNat < 128))) (congrArg Value.bool (decide_eq_decide.2 (by first | exact Int.ofNat_le | exact Int.ofNat_lt | omega | (simp; omega) | simp))) (Z0 (Z112 rfl rfl rfl) rfl (Z6 ?_)))))))
     exact QW.join ⟨(decide (x96.toNat < 128)), (Zi hq75).symm, rfl, rfl⟩ ⟨rfl, rfl, trivial⟩ (fun w m => m.pick [0] 1 rfl rfl)
    ·replace hq75 := if_f hq75 h95
     refine Z7 (.bool false) (congrArg Value.bool (decide_eq_false h95)) (Z23 rfl rfl rfl (Z23 rfl rfl rfl (Z23 rfl rfl rfl (Z23 rfl rfl rfl (Z23 rfl rfl rfl (Z0 (Z108 rfl rfl rfl) rfl (Z6 ?_)))))))
     exact QW.join ⟨false, (Zi hq75).symm, rfl, rfl⟩ ⟨rfl, rfl, trivial⟩ (fun w m => m.pick [0] 1 rfl rfl)
theorem rlp_size_does (w0 : World) (Φ : Ctx) (N : List Ent) (hΦ : ∀ w, Mem w0 w N → Φ w) (cs0_ : List Value) (a0 : It) (res0 : Nat) (ha0 : ItRd Φ cs0_ a0) (hf : rlp_size a0 = some res0) : DoesG Try.prog 39 [.agg cs0_.toArray] w0 [] N (fun v G => (res0 ≤ 9223372036854775807) ∧ v = .int .i64 ((res0 : Nat) : Int)) := rlp_size_rec w0 _ Φ N hΦ cs0_ a0 res0 ha0 hf
theorem waybillref07_size_rec (w0 : World) : ∀ (kf : Nat) (Φ : Ctx) (N : List Ent) (hΦ : ∀ w, Mem w0 w N → Φ w) (cs0_ : List Value) (a0 : It) (res0 : Nat) (ha0 : ItRd Φ cs0_ a0) (hf : waybillref07_size.r kf a0 = some res0), DoesG Try.prog 42 [.agg cs0_.toArray] w0 [] N (fun v G => (res0 ≤ 9223372036854775807) ∧ v = .int .i64 ((res0 : Nat) : Int)) := by
 intro kf
 induction kf with
 | zero => intro Φ N hΦ cs0_ a0 res0 ha0 hf; rw [waybillref07_size.r] at hf; cases hf
 | succ kf ih =>
  intro Φ N hΦ cs0_ a0 res0 ha0 hf
  rw [waybillref07_size.r] at hf
  replace ha0 := ItRd.mono (Ψ := More w0 Φ []) (fun w q => q.1) _ _ ha0
  have h10 := ha0
  obtain ⟨A1, c2, A4, c5, cs7, e9, v3, v6, h8⟩ := ItRd.opn ha0
  subst e9
  have m11 := v3.mx
  have m12 := v6.mx
  refine DoesG.enter Try.func42 rfl Try.ntmps42 rfl (M := (([] ++ N))) rfl (Z4 (Z2 (OW.boxA rfl rfl (fun b13 => (Z0 (Z5 rfl) rfl (Z6 (Z1 (Z4 (Z2 (Z0 (Z30 rfl rfl rfl rfl) rfl (Z0 (Z29 rfl Zh rfl rfl rfl rfl) rfl (Z0 (RV.len rfl rfl) rfl ?_))))))))))))
  refine Z0 (Z5 rfl) rfl (Z6 (Z1 (Z4 (Z4 ?_))))
  obtain ⟨q14, hq15, hf⟩ := Z100 hf
  refine Z115 (fun L' M' => ∃ p16 : Bool, q14 = p16 ∧ L' = [(1, ptr (some b13) 0), (3, .int .i64 ((a0.data.length : Nat) : Int)), (21, .bool (p16))] ∧ M' = ((some b13, blk [.bool (a0.list), .slice A1 a0.data.length c2, .slice A4 a0.items.length c5] 30) :: ([] ++ N))) ?_ ?_
  ·rintro L18 M19 ⟨p16, e17, e20, e21⟩
   rw [e20, e21]
   clear e20 e21 L18 M19
   clear hq15
   rw [e17] at hf
   clear e17
   try dsimp only at hf
   refine Z1 ?_
   by_cases h22 : p16 = true
   ·replace hf := if_t hf h22
    refine Z13 rfl (h22) (Z4 (Z2 (Z0 (Z5 rfl) rfl (Z6 (Z1 (CW.ret (Z8 ?_)))))))
    have e0 := Zi hf
    subst e0
    refine Z102 (rs := [.tmp 2]) ([.int .i64 (1 : Int)]) ((some b13, blk [.bool (a0.list), .slice A1 a0.data.length c2, .slice A4 a0.items.length c5] 30) :: []) rfl ?_ rfl ?_ ?_ _ (.inl rfl)
    ·exact ⟨rfl, trivial⟩
    ·exact ⟨(by omega), rfl⟩
    ·exact (fun w m => m)
   ·replace hf := if_f hf h22
    refine Z14 rfl (Bool.eq_false_iff.2 h22) (CW.skip (Z1 (Z4 (Z4 (Z2 (Z0 (Z5 rfl) rfl (Z6 (Z1 ?_))))))))
    obtain ⟨q23, hq24, hf⟩ := Z100 hf
    refine Z115 (fun L' M' => ∃ n25 : Nat, q23 = n25 ∧ (n25 ≤ 9223372036854775807) ∧ L' = [(3, .int .i64 ((n25 : Nat) : Int))] ∧ M' = (([] ++ N))) ?_ ?_
    ·rintro L28 M29 ⟨n25, e27, b26, e30, e31⟩
     rw [e30, e31]
     clear e30 e31 L28 M29
     clear hq24
     rw [e27] at hf
     clear e27
     try dsimp only at hf
     refine Z1 (Z4 (Z2 (Z0 (Z3 rfl) rfl ?_)))
     obtain ⟨x33, hx32, hf⟩ := Z100 hf
     refine Z12 Try.call50 rfl (waybillref07_before_does w0 (More w0 Φ []) (([] ++ N)) (fun w m => Z103 hΦ 0 m rfl) n25 128 x33 (by omega) (by omega) hx32) rfl rfl ?_
     rintro L39 M40 ⟨B34, ob35, c36, r37, o38, e41, e42⟩
     rw [e41, e42]
     clear e41 e42 L39 M40
     refine Z20 (M' := ((ob35, blk ((u8s x33) ++ r37) 5) :: ((B34 ++ []) ++ N))) (fun w m => by have h := Z107 (A := B34) m 1 0 rfl rfl; exact h) ?_
     have m43 := o38.mx
     refine Z0 (RV.len rfl rfl) rfl (Z0 (Z3 rfl) rfl ?_)
     obtain ⟨g44, hf⟩ := Z116 hf
     refine Z0 (RV.add rfl rfl (by omega)) rfl (Z7 (.int .i64 (((x33.length + n25) : Nat) : Int)) (by first | rfl | (congr 1) | (congr 1; omega)) (Z0 (Z5 rfl) rfl (Z6 (Z1 (CW.ret ?_)))))
     have e0 := Zi hf
     subst e0
     refine Z102 (rs := [.tmp 2]) ([.int .i64 (((x33.length + n25) : Nat) : Int)]) ((ob35, blk ((u8s x33) ++ r37) 5) :: (B34 ++ [])) rfl ?_ rfl ?_ ?_ _ (.inl rfl)
     ·exact ⟨rfl, trivial⟩
     ·exact ⟨(by omega), rfl⟩
     ·exact (fun w m => m)
    ·skip
     refine CW.block (Z114 (fun k L' M' => ∃ n45 : Nat, ∃ n47 : Nat, (waybillref07_size.l1 a0 (waybillref07_size.r kf) k n45 n47) = some q23 ∧ (n45 ≤ 9223372036854775807) ∧ (n47 ≤ 9223372036854775807) ∧ L' = [(1, ptr (some b13) 0), (3, .int .i64 ((n45 : Nat) : Int)), (4, .int .i64 ((n47 : Nat) : Int))] ∧ M' = ((some b13, blk [.bool (a0.list), .slice A1 a0.data.length c2, .slice A4 a0.items.length c5] 30) :: ([] ++ N))) (k0 := (a0.items.length - 0 + 2)) ⟨a0.data.length, 0, hq24, (by omega), (by omega), rfl, rfl⟩ ⟨rfl, rfl, rfl, trivial⟩ (fun w m => m.pick [0] 1 rfl rfl) ?_)
     clear hq24
     rintro k49 L52 M53 ⟨n45, n47, hl50, b46, b48, e54, e55⟩
     rw [e54, e55]
     clear e54 e55 L52 M53
     rcases k49 with _ | k49
     ·rw [waybillref07_size.l1] at hl50; cases hl50
     rw [waybillref07_size.l1] at hl50
     refine Z4 (Z4 (Z2 (Z0 (Z3 rfl) rfl (Z0 (Z30 rfl rfl rfl rfl) rfl (Z0 (Z29 rfl Zh rfl rfl rfl rfl) rfl (Z0 (RV.len rfl rfl) rfl (Z0 (RV.lss rfl rfl) rfl (Z7 (.bool (decide (n47 < a0.items.length))) (congrArg Value.bool (decide_eq_decide.2 (by omega))) (Z6 (Z1 ?_))))))))))
     by_cases h56 : n47 < a0.items.length
     ·replace hl50 := if_t hl50 h56
      refine Z13 rfl (decide_eq_true h56) (CW.skip (Z1 (Z4 (CW.block (Z2 (Z0 (Z3 rfl) rfl (Z0 (Z30 rfl rfl rfl rfl) rfl (Z0 (Z29 rfl Zh rfl rfl rfl rfl) rfl (Z0 (Z3 rfl) rfl ?_)))))))))
      obtain ⟨x57, hx58, hl50⟩ := Z100 hl50
      have hl59 := Z113 hx58
      refine Z0 (Z105 (n47) rfl rfl rfl rfl rfl (v6.isSome (by decide) hl59) (by omega)) rfl ?_
      obtain ⟨cs60, h61, h62⟩ := h8.get ItRd.len hx58
      have h72 := h61
      obtain ⟨A63, c64, A66, c67, cs69, e71, v65, v68, h70⟩ := ItRd.opn h61
      subst e71
      have m73 := v65.mx
      have m74 := v68.mx
      refine Z0 (Z110 rfl rfl rfl rfl (fun w m => v6.load (Z103 hΦ 1 m rfl) h62) rfl) rfl ?_
      obtain ⟨x76, hx75, hl50⟩ := Z100 hl50
      refine Z12 Try.call42 rfl (ih (More w0 Φ []) ((some b13, blk [.bool (a0.list), .slice A1 a0.data.length c2, .slice A4 a0.items.length c5] 30) :: ([] ++ N)) (fun w m => Z103 hΦ 1 m rfl) [.bool (x57.list), .slice A63 x57.data.length c64, .slice A66 x57.items.length c67] x57 x76 h72 hx75) rfl rfl ?_
      rintro _ G78 ⟨b77, rfl⟩
      refine Z20 (M' := ((some b13, blk [.bool (a0.list), .slice A1 a0.data.length c2, .slice A4 a0.items.length c5] 30) :: ([] ++ N))) (fun w m => m.appR) ?_
      obtain ⟨g80, hl50⟩ := Z116 hl50
      refine Z0 (RV.add rfl rfl (by omega)) rfl (Z7 (.int .i64 (((n45 + x76) : Nat) : Int)) (by first | rfl | (congr 1) | (congr 1; omega)) (Z0 (Z5 rfl) rfl (Z6 (Z27 (Z1 (Z2 (Z0 (Z3 rfl) rfl (Z0 (RV.add rfl rfl (by omega)) rfl (Z7 (.int .i64 (((n47 + 1) : Nat) : Int)) (by first | rfl | (congr 1) | (congr 1; omega)) (Z0 (Z5 rfl) rfl ?_))))))))))
      refine Z6 ?_
      exact Z109 (k' := k49) (Nat.lt_succ_self _) ⟨(n45 + x76), (n47 + 1), hl50, (by omega), (by omega), rfl, rfl⟩ ⟨rfl, rfl, rfl, trivial⟩ (fun w m => m.pick [0] 1 rfl rfl)
     ·replace hl50 := if_f hl50 h56
      refine Z14 rfl (decide_eq_false h56) (CW.exit (Z9 (Z9 (Z15 ?_))))
      exact QW.join ⟨n45, (Zi hl50).symm, (by omega), rfl, rfl⟩ ⟨rfl, trivial⟩ (fun w m => m.pick [] 1 rfl rfl)
  ·skip
   refine Z2 (Z0 (Z30 rfl rfl rfl rfl) rfl (Z0 (Z29 rfl Zh rfl rfl rfl rfl) rfl (Z0 (RV.not rfl) rfl (Z0 (Z3 rfl) rfl ?_))))
   by_cases h81 : a0.list = true
   ·replace hq15 := if_t hq15 h81
    refine Z7 (.bool false) (congrArg Value.bool (congrArg (fun b => !b) (h81))) (Z23 rfl rfl rfl (Z23 rfl rfl rfl (Z0 (Z108 rfl rfl rfl) rfl (Z0 (Z3 rfl) rfl (Z23 rfl rfl rfl (Z23 rfl rfl rfl (Z23 rfl rfl rfl ?_)))))))
    refine Z23 rfl rfl rfl (Z23 rfl rfl rfl (Z0 (Z108 rfl rfl rfl) rfl (Z6 ?_)))
    exact QW.join ⟨false, (Zi hq15).symm, rfl, rfl⟩ ⟨rfl, rfl, rfl, trivial⟩ (fun w m => m.pick [0] 1 rfl rfl)
   ·replace hq15 := if_f hq15 h81
    refine Z7 (.bool true) (congrArg Value.bool (congrArg (fun b => !b) (Bool.eq_false_iff.2 h81))) (Z24 rfl (Z0 (Z3 rfl) rfl (Z24 rfl (Z0 (RV.eql rfl rfl) rfl (Z7 (.bool (decide (a0.data.length = 1))) (congrArg Value.bool (decide_eq_decide.2 (by omega))) (Z0 (Z112 rfl rfl rfl) rfl (Z0 (Z3 rfl) rfl ?_)))))))
    by_cases h82 : a0.data.length = 1
    ·replace hq15 := if_t hq15 h82
     refine Z7 (.bool true) (congrArg Value.bool (decide_eq_true h82)) (Z24 rfl (Z0 (Z30 rfl rfl rfl rfl) rfl (Z24 rfl (Z0 (Z29 rfl Zh rfl rfl rfl rfl) rfl (Z24 rfl ?_)))))
     obtain ⟨x83, hx84, hq15⟩ := Z100 hq15
     have hl85 := Z113 hx84
     refine Z0 (RV.idx_r (0) rfl rfl rfl rfl rfl (v3.isSome (by decide) hl85) (by omega)) rfl (Z24 rfl (Z0 (Z21 rfl rfl rfl (fun w m => v3.cell (Z103 hΦ 1 m rfl) (u8s_at hx84))) rfl (Z24 rfl (Z0 (RV.lss rfl rfl) rfl (Z7 (.bool (decide (x83.toNat < 128))) (congrArg Value.bool (decide_eq_decide.2 (by first | exact Int.ofNat_le | exact Int.ofNat_lt | omega | (simp; omega) | simp))) (Z0 (Z112 rfl rfl rfl) rfl (Z6 ?_)))))))
     exact QW.join ⟨(decide (x83.toNat < 128)), (Zi hq15).symm, rfl, rfl⟩ ⟨rfl, rfl, rfl, trivial⟩ (fun w m => m.pick [0] 1 rfl rfl)
    ·replace hq15 := if_f hq15 h82
     refine Z7 (.bool false) (congrArg Value.bool (decide_eq_false h82)) (Z23 rfl rfl rfl (Z23 rfl rfl rfl (Z23 rfl rfl rfl (Z23 rfl rfl rfl (Z23 rfl rfl rfl (Z0 (Z108 rfl rfl rfl) rfl (Z6 ?_)))))))
     exact QW.join ⟨false, (Zi hq15).symm, rfl, rfl⟩ ⟨rfl, rfl, rfl, trivial⟩ (fun w m => m.pick [0] 1 rfl rfl)
theorem waybillref07_size_does (w0 : World) (Φ : Ctx) (N : List Ent) (hΦ : ∀ w, Mem w0 w N → Φ w) (cs0_ : List Value) (a0 : It) (res0 : Nat) (ha0 : ItRd Φ cs0_ a0) (hf : waybillref07_size a0 = some res0) : DoesG Try.prog 42 [.agg cs0_.toArray] w0 [] N (fun v G => (res0 ≤ 9223372036854775807) ∧ v = .int .i64 ((res0 : Nat) : Int)) := waybillref07_size_rec w0 _ Φ N hΦ cs0_ a0 res0 ha0 hf
theorem rlp_sound_rec (w0 : World) : ∀ (kf : Nat) (Φ : Ctx) (N : List Ent) (hΦ : ∀ w, Mem w0 w N → Φ w) (cs0_ : List Value) (a0 : It) (res0 : Nat) (res1 : Bool) (ha0 : ItRd Φ cs0_ a0) (hf : rlp_sound.r kf a0 = some (res0, res1)), DoesG Try.prog 46 [.agg cs0_.toArray] w0 [] N (fun v G => (res0 ≤ 9223372036854775807) ∧ v = .tuple #[.int .i64 ((res0 : Nat) : Int), .bool res1]) := by
 intro kf
 induction kf with
 | zero => intro Φ N hΦ cs0_ a0 res0 res1 ha0 hf; rw [rlp_sound.r] at hf; cases hf
 | succ kf ih =>
  intro Φ N hΦ cs0_ a0 res0 res1 ha0 hf
  rw [rlp_sound.r] at hf
  replace ha0 := ItRd.mono (Ψ := More w0 Φ []) (fun w q => q.1) _ _ ha0
  have h10 := ha0
  obtain ⟨A1, c2, A4, c5, cs7, e9, v3, v6, h8⟩ := ItRd.opn ha0
  subst e9
  have m11 := v3.mx
  have m12 := v6.mx
  refine DoesG.enter Try.func46 rfl Try.ntmps46 rfl (M := (([] ++ N))) rfl (Z4 (Z2 (OW.boxA rfl rfl (fun b13 => (Z0 (Z5 rfl) rfl (Z0 (Z5 rfl) rfl (Z6 (Z1 (Z4 (Z4 (Z2 (Z0 (Z22 rfl Zh rfl rfl rfl rfl rfl) rfl ?_))))))))))))
  obtain ⟨x15, hx14, hf⟩ := Z100 hf
  refine Z12 Try.call52 rfl (rlp_odd_does w0 (More w0 Φ []) ((some b13, blk [.bool (a0.list), .slice A1 a0.data.length c2, .slice A4 a0.items.length c5] 30) :: ([] ++ N)) (fun w m => Z103 hΦ 1 m rfl) [.bool (a0.list), .slice A1 a0.data.length c2, .slice A4 a0.items.length c5] a0 x15 h10 hx14) rfl rfl ?_
  rintro _ G16 rfl
  refine Z20 (M' := ((some b13, blk [.bool (a0.list), .slice A1 a0.data.length c2, .slice A4 a0.items.length c5] 30) :: ([] ++ N))) (fun w m => m.appR) (Z6 (Z1 ?_))
  by_cases h18 : x15 = true
  ·replace hf := if_t hf h18
   refine Z13 rfl (h18) (Z4 (Z2 (Z0 (Z5 rfl) rfl (Z0 (Z5 rfl) rfl (Z6 (Z1 (CW.ret (Z8 ?_))))))))
   have er0 := Zi hf
   obtain ⟨e0, er1⟩ := Prod.mk.inj er0
   clear er0
   subst e0
   subst er1
   refine Z102 (rs := [.tmp 2, .tmp 3]) ([.int .i64 (0 : Int), .bool false]) ((some b13, blk [.bool (a0.list), .slice A1 a0.data.length c2, .slice A4 a0.items.length c5] 30) :: []) rfl ?_ rfl ?_ ?_ _ (.inl rfl)
   ·exact ⟨rfl, rfl, trivial⟩
   ·exact ⟨(by omega), rfl⟩
   ·exact (fun w m => m)
  ·replace hf := if_f hf h18
   refine Z14 rfl (Bool.eq_false_iff.2 h18) (CW.skip (Z1 (Z4 (Z4 (Z2 (Z0 (Z30 rfl rfl rfl rfl) rfl (Z0 (Z29 rfl Zh rfl rfl rfl rfl) rfl (Z0 (RV.not rfl) rfl (Z6 (Z1 ?_))))))))))
   by_cases h19 : a0.list = true
   ·replace hf := if_t hf h19
    refine Z14 rfl (congrArg (fun b => !b) (h19)) (CW.skip (Z1 (Z4 (Z2 (Z0 (Z5 rfl) rfl (Z6 (Z1 (Z4 (Z4 (Z2 (Z0 (Z30 rfl rfl rfl rfl) rfl (Z0 (Z29 rfl Zh rfl rfl rfl rfl) rfl (Z0 (RV.len rfl rfl) rfl (Z0 (Z3 rfl) rfl ?_))))))))))))))
    refine Z6 (Z1 ?_)
    obtain ⟨q20, hq21, hf⟩ := Z100 hf
    refine Z115 (fun L' M' => ∃ n22 : Nat, q20 = Lp.go n22 ∧ (n22 ≤ 9223372036854775807) ∧ L' = [(4, .int .i64 ((n22 : Nat) : Int))] ∧ M' = (([] ++ N))) ?_ ?_
    ·rintro L25 M26 ⟨n22, e24, b23, e27, e28⟩
     rw [e27, e28]
     clear e27 e28 L25 M26
     clear hq21
     rw [e24] at hf
     clear e24
     try dsimp only at hf
     refine Z1 (Z4 (Z2 (Z0 (Z3 rfl) rfl ?_)))
     obtain ⟨g29, hf⟩ := Z116 hf
     refine Z0 (RV.add rfl rfl (by omega)) rfl (Z7 (.int .i64 (((n22 + 1) : Nat) : Int)) (by first | rfl | (congr 1) | (congr 1; omega)) (Z0 (Z5 rfl) rfl (Z0 (Z5 rfl) rfl (Z6 (Z1 (CW.ret ?_))))))
     have er0 := Zi hf
     obtain ⟨e0, er1⟩ := Prod.mk.inj er0
     clear er0
     subst e0
     subst er1
     refine Z102 (rs := [.tmp 2, .tmp 3]) ([.int .i64 (((n22 + 1) : Nat) : Int), .bool true]) ([]) rfl ?_ rfl ?_ ?_ _ (.inl rfl)
     ·exact ⟨rfl, rfl, trivial⟩
     ·exact ⟨(by omega), rfl⟩
     ·exact (fun w m => m)
    ·skip
     refine CW.block (Z114 (fun k L' M' => ∃ n30 : Nat, ∃ n32 : Nat, (rlp_sound.l1 a0 (rlp_sound.r kf) k n30 n32) = some q20 ∧ (n30 ≤ 9223372036854775807) ∧ (n32 ≤ 9223372036854775807) ∧ L' = [(4, .int .i64 ((n30 : Nat) : Int)), (15, .slice A4 a0.items.length c5), (16, .int .i64 ((a0.items.length : Nat) : Int)), (17, .int .i64 ((n32 : Nat) : Int))] ∧ M' = (([] ++ N))) (k0 := (a0.items.length - 0 + 2)) ⟨0, 0, hq21, (by omega), (by omega), rfl, rfl⟩ ⟨rfl, rfl, rfl, rfl, trivial⟩ (fun w m => m.pick [] 1 rfl rfl) ?_)
     clear hq21
     rintro k34 L37 M38 ⟨n30, n32, hl35, b31, b33, e39, e40⟩
     rw [e39, e40]
     clear e39 e40 L37 M38
     rcases k34 with _ | k34
     ·rw [rlp_sound.l1] at hl35; cases hl35
     rw [rlp_sound.l1] at hl35
     refine Z4 (Z2 (Z0 (RV.lss rfl rfl) rfl (Z7 (.bool (decide (n32 < a0.items.length))) (congrArg Value.bool (decide_eq_decide.2 (by omega))) (Z6 (Z1 (Z4 ?_))))))
     by_cases h41 : n32 < a0.items.length
     ·replace hl35 := if_t hl35 h41
      refine Z13 rfl (decide_eq_true h41) (CW.skip (Z1 (Z4 (CW.block (Z4 (Z2 ?_))))))
      obtain ⟨x42, hx43, hl35⟩ := Z100 hl35
      have hl44 := Z113 hx43
      refine Z0 (Z105 (n32) rfl rfl rfl rfl rfl (v6.isSome (by decide) hl44) (by omega)) rfl ?_
      obtain ⟨cs45, h46, h47⟩ := h8.get ItRd.len hx43
      have h57 := h46
      obtain ⟨A48, c49, A51, c52, cs54, e56, v50, v53, h55⟩ := ItRd.opn h46
      subst e56
      have m58 := v50.mx
      have m59 := v53.mx
      refine Z0 (Z110 rfl rfl rfl rfl (fun w m => v6.load (Z103 hΦ 0 m rfl) h47) rfl) rfl (OW.alloc (l := [.bool false, .slice none 0 0, .slice none 0 0]) rfl rfl rfl (fun b60 => ?_))
      refine Z28 (Z104 rfl rfl rfl (by intro u hu; simp at hu; rcases hu with rfl | rfl | rfl <;> rfl) rfl rfl rfl) ?_
      refine Z6 (Z1 (Z4 (Z2 (Z0 (Z22 rfl Zh rfl rfl rfl rfl rfl) rfl ?_))))
      obtain ⟨⟨x62, x63⟩, hx61, hl35⟩ := Z100 hl35
      try dsimp only at hl35
      refine Z12 Try.call46 rfl (ih (More w0 Φ []) ((some b60, blk [.bool (x42.list), .slice A48 x42.data.length c49, .slice A51 x42.items.length c52] 30) :: ([] ++ N)) (fun w m => Z103 hΦ 1 m rfl) [.bool (x42.list), .slice A48 x42.data.length c49, .slice A51 x42.items.length c52] x42 x62 x63 h57 hx61) rfl rfl ?_
      rintro _ G65 ⟨b64, rfl⟩
      refine Z20 (M' := ((some b60, blk [.bool (x42.list), .slice A48 x42.data.length c49, .slice A51 x42.items.length c52] 30) :: ([] ++ N))) (fun w m => m.appR) (Z0 (Z3 rfl) rfl (Z0 (Z17 rfl rfl) rfl (Z7 (.int .i64 ((x62 : Nat) : Int)) (rfl) (Z0 (Z17 rfl rfl) rfl (Z7 (.bool (x63)) (rfl) (Z0 (Z5 rfl) rfl (Z0 (Z5 rfl) rfl ?_)))))))
      refine Z6 (Z1 (Z4 (Z4 (Z2 (Z0 (Z3 rfl) rfl (Z0 (RV.not rfl) rfl (Z6 (Z1 ?_))))))))
      by_cases h67 : x63 = true
      ·replace hl35 := if_t hl35 h67
       refine Z14 rfl (congrArg (fun b => !b) (h67)) (CW.skip (Z1 (Z2 (Z0 (Z3 rfl) rfl (Z0 (Z3 rfl) rfl (Z0 (RV.max2 rfl rfl) rfl (Z7 (.int .i64 ((max n30 x62 : Nat) : Int)) (by congr 1; omega) (Z0 (Z5 rfl) rfl (Z6 (Z27 (Z1 (Z2 ?_))))))))))))
       refine Z0 (RV.add rfl rfl (by omega)) rfl (Z7 (.int .i64 (((n32 + 1) : Nat) : Int)) (by first | rfl | (congr 1) | (congr 1; omega)) (Z0 (Z3 rfl) rfl (Z6 ?_)))
       exact Z109 (k' := k34) (Nat.lt_succ_self _) ⟨(max n30 x62), (n32 + 1), hl35, (by omega), (by omega), rfl, rfl⟩ ⟨rfl, rfl, rfl, rfl, trivial⟩ (fun w m => m.pick [] 1 rfl rfl)
      ·replace hl35 := if_f hl35 h67
       refine Z13 rfl (congrArg (fun b => !b) (Bool.eq_false_iff.2 h67)) (Z4 (Z2 (Z0 (Z5 rfl) rfl (Z0 (Z5 rfl) rfl (Z6 (Z1 (CW.ret (Z8 (Z16 (Z8 (Z8 (Z16 (Z8 ?_)))))))))))))
       have hc := Zi hl35
       subst hc
       try dsimp only at hf
       refine Z8 ?_
       have er0 := Zi hf
       obtain ⟨e0, er1⟩ := Prod.mk.inj er0
       clear er0
       subst e0
       subst er1
       refine Z102 (rs := [.tmp 2, .tmp 3]) ([.int .i64 (0 : Int), .bool false]) ((some b60, blk [.bool (x42.list), .slice A48 x42.data.length c49, .slice A51 x42.items.length c52] 30) :: []) rfl ?_ rfl ?_ ?_ _ (.inl rfl)
       ·exact ⟨rfl, rfl, trivial⟩
       ·exact ⟨(by omega), rfl⟩
       ·exact (fun w m => m)
     ·replace hl35 := if_f hl35 h41
      refine Z14 rfl (decide_eq_false h41) (CW.exit (Z9 (Z9 (Z15 ?_))))
      exact QW.join ⟨n30, (Zi hl35).symm, (by omega), rfl, rfl⟩ ⟨rfl, trivial⟩ (fun w m => m.pick [] 0 rfl rfl)
   ·replace hf := if_f hf h19
    refine Z13 rfl (congrArg (fun b => !b) (Bool.eq_false_iff.2 h19)) (Z4 (Z2 (Z0 (Z5 rfl) rfl (Z0 (Z5 rfl) rfl (Z6 (Z1 (CW.ret (Z8 ?_))))))))
    have er0 := Zi hf
    obtain ⟨e0, er1⟩ := Prod.mk.inj er0
    clear er0
    subst e0
    subst er1
    refine Z102 (rs := [.tmp 2, .tmp 3]) ([.int .i64 (0 : Int), .bool true]) ((some b13, blk [.bool (a0.list), .slice A1 a0.data.length c2, .slice A4 a0.items.length c5] 30) :: []) rfl ?_ rfl ?_ ?_ _ (.inl rfl)
    ·exact ⟨rfl, rfl, trivial⟩
    ·exact ⟨(by omega), rfl⟩
    ·exact (fun w m => m)
theorem rlp_sound_does (w0 : World) (Φ : Ctx) (N : List Ent) (hΦ : ∀ w, Mem w0 w N → Φ w) (cs0_ : List Value) (a0 : It) (res0 : Nat) (res1 : Bool) (ha0 : ItRd Φ cs0_ a0) (hf : rlp_sound a0 = some (res0, res1)) : DoesG Try.prog 46 [.agg cs0_.toArray] w0 [] N (fun v G => (res0 ≤ 9223372036854775807) ∧ v = .tuple #[.int .i64 ((res0 : Nat) : Int), .bool res1]) := rlp_sound_rec w0 _ Φ N hΦ cs0_ a0 res0 res1 ha0 hf
theorem waybillref07_oddly_rec (w0 : World) : ∀ (kf : Nat) (Φ : Ctx) (N : List Ent) (hΦ : ∀ w, Mem w0 w N → Φ w) (cs0_ : List Value) (a0 : It) (res0 : Bool) (ha0 : ItRd Φ cs0_ a0) (hf : waybillref07_oddly.r kf a0 = some res0), DoesG Try.prog 48 [.agg cs0_.toArray] w0 [] N (fun v G => v = .bool res0) := by
 intro kf
 induction kf with
 | zero => intro Φ N hΦ cs0_ a0 res0 ha0 hf; rw [waybillref07_oddly.r] at hf; cases hf
 | succ kf ih =>
  intro Φ N hΦ cs0_ a0 res0 ha0 hf
  rw [waybillref07_oddly.r] at hf
  replace ha0 := ItRd.mono (Ψ := More w0 Φ []) (fun w q => q.1) _ _ ha0
  have h10 := ha0
  obtain ⟨A1, c2, A4, c5, cs7, e9, v3, v6, h8⟩ := ItRd.opn ha0
  subst e9
  have m11 := v3.mx
  have m12 := v6.mx
  refine DoesG.enter Try.func48 rfl Try.ntmps48 rfl (M := (([] ++ N))) rfl (Z4 (Z2 (OW.boxA rfl rfl (fun b13 => (Z0 (Z5 rfl) rfl (Z6 (Z1 (Z4 (Z4 (Z2 (Z0 (Z22 rfl Zh rfl rfl rfl rfl rfl) rfl ?_)))))))))))
  obtain ⟨x15, hx14, hf⟩ := Z100 hf
  refine Z12 Try.call55 rfl (waybillref07_odd_does w0 (More w0 Φ []) ((some b13, blk [.bool (a0.list), .slice A1 a0.data.length c2, .slice A4 a0.items.length c5] 30) :: ([] ++ N)) (fun w m => Z103 hΦ 1 m rfl) [.bool (a0.list), .slice A1 a0.data.length c2, .slice A4 a0.items.length c5] a0 x15 h10 hx14) rfl rfl ?_
  rintro _ G16 rfl
  refine Z20 (M' := ((some b13, blk [.bool (a0.list), .slice A1 a0.data.length c2, .slice A4 a0.items.length c5] 30) :: ([] ++ N))) (fun w m => m.appR) (Z6 (Z1 ?_))
  by_cases h18 : x15 = true
  ·replace hf := if_t hf h18
   refine Z13 rfl (h18) (Z4 (Z2 (Z0 (Z5 rfl) rfl (Z6 (Z1 (CW.ret (Z8 ?_)))))))
   have e0 := Zi hf
   subst e0
   refine Z102 (rs := [.tmp 2]) ([.bool true]) ((some b13, blk [.bool (a0.list), .slice A1 a0.data.length c2, .slice A4 a0.items.length c5] 30) :: []) rfl ?_ rfl ?_ ?_ _ (.inl rfl)
   ·exact ⟨rfl, trivial⟩
   ·exact rfl
   ·exact (fun w m => m)
  ·replace hf := if_f hf h18
   refine Z14 rfl (Bool.eq_false_iff.2 h18) (CW.skip (Z1 (Z4 (Z4 (Z2 (Z0 (Z5 rfl) rfl (Z6 (Z1 ?_))))))))
   obtain ⟨q19, hq20, hf⟩ := Z100 hf
   refine Z115 (fun L' M' => q19 = Lp.go () ∧ L' = [] ∧ M' = (([] ++ N))) ?_ ?_
   ·rintro L22 M23 ⟨e21, e24, e25⟩
    rw [e24, e25]
    clear e24 e25 L22 M23
    clear hq20
    rw [e21] at hf
    clear e21
    try dsimp only at hf
    refine Z1 (Z4 (Z2 (Z0 (Z5 rfl) rfl (Z6 (Z1 (CW.ret ?_))))))
    have e0 := Zi hf
    subst e0
    refine Z102 (rs := [.tmp 2]) ([.bool false]) ([]) rfl ?_ rfl ?_ ?_ _ (.inl rfl)
    ·exact ⟨rfl, trivial⟩
    ·exact rfl
    ·exact (fun w m => m)
   ·skip
    refine CW.block (Z114 (fun k L' M' => ∃ n26 : Nat, (waybillref07_oddly.l1 a0 (waybillref07_oddly.r kf) k n26) = some q19 ∧ (n26 ≤ 9223372036854775807) ∧ L' = [(1, ptr (some b13) 0), (3, .int .i64 ((n26 : Nat) : Int))] ∧ M' = ((some b13, blk [.bool (a0.list), .slice A1 a0.data.length c2, .slice A4 a0.items.length c5] 30) :: ([] ++ N))) (k0 := (a0.items.length - 0 + 2)) ⟨0, hq20, (by omega), rfl, rfl⟩ ⟨rfl, rfl, trivial⟩ (fun w m => m.pick [0] 1 rfl rfl) ?_)
    clear hq20
    rintro k28 L31 M32 ⟨n26, hl29, b27, e33, e34⟩
    rw [e33, e34]
    clear e33 e34 L31 M32
    rcases k28 with _ | k28
    ·rw [waybillref07_oddly.l1] at hl29; cases hl29
    rw [waybillref07_oddly.l1] at hl29
    refine Z4 (Z4 (Z2 (Z0 (Z3 rfl) rfl (Z0 (Z30 rfl rfl rfl rfl) rfl (Z0 (Z29 rfl Zh rfl rfl rfl rfl) rfl (Z0 (RV.len rfl rfl) rfl (Z0 (RV.lss rfl rfl) rfl (Z7 (.bool (decide (n26 < a0.items.length))) (congrArg Value.bool (decide_eq_decide.2 (by omega))) (Z6 (Z1 ?_))))))))))
    by_cases h35 : n26 < a0.items.length
    ·replace hl29 := if_t hl29 h35
     refine Z13 rfl (decide_eq_true h35) (CW.skip (Z1 (Z4 (CW.block (Z4 (Z2 (Z0 (Z30 rfl rfl rfl rfl) rfl (Z0 (Z29 rfl Zh rfl rfl rfl rfl) rfl (Z0 (Z3 rfl) rfl ?_)))))))))
     obtain ⟨x36, hx37, hl29⟩ := Z100 hl29
     have hl38 := Z113 hx37
     refine Z0 (Z105 (n26) rfl rfl rfl rfl rfl (v6.isSome (by decide) hl38) (by omega)) rfl ?_
     obtain ⟨cs39, h40, h41⟩ := h8.get ItRd.len hx37
     have h51 := h40
     obtain ⟨A42, c43, A45, c46, cs48, e50, v44, v47, h49⟩ := ItRd.opn h40
     subst e50
     have m52 := v44.mx
     have m53 := v47.mx
     refine Z0 (Z110 rfl rfl rfl rfl (fun w m => v6.load (Z103 hΦ 1 m rfl) h41) rfl) rfl ?_
     obtain ⟨x55, hx54, hl29⟩ := Z100 hl29
     refine Z12 Try.call48 rfl (ih (More w0 Φ []) ((some b13, blk [.bool (a0.list), .slice A1 a0.data.length c2, .slice A4 a0.items.length c5] 30) :: ([] ++ N)) (fun w m => Z103 hΦ 1 m rfl) [.bool (x36.list), .slice A42 x36.data.length c43, .slice A45 x36.items.length c46] x36 x55 h51 hx54) rfl rfl ?_
     rintro _ G56 rfl
     refine Z20 (M' := ((some b13, blk [.bool (a0.list), .slice A1 a0.data.length c2, .slice A4 a0.items.length c5] 30) :: ([] ++ N))) (fun w m => m.appR) (Z6 (Z1 ?_))
     by_cases h58 : x55 = true
     ·replace hl29 := if_t hl29 h58
      refine Z13 rfl (h58) (Z4 (Z2 (Z0 (Z5 rfl) rfl (Z6 (Z1 (CW.ret (Z16 (Z8 (Z8 (Z16 (Z8 ?_)))))))))))
      have hc := Zi hl29
      subst hc
      try dsimp only at hf
      refine Z8 ?_
      have e0 := Zi hf
      subst e0
      refine Z102 (rs := [.tmp 2]) ([.bool true]) ((some b13, blk [.bool (a0.list), .slice A1 a0.data.length c2, .slice A4 a0.items.length c5] 30) :: []) rfl ?_ rfl ?_ ?_ _ (.inl rfl)
      ·exact ⟨rfl, trivial⟩
      ·exact rfl
      ·exact (fun w m => m)
     ·replace hl29 := if_f hl29 h58
      refine Z14 rfl (Bool.eq_false_iff.2 h58) (CW.skip (Z27 (Z1 (Z2 (Z0 (Z3 rfl) rfl (Z0 (RV.add rfl rfl (by omega)) rfl (Z7 (.int .i64 (((n26 + 1) : Nat) : Int)) (by first | rfl | (congr 1) | (congr 1; omega)) (Z0 (Z5 rfl) rfl (Z6 ?_)))))))))
      exact Z109 (k' := k28) (Nat.lt_succ_self _) ⟨(n26 + 1), hl29, (by omega), rfl, rfl⟩ ⟨rfl, rfl, trivial⟩ (fun w m => m.pick [0] 1 rfl rfl)
    ·replace hl29 := if_f hl29 h35
     refine Z14 rfl (decide_eq_false h35) (CW.exit (Z9 (Z9 (Z15 ?_))))
     exact QW.join ⟨(Zi hl29).symm, rfl, rfl⟩ trivial (fun w m => m.pick [] 1 rfl rfl)
theorem waybillref07_oddly_does (w0 : World) (Φ : Ctx) (N : List Ent) (hΦ : ∀ w, Mem w0 w N → Φ w) (cs0_ : List Value) (a0 : It) (res0 : Bool) (ha0 : ItRd Φ cs0_ a0) (hf : waybillref07_oddly a0 = some res0) : DoesG Try.prog 48 [.agg cs0_.toArray] w0 [] N (fun v G => v = .bool res0) := waybillref07_oddly_rec w0 _ Φ N hΦ cs0_ a0 res0 ha0 hf
theorem waybillref07_depth_rec (w0 : World) : ∀ (kf : Nat) (Φ : Ctx) (N : List Ent) (hΦ : ∀ w, Mem w0 w N → Φ w) (cs0_ : List Value) (a0 : It) (res0 : Nat) (ha0 : ItRd Φ cs0_ a0) (hf : waybillref07_depth.r kf a0 = some res0), DoesG Try.prog 49 [.agg cs0_.toArray] w0 [] N (fun v G => (res0 ≤ 9223372036854775807) ∧ v = .int .i64 ((res0 : Nat) : Int)) := by
 intro kf
 induction kf with
 | zero => intro Φ N hΦ cs0_ a0 res0 ha0 hf; rw [waybillref07_depth.r] at hf; cases hf
 | succ kf ih =>
  intro Φ N hΦ cs0_ a0 res0 ha0 hf
  rw [waybillref07_depth.r] at hf
  replace ha0 := ItRd.mono (Ψ := More w0 Φ []) (fun w q => q.1) _ _ ha0
  have h10 := ha0
  obtain ⟨A1, c2, A4, c5, cs7, e9, v3, v6, h8⟩ := ItRd.opn ha0
  subst e9
  have m11 := v3.mx
  have m12 := v6.mx
  refine DoesG.enter Try.func49 rfl Try.ntmps49 rfl (M := (([] ++ N))) rfl (Z4 (Z2 (OW.boxA rfl rfl (fun b13 => (Z0 (Z5 rfl) rfl (Z6 (Z1 (Z4 (Z4 (Z2 (Z0 (Z30 rfl rfl rfl rfl) rfl (Z0 (Z29 rfl Zh rfl rfl rfl rfl) rfl (Z0 (RV.not rfl) rfl ?_)))))))))))))
  refine Z6 (Z1 ?_)
  by_cases h14 : a0.list = true
  ·replace hf := if_t hf h14
   refine Z14 rfl (congrArg (fun b => !b) (h14)) (CW.skip (Z1 (Z4 (Z2 (Z0 (Z5 rfl) rfl (Z6 (Z1 (Z4 (Z4 (Z2 (Z0 (Z5 rfl) rfl (Z6 (Z1 ?_)))))))))))))
   obtain ⟨q15, hq16, hf⟩ := Z100 hf
   refine Z115 (fun L' M' => ∃ n17 : Nat, q15 = n17 ∧ (n17 ≤ 9223372036854775807) ∧ L' = [(3, .int .i64 ((n17 : Nat) : Int))] ∧ M' = (([] ++ N))) ?_ ?_
   ·rintro L20 M21 ⟨n17, e19, b18, e22, e23⟩
    rw [e22, e23]
    clear e22 e23 L20 M21
    clear hq16
    rw [e19] at hf
    clear e19
    try dsimp only at hf
    refine Z1 (Z4 (Z2 (Z0 (Z3 rfl) rfl ?_)))
    obtain ⟨g24, hf⟩ := Z116 hf
    refine Z0 (RV.add rfl rfl (by omega)) rfl (Z7 (.int .i64 (((1 + n17) : Nat) : Int)) (by first | rfl | (congr 1) | (congr 1; omega)) (Z0 (Z5 rfl) rfl (Z6 (Z1 (CW.ret ?_)))))
    have e0 := Zi hf
    subst e0
    refine Z102 (rs := [.tmp 2]) ([.int .i64 (((1 + n17) : Nat) : Int)]) ([]) rfl ?_ rfl ?_ ?_ _ (.inl rfl)
    ·exact ⟨rfl, trivial⟩
    ·exact ⟨(by omega), rfl⟩
    ·exact (fun w m => m)
   ·skip
    refine CW.block (Z114 (fun k L' M' => ∃ n25 : Nat, ∃ n27 : Nat, (waybillref07_depth.l1 a0 (waybillref07_depth.r kf) k n25 n27) = some q15 ∧ (n25 ≤ 9223372036854775807) ∧ (n27 ≤ 9223372036854775807) ∧ L' = [(1, ptr (some b13) 0), (3, .int .i64 ((n25 : Nat) : Int)), (4, .int .i64 ((n27 : Nat) : Int))] ∧ M' = ((some b13, blk [.bool (a0.list), .slice A1 a0.data.length c2, .slice A4 a0.items.length c5] 30) :: ([] ++ N))) (k0 := (a0.items.length - 0 + 2)) ⟨0, 0, hq16, (by omega), (by omega), rfl, rfl⟩ ⟨rfl, rfl, rfl, trivial⟩ (fun w m => m.pick [0] 1 rfl rfl) ?_)
    clear hq16
    rintro k29 L32 M33 ⟨n25, n27, hl30, b26, b28, e34, e35⟩
    rw [e34, e35]
    clear e34 e35 L32 M33
    rcases k29 with _ | k29
    ·rw [waybillref07_depth.l1] at hl30; cases hl30
    rw [waybillref07_depth.l1] at hl30
    refine Z4 (Z4 (Z2 (Z0 (Z3 rfl) rfl (Z0 (Z30 rfl rfl rfl rfl) rfl (Z0 (Z29 rfl Zh rfl rfl rfl rfl) rfl (Z0 (RV.len rfl rfl) rfl (Z0 (RV.lss rfl rfl) rfl (Z7 (.bool (decide (n27 < a0.items.length))) (congrArg Value.bool (decide_eq_decide.2 (by omega))) (Z6 (Z1 ?_))))))))))
    by_cases h36 : n27 < a0.items.length
    ·replace hl30 := if_t hl30 h36
     refine Z13 rfl (decide_eq_true h36) (CW.skip (Z1 (Z4 (CW.block (Z2 (Z0 (Z3 rfl) rfl (Z0 (Z30 rfl rfl rfl rfl) rfl (Z0 (Z29 rfl Zh rfl rfl rfl rfl) rfl (Z0 (Z3 rfl) rfl ?_)))))))))
     obtain ⟨x37, hx38, hl30⟩ := Z100 hl30
     have hl39 := Z113 hx38
     refine Z0 (Z105 (n27) rfl rfl rfl rfl rfl (v6.isSome (by decide) hl39) (by omega)) rfl ?_
     obtain ⟨cs40, h41, h42⟩ := h8.get ItRd.len hx38
     have h52 := h41
     obtain ⟨A43, c44, A46, c47, cs49, e51, v45, v48, h50⟩ := ItRd.opn h41
     subst e51
     have m53 := v45.mx
     have m54 := v48.mx
     refine Z0 (Z110 rfl rfl rfl rfl (fun w m => v6.load (Z103 hΦ 1 m rfl) h42) rfl) rfl ?_
     obtain ⟨x56, hx55, hl30⟩ := Z100 hl30
     refine Z12 Try.call49 rfl (ih (More w0 Φ []) ((some b13, blk [.bool (a0.list), .slice A1 a0.data.length c2, .slice A4 a0.items.length c5] 30) :: ([] ++ N)) (fun w m => Z103 hΦ 1 m rfl) [.bool (x37.list), .slice A43 x37.data.length c44, .slice A46 x37.items.length c47] x37 x56 h52 hx55) rfl rfl ?_
     rintro _ G58 ⟨b57, rfl⟩
     refine Z20 (M' := ((some b13, blk [.bool (a0.list), .slice A1 a0.data.length c2, .slice A4 a0.items.length c5] 30) :: ([] ++ N))) (fun w m => m.appR) (Z0 (RV.max2 rfl rfl) rfl (Z7 (.int .i64 ((max n25 x56 : Nat) : Int)) (by congr 1; omega) (Z0 (Z5 rfl) rfl (Z6 (Z27 (Z1 (Z2 (Z0 (Z3 rfl) rfl (Z0 (RV.add rfl rfl (by omega)) rfl (Z7 (.int .i64 (((n27 + 1) : Nat) : Int)) (by first | rfl | (congr 1) | (congr 1; omega)) ?_))))))))))
     refine Z0 (Z5 rfl) rfl (Z6 ?_)
     exact Z109 (k' := k29) (Nat.lt_succ_self _) ⟨(max n25 x56), (n27 + 1), hl30, (by omega), (by omega), rfl, rfl⟩ ⟨rfl, rfl, rfl, trivial⟩ (fun w m => m.pick [0] 1 rfl rfl)
    ·replace hl30 := if_f hl30 h36
     refine Z14 rfl (decide_eq_false h36) (CW.exit (Z9 (Z9 (Z15 ?_))))
     exact QW.join ⟨n25, (Zi hl30).symm, (by omega), rfl, rfl⟩ ⟨rfl, trivial⟩ (fun w m => m.pick [] 1 rfl rfl)
  ·replace hf := if_f hf h14
   refine Z13 rfl (congrArg (fun b => !b) (Bool.eq_false_iff.2 h14)) (Z4 (Z2 (Z0 (Z5 rfl) rfl (Z6 (Z1 (CW.ret (Z8 ?_)))))))
   have e0 := Zi hf
   subst e0
   refine Z102 (rs := [.tmp 2]) ([.int .i64 (0 : Int)]) ((some b13, blk [.bool (a0.list), .slice A1 a0.data.length c2, .slice A4 a0.items.length c5] 30) :: []) rfl ?_ rfl ?_ ?_ _ (.inl rfl)
   ·exact ⟨rfl, trivial⟩
   ·exact ⟨(by omega), rfl⟩
   ·exact (fun w m => m)
theorem waybillref07_depth_does (w0 : World) (Φ : Ctx) (N : List Ent) (hΦ : ∀ w, Mem w0 w N → Φ w) (cs0_ : List Value) (a0 : It) (res0 : Nat) (ha0 : ItRd Φ cs0_ a0) (hf : waybillref07_depth a0 = some res0) : DoesG Try.prog 49 [.agg cs0_.toArray] w0 [] N (fun v G => (res0 ≤ 9223372036854775807) ∧ v = .int .i64 ((res0 : Nat) : Int)) := waybillref07_depth_rec w0 _ Φ N hΦ cs0_ a0 res0 ha0 hf
theorem rlp_List_does (w0 : World) (Φ : Ctx) (N : List Ent) (hΦ : ∀ w, Mem w0 w N → Φ w) (A0_ : Option Addr) (c0_ : Nat) (cs0_ : List Value) (a0 : List (It)) (res0 : It) (va0 : View Φ A0_ a0.length c0_ 3 cs0_) (ha0 : Reps (ItRd Φ) cs0_ a0) (hf : rlp_List a0 = some res0) : DoesG Try.prog 20 [.slice A0_ a0.length c0_] w0 [] N (fun v G => ∃ B : List Ent, ∃ cr0 : List Value, (ItRd (More w0 Φ B) cr0 res0) ∧ v = .agg cr0.toArray ∧ G = B) := by
 unfold rlp_List at hf
 replace va0 := va0.mono (Ψ := More w0 Φ []) (fun w q => q.1)
 replace ha0 := ha0.mono (ItRd.mono (Ψ := More w0 Φ []) (fun w q => q.1))
 have m1 := va0.mx
 refine DoesG.enter Try.func20 rfl Try.ntmps20 rfl (M := (([] ++ N))) rfl (Z4 (Z2 (OW.alloc (l := [.bool false, .slice none 0 0, .slice none 0 0]) rfl rfl rfl (fun b2 => (Z6 (Z1 (Z4 (Z2 (Z0 (Z3 rfl) rfl ?_)))))))))
 obtain ⟨x4, hx3, hf⟩ := Z100 hf
 refine Z12 Try.call37 rfl (rlp_twin_does w0 (More w0 Φ []) ((some b2, blk [.bool false, .slice none 0 0, .slice none 0 0] 30) :: ([] ++ N)) (fun w m => Z103 hΦ 1 m rfl) A0_ c0_ cs0_ a0 x4 va0 ha0 hx3) rfl rfl ?_
 rintro L12 M13 ⟨B5, cs6, ob8, c9, r10, h7, o11, e14, e15⟩
 rw [e14, e15]
 clear e14 e15 L12 M13
 refine Z20 (M' := ((ob8, blk (cs6 ++ r10) 30) :: (some b2, blk [.bool false, .slice none 0 0, .slice none 0 0] 30) :: ((B5 ++ []) ++ N))) (fun w m => by have h := Z107 (A := B5) m 1 1 rfl rfl; exact h) ?_
 have gq1 : ∀ w, More w0 Φ (B5 ++ []) w → More w0 Φ [] w := fun w q => More.mono (fun w m => (m).appR) q
 replace va0 := va0.mono gq1
 replace ha0 := ha0.mono (ItRd.mono gq1)
 replace h7 := h7.mono (ItRd.mono (Ψ := (More w0 Φ (B5 ++ []))) (fun w q => Z117 q))
 have m16 := o11.mx
 refine Z0 (Z111 (l := [.bool false, .slice none 0 0, .slice none 0 0]) (cs := [.bool true, .slice none 0 0, sl ob8 0 x4.length c9]) [(0, [.bool true]), (2, [sl ob8 0 x4.length c9])] rfl rfl rfl rfl rfl rfl rfl) rfl (OW.rot1 ?_)
 refine Z28 (Z104 rfl rfl rfl (by intro u hu; simp at hu; rcases hu with rfl | rfl | rfl <;> rfl) rfl rfl rfl) ?_
 refine Z6 (Z1 (CW.ret (QW.mem (M' := (some b2, blk [.bool true, .slice none 0 0, sl ob8 0 x4.length c9] 30) :: (((ob8, blk (cs6 ++ r10) 30) :: (B5 ++ [])) ++ N)) (fun w m => m.pick [0, 1] 2 rfl rfl) ?_)))
 have gq2 : ∀ w, More w0 Φ ((ob8, blk (cs6 ++ r10) 30) :: (B5 ++ [])) w → More w0 Φ (B5 ++ []) w := fun w q => More.mono (fun w m => (m).tail) q
 replace va0 := va0.mono gq2
 replace ha0 := ha0.mono (ItRd.mono gq2)
 replace h7 := h7.mono (ItRd.mono gq2)
 have v17 : View (More w0 Φ ((ob8, blk (cs6 ++ r10) 30) :: (B5 ++ []))) ((ob8).map fun k => ⟨k, 0, none⟩) x4.length c9 3 cs6 := o11.view (by decide) (fun w q => q.2.sublist (List.singleton_sublist.2 (List.mem_cons_self ..)))
 have e0 := Zi hf
 subst e0
 have v18 : View (More w0 Φ ((ob8, blk (cs6 ++ r10) 30) :: (B5 ++ []))) none ([] : List (BitVec 8)).length 0 1 (u8s []) := View.nil
 refine Z102 (rs := [.cell 2 30]) ([.agg [.bool true, .slice none 0 0, .slice ((ob8).map fun k => ⟨k, 0, none⟩) x4.length c9].toArray]) (((ob8, blk (cs6 ++ r10) 30) :: (B5 ++ []))) rfl ?_ rfl ?_ ?_ _ (.inl rfl)
 ·exact ⟨⟨_, _, _, _, rfl, Zh, rfl, rfl, rfl, rfl⟩, trivial⟩
 ·exact ⟨((ob8, blk (cs6 ++ r10) 30) :: (B5 ++ [])), [.bool true, .slice none 0 0, .slice ((ob8).map fun k => ⟨k, 0, none⟩) x4.length c9], (ItRd.mk v18 v17 h7), rfl, rfl⟩
 ·exact (fun w m => m.pick [] 1 rfl rfl)
theorem rlp_GetText_does (w0 : World) (Φ : Ctx) (N : List Ent) (hΦ : ∀ w, Mem w0 w N → Φ w) (cs0_ : List Value) (a0 : It) (res0 : List (BitVec 8)) (res1 : Nat) (ha0 : ItRd Φ cs0_ a0) (hf : rlp_GetText a0 = some (res0, res1)) : DoesG Try.prog 45 [.agg cs0_.toArray] w0 [] N (fun v G => ∃ B : List Ent, ∃ or0 : Option Nat, ∃ kr0 : Nat, ∃ rr0 : List Value, (OwnS or0 res0.length kr0 1 (u8s res0) rr0) ∧ (res1 ≤ 9223372036854775807) ∧ v = .tuple #[sl or0 0 res0.length kr0, .int .i64 ((res1 : Nat) : Int)] ∧ G = (or0, blk ((u8s res0) ++ rr0) 5) :: B) := by
 unfold rlp_GetText at hf
 replace ha0 := ItRd.mono (Ψ := More w0 Φ []) (fun w q => q.1) _ _ ha0
 have h10 := ha0
 obtain ⟨A1, c2, A4, c5, cs7, e9, v3, v6, h8⟩ := ItRd.opn ha0
 subst e9
 have m11 := v3.mx
 have m12 := v6.mx
 refine DoesG.enter Try.func45 rfl Try.ntmps45 rfl (M := (([] ++ N))) rfl (Z4 (Z2 (OW.boxA rfl rfl (fun b13 => (Z0 (Z5 rfl) rfl (Z0 (Z5 rfl) rfl (Z6 (Z1 (Z4 (Z4 (Z2 (Z0 (Z22 rfl Zh rfl rfl rfl rfl rfl) rfl ?_))))))))))))
 obtain ⟨x15, hx14, hf⟩ := Z100 hf
 refine Z12 Try.call51 rfl (rlp_kind_does w0 (More w0 Φ []) ((some b13, blk [.bool (a0.list), .slice A1 a0.data.length c2, .slice A4 a0.items.length c5] 30) :: ([] ++ N)) (fun w m => Z103 hΦ 1 m rfl) [.bool (a0.list), .slice A1 a0.data.length c2, .slice A4 a0.items.length c5] a0 false x15 h10 hx14) rfl rfl ?_
 rintro _ G17 ⟨b16, rfl⟩
 refine Z20 (M' := ((some b13, blk [.bool (a0.list), .slice A1 a0.data.length c2, .slice A4 a0.items.length c5] 30) :: ([] ++ N))) (fun w m => m.appR) (Z0 (Z5 rfl) rfl (Z6 (Z1 (Z4 (Z2 (Z0 (Z3 rfl) rfl (Z0 (RV.neq rfl rfl) rfl (Z7 (.bool (!decide (x15 = 0))) (congrArg (fun b => Value.bool (!b)) (decide_eq_decide.2 (by omega))) (Z6 (Z1 ?_))))))))))
 by_cases h19 : x15 = 0
 ·replace hf := if_t hf h19
  refine Z14 rfl (congrArg (fun b => !b) (decide_eq_true h19)) (CW.skip (Z1 (Z4 (Z2 (Z0 (Z30 rfl rfl rfl rfl) rfl (Z0 (Z29 rfl Zh rfl rfl rfl rfl) rfl ?_))))))
  obtain ⟨x21, hx20, hf⟩ := Z100 hf
  refine Z12 Try.call36 rfl (rlp_clone_does w0 (More w0 Φ []) ((some b13, blk [.bool (a0.list), .slice A1 a0.data.length c2, .slice A4 a0.items.length c5] 30) :: ([] ++ N)) (fun w m => Z103 hΦ 1 m rfl) A1 c2 a0.data x21 v3 hx20) rfl rfl ?_
  rintro L27 M28 ⟨B22, ob23, c24, r25, o26, e29, e30⟩
  rw [e29, e30]
  clear e29 e30 L27 M28
  refine Z20 (M' := ((ob23, blk ((u8s x21) ++ r25) 5) :: (some b13, blk [.bool (a0.list), .slice A1 a0.data.length c2, .slice A4 a0.items.length c5] 30) :: ((B22 ++ []) ++ N))) (fun w m => by have h := Z107 (A := B22) m 1 1 rfl rfl; exact h) ?_
  have gq1 : ∀ w, More w0 Φ (B22 ++ []) w → More w0 Φ [] w := fun w q => More.mono (fun w m => (m).appR) q
  replace h10 := ItRd.mono gq1 _ _ h10
  replace v3 := v3.mono gq1
  replace v6 := v6.mono gq1
  replace h8 := h8.mono (ItRd.mono gq1)
  have m31 := o26.mx
  refine Z0 (Z5 rfl) rfl (Z0 (Z5 rfl) rfl (Z6 (Z1 (CW.ret ?_))))
  have er0 := Zi hf
  obtain ⟨e0, er1⟩ := Prod.mk.inj er0
  clear er0
  subst e0
  subst er1
  refine Z102 (rs := [.tmp 2, .tmp 3]) ([sl ob23 0 x21.length c24, .int .i64 (0 : Int)]) ((ob23, blk ((u8s x21) ++ r25) 5) :: (B22 ++ [])) rfl ?_ rfl ?_ ?_ _ (.inl rfl)
  ·exact ⟨rfl, rfl, trivial⟩
  ·exact ⟨(B22 ++ []), ob23, c24, r25, o26, (by omega), rfl, rfl⟩
  ·exact (fun w m => m.pick [0] 2 rfl rfl)
 ·replace hf := if_f hf h19
  refine Z13 rfl (congrArg (fun b => !b) (decide_eq_false h19)) (Z4 (Z2 (Z0 (Z3 rfl) rfl (Z0 (Z5 rfl) rfl (Z0 (Z5 rfl) rfl (Z6 (Z1 (CW.ret (Z8 (QW.mem (M' := ((none, blk ((u8s ([] : List (BitVec 8))) ++ []) 5) :: (some b13, blk [.bool (a0.list), .slice A1 a0.data.length c2, .slice A4 a0.items.length c5] 30) :: ([] ++ N))) (fun w m => m.nil_ent _) ?_))))))))))
  have er0 := Zi hf
  obtain ⟨e0, er1⟩ := Prod.mk.inj er0
  clear er0
  subst e0
  subst er1
  refine Z102 (rs := [.tmp 2, .tmp 3]) ([sl none 0 ([] : List (BitVec 8)).length 0, .int .i64 ((x15 : Nat) : Int)]) ((none, blk ((u8s ([] : List (BitVec 8))) ++ []) 5) :: []) rfl ?_ rfl ?_ ?_ _ (.inl rfl)
  ·exact ⟨rfl, rfl, trivial⟩
  ·exact ⟨[], none, 0, [], OwnS.nil, (by omega), rfl, rfl⟩
  ·exact (fun w m => m.pick [0] 2 rfl rfl)
theorem rlp_GetList_does (w0 : World) (Φ : Ctx) (N : List Ent) (hΦ : ∀ w, Mem w0 w N → Φ w) (cs0_ : List Value) (a0 : It) (res0 : List (It)) (res1 : Nat) (ha0 : ItRd Φ cs0_ a0) (hf : rlp_GetList a0 = some (res0, res1)) : DoesG Try.prog 43 [.agg cs0_.toArray] w0 [] N (fun v G => ∃ B : List Ent, ∃ cr0 : List Value, ∃ or0 : Option Nat, ∃ kr0 : Nat, ∃ rr0 : List Value, (Reps (ItRd (More w0 Φ B)) cr0 res0) ∧ (OwnS or0 res0.length kr0 3 cr0 rr0) ∧ (res1 ≤ 9223372036854775807) ∧ v = .tuple #[sl or0 0 res0.length kr0, .int .i64 ((res1 : Nat) : Int)] ∧ G = (or0, blk (cr0 ++ rr0) 30) :: B) := by
 unfold rlp_GetList at hf
 replace ha0 := ItRd.mono (Ψ := More w0 Φ []) (fun w q => q.1) _ _ ha0
 have h10 := ha0
 obtain ⟨A1, c2, A4, c5, cs7, e9, v3, v6, h8⟩ := ItRd.opn ha0
 subst e9
 have m11 := v3.mx
 have m12 := v6.mx
 refine DoesG.enter Try.func43 rfl Try.ntmps43 rfl (M := (([] ++ N))) rfl (Z4 (Z2 (OW.boxA rfl rfl (fun b13 => (Z0 (Z5 rfl) rfl (Z0 (Z5 rfl) rfl (Z6 (Z1 (Z4 (Z4 (Z2 (Z0 (Z22 rfl Zh rfl rfl rfl rfl rfl) rfl ?_))))))))))))
 obtain ⟨x15, hx14, hf⟩ := Z100 hf
 refine Z12 Try.call51 rfl (rlp_kind_does w0 (More w0 Φ []) ((some b13, blk [.bool (a0.list), .slice A1 a0.data.length c2, .slice A4 a0.items.length c5] 30) :: ([] ++ N)) (fun w m => Z103 hΦ 1 m rfl) [.bool (a0.list), .slice A1 a0.data.length c2, .slice A4 a0.items.length c5] a0 true x15 h10 hx14) rfl rfl ?_
 rintro _ G17 ⟨b16, rfl⟩
 refine Z20 (M' := ((some b13, blk [.bool (a0.list), .slice A1 a0.data.length c2, .slice A4 a0.items.length c5] 30) :: ([] ++ N))) (fun w m => m.appR) (Z0 (Z5 rfl) rfl (Z6 (Z1 (Z4 (Z2 (Z0 (Z3 rfl) rfl (Z0 (RV.neq rfl rfl) rfl (Z7 (.bool (!decide (x15 = 0))) (congrArg (fun b => Value.bool (!b)) (decide_eq_decide.2 (by omega))) (Z6 (Z1 ?_))))))))))
 by_cases h19 : x15 = 0
 ·replace hf := if_t hf h19
  refine Z14 rfl (congrArg (fun b => !b) (decide_eq_true h19)) (CW.skip (Z1 (Z4 (Z2 (Z0 (Z30 rfl rfl rfl rfl) rfl (Z0 (Z29 rfl Zh rfl rfl rfl rfl) rfl ?_))))))
  obtain ⟨x21, hx20, hf⟩ := Z100 hf
  refine Z12 Try.call37 rfl (rlp_twin_does w0 (More w0 Φ []) ((some b13, blk [.bool (a0.list), .slice A1 a0.data.length c2, .slice A4 a0.items.length c5] 30) :: ([] ++ N)) (fun w m => Z103 hΦ 1 m rfl) A4 c5 cs7 a0.items x21 v6 h8 hx20) rfl rfl ?_
  rintro L29 M30 ⟨B22, cs23, ob25, c26, r27, h24, o28, e31, e32⟩
  rw [e31, e32]
  clear e31 e32 L29 M30
  refine Z20 (M' := ((ob25, blk (cs23 ++ r27) 30) :: (some b13, blk [.bool (a0.list), .slice A1 a0.data.length c2, .slice A4 a0.items.length c5] 30) :: ((B22 ++ []) ++ N))) (fun w m => by have h := Z107 (A := B22) m 1 1 rfl rfl; exact h) ?_
  have gq1 : ∀ w, More w0 Φ (B22 ++ []) w → More w0 Φ [] w := fun w q => More.mono (fun w m => (m).appR) q
  replace h10 := ItRd.mono gq1 _ _ h10
  replace v3 := v3.mono gq1
  replace v6 := v6.mono gq1
  replace h8 := h8.mono (ItRd.mono gq1)
  replace h24 := h24.mono (ItRd.mono (Ψ := (More w0 Φ (B22 ++ []))) (fun w q => Z117 q))
  have m33 := o28.mx
  refine Z0 (Z5 rfl) rfl (Z0 (Z5 rfl) rfl (Z6 (Z1 (CW.ret ?_))))
  have er0 := Zi hf
  obtain ⟨e0, er1⟩ := Prod.mk.inj er0
  clear er0
  subst e0
  subst er1
  refine Z102 (rs := [.tmp 2, .tmp 3]) ([sl ob25 0 x21.length c26, .int .i64 (0 : Int)]) ((ob25, blk (cs23 ++ r27) 30) :: (B22 ++ [])) rfl ?_ rfl ?_ ?_ _ (.inl rfl)
  ·exact ⟨rfl, rfl, trivial⟩
  ·exact ⟨(B22 ++ []), cs23, ob25, c26, r27, h24, o28, (by omega), rfl, rfl⟩
  ·exact (fun w m => m.pick [0] 2 rfl rfl)
 ·replace hf := if_f hf h19
  refine Z13 rfl (congrArg (fun b => !b) (decide_eq_false h19)) (Z4 (Z2 (Z0 (Z3 rfl) rfl (Z0 (Z5 rfl) rfl (Z0 (Z5 rfl) rfl (Z6 (Z1 (CW.ret (Z8 (QW.mem (M' := ((none, blk ([] ++ []) 30) :: (some b13, blk [.bool (a0.list), .slice A1 a0.data.length c2, .slice A4 a0.items.length c5] 30) :: ([] ++ N))) (fun w m => m.nil_ent _) ?_))))))))))
  have er0 := Zi hf
  obtain ⟨e0, er1⟩ := Prod.mk.inj er0
  clear er0
  subst e0
  subst er1
  refine Z102 (rs := [.tmp 2, .tmp 3]) ([sl none 0 ([] : List (It)).length 0, .int .i64 ((x15 : Nat) : Int)]) ((none, blk ([] ++ []) 30) :: []) rfl ?_ rfl ?_ ?_ _ (.inl rfl)
  ·exact ⟨rfl, rfl, trivial⟩
  ·exact ⟨[], [], none, 0, [], Reps.nil, OwnS.nil, (by omega), rfl, rfl⟩
  ·exact (fun w m => m.pick [0] 2 rfl rfl)
theorem rlp_Check_does (w0 : World) (Φ : Ctx) (N : List Ent) (hΦ : ∀ w, Mem w0 w N → Φ w) (cs0_ : List Value) (a0 : It) (res0 : Nat) (ha0 : ItRd Φ cs0_ a0) (hf : rlp_Check a0 = some res0) : DoesG Try.prog 38 [.agg cs0_.toArray] w0 [] N (fun v G => (res0 ≤ 9223372036854775807) ∧ v = .int .i64 ((res0 : Nat) : Int)) := by
 unfold rlp_Check at hf
 replace ha0 := ItRd.mono (Ψ := More w0 Φ []) (fun w q => q.1) _ _ ha0
 have h10 := ha0
 obtain ⟨A1, c2, A4, c5, cs7, e9, v3, v6, h8⟩ := ItRd.opn ha0
 subst e9
 have m11 := v3.mx
 have m12 := v6.mx
 refine DoesG.enter Try.func38 rfl Try.ntmps38 rfl (M := (([] ++ N))) rfl (Z4 (Z2 (OW.boxA rfl rfl (fun b13 => (Z0 (Z5 rfl) rfl (Z6 (Z1 (Z4 (Z2 (Z0 (Z22 rfl Zh rfl rfl rfl rfl rfl) rfl ?_))))))))))
 obtain ⟨⟨x15, x16⟩, hx14, hf⟩ := Z100 hf
 try dsimp only at hf
 refine Z12 Try.call46 rfl (rlp_sound_does w0 (More w0 Φ []) ((some b13, blk [.bool (a0.list), .slice A1 a0.data.length c2, .slice A4 a0.items.length c5] 30) :: ([] ++ N)) (fun w m => Z103 hΦ 1 m rfl) [.bool (a0.list), .slice A1 a0.data.length c2, .slice A4 a0.items.length c5] a0 x15 x16 h10 hx14) rfl rfl ?_
 rintro _ G18 ⟨b17, rfl⟩
 refine Z20 (M' := ((some b13, blk [.bool (a0.list), .slice A1 a0.data.length c2, .slice A4 a0.items.length c5] 30) :: ([] ++ N))) (fun w m => m.appR) (Z0 (Z3 rfl) rfl (Z0 (Z17 rfl rfl) rfl (Z7 (.int .i64 ((x15 : Nat) : Int)) (rfl) (Z0 (Z17 rfl rfl) rfl (Z7 (.bool (x16)) (rfl) (Z0 (Z5 rfl) rfl (Z0 (Z5 rfl) rfl ?_)))))))
 refine Z6 (Z1 (Z4 (CW.block (Z4 (Z2 (Z0 (Z3 rfl) rfl (Z0 (RV.not rfl) rfl (Z0 (Z5 rfl) rfl (Z6 (Z1 ?_))))))))))
 by_cases h20 : x16 = true
 ·replace hf := if_t hf h20
  refine Z14 rfl (congrArg (fun b => !b) (h20)) (Z4 (Z2 (Z0 (Z3 rfl) rfl (Z0 (RV.gtr rfl rfl) rfl (Z7 (.bool (decide (1024 < x15))) (congrArg Value.bool (decide_eq_decide.2 (by omega))) (Z0 (Z5 rfl) rfl (Z6 (Z1 ?_))))))))
  by_cases h21 : 1024 < x15
  ·replace hf := if_t hf h21
   refine Z13 rfl (decide_eq_true h21) (Z4 (Z2 (Z0 (Z5 rfl) rfl (Z6 (Z1 (CW.ret (Z16 (Z8 ?_))))))))
   have e0 := Zi hf
   subst e0
   refine Z102 (rs := [.tmp 2]) ([.int .i64 (74 : Int)]) ((some b13, blk [.bool (a0.list), .slice A1 a0.data.length c2, .slice A4 a0.items.length c5] 30) :: []) rfl ?_ rfl ?_ ?_ _ (.inl rfl)
   ·exact ⟨rfl, trivial⟩
   ·exact ⟨(by omega), rfl⟩
   ·exact (fun w m => m)
  ·replace hf := if_f hf h21
   refine Z14 rfl (decide_eq_false h21) (Z4 (Z2 (Z0 (Z22 rfl Zh rfl rfl rfl rfl rfl) rfl ?_)))
   obtain ⟨x23, hx22, hf⟩ := Z100 hf
   refine Z12 Try.call39 rfl (rlp_size_does w0 (More w0 Φ []) ((some b13, blk [.bool (a0.list), .slice A1 a0.data.length c2, .slice A4 a0.items.length c5] 30) :: ([] ++ N)) (fun w m => Z103 hΦ 1 m rfl) [.bool (a0.list), .slice A1 a0.data.length c2, .slice A4 a0.items.length c5] a0 x23 h10 hx22) rfl rfl ?_
   rintro _ G25 ⟨b24, rfl⟩
   refine Z20 (M' := ((some b13, blk [.bool (a0.list), .slice A1 a0.data.length c2, .slice A4 a0.items.length c5] 30) :: ([] ++ N))) (fun w m => m.appR) (Z0 (RV.gtr rfl rfl) rfl (Z7 (.bool (decide (16777216 < x23))) (congrArg Value.bool (decide_eq_decide.2 (by omega))) (Z0 (Z5 rfl) rfl (Z6 (Z1 ?_)))))
   by_cases h27 : 16777216 < x23
   ·replace hf := if_t hf h27
    refine Z13 rfl (decide_eq_true h27) (Z4 (Z2 (Z0 (Z5 rfl) rfl (Z6 (Z1 (CW.ret (Z16 (Z8 ?_))))))))
    have e0 := Zi hf
    subst e0
    refine Z102 (rs := [.tmp 2]) ([.int .i64 (2 : Int)]) ((some b13, blk [.bool (a0.list), .slice A1 a0.data.length c2, .slice A4 a0.items.length c5] 30) :: []) rfl ?_ rfl ?_ ?_ _ (.inl rfl)
    ·exact ⟨rfl, trivial⟩
    ·exact ⟨(by omega), rfl⟩
    ·exact (fun w m => m)
   ·replace hf := if_f hf h27
    refine Z14 rfl (decide_eq_false h27) (CW.skip (Z27 (Z1 (Z4 (Z2 (Z0 (Z5 rfl) rfl (Z6 (Z1 (CW.ret ?_)))))))))
    have e0 := Zi hf
    subst e0
    refine Z102 (rs := [.tmp 2]) ([.int .i64 (0 : Int)]) ((some b13, blk [.bool (a0.list), .slice A1 a0.data.length c2, .slice A4 a0.items.length c5] 30) :: []) rfl ?_ rfl ?_ ?_ _ (.inl rfl)
    ·exact ⟨rfl, trivial⟩
    ·exact ⟨(by omega), rfl⟩
    ·exact (fun w m => m)
 ·replace hf := if_f hf h20
  refine Z13 rfl (congrArg (fun b => !b) (Bool.eq_false_iff.2 h20)) (Z4 (Z2 (Z0 (Z5 rfl) rfl (Z6 (Z1 (CW.ret (Z16 (Z8 ?_))))))))
  have e0 := Zi hf
  subst e0
  refine Z102 (rs := [.tmp 2]) ([.int .i64 (78 : Int)]) ((some b13, blk [.bool (a0.list), .slice A1 a0.data.length c2, .slice A4 a0.items.length c5] 30) :: []) rfl ?_ rfl ?_ ?_ _ (.inl rfl)
  ·exact ⟨rfl, trivial⟩
  ·exact ⟨(by omega), rfl⟩
  ·exact (fun w m => m)
theorem waybillref07_Check_does (w0 : World) (Φ : Ctx) (N : List Ent) (hΦ : ∀ w, Mem w0 w N → Φ w) (cs0_ : List Value) (a0 : It) (res0 : Nat) (ha0 : ItRd Φ cs0_ a0) (hf : waybillref07_Check a0 = some res0) : DoesG Try.prog 41 [.agg cs0_.toArray] w0 [] N (fun v G => (res0 ≤ 9223372036854775807) ∧ v = .int .i64 ((res0 : Nat) : Int)) := by
 unfold waybillref07_Check at hf
 replace ha0 := ItRd.mono (Ψ := More w0 Φ []) (fun w q => q.1) _ _ ha0
 have h10 := ha0
 obtain ⟨A1, c2, A4, c5, cs7, e9, v3, v6, h8⟩ := ItRd.opn ha0
 subst e9
 have m11 := v3.mx
 have m12 := v6.mx
 refine DoesG.enter Try.func41 rfl Try.ntmps41 rfl (M := (([] ++ N))) rfl (Z4 (Z2 (OW.boxA rfl rfl (fun b13 => (Z0 (Z5 rfl) rfl (Z6 (Z1 (Z4 (Z4 (Z2 (Z0 (Z22 rfl Zh rfl rfl rfl rfl rfl) rfl ?_)))))))))))
 obtain ⟨x15, hx14, hf⟩ := Z100 hf
 refine Z12 Try.call48 rfl (waybillref07_oddly_does w0 (More w0 Φ []) ((some b13, blk [.bool (a0.list), .slice A1 a0.data.length c2, .slice A4 a0.items.length c5] 30) :: ([] ++ N)) (fun w m => Z103 hΦ 1 m rfl) [.bool (a0.list), .slice A1 a0.data.length c2, .slice A4 a0.items.length c5] a0 x15 h10 hx14) rfl rfl ?_
 rintro _ G16 rfl
 refine Z20 (M' := ((some b13, blk [.bool (a0.list), .slice A1 a0.data.length c2, .slice A4 a0.items.length c5] 30) :: ([] ++ N))) (fun w m => m.appR) (Z6 (Z1 ?_))
 by_cases h18 : x15 = true
 ·replace hf := if_t hf h18
  refine Z13 rfl (h18) (Z4 (Z2 (Z0 (Z5 rfl) rfl (Z6 (Z1 (CW.ret (Z8 ?_)))))))
  have e0 := Zi hf
  subst e0
  refine Z102 (rs := [.tmp 2]) ([.int .i64 (78 : Int)]) ((some b13, blk [.bool (a0.list), .slice A1 a0.data.length c2, .slice A4 a0.items.length c5] 30) :: []) rfl ?_ rfl ?_ ?_ _ (.inl rfl)
  ·exact ⟨rfl, trivial⟩
  ·exact ⟨(by omega), rfl⟩
  ·exact (fun w m => m)
 ·replace hf := if_f hf h18
  refine Z14 rfl (Bool.eq_false_iff.2 h18) (CW.skip (Z1 (Z4 (Z4 (Z2 (Z0 (Z22 rfl Zh rfl rfl rfl rfl rfl) rfl ?_))))))
  obtain ⟨x20, hx19, hf⟩ := Z100 hf
  refine Z12 Try.call49 rfl (waybillref07_depth_does w0 (More w0 Φ []) ((some b13, blk [.bool (a0.list), .slice A1 a0.data.length c2, .slice A4 a0.items.length c5] 30) :: ([] ++ N)) (fun w m => Z103 hΦ 1 m rfl) [.bool (a0.list), .slice A1 a0.data.length c2, .slice A4 a0.items.length c5] a0 x20 h10 hx19) rfl rfl ?_
  rintro _ G22 ⟨b21, rfl⟩
  refine Z20 (M' := ((some b13, blk [.bool (a0.list), .slice A1 a0.data.length c2, .slice A4 a0.items.length c5] 30) :: ([] ++ N))) (fun w m => m.appR) (Z0 (RV.gtr rfl rfl) rfl (Z7 (.bool (decide (1024 < x20))) (congrArg Value.bool (decide_eq_decide.2 (by omega))) (Z6 (Z1 ?_))))
  by_cases h24 : 1024 < x20
  ·replace hf := if_t hf h24
   refine Z13 rfl (decide_eq_true h24) (Z4 (Z2 (Z0 (Z5 rfl) rfl (Z6 (Z1 (CW.ret (Z8 ?_)))))))
   have e0 := Zi hf
   subst e0
   refine Z102 (rs := [.tmp 2]) ([.int .i64 (74 : Int)]) ((some b13, blk [.bool (a0.list), .slice A1 a0.data.length c2, .slice A4 a0.items.length c5] 30) :: []) rfl ?_ rfl ?_ ?_ _ (.inl rfl)
   ·exact ⟨rfl, trivial⟩
   ·exact ⟨(by omega), rfl⟩
   ·exact (fun w m => m)
  ·replace hf := if_f hf h24
   refine Z14 rfl (decide_eq_false h24) (CW.skip (Z1 (Z4 (Z4 (Z2 (Z0 (Z22 rfl Zh rfl rfl rfl rfl rfl) rfl ?_))))))
   obtain ⟨x26, hx25, hf⟩ := Z100 hf
   refine Z12 Try.call42 rfl (waybillref07_size_does w0 (More w0 Φ []) ((some b13, blk [.bool (a0.list), .slice A1 a0.data.length c2, .slice A4 a0.items.length c5] 30) :: ([] ++ N)) (fun w m => Z103 hΦ 1 m rfl) [.bool (a0.list), .slice A1 a0.data.length c2, .slice A4 a0.items.length c5] a0 x26 h10 hx25) rfl rfl ?_
   rintro _ G28 ⟨b27, rfl⟩
   refine Z20 (M' := ((some b13, blk [.bool (a0.list), .slice A1 a0.data.length c2, .slice A4 a0.items.length c5] 30) :: ([] ++ N))) (fun w m => m.appR) (Z0 (RV.gtr rfl rfl) rfl (Z7 (.bool (decide (16777216 < x26))) (congrArg Value.bool (decide_eq_decide.2 (by omega))) (Z6 (Z1 ?_))))
   by_cases h30 : 16777216 < x26
   ·replace hf := if_t hf h30
    refine Z13 rfl (decide_eq_true h30) (Z4 (Z2 (Z0 (Z5 rfl) rfl (Z6 (Z1 (CW.ret (Z8 ?_)))))))
    have e0 := Zi hf
    subst e0
    refine Z102 (rs := [.tmp 2]) ([.int .i64 (2 : Int)]) ((some b13, blk [.bool (a0.list), .slice A1 a0.data.length c2, .slice A4 a0.items.length c5] 30) :: []) rfl ?_ rfl ?_ ?_ _ (.inl rfl)
    ·exact ⟨rfl, trivial⟩
    ·exact ⟨(by omega), rfl⟩
    ·exact (fun w m => m)
   ·replace hf := if_f hf h30
    refine Z14 rfl (decide_eq_false h30) (CW.skip (Z1 (Z4 (Z2 (Z0 (Z5 rfl) rfl (Z6 (Z1 (CW.ret ?_))))))))
    have e0 := Zi hf
    subst e0
    refine Z102 (rs := [.tmp 2]) ([.int .i64 (0 : Int)]) ((some b13, blk [.bool (a0.list), .slice A1 a0.data.length c2, .slice A4 a0.items.length c5] 30) :: []) rfl ?_ rfl ?_ ?_ _ (.inl rfl)
    ·exact ⟨rfl, trivial⟩
    ·exact ⟨(by omega), rfl⟩
    ·exact (fun w m => m)
theorem rlp_Size_does (w0 : World) (Φ : Ctx) (N : List Ent) (hΦ : ∀ w, Mem w0 w N → Φ w) (cs0_ : List Value) (a0 : It) (res0 : Nat) (res1 : Nat) (ha0 : ItRd Φ cs0_ a0) (hf : rlp_Size a0 = some (res0, res1)) : DoesG Try.prog 21 [.agg cs0_.toArray] w0 [] N (fun v G => (res0 ≤ 9223372036854775807) ∧ (res1 ≤ 9223372036854775807) ∧ v = .tuple #[.int .i64 ((res0 : Nat) : Int), .int .i64 ((res1 : Nat) : Int)]) := by
 unfold rlp_Size at hf
 replace ha0 := ItRd.mono (Ψ := More w0 Φ []) (fun w q => q.1) _ _ ha0
 have h10 := ha0
 obtain ⟨A1, c2, A4, c5, cs7, e9, v3, v6, h8⟩ := ItRd.opn ha0
 subst e9
 have m11 := v3.mx
 have m12 := v6.mx
 refine DoesG.enter Try.func21 rfl Try.ntmps21 rfl (M := (([] ++ N))) rfl (Z4 (Z2 (OW.boxA rfl rfl (fun b13 => (Z0 (Z5 rfl) rfl (Z0 (Z5 rfl) rfl (Z6 (Z1 (Z4 (Z4 (Z2 (Z0 (Z22 rfl Zh rfl rfl rfl rfl rfl) rfl ?_))))))))))))
 obtain ⟨x15, hx14, hf⟩ := Z100 hf
 refine Z12 Try.call38 rfl (rlp_Check_does w0 (More w0 Φ []) ((some b13, blk [.bool (a0.list), .slice A1 a0.data.length c2, .slice A4 a0.items.length c5] 30) :: ([] ++ N)) (fun w m => Z103 hΦ 1 m rfl) [.bool (a0.list), .slice A1 a0.data.length c2, .slice A4 a0.items.length c5] a0 x15 h10 hx14) rfl rfl ?_
 rintro _ G17 ⟨b16, rfl⟩
 refine Z20 (M' := ((some b13, blk [.bool (a0.list), .slice A1 a0.data.length c2, .slice A4 a0.items.length c5] 30) :: ([] ++ N))) (fun w m => m.appR) (Z0 (Z5 rfl) rfl (Z6 (Z1 (Z4 (Z2 (Z0 (Z3 rfl) rfl (Z0 (RV.neq rfl rfl) rfl (Z7 (.bool (!decide (x15 = 0))) (congrArg (fun b => Value.bool (!b)) (decide_eq_decide.2 (by omega))) (Z6 (Z1 ?_))))))))))
 by_cases h19 : x15 = 0
 ·replace hf := if_t hf h19
  refine Z14 rfl (congrArg (fun b => !b) (decide_eq_true h19)) (CW.skip (Z1 (Z4 (Z2 (Z0 (Z22 rfl Zh rfl rfl rfl rfl rfl) rfl ?_)))))
  obtain ⟨x21, hx20, hf⟩ := Z100 hf
  refine Z12 Try.call39 rfl (rlp_size_does w0 (More w0 Φ []) ((some b13, blk [.bool (a0.list), .slice A1 a0.data.length c2, .slice A4 a0.items.length c5] 30) :: ([] ++ N)) (fun w m => Z103 hΦ 1 m rfl) [.bool (a0.list), .slice A1 a0.data.length c2, .slice A4 a0.items.length c5] a0 x21 h10 hx20) rfl rfl ?_
  rintro _ G23 ⟨b22, rfl⟩
  refine Z20 (M' := ((some b13, blk [.bool (a0.list), .slice A1 a0.data.length c2, .slice A4 a0.items.length c5] 30) :: ([] ++ N))) (fun w m => m.appR) (Z0 (Z5 rfl) rfl (Z0 (Z5 rfl) rfl (Z6 (Z1 (CW.ret ?_)))))
  have er0 := Zi hf
  obtain ⟨e0, er1⟩ := Prod.mk.inj er0
  clear er0
  subst e0
  subst er1
  refine Z102 (rs := [.tmp 2, .tmp 3]) ([.int .i64 ((x21 : Nat) : Int), .int .i64 (0 : Int)]) ((some b13, blk [.bool (a0.list), .slice A1 a0.data.length c2, .slice A4 a0.items.length c5] 30) :: []) rfl ?_ rfl ?_ ?_ _ (.inl rfl)
  ·exact ⟨rfl, rfl, trivial⟩
  ·exact ⟨(by omega), (by omega), rfl⟩
  ·exact (fun w m => m)
 ·replace hf := if_f hf h19
  refine Z13 rfl (congrArg (fun b => !b) (decide_eq_false h19)) (Z4 (Z2 (Z0 (Z3 rfl) rfl (Z0 (Z5 rfl) rfl (Z0 (Z5 rfl) rfl (Z6 (Z1 (CW.ret (Z8 ?_)))))))))
  have er0 := Zi hf
  obtain ⟨e0, er1⟩ := Prod.mk.inj er0
  clear er0
  subst e0
  subst er1
  refine Z102 (rs := [.tmp 2, .tmp 3]) ([.int .i64 (0 : Int), .int .i64 ((x15 : Nat) : Int)]) ((some b13, blk [.bool (a0.list), .slice A1 a0.data.length c2, .slice A4 a0.items.length c5] 30) :: []) rfl ?_ rfl ?_ ?_ _ (.inl rfl)
  ·exact ⟨rfl, rfl, trivial⟩
  ·exact ⟨(by omega), (by omega), rfl⟩
  ·exact (fun w m => m)
theorem waybillref07_Size_does (w0 : World) (Φ : Ctx) (N : List Ent) (hΦ : ∀ w, Mem w0 w N → Φ w) (cs0_ : List Value) (a0 : It) (res0 : Nat) (res1 : Nat) (ha0 : ItRd Φ cs0_ a0) (hf : waybillref07_Size a0 = some (res0, res1)) : DoesG Try.prog 23 [.agg cs0_.toArray] w0 [] N (fun v G => (res0 ≤ 9223372036854775807) ∧ (res1 ≤ 9223372036854775807) ∧ v = .tuple #[.int .i64 ((res0 : Nat) : Int), .int .i64 ((res1 : Nat) : Int)]) := by
 unfold waybillref07_Size at hf
 replace ha0 := ItRd.mono (Ψ := More w0 Φ []) (fun w q => q.1) _ _ ha0
 have h10 := ha0
 obtain ⟨A1, c2, A4, c5, cs7, e9, v3, v6, h8⟩ := ItRd.opn ha0
 subst e9
 have m11 := v3.mx
 have m12 := v6.mx
 refine DoesG.enter Try.func23 rfl Try.ntmps23 rfl (M := (([] ++ N))) rfl (Z4 (Z2 (OW.boxA rfl rfl (fun b13 => (Z0 (Z5 rfl) rfl (Z0 (Z5 rfl) rfl (Z6 (Z1 (Z4 (Z2 (Z0 (Z22 rfl Zh rfl rfl rfl rfl rfl) rfl ?_)))))))))))
 obtain ⟨x15, hx14, hf⟩ := Z100 hf
 refine Z12 Try.call41 rfl (waybillref07_Check_does w0 (More w0 Φ []) ((some b13, blk [.bool (a0.list), .slice A1 a0.data.length c2, .slice A4 a0.items.length c5] 30) :: ([] ++ N)) (fun w m => Z103 hΦ 1 m rfl) [.bool (a0.list), .slice A1 a0.data.length c2, .slice A4 a0.items.length c5] a0 x15 h10 hx14) rfl rfl ?_
 rintro _ G17 ⟨b16, rfl⟩
 refine Z20 (M' := ((some b13, blk [.bool (a0.list), .slice A1 a0.data.length c2, .slice A4 a0.items.length c5] 30) :: ([] ++ N))) (fun w m => m.appR) (Z0 (Z5 rfl) rfl (Z6 (Z1 (Z4 (Z4 (Z2 (Z0 (Z3 rfl) rfl (Z0 (RV.neq rfl rfl) rfl (Z7 (.bool (!decide (x15 = 0))) (congrArg (fun b => Value.bool (!b)) (decide_eq_decide.2 (by omega))) (Z6 (Z1 ?_)))))))))))
 by_cases h19 : x15 = 0
 ·replace hf := if_t hf h19
  refine Z14 rfl (congrArg (fun b => !b) (decide_eq_true h19)) (CW.skip (Z1 (Z4 (Z2 (Z0 (Z22 rfl Zh rfl rfl rfl rfl rfl) rfl ?_)))))
  obtain ⟨x21, hx20, hf⟩ := Z100 hf
  refine Z12 Try.call42 rfl (waybillref07_size_does w0 (More w0 Φ []) ((some b13, blk [.bool (a0.list), .slice A1 a0.data.length c2, .slice A4 a0.items.length c5] 30) :: ([] ++ N)) (fun w m => Z103 hΦ 1 m rfl) [.bool (a0.list), .slice A1 a0.data.length c2, .slice A4 a0.items.length c5] a0 x21 h10 hx20) rfl rfl ?_
  rintro _ G23 ⟨b22, rfl⟩
  refine Z20 (M' := ((some b13, blk [.bool (a0.list), .slice A1 a0.data.length c2, .slice A4 a0.items.length c5] 30) :: ([] ++ N))) (fun w m => m.appR) (Z0 (Z5 rfl) rfl (Z0 (Z5 rfl) rfl (Z6 (Z1 (CW.ret ?_)))))
  have er0 := Zi hf
  obtain ⟨e0, er1⟩ := Prod.mk.inj er0
  clear er0
  subst e0
  subst er1
  refine Z102 (rs := [.tmp 2, .tmp 3]) ([.int .i64 ((x21 : Nat) : Int), .int .i64 (0 : Int)]) ((some b13, blk [.bool (a0.list), .slice A1 a0.data.length c2, .slice A4 a0.items.length c5] 30) :: []) rfl ?_ rfl ?_ ?_ _ (.inl rfl)
  ·exact ⟨rfl, rfl, trivial⟩
  ·exact ⟨(by omega), (by omega), rfl⟩
  ·exact (fun w m => m)
 ·replace hf := if_f hf h19
  refine Z13 rfl (congrArg (fun b => !b) (decide_eq_false h19)) (Z4 (Z2 (Z0 (Z3 rfl) rfl (Z0 (Z5 rfl) rfl (Z0 (Z5 rfl) rfl (Z6 (Z1 (CW.ret (Z8 ?_)))))))))
  have er0 := Zi hf
  obtain ⟨e0, er1⟩ := Prod.mk.inj er0
  clear er0
  subst e0
  subst er1
  refine Z102 (rs := [.tmp 2, .tmp 3]) ([.int .i64 (0 : Int), .int .i64 ((x15 : Nat) : Int)]) ((some b13, blk [.bool (a0.list), .slice A1 a0.data.length c2, .slice A4 a0.items.length c5] 30) :: []) rfl ?_ rfl ?_ ?_ _ (.inl rfl)
  ·exact ⟨rfl, rfl, trivial⟩
  ·exact ⟨(by omega), (by omega), rfl⟩
  ·exact (fun w m => m)
theorem waybillref07_Beyond_does (w0 : World) (Φ : Ctx) (N : List Ent) (hΦ : ∀ w, Mem w0 w N → Φ w) (cs0_ : List Value) (a0 : It) (res0 : Bool) (ha0 : ItRd Φ cs0_ a0) (hf : waybillref07_Beyond a0 = some res0) : DoesG Try.prog 4 [.agg cs0_.toArray] w0 [] N (fun v G => v = .bool res0) := by
 unfold waybillref07_Beyond at hf
 replace ha0 := ItRd.mono (Ψ := More w0 Φ []) (fun w q => q.1) _ _ ha0
 have h10 := ha0
 obtain ⟨A1, c2, A4, c5, cs7, e9, v3, v6, h8⟩ := ItRd.opn ha0
 subst e9
 have m11 := v3.mx
 have m12 := v6.mx
 refine DoesG.enter Try.func4 rfl Try.ntmps4 rfl (M := (([] ++ N))) rfl (Z4 (Z2 (OW.boxA rfl rfl (fun b13 => (Z0 (Z5 rfl) rfl (Z6 (Z1 (Z4 (Z2 (Z0 (Z22 rfl Zh rfl rfl rfl rfl rfl) rfl ?_))))))))))
 refine OW.ofN (NV.bsA rfl rfl (by intro x hx; simp at hx; subst hx; exact rfl) rfl rfl rfl (by decide) (by decide) rfl) rfl (fun b14 => ?_)
 have h17 : Reps (ItRd (More w0 Φ [])) (([.bool (a0.list), .slice A1 a0.data.length c2, .slice A4 a0.items.length c5] : List Value)) [a0] := Reps.one h10
 refine Z20 (M' := (((some b14), blk ((([.bool (a0.list), .slice A1 a0.data.length c2, .slice A4 a0.items.length c5] : List Value)) ++ []) 30) :: (some b13, blk [.bool (a0.list), .slice A1 a0.data.length c2, .slice A4 a0.items.length c5] 30) :: ([] ++ N))) (fun w m => m) ?_
 have o15 : OwnS (some b14) ([a0] : List (It)).length 1 3 (([.bool (a0.list), .slice A1 a0.data.length c2, .slice A4 a0.items.length c5] : List Value)) [] := ⟨by simp [ItRd], by simp [ItRd], (fun h => nomatch h), by simp⟩
 have mx_o15 := o15.mx
 refine Z7 (sl (some b14) 0 ([a0] : List (It)).length 1) (rfl) (Z0 (Z5 rfl) rfl (Z6 (Z1 (Z4 (Z2 (Z0 (Z5 rfl) rfl (Z6 (Z1 (Z4 (Z4 (Z2 (Z0 (Z5 rfl) rfl (Z6 (Z1 ?_))))))))))))))
 obtain ⟨q18, hq19, hf⟩ := Z100 hf
 refine Z115 (fun L' M' => ∃ B20 : List Ent, q18 = Lp.go () ∧ (∀ w, Mem w0 w B20 → Mem w0 w []) ∧ L' = [] ∧ M' = ((B20 ++ N))) ?_ ?_
 ·rintro L23 M24 ⟨B20, e22, hB21, e25, e26⟩
  rw [e25, e26]
  clear e25 e26 L23 M24
  clear hq19
  rw [e22] at hf
  clear e22
  try dsimp only at hf
  refine Z1 (Z4 (Z2 (Z0 (Z5 rfl) rfl (Z6 (Z1 (CW.ret ?_))))))
  have e0 := Zi hf
  subst e0
  refine Z102 (rs := [.tmp 2]) ([.bool false]) (B20) rfl ?_ rfl ?_ ?_ _ (.inl rfl)
  ·exact ⟨rfl, trivial⟩
  ·exact rfl
  ·exact (fun w m => m)
 ·skip
  refine CW.block (Z114 (fun k L' M' => ∃ l29 : List (It), ∃ n36 : Nat, ∃ n38 : Nat, ∃ B27 : List Ent, ∃ cs30 : List Value, ∃ ob32 : Option Nat, ∃ c33 : Nat, ∃ r34 : List Value, (waybillref07_Beyond.l1 k l29 n36 n38) = some q18 ∧ (∀ w, Mem w0 w B27 → Mem w0 w []) ∧ (Reps (ItRd (More w0 Φ B27)) cs30 l29) ∧ (OwnS ob32 l29.length c33 3 cs30 r34) ∧ (n36 ≤ 9223372036854775807) ∧ (n38 ≤ 9223372036854775807) ∧ L' = [(3, sl ob32 0 l29.length c33), (4, .int .i64 ((n36 : Nat) : Int)), (5, .int .i64 ((n38 : Nat) : Int))] ∧ M' = ((ob32, blk (cs30 ++ r34) 30) :: (B27 ++ N))) (k0 := 65540) ⟨([a0] : List (It)), 0, 0, [], (([.bool (a0.list), .slice A1 a0.data.length c2, .slice A4 a0.items.length c5] : List Value)), (some b14), 1, [], hq19, (fun w m => m), h17, o15, (by omega), (by omega), rfl, rfl⟩ ⟨rfl, rfl, rfl, trivial⟩ (fun w m => m.pick [0] 2 rfl rfl) ?_)
  clear hq19
  rintro k40 L43 M44 ⟨l29, n36, n38, B27, cs30, ob32, c33, r34, hl41, hB28, h31, o35, b37, b39, e45, e46⟩
  rw [e45, e46]
  clear e45 e46 L43 M44
  rcases k40 with _ | k40
  ·rw [waybillref07_Beyond.l1] at hl41; cases hl41
  rw [waybillref07_Beyond.l1] at hl41
  have m47 := o35.mx
  refine Z4 (Z4 (Z2 (Z0 (Z3 rfl) rfl (Z0 (RV.len rfl rfl) rfl (Z0 (RV.gtr rfl rfl) rfl (Z7 (.bool (decide (0 < l29.length))) (congrArg Value.bool (decide_eq_decide.2 (by omega))) (Z6 (Z1 ?_))))))))
  by_cases h48 : 0 < l29.length
  ·replace hl41 := if_t hl41 h48
   refine Z13 rfl (decide_eq_true h48) (CW.skip (Z1 (Z4 (CW.block (Z4 (Z4 (Z2 (Z0 (Z3 rfl) rfl (Z0 (RV.gtr rfl rfl) rfl (Z7 (.bool (decide (65536 < n38))) (congrArg Value.bool (decide_eq_decide.2 (by omega))) (Z6 (Z1 ?_))))))))))))
   by_cases h49 : 65536 < n38
   ·replace hl41 := if_t hl41 h49
    refine Z13 rfl (decide_eq_true h49) (Z4 (Z2 (Z0 (Z5 rfl) rfl (Z6 (Z1 (CW.ret (Z8 (Z16 (Z8 (Z8 (Z16 (Z8 ?_))))))))))))
    have hc := Zi hl41
    subst hc
    try dsimp only at hf
    refine Z8 ?_
    have e0 := Zi hf
    subst e0
    refine Z102 (rs := [.tmp 2]) ([.bool true]) ((ob32, blk (cs30 ++ r34) 30) :: B27) rfl ?_ rfl ?_ ?_ _ (.inl rfl)
    ·exact ⟨rfl, trivial⟩
    ·exact rfl
    ·exact (fun w m => m)
   ·replace hl41 := if_f hl41 h49
    refine Z14 rfl (decide_eq_false h49) (CW.skip (Z1 (Z4 (Z2 (Z0 (Z5 rfl) rfl (Z6 (Z1 (Z4 (Z4 (Z2 (Z0 (Z5 rfl) rfl (Z6 (Z1 ?_)))))))))))))
    obtain ⟨q50, hq51, hl41⟩ := Z100 hl41
    refine Z115 (fun L' M' => ∃ n54 : Nat, ∃ l56 : List (It), ∃ B52 : List Ent, ∃ cs57 : List Value, ∃ ob59 : Option Nat, ∃ c60 : Nat, ∃ r61 : List Value, q50 = Lp.go (n54, l56) ∧ (∀ w, Mem w0 w B52 → Mem w0 w B27) ∧ (n54 ≤ 9223372036854775807) ∧ (Reps (ItRd (More w0 Φ B52)) cs57 l56) ∧ (OwnS ob59 l56.length c60 3 cs57 r61) ∧ L' = [(4, .int .i64 ((n54 : Nat) : Int)), (5, .int .i64 ((n38 : Nat) : Int)), (6, sl ob59 0 l56.length c60)] ∧ M' = ((ob59, blk (cs57 ++ r61) 30) :: (B52 ++ N))) ?_ ?_
    ·rintro L64 M65 ⟨n54, l56, B52, cs57, ob59, c60, r61, e63, hB53, b55, h58, o62, e66, e67⟩
     rw [e66, e67]
     clear e66 e67 L64 M65
     clear hq51
     rw [e63] at hl41
     clear e63
     try dsimp only at hl41
     have m68 := o62.mx
     refine Z1 (Z2 (Z0 (Z3 rfl) rfl (Z0 (Z5 rfl) rfl (Z6 (Z27 (Z1 (Z2 (Z0 (Z3 rfl) rfl (Z0 (RV.add rfl rfl (by omega)) rfl (Z7 (.int .i64 (((n38 + 1) : Nat) : Int)) (by first | rfl | (congr 1) | (congr 1; omega)) (Z0 (Z5 rfl) rfl ?_)))))))))))
     refine Z6 ?_
     exact Z109 (k' := k40) (Nat.lt_succ_self _) ⟨l56, n54, (n38 + 1), B52, cs57, ob59, c60, r61, hl41, (fun w m => hB28 w (hB53 w (m))), h58, o62, (by omega), (by omega), rfl, rfl⟩ ⟨rfl, rfl, rfl, trivial⟩ (fun w m => m.pick [0] 1 rfl rfl)
    ·skip
     refine CW.block (CW.mem (M' := (((ob32, blk (cs30 ++ r34) 30) :: B27) ++ N)) (fun w m => m.pick [0] 1 rfl rfl) ?_)
     have gq1 : ∀ w, More w0 Φ ((ob32, blk (cs30 ++ r34) 30) :: B27) w → More w0 Φ B27 w := fun w q => More.mono (fun w m => (m).tail) q
     replace h31 := h31.mono (ItRd.mono gq1)
     have v90 : View (More w0 Φ ((ob32, blk (cs30 ++ r34) 30) :: B27)) ((ob32).map fun k => ⟨k, 0, none⟩) l29.length c33 3 cs30 := o35.view (by decide) (fun w q => q.2.sublist (List.singleton_sublist.2 (List.mem_cons_self ..)))
     refine CW.mem (M' := ((none, blk ([] ++ []) 30) :: (((ob32, blk (cs30 ++ r34) 30) :: B27) ++ N))) (fun w m => m.nil_ent _) (Z114 (fun k L' M' => ∃ l93 : List (It), ∃ n99 : Nat, ∃ l101 : List (It), ∃ n108 : Nat, ∃ B91 : List Ent, ∃ cs94 : List Value, ∃ A96 : Option Addr, ∃ c97 : Nat, ∃ cs102 : List Value, ∃ ob104 : Option Nat, ∃ c105 : Nat, ∃ r106 : List Value, (waybillref07_Beyond.l2 k l93 n99 l101 n108) = some q50 ∧ (∀ w, Mem w0 w B91 → Mem w0 w ((ob32, blk (cs30 ++ r34) 30) :: B27)) ∧ (Reps (ItRd (More w0 Φ B91)) cs94 l93) ∧ (View (More w0 Φ B91) A96 l93.length c97 3 cs94) ∧ (n99 ≤ 9223372036854775807) ∧ (Reps (ItRd (More w0 Φ B91)) cs102 l101) ∧ (OwnS ob104 l101.length c105 3 cs102 r106) ∧ (n108 ≤ 9223372036854775807) ∧ L' = [(3, .slice A96 l93.length c97), (4, .int .i64 ((n99 : Nat) : Int)), (5, .int .i64 ((n38 : Nat) : Int)), (6, sl ob104 0 l101.length c105), (7, .int .i64 ((n108 : Nat) : Int))] ∧ M' = ((ob104, blk (cs102 ++ r106) 30) :: (B91 ++ N))) (k0 := (l29.length - 0 + 2)) ⟨l29, n36, ([] : List (It)), 0, ((ob32, blk (cs30 ++ r34) 30) :: B27), cs30, ((ob32).map fun k => ⟨k, 0, none⟩), c33, [], none, 0, [], hq51, (fun w m => m), h31, v90, (by omega), Reps.nil, OwnS.nil, (by omega), rfl, rfl⟩ ⟨rfl, rfl, rfl, rfl, rfl, trivial⟩ (fun w m => m.pick [0] 1 rfl rfl) ?_)
     clear hq51
     rintro k88 L111 M112 ⟨l93, n99, l101, n108, B91, cs94, A96, c97, cs102, ob104, c105, r106, hl89, hB92, h95, v98, b100, h103, o107, b109, e113, e114⟩
     rw [e113, e114]
     clear e113 e114 L111 M112
     rcases k88 with _ | k88
     ·rw [waybillref07_Beyond.l2] at hl89; cases hl89
     rw [waybillref07_Beyond.l2] at hl89
     have m115 := v98.mx
     have m116 := o107.mx
     refine Z4 (Z4 (Z2 (Z0 (Z3 rfl) rfl (Z0 (Z3 rfl) rfl (Z0 (RV.len rfl rfl) rfl (Z0 (RV.lss rfl rfl) rfl (Z7 (.bool (decide (n108 < l93.length))) (congrArg Value.bool (decide_eq_decide.2 (by omega))) (Z6 (Z1 ?_)))))))))
     by_cases h117 : n108 < l93.length
     ·replace hl89 := if_t hl89 h117
      refine Z13 rfl (decide_eq_true h117) (CW.skip (Z1 (Z4 (CW.block (Z4 (Z134 17 mixed (by kernel_rfl) rfl (Z18 0 rfl (by kernel_rfl) rfl (Z3 rfl) rfl (Z18 1 rfl (by kernel_rfl) rfl (Z3 rfl) rfl (Z18 2 rfl (by kernel_rfl) rfl (Z3 rfl) rfl ?_)))))))))
      obtain ⟨x118, hx119, hl89⟩ := Z100 hl89
      have hl120 := Z113 hx119
      refine Z18 3 rfl (by kernel_rfl) rfl (Z105 (n108) rfl rfl rfl rfl rfl (v98.isSome (by decide) hl120) (by omega)) rfl ?_
      obtain ⟨cs121, h122, h123⟩ := h95.get ItRd.len hx119
      have h133 := h122
      obtain ⟨A124, c125, A127, c128, cs130, e132, v126, v129, h131⟩ := ItRd.opn h122
      subst e132
      have m134 := v126.mx
      have m135 := v129.mx
      refine Z18 4 rfl (by kernel_rfl) rfl (Z31 rfl rfl rfl rfl) rfl (Z18 5 rfl (by kernel_rfl) rfl (Z21 rfl rfl rfl (fun w m => v98.load (Z103 hΦ 1 m rfl) h123 1 _ rfl)) rfl (Z18 6 rfl (by kernel_rfl) rfl (RV.len rfl rfl) rfl ?_))
      obtain ⟨g136, hl89⟩ := Z116 hl89
      refine Z18 7 rfl (by kernel_rfl) rfl (RV.add rfl rfl (by omega)) rfl (UW.slot (.int .i64 (((n99 + x118.data.length) : Nat) : Int)) (by first | rfl | (congr 1) | (congr 1; omega)) (Z18 8 rfl (by kernel_rfl) rfl (Z3 rfl) rfl (Z18 9 rfl (by kernel_rfl) rfl (Z3 rfl) rfl ?_)))
      obtain ⟨x137, hx138, hl89⟩ := Z100 hl89
      have hl139 := Z113 hx138
      refine Z18 10 rfl (by kernel_rfl) rfl (Z105 (n108) rfl rfl rfl rfl rfl (v98.isSome (by decide) hl139) (by omega)) rfl ?_
      obtain ⟨cs140, h141, h142⟩ := h95.get ItRd.len hx138
      have h152 := h141
      obtain ⟨A143, c144, A146, c147, cs149, e151, v145, v148, h150⟩ := ItRd.opn h141
      subst e151
      have m153 := v145.mx
      have m154 := v148.mx
      refine Z18 11 rfl (by kernel_rfl) rfl (Z31 rfl rfl rfl rfl) rfl (Z18 12 rfl (by kernel_rfl) rfl (Z21 rfl rfl rfl (fun w m => v98.load (Z103 hΦ 1 m rfl) h142 2 _ rfl)) rfl (Z18 13 rfl (by kernel_rfl) rfl (RV.len rfl rfl) rfl ?_))
      obtain ⟨g155, hl89⟩ := Z116 hl89
      refine Z18 14 rfl (by kernel_rfl) rfl (RV.add rfl rfl (by omega)) rfl (UW.slot (.int .i64 ((((n99 + x118.data.length) + x137.items.length) : Nat) : Int)) (by first | rfl | (congr 1) | (congr 1; omega)) ?_)
      obtain ⟨g156, hl89⟩ := Z116 hl89
      refine Z18 15 rfl (by kernel_rfl) rfl (RV.add rfl rfl (by omega)) rfl (UW.slot (.int .i64 (((((n99 + x118.data.length) + x137.items.length) + 1) : Nat) : Int)) (by first | rfl | (congr 1) | (congr 1; omega)) (Z18 16 rfl (by kernel_rfl) rfl (Z5 rfl) rfl (UW.nil (by kernel_rfl) (Z6 (Z1 (Z4 (Z4 (Z2 (Z0 (Z3 rfl) rfl (Z0 (RV.gtr rfl rfl) rfl (Z7 (.bool (decide (2147483647 < (((n99 + x118.data.length) + x137.items.length) + 1)))) (congrArg Value.bool (decide_eq_decide.2 (by omega))) ?_)))))))))))
      refine Z6 (Z1 ?_)
      by_cases h157 : 2147483647 < (((n99 + x118.data.length) + x137.items.length) + 1)
      ·replace hl89 := if_t hl89 h157
       refine Z13 rfl (decide_eq_true h157) (Z4 (Z2 (Z0 (Z5 rfl) rfl (Z6 (Z1 (CW.ret (Z8 (Z16 (Z8 (Z8 (Z16 (Z8 ?_))))))))))))
       have hc := Zi hl89
       subst hc
       try dsimp only at hl41
       refine Z8 (Z16 (Z8 (Z8 (Z16 (Z8 ?_)))))
       have hc := Zi hl41
       subst hc
       try dsimp only at hf
       refine Z8 ?_
       have e0 := Zi hf
       subst e0
       refine Z102 (rs := [.tmp 2]) ([.bool true]) ((ob104, blk (cs102 ++ r106) 30) :: B91) rfl ?_ rfl ?_ ?_ _ (.inl rfl)
       ·exact ⟨rfl, trivial⟩
       ·exact rfl
       ·exact (fun w m => m)
      ·replace hl89 := if_f hl89 h157
       refine Z14 rfl (decide_eq_false h157) (CW.skip (Z1 (Z2 (Z0 (Z3 rfl) rfl (Z0 (Z3 rfl) rfl (Z0 (Z3 rfl) rfl ?_))))))
       obtain ⟨x158, hx159, hl89⟩ := Z100 hl89
       have hl160 := Z113 hx159
       refine Z0 (Z105 (n108) rfl rfl rfl rfl rfl (v98.isSome (by decide) hl160) (by omega)) rfl ?_
       obtain ⟨cs161, h162, h163⟩ := h95.get ItRd.len hx159
       have h173 := h162
       obtain ⟨A164, c165, A167, c168, cs170, e172, v166, v169, h171⟩ := ItRd.opn h162
       subst e172
       have m174 := v166.mx
       have m175 := v169.mx
       refine Z0 (Z31 rfl rfl rfl rfl) rfl (Z0 (Z21 rfl rfl rfl (fun w m => v98.load (Z103 hΦ 1 m rfl) h163 2 _ rfl)) rfl ?_)
       obtain ⟨g176, hl89⟩ := Z116 hl89
       have h181 := h103.app h171
       refine OW.appendOwn (s := 3) rfl rfl rfl rfl rfl rfl o107 (fun w m => v169.rd w (Z103 hΦ 1 m rfl)) v169.n (h171.cell1 ItRd.one) (v169.zero (by decide)) (by decide) (by decide) (by first | omega | (simp only [i30, List.length_nil]; omega)) rfl rfl ((l101 ++ x158.items).length) (cs102 ++ cs170) (List.length_append ..).symm rfl (fun ob177 r178 c179 o180 => ?_)
       have m182 := o180.mx
       refine Z0 (Z5 rfl) rfl (Z6 (Z27 (Z1 (Z2 (Z0 (Z3 rfl) rfl (Z0 (RV.add rfl rfl (by omega)) rfl (Z7 (.int .i64 (((n108 + 1) : Nat) : Int)) (by first | rfl | (congr 1) | (congr 1; omega)) (Z0 (Z5 rfl) rfl (Z6 ?_)))))))))
       exact Z109 (k' := k88) (Nat.lt_succ_self _) ⟨l93, (((n99 + x118.data.length) + x137.items.length) + 1), (l101 ++ x158.items), (n108 + 1), B91, cs94, A96, c97, (cs102 ++ cs170), ob177, c179, r178, hl89, (fun w m => hB92 w (m)), h95, v98, (by omega), h181, o180, (by omega), rfl, rfl⟩ ⟨rfl, rfl, rfl, rfl, rfl, trivial⟩ (fun w m => m.pick [0] 1 rfl rfl)
     ·replace hl89 := if_f hl89 h117
      refine Z14 rfl (decide_eq_false h117) (CW.exit (Z9 (Z9 (Z15 ?_))))
      exact QW.join ⟨n99, l101, B91, cs102, ob104, c105, r106, (Zi hl89).symm, (fun w m => (hB92 w (m)).tail), (by omega), h103, o107, rfl, rfl⟩ ⟨rfl, rfl, rfl, trivial⟩ (fun w m => m.pick [0] 1 rfl rfl)
  ·replace hl41 := if_f hl41 h48
   refine Z14 rfl (decide_eq_false h48) (CW.exit (Z9 (Z9 (Z15 ?_))))
   exact QW.join ⟨B27, (Zi hl41).symm, (fun w m => hB28 w (m)), rfl, rfl⟩ trivial (fun w m => m.pick [] 1 rfl rfl)
theorem waybilllaw17_num_does (w0 : World) (Φ : Ctx) (N : List Ent) (hΦ : ∀ w, Mem w0 w N → Φ w) (a0 : Int) (res0 : Int) (ba0 : -9223372036854775808 ≤ a0 ∧ a0 ≤ 9223372036854775807) (hf : waybilllaw17_num a0 = some res0) : DoesG Try.prog 9 [.int .i64 a0] w0 [] N (fun v G => (-9223372036854775808 ≤ res0 ∧ res0 ≤ 9223372036854775807) ∧ v = .int .i64 res0) := by
 unfold waybilllaw17_num at hf
 refine DoesG.enter Try.func9 rfl Try.ntmps9 rfl (M := (([] ++ N))) rfl (Z4 (Z2 (Z0 (Z5 rfl) rfl (Z6 (Z1 (Z4 (Z2 (Z0 (Z3 rfl) rfl (Z0 (Z5 rfl) rfl (Z6 (Z1 (CW.ret ?_))))))))))))
 have e0 := Zi hf
 subst e0
 refine Z102 (rs := [.tmp 2]) ([.int .i64 a0]) ([]) rfl ?_ rfl ?_ ?_ _ (.inl rfl)
 ·exact ⟨rfl, trivial⟩
 ·exact ⟨(by omega), rfl⟩
 ·exact (fun w m => m)
end Go.Fw.Try
