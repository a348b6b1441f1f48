/- Part of a proof over Ytgdohhccpghofaa: rules and contracts that the law's text uses. No condition. -/
import Derived.Test.YtgdohhccpghofaaRlpD2
namespace Go.Fw
set_option linter.unusedVariables false
set_option linter.unusedSimpArgs false
set_option maxRecDepth 4000
/-! Encodings are read as what they are of; what is read was written so. -/
theorem oneB_small {d : List (BitVec 8)} (ho : ¬ oneB d = true) (h : d.length = 1) : small d 0 = false := by
  by_cases hs : small d 0 = true
  · exact absurd (by unfold oneB; simp [h, hs]) ho
  · simpa using hs
theorem parse_enc_all : ∀ k, (∀ (d : Nat) (x : It) (r : List (BitVec 8)), 2 * x.enc.length + 1 ≤ k → x.good → x.dep + d ≤ 1024 → x.w9 ≤ 16777216 → parse k d (x.enc ++ r) = (0, x, r)) ∧
    (∀ (d : Nat) (l : List It) (acc : List It), 2 * (Its.enc l).length + 2 ≤ k → Its.good l → Its.dep l + d ≤ 1024 → Its.w9 l ≤ 16777216 → plist k d (Its.enc l) acc = (0, acc ++ l)) := by
  intro k
  induction k with
  | zero => exact ⟨fun d x r h => by omega, fun d l acc h => by omega⟩
  | succ k ih =>
    obtain ⟨ihA, ihB⟩ := ih
    refine ⟨?_, ?_⟩
    · intro d x r hk hg hd hw
      have hw' := It.w9_eq x
      have hle := Its.enc_le x.items (by omega)
      obtain ⟨g1, g2, g3⟩ := (It.good_eq x).1 hg
      have hdep := It.dep_eq x
      rw [It.enc_eq] at hk ⊢
      by_cases hl : x.list = true
      · rw [if_pos hl] at hk hdep ⊢
        have hc := cut_head (c := 192) (.inr rfl) (Its.enc x.items) r (by omega) (fun h => by omega)
        have hh := headB_length (c := 192) (n := (Its.enc x.items).length) (by omega)
        rw [List.length_append] at hk
        have hpay : ((headB 192 (Its.enc x.items).length ++ Its.enc x.items ++ r).drop (headB 192 (Its.enc x.items).length).length).take (Its.enc x.items).length = Its.enc x.items := by
          rw [List.append_assoc, List.drop_left' rfl, List.take_left' rfl]
        have hrest : (headB 192 (Its.enc x.items).length ++ Its.enc x.items ++ r).drop ((headB 192 (Its.enc x.items).length).length + (Its.enc x.items).length) = r := by
          rw [← List.length_append, List.drop_left' rfl]
        rw [parse_list hc, if_neg (by omega), hpay, hrest, ihB (d + 1) x.items [] (by omega) g3 (by omega) (by omega)]
        dsimp only
        rw [if_pos rfl, List.nil_append, It.eta x, hl, g1 hl]
        rfl
      · rw [if_neg hl] at hk ⊢
        have hl' : x.list = false := by simpa using hl
        have hx : It.mk false x.data [] = x := by
          have := It.eta x
          rw [hl', g2 hl'] at this
          exact this.symm
        by_cases ho : oneB x.data = true
        · rw [if_pos ho]
          obtain ⟨h1, h2⟩ := oneB_len ho
          obtain ⟨c, hc⟩ : ∃ c, x.data = [c] := List.length_eq_one_iff.1 h1
          have h3 : c.toNat < 128 := by rw [hc] at h2; simpa [small] using h2
          have hcut : cutS ([c] ++ r) = (0, false, 0, 1) := by
            unfold cutS
            show (if c.toNat < 128 then _ else _) = _
            rw [if_pos h3]
          rw [hc] at hx ⊢
          rw [parse_text hcut]
          show (0, It.mk false [c] [], r) = _
          rw [hx]
        · rw [if_neg ho]
          have hc := cut_head (c := 128) (.inl rfl) x.data r (by omega) (fun _ h => oneB_small ho h)
          have hpay : ((headB 128 x.data.length ++ x.data ++ r).drop (headB 128 x.data.length).length).take x.data.length = x.data := by
            rw [List.append_assoc, List.drop_left' rfl, List.take_left' rfl]
          have hrest : (headB 128 x.data.length ++ x.data ++ r).drop ((headB 128 x.data.length).length + x.data.length) = r := by
            rw [← List.length_append, List.drop_left' rfl]
          rw [parse_text hc, hpay, hrest, hx]
    · intro d l acc hk hg hd hw
      cases l with
      | nil => rw [Its.enc, plist_nil, List.append_nil]
      | cons x l =>
        rw [Its.enc, List.length_append] at hk
        rw [Its.good] at hg
        rw [Its.dep] at hd
        rw [Its.w9] at hw
        have hx := It.enc_le x (by omega)
        rw [Its.enc, plist_cons (by rw [List.length_append]; omega), ihA d x (Its.enc l) (by omega) hg.1 (by omega) (by omega)]
        dsimp only
        rw [if_pos rfl, ihB d l (acc ++ [x]) (by omega) hg.2 (by omega) (by omega), List.append_assoc]
        rfl
theorem parse_back_all : ∀ k, (∀ (d : Nat) (s r : List (BitVec 8)) (x : It), s.length ≤ 16777216 → d ≤ 1024 → parse k d s = (0, x, r) → x.good ∧ s = x.enc ++ r ∧ x.dep + d ≤ 1024 ∧ x.w9 ≤ 10 * x.enc.length) ∧
    (∀ (d : Nat) (s : List (BitVec 8)) (acc its : List It), s.length ≤ 16777216 → d ≤ 1024 → plist k d s acc = (0, its) → ∃ l, its = acc ++ l ∧ Its.good l ∧ s = Its.enc l ∧ Its.dep l + d ≤ 1024 ∧ Its.w9 l ≤ 10 * (Its.enc l).length) := by
  intro k
  induction k with
  | zero => exact ⟨fun d s r x _ _ h => by rw [parse] at h; simp at h, fun d s acc its _ _ h => by rw [plist] at h; simp at h⟩
  | succ k ih =>
    obtain ⟨ihA, ihB⟩ := ih
    refine ⟨?_, ?_⟩
    · intro d s r x hs hd h
      generalize hc : cutS s = q
      obtain ⟨e, l, hh, n⟩ := q
      by_cases he : e = 0
      · subst he
        have hin := cutS_in hc
        have hb := cut_back hs hc
        have hsplit : s = s.take hh ++ ((s.drop hh).take n ++ s.drop (hh + n)) := by
          rw [← List.drop_drop, List.take_append_drop, List.take_append_drop]
        have hlen : ((s.drop hh).take n).length = n := by rw [List.length_take, List.length_drop]; omega
        have hx1 : (s.take hh).length = hh := by rw [List.length_take]; omega
        cases l with
        | false =>
          rw [parse_text hc] at h
          simp only [Prod.mk.injEq, true_and] at h
          obtain ⟨rfl, rfl⟩ := h
          have henc : (It.mk false ((s.drop hh).take n) []).enc = s.take hh ++ (s.drop hh).take n := by
            rw [It.enc, if_neg (by decide)]
            rcases hb with ⟨rfl, rfl, _, h3⟩ | ⟨h3, h4⟩
            · rw [if_pos (by unfold oneB; rw [decide_eq_true hlen, Bool.true_and]; unfold small at h3 ⊢; rw [List.drop_zero, List.getElem?_take, if_pos (by decide)]; exact h3), List.take_zero, List.nil_append]
            · rw [if_neg ?_, h3, hlen]; · rfl
              intro ho
              obtain ⟨o1, o2⟩ := oneB_len ho
              have h5 := h4 rfl (by omega)
              unfold small at o2 h5
              rw [List.getElem?_take, if_pos (by omega), List.getElem?_drop, Nat.add_zero] at o2
              rw [h5] at o2
              cases o2
          refine ⟨(It.good_eq _).2 ⟨fun h => by simp [It.list] at h, fun _ => rfl, by simp [It.items, Its.good]⟩, ?_, by rw [It.dep]; simpa using hd, ?_⟩
          · rw [henc, List.append_assoc]; exact hsplit
          · rw [henc, It.w9, Its.w9, List.length_append, hx1, hlen]
            omega
        | true =>
          have hh0 := cutS_list hc
          rw [parse_list hc] at h
          by_cases h1 : d = 1024
          · rw [if_pos h1] at h; simp at h
          · rw [if_neg h1] at h
            generalize hp : plist k (d + 1) ((s.drop hh).take n) [] = q at h
            obtain ⟨e2, its⟩ := q
            dsimp only at h
            by_cases h2 : e2 = 0
            · subst h2
              rw [if_pos rfl] at h
              simp only [Prod.mk.injEq, true_and] at h
              obtain ⟨rfl, rfl⟩ := h
              obtain ⟨l, e1, g1, g2, g3, g4⟩ := ihB (d + 1) _ _ _ (by omega) (by omega) hp
              rw [List.nil_append] at e1
              subst e1
              rcases hb with ⟨rfl, _⟩ | ⟨h3, _⟩
              · omega
              have henc : (It.mk true [] its).enc = s.take hh ++ (s.drop hh).take n := by
                rw [It.enc, if_pos rfl, ← g2, h3, hlen]; rfl
              refine ⟨(It.good_eq _).2 ⟨fun _ => rfl, fun h => by simp [It.list] at h, by simpa [It.items] using g1⟩, ?_, by rw [It.dep, if_pos rfl]; omega, ?_⟩
              · rw [henc, List.append_assoc]; exact hsplit
              · rw [← g2, hlen] at g4
                rw [henc, It.w9, List.length_append, hx1, hlen, List.length_nil]
                omega
            · rw [if_neg h2] at h
              simp only [Prod.mk.injEq] at h
              exact absurd h.1 h2
      · rw [parse_err hc he] at h
        simp only [Prod.mk.injEq] at h
        exact absurd h.1 he
    · intro d s acc its hs hd h
      by_cases h0 : s.length = 0
      · obtain rfl : s = [] := List.length_eq_zero_iff.1 h0
        rw [plist_nil] at h
        simp only [Prod.mk.injEq, true_and] at h
        subst h
        exact ⟨[], by simp, trivial, by rw [Its.enc], by rw [Its.dep]; omega, by rw [Its.w9]; omega⟩
      · rw [plist_cons h0] at h
        generalize hp : parse k d s = q at h
        obtain ⟨e, x, r⟩ := q
        dsimp only at h
        by_cases he : e = 0
        · subst he
          rw [if_pos rfl] at h
          obtain ⟨a1, a2, a3, a4⟩ := ihA d s r x hs hd hp
          have hr : r.length ≤ 16777216 := by rw [a2, List.length_append] at hs; omega
          obtain ⟨l, e1, g1, g2, g3, g4⟩ := ihB d r _ _ hr hd h
          refine ⟨x :: l, by rw [e1, List.append_assoc]; rfl, ⟨a1, g1⟩, by rw [Its.enc, ← g2]; exact a2, by rw [Its.dep]; omega, ?_⟩
          rw [Its.w9, Its.enc, List.length_append]
          omega
        · rw [if_neg he] at h
          simp only [Prod.mk.injEq] at h
          exact absurd h.1 he
/-- A head or what it holds cut off: it ends too early. -/
theorem cut_short {c : Nat} (hc : c = 128 ∨ c = 192) (d : List (BitVec 8)) (hd : d.length ≤ 16777216) (j : Nat) (hj : j < (headB c d.length ++ d).length) :
    cutS ((headB c d.length ++ d).take j) = (70, false, 0, 0) := by
  cases j with
  | zero => rw [List.take_zero]; rfl
  | succ j =>
    have h8 := nb_8 (n := d.length) (by omega)
    by_cases h55 : d.length ≤ 55
    · have e0 : headB c d.length = [BitVec.ofNat 8 (c + d.length)] := by unfold headB; rw [if_pos h55]
      rw [e0] at hj ⊢
      have hb : (BitVec.ofNat 8 (c + d.length)).toNat = c + d.length := nat8 (by omega)
      have h64 : (c + d.length) % 64 = d.length := by omega
      rw [List.length_append, List.length_singleton] at hj
      rw [List.singleton_append, List.take_succ_cons]
      unfold cutS
      show (if (BitVec.ofNat 8 (c + d.length)).toNat < 128 then _ else _) = _
      rw [if_neg (by omega), if_neg (by omega), hb, h64]
      unfold finS
      rw [if_pos (by rw [List.length_cons, List.length_take]; omega)]
    · have e0 : headB c d.length = BitVec.ofNat 8 (c + 55 + nb d.length) :: bytesN d.length := by unfold headB; rw [if_neg h55]
      have hbl := bytesN_length d.length
      have h1 : 0 < nb d.length := by obtain ⟨j, e, _, _⟩ := bl_spec (n := d.length) (by omega); unfold nb; omega
      rw [e0] at hj ⊢
      have hb : (BitVec.ofNat 8 (c + 55 + nb d.length)).toNat = c + 55 + nb d.length := nat8 (by omega)
      have h64 : (c + 55 + nb d.length) % 64 - 55 = nb d.length := by omega
      rw [List.length_append, List.length_cons, hbl] at hj
      rw [List.cons_append, List.take_succ_cons]
      have hl : ((bytesN d.length ++ d).take j).length = j := by rw [List.length_take, List.length_append, hbl]; omega
      unfold cutS
      show (if (BitVec.ofNat 8 (c + 55 + nb d.length)).toNat < 128 then _ else _) = _
      rw [if_neg (by omega), if_pos (by omega), hb, h64, List.length_cons, hl]
      by_cases h2 : j < nb d.length
      · rw [if_pos (by omega)]
      rw [if_neg (by omega)]
      have hk : ((BitVec.ofNat 8 (c + 55 + nb d.length) :: (bytesN d.length ++ d).take j).drop 1).take (nb d.length) = bytesN d.length := by
        rw [List.drop_succ_cons, List.drop_zero, List.take_take, Nat.min_eq_left (by omega), List.take_append_of_le_length (by omega), List.take_of_length_le (by omega)]
      have h1' : (BitVec.ofNat 8 (c + 55 + nb d.length) :: (bytesN d.length ++ d).take j)[1]? = (bytesN d.length)[0]? := by
        rw [List.getElem?_cons_succ, List.getElem?_take, if_pos (by omega), List.getElem?_append_left (by omega)]
      rw [hk, h1', beV_bytesN, if_neg, if_pos (by omega)]
      rintro (h | h)
      · exact bytesN_top (by omega) h
      · omega
theorem enc_short (x : It) (hw : x.w9 ≤ 16777216) (j : Nat) (hj : j < x.enc.length) : cutS (x.enc.take j) = (70, false, 0, 0) := by
  have hw' := It.w9_eq x
  have hle := Its.enc_le x.items (by omega)
  rw [It.enc_eq] at hj ⊢
  by_cases hl : x.list = true
  · rw [if_pos hl] at hj ⊢
    exact cut_short (.inr rfl) _ (by omega) j hj
  rw [if_neg hl] at hj ⊢
  by_cases ho : oneB x.data = true
  · rw [if_pos ho] at hj ⊢
    have := (oneB_len ho).1
    obtain rfl : j = 0 := by omega
    rw [List.take_zero]; rfl
  · rw [if_neg ho] at hj ⊢
    exact cut_short (.inl rfl) _ (by omega) j hj
theorem decode_enc {x : It} (hg : x.good) (hd : x.dep ≤ 1024) (hw : x.w9 ≤ 16777216) (r : List (BitVec 8)) (hr : (x.enc ++ r).length ≤ 16777216) : decodeR (x.enc ++ r) = if 0 < r.length then (It.zero, 73) else (x, 0) := by
  unfold decodeR
  rw [if_neg (by omega), (parse_enc_all _).1 0 x r (by rw [List.length_append]; omega) hg (by omega) hw]
  dsimp only
  rw [if_pos rfl]
theorem decode_short {x : It} (hw : x.w9 ≤ 16777216) (j : Nat) (hj : j < x.enc.length) : decodeR (x.enc.take j) = (It.zero, 70) := by
  have h1 := It.enc_le x (by omega)
  unfold decodeR
  rw [if_neg (by rw [List.length_take]; omega), parse_err (enc_short x hw j hj) (by decide)]
  rfl
theorem decode_back {b : List (BitVec 8)} {x : It} {e : Nat} (h : decodeR b = (x, e)) : (e ≠ 0 ∧ x = It.zero) ∨ (e = 0 ∧ x.good ∧ b = x.enc ∧ b.length ≤ 16777216 ∧ x.dep ≤ 1024 ∧ x.w9 ≤ 10 * b.length) := by
  unfold decodeR at h
  by_cases h0 : 16777216 < b.length
  · rw [if_pos h0] at h
    simp only [Prod.mk.injEq] at h
    exact .inl ⟨by omega, h.1.symm⟩
  · rw [if_neg h0] at h
    generalize hp : parse (2 * b.length + 1) 0 b = q at h
    obtain ⟨e1, x1, r⟩ := q
    dsimp only at h
    by_cases he : e1 = 0
    · subst he
      rw [if_pos rfl] at h
      obtain ⟨a1, a2, a3, a4⟩ := (parse_back_all _).1 0 b r x1 (by omega) (by omega) hp
      by_cases hr : 0 < r.length
      · rw [if_pos hr] at h
        simp only [Prod.mk.injEq] at h
        exact .inl ⟨by omega, h.1.symm⟩
      · rw [if_neg hr] at h
        simp only [Prod.mk.injEq] at h
        obtain ⟨rfl, rfl⟩ := h
        obtain rfl : r = [] := List.length_eq_zero_iff.1 (by omega)
        rw [List.append_nil] at a2
        exact .inr ⟨rfl, a1, a2, by omega, a3, by rw [a2]; exact a4⟩
    · rw [if_neg he] at h
      simp only [Prod.mk.injEq] at h
      exact .inl ⟨by omega, h.1.symm⟩
end Go.Fw
