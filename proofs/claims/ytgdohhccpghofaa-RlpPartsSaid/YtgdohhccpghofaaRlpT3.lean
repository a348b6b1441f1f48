/- Part of a proof over Ytgdohhccpghofaa: rules and contracts that the law's text uses. No condition. -/
import Derived.Test.YtgdohhccpghofaaRlpT2
namespace Go.Fw
set_option linter.unusedVariables false
set_option linter.unusedSimpArgs false
set_option maxRecDepth 100000
/-! Parts of an encoding; what the law takes for a sound tree. -/
theorem cut_enc (x : It) (r : List (BitVec 8)) (hw : x.w9 ≤ 16777216) : ∃ l h n, cutS (x.enc ++ r) = (0, l, h, n) ∧ h + n = x.enc.length := by
  have hw' := It.w9_eq x
  have hle := Its.enc_le x.items (by omega)
  rw [It.enc_eq]
  by_cases hl : x.list = true
  · rw [if_pos hl]
    exact ⟨_, _, _, cut_head (.inr rfl) _ r (by omega) (fun h => by omega), by rw [List.length_append]⟩
  rw [if_neg hl]
  by_cases ho : oneB x.data = true
  · rw [if_pos ho]
    obtain ⟨h1, h2⟩ := oneB_len ho
    obtain ⟨c, hc⟩ : ∃ c, x.data = [c] := List.length_eq_one_iff.1 h1
    rw [hc] at h2 ⊢
    have h3 : c.toNat < 128 := by simpa [small] using h2
    refine ⟨false, 0, 1, ?_, rfl⟩
    unfold cutS
    show (if c.toNat < 128 then _ else _) = _
    rw [if_pos h3]
  · rw [if_neg ho]
    refine ⟨_, _, _, cut_head (.inl rfl) _ r (by omega) (fun _ h => ?_), by rw [List.length_append]⟩
    by_cases hs : small x.data 0 = true
    · exact absurd (by unfold oneB; simp [h, hs]) ho
    · simpa using hs
theorem partsF_enc : ∀ (l : List It) (k : Nat) (acc : List (List (BitVec 8))), (Its.enc l).length < k → Its.w9 l ≤ 16777216 → partsF k (Its.enc l) acc = (acc ++ l.map It.enc, 0)
  | [], k, acc, hk, hw => by
    obtain ⟨k, rfl⟩ : ∃ m, k = m + 1 := ⟨k - 1, by omega⟩
    rw [partsF, if_pos (by rw [Its.enc]; rfl)]; simp
  | x :: l, k, acc, hk, hw => by
    obtain ⟨k, rfl⟩ : ∃ m, k = m + 1 := ⟨k - 1, by omega⟩
    simp only [Its.w9] at hw
    have hx := It.enc_le x (by omega)
    obtain ⟨b, h, n, e1, e2⟩ := cut_enc x (Its.enc l) (by omega)
    rw [Its.enc, List.length_append] at hk
    rw [Its.enc, partsF, if_neg (by rw [List.length_append]; omega), e1]
    dsimp only
    rw [if_pos rfl, e2, List.drop_left, List.take_left, partsF_enc l k _ (by omega) (by omega), List.map_cons, List.append_assoc]
    rfl
theorem parts_enc (l : List It) (hw : Its.w9 l ≤ 1048576) : partsR (It.mk true [] l).enc = (l.map It.enc, 0) := by
  have hle := Its.enc_le l (by omega)
  have hh := headB_length (c := 192) (n := (Its.enc l).length) (by omega)
  have he : (It.mk true [] l).enc = headB 192 (Its.enc l).length ++ Its.enc l ++ [] := by rw [It.enc, if_pos rfl, List.append_nil]
  rw [he]
  unfold partsR
  rw [if_neg (by rw [List.append_nil, List.length_append]; omega), cut_head (.inr rfl) _ [] (by omega) (fun h => by omega)]
  dsimp only
  rw [if_pos rfl, if_pos (by simp), if_neg (by rw [List.append_nil, List.length_append]; omega), List.append_nil, List.drop_left, List.take_length, partsF_enc l _ [] (by omega) (by omega), List.nil_append]
theorem sumL_enc : ∀ l : List It, sumL (l.map It.enc) = (Its.enc l).length
  | [] => rfl
  | x :: l => by rw [List.map_cons, sumL_cons, sumL_enc l, Its.enc, List.length_append]
theorem flat_enc : ∀ l : List It, (l.map It.enc).flatten = Its.enc l
  | [] => rfl
  | x :: l => by rw [List.map_cons, List.flatten_cons, flat_enc l, Its.enc]
theorem join_enc (l : List It) (hw : Its.w9 l ≤ 1048576) : rlp_Join (l.map It.enc) = some ((It.mk true [] l).enc, 0) := by
  have hle := Its.enc_le l (by omega)
  have hh := headB_length (c := 192) (n := (Its.enc l).length) (by omega)
  rw [join_eq _ (by rw [sumL_enc]; omega)]
  unfold joinR
  rw [sumL_enc, flat_enc, if_neg (by omega), It.enc, if_pos rfl]
/-- Parts joined are the text again. -/
theorem parts_flat : ∀ (k : Nat) (s : List (BitVec 8)) (acc L : List (List (BitVec 8))), s.length < k → partsF k s acc = (L, 0) → ∃ M, L = acc ++ M ∧ M.flatten = s ∧ sumL M = s.length
  | 0, s, acc, L, h, _ => by omega
  | k + 1, s, acc, L, h, e => by
    rw [partsF] at e
    by_cases h0 : s.length = 0
    · rw [if_pos h0] at e
      cases e
      exact ⟨[], by simp, by rw [List.length_eq_zero_iff.1 h0]; rfl, by rw [h0]; rfl⟩
    rw [if_neg h0] at e
    generalize hr : cutS s = r at e
    obtain ⟨er, l, hh, n⟩ := r
    dsimp only at e
    by_cases he : er = 0
    · subst he
      have hin := cutS_in hr
      rw [if_pos rfl] at e
      obtain ⟨M, e1, e2, e3⟩ := parts_flat k (s.drop (hh + n)) _ L (by rw [List.length_drop]; omega) e
      refine ⟨s.take (hh + n) :: M, by rw [e1, List.append_assoc]; rfl, by rw [List.flatten_cons, e2, List.take_append_drop], ?_⟩
      rw [sumL_cons, e3, List.length_take, List.length_drop]; omega
    · rw [if_neg he] at e
      cases e
      exact absurd rfl he
theorem join_parts (b : List (BitVec 8)) (L : List (List (BitVec 8))) (e : partsR b = (L, 0)) : rlp_Join L = some (b, 0) := by
  unfold partsR at e
  by_cases h : 16777216 < b.length
  · rw [if_pos h] at e; cases e
  rw [if_neg h] at e
  generalize hr : cutS b = r at e
  obtain ⟨er, l, hh, n⟩ := r
  dsimp only at e
  by_cases he : er = 0
  · subst he
    have hin := cutS_in hr
    rw [if_pos rfl] at e
    by_cases hl : l = true
    · subst hl
      rw [if_pos rfl] at e
      by_cases h2 : hh + n < b.length
      · rw [if_pos h2] at e; cases e
      rw [if_neg h2] at e
      have hlen : ((b.drop hh).take n).length = n := by rw [List.length_take, List.length_drop]; omega
      obtain ⟨M, e1, e2, e3⟩ := parts_flat _ _ _ _ (by omega) e
      rw [List.nil_append] at e1
      subst e1
      rw [hlen] at e3
      rcases cut_back (by omega) hr with ⟨_, _, h3, _⟩ | ⟨h3, _⟩
      · cases h3
      simp only [if_true] at h3
      have h4 : (headB 192 n).length = hh := by rw [← h3, List.length_take]; omega
      rw [join_eq _ (by omega)]
      unfold joinR
      rw [e3, e2, if_neg (by omega), ← h3, List.take_of_length_le (i := n) (by rw [List.length_drop]; omega), List.take_append_drop]
    · rw [if_neg hl] at e; cases e
  · rw [if_neg he] at e
    cases e
    exact absurd rfl he
/-! ### The law's word for sound -/
theorem lsound_loop (x : It) (a : Nat) (ha : a ≤ 200) (rc : It → Nat → Option (Nat × Bool)) (hrc : ∀ y ∈ x.items, ∃ n b, rc y (a + 1) = some (n, b) ∧ n ≤ 140737489403904 ∧ (b = true → y.good ∧ n = y.w9 ∧ y.dep + (a + 1) ≤ 201)) :
    ∀ (d i k m : Nat), i + d = x.items.length → d < k → m ≤ 140737489403904 → ∃ q, waybilllaw07_sound.l1 x a rc k m i = some q ∧ (∀ o, q = .ret o → o = some (0, false)) ∧
      (∀ m', q = .go m' → m' ≤ 140737489403904 ∧ m' = m + Its.w9 (x.items.drop i) ∧ Its.good (x.items.drop i) ∧ Its.dep (x.items.drop i) + (a + 1) ≤ 201 ∧ (0 < d → m' ≤ 1048576))
  | 0, i, k, m, h, hk, hm => by
    obtain ⟨k, rfl⟩ : ∃ m, k = m + 1 := ⟨k - 1, by omega⟩
    refine ⟨.go m, by rw [waybilllaw07_sound.l1, if_neg (by omega)], (fun o e => by cases e), fun m' e => ?_⟩
    cases e
    rw [List.drop_of_length_le (by omega)]
    exact ⟨hm, by simp [Its.w9], by simp [Its.good], by simp [Its.dep]; omega, (fun h => by omega)⟩
  | d + 1, i, k, m, h, hk, hm => by
    obtain ⟨k, rfl⟩ : ∃ m, k = m + 1 := ⟨k - 1, by omega⟩
    have h1 : i < x.items.length := by omega
    obtain ⟨n, b, e1, e2, e3⟩ := hrc x.items[i] (List.getElem_mem h1)
    rw [waybilllaw07_sound.l1, if_pos h1, List.getElem?_eq_getElem h1, Option.bind_some, if_pos (by omega), e1, Option.bind_some]
    dsimp only
    rw [if_pos (by omega)]
    by_cases hb : b = true
    · obtain ⟨g1, g2, g3⟩ := e3 hb
      rw [if_pos hb, Option.bind_some]
      by_cases hc : 1048576 < m + n
      · rw [if_pos (by simpa using hc)]
        exact ⟨_, rfl, (fun o e => by cases e; rfl), (fun m' e => by cases e)⟩
      · rw [if_neg (by simpa using hc)]
        obtain ⟨q, f1, f2, f3⟩ := lsound_loop x a ha rc hrc d (i + 1) k (m + n) (by omega) (by omega) (by omega)
        refine ⟨q, f1, f2, fun m' e => ?_⟩
        obtain ⟨a1, a2, a3, a4, a5⟩ := f3 m' e
        refine ⟨a1, by rw [a2, Its.w9_drop h1, g2]; omega, (Its.good_drop h1).2 ⟨g1, a3⟩, by rw [Its.dep_drop h1]; omega, fun _ => ?_⟩
        by_cases hd : 0 < d
        · exact a5 hd
        · have : x.items.drop (i + 1) = [] := List.drop_of_length_le (by omega)
          rw [this] at a2
          simp only [Its.w9] at a2
          omega
    · rw [if_neg hb, Option.bind_some, if_pos rfl]
      exact ⟨_, rfl, (fun o e => by cases e; rfl), (fun m' e => by cases e)⟩
theorem lsound_r : ∀ (k : Nat) (x : It) (a : Nat), a ≤ 201 → 202 ≤ k + a → x.lens → ∃ n b, waybilllaw07_sound.r k x a = some (n, b) ∧ n ≤ 140737489403904 ∧ (b = true → x.good ∧ n = x.w9 ∧ x.dep + a ≤ 201 ∧ (0 < x.items.length → n ≤ 1048576))
  | 0, x, a, h1, h2, _ => by omega
  | k + 1, x, a, h1, h2, hx => by
    have hx' := (It.lens_eq x).1 hx
    rw [waybilllaw07_sound.r]
    have bad : ∃ n b, (if true = true then some (0, false) else (((waybilllaw07_sound.l1 x a (waybilllaw07_sound.r k) (x.items.length - 0 + 2) (9 + x.data.length) 0) : Option (Lp ((Nat) × (Bool)) ((Nat)))).bind fun | .ret o => o | .go n25 => (some (n25, true)))) = some (n, b) ∧ n ≤ 140737489403904 ∧ (b = true → x.good ∧ n = x.w9 ∧ x.dep + a ≤ 201 ∧ (0 < x.items.length → n ≤ 1048576)) :=
      ⟨0, false, by rw [if_pos rfl], by omega, (fun e => by cases e)⟩
    by_cases ha : 200 < a
    · rw [if_pos ha, Option.bind_some]; exact bad
    rw [if_neg ha]
    have fine : ((x.list = true → x.data = []) ∧ (x.list = false → x.items = [])) → ∃ n b, (if false = true then some (0, false) else (((waybilllaw07_sound.l1 x a (waybilllaw07_sound.r k) (x.items.length - 0 + 2) (9 + x.data.length) 0) : Option (Lp ((Nat) × (Bool)) ((Nat)))).bind fun | .ret o => o | .go n25 => (some (n25, true)))) = some (n, b) ∧ n ≤ 140737489403904 ∧ (b = true → x.good ∧ n = x.w9 ∧ x.dep + a ≤ 201 ∧ (0 < x.items.length → n ≤ 1048576)) := by
      rintro ⟨g1, g2⟩
      rw [if_neg (by simp)]
      obtain ⟨q, e1, e2, e3⟩ := lsound_loop x a (by omega) (waybilllaw07_sound.r k) (fun y hy => by
        obtain ⟨n, b, f1, f2, f3⟩ := lsound_r k y (a + 1) (by omega) (by omega) (Its.lens_mem hx'.2.2 y hy)
        exact ⟨n, b, f1, f2, fun hb => ⟨(f3 hb).1, (f3 hb).2.1, (f3 hb).2.2.1⟩⟩) x.items.length 0 (x.items.length - 0 + 2) (9 + x.data.length) (by omega) (by omega) (by omega)
      rw [e1, Option.bind_some]
      cases q with
      | ret o =>
        have := e2 o rfl
        subst this
        exact ⟨0, false, rfl, by omega, (fun e => by cases e)⟩
      | go m =>
        obtain ⟨a1, a2, a3, a4, a5⟩ := e3 m rfl
        rw [List.drop_zero] at a2 a3 a4
        refine ⟨m, true, rfl, a1, fun _ => ⟨(It.good_eq x).2 ⟨g1, g2, a3⟩, by rw [a2, It.w9_eq], ?_, a5⟩⟩
        rw [It.dep_eq]
        split <;> omega
    by_cases hl : x.list = true
    · rw [if_pos hl]
      by_cases hd : 0 < x.data.length
      · rw [if_pos hd, Option.bind_some]; exact bad
      · rw [if_neg hd, if_pos hl, Option.bind_some]
        exact fine ⟨fun _ => List.length_eq_zero_iff.1 (by omega), fun h => by rw [hl] at h; cases h⟩
    · rw [if_neg hl, if_neg hl, Option.bind_some]
      by_cases hi : 0 < x.items.length
      · rw [decide_eq_true hi]; exact bad
      · rw [decide_eq_false hi]
        exact fine ⟨fun h => absurd h hl, fun _ => List.length_eq_zero_iff.1 (by omega)⟩
theorem lsound_eq (x : It) (hx : x.lens) : ∃ n b, waybilllaw07_sound x 0 = some (n, b) ∧ (b = true → x.good ∧ n = x.w9 ∧ x.dep ≤ 201 ∧ (0 < x.items.length → n ≤ 1048576)) := by
  obtain ⟨n, b, e1, e2, e3⟩ := lsound_r (203 - 0) x 0 (by omega) (by omega) hx
  exact ⟨n, b, e1, fun h => (e3 h).imp id (fun h => ⟨h.1, by omega, h.2.2⟩)⟩
theorem ltwin_eq {x : It} (h : x.w9 ≤ 16777216) : waybilllaw07_twin x = some x := by
  have := It.wt_w9 x
  unfold waybilllaw07_twin
  rw [copy_eq (by simp only [Its.wt]; omega), Option.bind_some]
  rfl
theorem lparts_loop (l : List It) (hg : Its.good l) (hd : Its.dep l ≤ 1024) (hw : Its.w9 l ≤ 16777216) : ∀ (d i k : Nat), i + d = l.length → d < k → waybilllaw07_RlpParts.l1 l k (l.map It.enc) i = some (Lp.go (l.map It.enc))
  | 0, i, k, h, hk => by
    obtain ⟨k, rfl⟩ : ∃ m, k = m + 1 := ⟨k - 1, by omega⟩
    rw [waybilllaw07_RlpParts.l1, if_neg (by rw [List.length_map]; omega)]
  | d + 1, i, k, h, hk => by
    obtain ⟨k, rfl⟩ : ∃ m, k = m + 1 := ⟨k - 1, by omega⟩
    have h1 : i < l.length := by omega
    have hm := List.getElem_mem h1
    have h2 := Its.w9_mem hm
    have h3 := Its.dep_mem hm
    have h4 : (l.map It.enc)[i]? = some (l[i]).enc := by rw [List.getElem?_map, List.getElem?_eq_getElem h1]; rfl
    rw [waybilllaw07_RlpParts.l1, if_pos (by rw [List.length_map]; omega), List.getElem?_eq_getElem h1, Option.bind_some, ltwin_eq (by omega), Option.bind_some, encode_eq (Its.good_mem hg _ hm) (by omega) (by omega), Option.bind_some]
    dsimp only
    rw [if_pos rfl, h4, Option.bind_some, same_eq, Option.bind_some, Option.bind_some]
    dsimp only
    rw [if_neg (by simp)]
    exact lparts_loop l hg hd hw d (i + 1) k (by omega) (by omega)
theorem parts_law (a0 : List It) (a1 : List (BitVec 8)) (h0 : a0.length ≤ 140737488355328) (h1 : Its.lens a0) : waybilllaw07_RlpParts a0 a1 = some true := by
  unfold waybilllaw07_RlpParts
  obtain ⟨n, b, e1, e2⟩ := lsound_eq (.mk true [] a0) (by simp only [It.lens]; exact ⟨by simp, h0, h1⟩)
  rw [e1, Option.bind_some]
  dsimp only
  have first : (if b = true then ((waybilllaw07_twin (It.mk true ([] : List (BitVec 8)) a0)).bind fun x100 => ((rlp_Encode x100).bind fun (x123, x124) => ((rlp_Parts x123).bind fun (x138, x139) => (((if x124 = 0 then (if x139 = 0 then (some ((!decide (x138.length = a0.length)))) else (some (true))) else (some (true))) : Option ((Bool))).bind fun p155 => (if p155 = true then (some (Lp.ret (some false))) else (((waybilllaw07_RlpParts.l1 a0 (x138.length - 0 + 2) x138 0) : Option (Lp (Lp ((Bool)) (Unit)) ((List (List (BitVec 8)))))).bind fun | .ret o => o | .go l167 => ((rlp_Join l167).bind fun (x180, x181) => (((if x181 = 0 then ((waybilllaw07_same x180 x123).bind fun x207 => (some ((!x207)))) else (some (true))) : Option ((Bool))).bind fun p197 => (if p197 = true then (some (Lp.ret (some false))) else (some (Lp.go ()))))))))))) else (some (Lp.go ())) : Option (Lp ((Bool)) (Unit))) = some (Lp.go ()) := by
    by_cases hb : b = true
    · obtain ⟨g1, g2, g3, g4⟩ := e2 hb
      have g1' := (It.good_eq _).1 g1
      have hw9 := It.w9_eq (.mk true [] a0)
      have hdp := It.dep_eq (.mk true [] a0)
      simp only [It.items, It.data, It.list, List.length_nil, if_true] at g1' hw9 hdp g4
      have hw : Its.w9 a0 ≤ 1048576 - 9 := by
        by_cases hl : 0 < a0.length
        · have := g4 hl; omega
        · have : a0 = [] := List.length_eq_zero_iff.1 (by omega)
          subst this
          simp [Its.w9]
      rw [if_pos hb, ltwin_eq (by omega), Option.bind_some, encode_eq g1 (by omega) (by omega), Option.bind_some]
      dsimp only
      rw [parts_eq, parts_enc a0 (by omega), Option.bind_some]
      dsimp only
      rw [if_pos rfl, if_pos rfl, List.length_map, Option.bind_some, if_neg (by simp), lparts_loop a0 g1'.2.2 (by omega) (by omega) a0.length 0 _ (by omega) (by omega), Option.bind_some]
      dsimp only
      rw [join_enc a0 (by omega), Option.bind_some]
      dsimp only
      rw [if_pos rfl, same_eq, Option.bind_some, Option.bind_some, if_neg (by simp)]
    · rw [if_neg hb]
  refine Eq.trans (congrArg (fun o => Option.bind o _) first) ?_
  rw [Option.bind_some]
  dsimp only
  have hp : partsR [192#8] = ([], 0) := by decide
  rw [parts_eq, hp, Option.bind_some]
  dsimp only
  rw [if_pos rfl, Option.bind_some, if_neg (by simp), parts_eq, Option.bind_some]
  generalize hr : partsR a1 = r
  obtain ⟨L, e⟩ := r
  dsimp only
  by_cases he : e = 0
  · subst he
    rw [if_pos rfl, join_parts a1 L hr, Option.bind_some]
    dsimp only
    rw [if_pos rfl, same_eq, Option.bind_some, Option.bind_some]
    simp
  · rw [if_neg he]
    have : L = [] := by
      have h3 := parts_none a1
      rw [hr] at h3
      exact h3 he
    subst this
    simp
where
  parts_none (b : List (BitVec 8)) (h : (partsR b).2 ≠ 0) : (partsR b).1 = [] := by
    unfold partsR at h ⊢
    by_cases h1 : 16777216 < b.length
    · rw [if_pos h1]
    rw [if_neg h1] at h ⊢
    generalize cutS b = r at h ⊢
    obtain ⟨e, l, hh, n⟩ := r
    dsimp only at h ⊢
    by_cases he : e = 0
    · rw [if_pos he] at h ⊢
      by_cases hl : l = true
      · rw [if_pos hl] at h ⊢
        by_cases h2 : hh + n < b.length
        · rw [if_pos h2]
        · rw [if_neg h2] at h ⊢
          exact partsF_nil _ _ _ h
      · rw [if_neg hl]
    · rw [if_neg he]
end Go.Fw
