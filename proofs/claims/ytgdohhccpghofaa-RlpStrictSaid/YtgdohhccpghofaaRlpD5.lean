/- Part of a proof over Ytgdohhccpghofaa: rules and contracts that the law's text uses. No condition. -/
import Derived.Test.YtgdohhccpghofaaRlpD4
namespace Go.Fw
set_option linter.unusedVariables false
set_option linter.unusedSimpArgs false
set_option maxRecDepth 4000
theorem Same_datab (x y : It) (hl : x.data.length = y.data.length) : ∀ (d i k : Nat), i + d = x.data.length → d < k → waybillref07_Same.l2 x y k i = some (if x.data.drop i = y.data.drop i then Lp.go () else Lp.ret (some false))
  | 0, i, k, h, hk => by
    obtain ⟨k, rfl⟩ : ∃ m, k = m + 1 := ⟨k - 1, by omega⟩
    rw [waybillref07_Same.l2, if_neg (by omega), List.drop_eq_nil_of_le (by omega), List.drop_eq_nil_of_le (by omega), if_pos rfl]
  | d + 1, i, k, h, hk => by
    obtain ⟨k, rfl⟩ : ∃ m, k = m + 1 := ⟨k - 1, by omega⟩
    have h1 : i < x.data.length := by omega
    have h2 : i < y.data.length := by omega
    rw [waybillref07_Same.l2, if_pos h1, List.getElem?_eq_getElem h1, Option.bind_some, List.getElem?_eq_getElem h2, Option.bind_some, drop_cons_at h1, drop_cons_at h2]
    by_cases e : x.data[i] = y.data[i]
    · rw [if_pos e, Same_datab x y hl d (i + 1) k (by omega) (by omega)]
      simp only [List.cons.injEq, e, true_and]
    · rw [if_neg e, if_neg (by simp only [List.cons.injEq, e, false_and, not_false_eq_true])]
theorem Same_itemsb (x y : It) (hl : x.items.length = y.items.length) (rc : It → It → Option Bool) (hrc : ∀ a ∈ x.items, ∀ b, ∃ r, rc a b = some r ∧ (r = true → a = b)) : ∀ (d i k : Nat), i + d = x.items.length → d < k → ∃ r : Bool, waybillref07_Same.l1 x y rc k i = some (if r = true then Lp.go () else Lp.ret (some false)) ∧ (r = true → x.items.drop i = y.items.drop i)
  | 0, i, k, h, hk => by
    obtain ⟨k, rfl⟩ : ∃ m, k = m + 1 := ⟨k - 1, by omega⟩
    exact ⟨true, by rw [waybillref07_Same.l1, if_neg (by omega), if_pos rfl], fun _ => by rw [List.drop_eq_nil_of_le (by omega), List.drop_eq_nil_of_le (by omega)]⟩
  | d + 1, i, k, h, hk => by
    obtain ⟨k, rfl⟩ : ∃ m, k = m + 1 := ⟨k - 1, by omega⟩
    have h1 : i < x.items.length := by omega
    have h2 : i < y.items.length := by omega
    obtain ⟨r, hr, hr2⟩ := hrc _ (List.getElem_mem h1) y.items[i]
    rw [waybillref07_Same.l1, if_pos h1, List.getElem?_eq_getElem h1, Option.bind_some, List.getElem?_eq_getElem h2, Option.bind_some, hr, Option.bind_some, drop_cons_at h1, drop_cons_at h2]
    cases r with
    | false => exact ⟨false, by rw [if_neg (by decide), if_neg (by decide)], fun h => by cases h⟩
    | true =>
      obtain ⟨r2, q1, q2⟩ := Same_itemsb x y hl rc hrc d (i + 1) k (by omega) (by omega)
      exact ⟨r2, by rw [if_pos rfl, q1], fun h => by rw [hr2 rfl, q2 h]⟩
theorem Same_any : ∀ (k : Nat) (x y : It), x.sz < k → ∃ r, waybillref07_Same.r k x y = some r ∧ (r = true → x = y)
  | 0, x, y, h => by omega
  | k + 1, x, y, h => by
    rw [waybillref07_Same.r]
    by_cases h1 : x.list = y.list
    · rw [if_pos h1]
      by_cases h2 : x.data.length = y.data.length
      · rw [if_pos h2, Option.bind_some]
        by_cases h3 : x.items.length = y.items.length
        · rw [if_neg (by simp [h3]), Same_datab x y h2 x.data.length 0 _ (by omega) (by omega), Option.bind_some, List.drop_zero, List.drop_zero]
          by_cases h4 : x.data = y.data
          · obtain ⟨r, q1, q2⟩ := Same_itemsb x y h3 (waybillref07_Same.r k) (fun a ha b => Same_any k a b (by have := Its.sz_mem ha; have := It.sz_eq x; omega)) x.items.length 0 (x.items.length - 0 + 2) (by omega) (by omega)
            rw [if_pos h4]
            dsimp only
            rw [q1, Option.bind_some]
            cases r with
            | false => exact ⟨false, rfl, fun h => by cases h⟩
            | true =>
              refine ⟨true, rfl, fun _ => ?_⟩
              have := q2 rfl
              rw [List.drop_zero, List.drop_zero] at this
              rw [It.eta x, It.eta y, h1, h4, this]
          · rw [if_neg h4]
            exact ⟨false, rfl, fun h => by cases h⟩
        · rw [if_pos (by simp [h3])]
          exact ⟨false, rfl, fun h => by cases h⟩
      · rw [if_neg h2, Option.bind_some, if_pos rfl]
        exact ⟨false, rfl, fun h => by cases h⟩
    · rw [if_neg h1, Option.bind_some, if_pos rfl]
      exact ⟨false, rfl, fun h => by cases h⟩
theorem Same_spec (x y : It) : ∃ r, waybillref07_Same x y = some r ∧ (r = true → x = y) := Same_any _ x y (by omega)
theorem ltwin_gen {x : It} (h : x.w9 ≤ 2147483647) : waybilllaw07_twin x = some x := by
  have := It.wt_w9 x
  unfold waybilllaw07_twin
  rw [copy_eq (by simp only [Its.wt]; omega), Option.bind_some]
  rfl
theorem check_gen {x : It} (hg : x.good) (hd : x.dep ≤ 1024) (hw : x.w9 ≤ 1099511627776) (hl : x.enc.length ≤ 16777216) : rlp_Check x = some 0 := by
  unfold rlp_Check
  rw [sound_eq hg (by omega), Option.bind_some]
  try dsimp only
  rw [if_pos rfl, if_neg (by omega), size_eq (by omega), Option.bind_some, if_neg (by omega)]
theorem encode_gen {x : It} (hg : x.good) (hd : x.dep ≤ 1024) (hw : x.w9 ≤ 1099511627776) (hl : x.enc.length ≤ 16777216) : rlp_Encode x = some (x.enc, 0) := by
  unfold rlp_Encode
  rw [check_gen hg hd hw hl, Option.bind_some, if_pos rfl, lay_eq (by omega), Option.bind_some]
theorem size_gen {x : It} (hg : x.good) (hd : x.dep ≤ 1024) (hw : x.w9 ≤ 1099511627776) (hl : x.enc.length ≤ 16777216) : rlp_Size x = some (x.enc.length, 0) := by
  unfold rlp_Size
  rw [check_gen hg hd hw hl, Option.bind_some, if_pos rfl, size_eq (by omega), Option.bind_some]
theorem decode_80 : decodeR [128#8] = (It.zero, 0) := rfl
theorem strict_law (a0 : List (BitVec 8)) (ha : a0.length + 9 ≤ 140737488355328) (a1 : Int) (a2 : BitVec 8) : waybilllaw07_RlpStrict a0 a1 a2 = some true := by
  unfold waybilllaw07_RlpStrict waybilllaw07_roomy
  rw [decode_eq, Option.bind_some, decode_80]
  dsimp only
  rw [if_pos rfl, Same_refl, Option.bind_some, Option.bind_some, if_neg (by decide), decode_eq, Option.bind_some]
  generalize hq : decodeR a0 = q
  obtain ⟨x, e⟩ := q
  dsimp only
  rcases decode_back hq with ⟨he, rfl⟩ | ⟨rfl, hg, henc, hlen, hd, hw⟩
  · rw [if_neg he, Same_refl, Option.bind_some]
  · have hl : x.enc.length ≤ 16777216 := by rw [← henc]; exact hlen
    rw [if_pos rfl, ltwin_gen (by omega), Option.bind_some, encode_gen hg hd (by omega) hl, Option.bind_some]
    dsimp only
    rw [if_pos rfl, same_eq, Option.bind_some, if_pos (by simpa using henc), Option.bind_some, check_gen hg hd (by omega) hl, Option.bind_some, Option.bind_some, if_neg (by decide)]
    by_cases h1 : a1 < 0
    · rw [if_pos h1, Option.bind_some, if_pos rfl]
    rw [if_neg h1]
    by_cases h2 : ((a0.length : Nat) : Int) ≤ a1
    · rw [if_pos h2, Option.bind_some, if_pos rfl]
    rw [if_neg h2, Option.bind_some]
    by_cases h3 : a2 = 0#8
    · rw [if_pos (by simpa using h3)]
    have hlt : a1.toNat < a0.length := by omega
    rw [if_neg (by simpa using h3), if_pos ha, Option.bind_some, if_pos (by omega), List.getElem?_eq_getElem hlt, Option.bind_some, Option.bind_some, decode_eq, Option.bind_some]
    generalize hq2 : decodeR (a0.set a1.toNat (a0[a1.toNat] + a2)) = q2
    obtain ⟨y, e2⟩ := q2
    dsimp only
    rcases decode_back hq2 with ⟨he, rfl⟩ | ⟨rfl, hg2, henc2, hlen2, hd2, hw2⟩
    · rw [if_neg he]; rfl
    · rw [if_pos rfl]
      obtain ⟨r, q1, q2⟩ := Same_spec y x
      rw [q1, Option.bind_some, Option.bind_some]
      cases r with
      | false => rfl
      | true =>
        have h4 := q2 rfl
        subst h4
        rw [← henc] at henc2
        have h5 := congrArg (fun l : List (BitVec 8) => l[a1.toNat]?) henc2
        simp only [List.getElem?_set_self hlt, List.getElem?_eq_getElem hlt, Option.some.injEq] at h5
        exact absurd (BitVec.add_right_eq_self.1 h5) h3
theorem back_law (a0 : It) (hx : a0.lens) (a1 : List (BitVec 8)) (h1 : a1.length ≤ 140737488355328) (a2 : Int) : waybilllaw07_RlpBack a0 a1 a2 = some true := by
  unfold waybilllaw07_RlpBack waybilllaw07_roomy waybilllaw07_num
  obtain ⟨n, b, hs, hn, hb⟩ := lsound_r 203 a0 0 (by omega) (by omega) hx
  have hs' : waybilllaw07_sound a0 0 = some (n, b) := hs
  rw [hs', Option.bind_some]
  dsimp only
  cases b with
  | false => rw [if_neg (by decide), Option.bind_some, if_pos rfl]
  | true =>
    obtain ⟨hg, hw, hd, hi⟩ := hb rfl
    rw [if_pos rfl, if_pos (by omega), Option.bind_some]
    by_cases h2 : 2097152 < n + a1.length
    · rw [if_pos (by simpa using h2)]
    have hle := It.enc_le a0 (by omega)
    rw [if_neg (by simpa using h2), ltwin_gen (by omega), Option.bind_some, encode_gen hg (by omega) (by omega) (by omega), Option.bind_some]
    dsimp only
    rw [Option.bind_some, size_gen hg (by omega) (by omega) (by omega), Option.bind_some]
    dsimp only
    have hd0 := decode_enc hg (by omega) (by omega) [] (by rw [List.append_nil]; omega)
    rw [List.append_nil, if_neg (by simp)] at hd0
    rw [decode_eq, hd0, Option.bind_some]
    dsimp only
    rw [if_pos rfl, if_pos rfl, if_pos rfl, if_pos rfl, Same_refl, Option.bind_some, Option.bind_some, if_neg (by decide), if_pos (by omega), Option.bind_some, if_pos (Nat.le_refl _), List.take_length, if_pos (by omega), split_eq, Option.bind_some]
    obtain ⟨l, h, n2, e1, e2⟩ := cut_enc a0 a1 (by omega)
    have hll : l = a0.list := by
      have hp := (parse_enc_all (2 * a0.enc.length + 1)).1 0 a0 a1 (Nat.le_refl _) hg (by omega) (by omega)
      cases l with
      | false => rw [parse_text e1] at hp; simp only [Prod.mk.injEq] at hp; rw [← hp.2.1]; rfl
      | true =>
        rw [parse_list e1, if_neg (by omega)] at hp
        generalize plist (2 * a0.enc.length) (0 + 1) _ [] = q at hp
        obtain ⟨e3, its⟩ := q
        dsimp only at hp
        split at hp
        · simp only [Prod.mk.injEq] at hp; rw [← hp.2.1]; rfl
        · rename_i hne
          simp only [Prod.mk.injEq] at hp
          exact absurd hp.1 hne
    have hsp : splitR (a0.enc ++ a1) = (a0.list, ((a0.enc ++ a1).drop h).take n2, a1, 0) := by
      unfold splitR
      rw [if_neg (by rw [List.length_append]; omega)]
      rw [e1]
      dsimp only
      rw [if_pos rfl, e2, List.drop_left' rfl, hll]
    rw [hsp]
    dsimp only
    rw [if_pos rfl, if_pos rfl, same_eq, Option.bind_some, Option.bind_some, if_neg (by simp), decode_eq, Option.bind_some, decode_enc hg (by omega) (by omega) a1 (by rw [List.length_append]; omega)]
    have hcut : ∀ z : Option Bool, z = some true → z = some true := fun z h => h
    have hfin : ((if a2 < (0 : Int) then some true else some (decide (((a0.enc.length : Nat) : Int) ≤ a2))).bind fun p222 => (if p222 = true then some true else (if 0 ≤ a2 then (if (a2).toNat ≤ a0.enc.length then ((rlp_Decode (a0.enc.take ((a2).toNat))).bind fun (x234, x235) => (((((some ((x235 : Nat) : Int)) : Option Int).bind fun x268 => (if x268 = (70 : Int) then ((waybillref07_Same x234 (It.mk false ([] : List (BitVec 8)) ([] : List (It)))).bind fun x276 => (some ((x276)))) else (some (false)))) : Option ((Bool))).bind fun p261 => (some (p261)))) else none) else none))) = some true := by
      by_cases h3 : a2 < 0
      · rw [if_pos h3, Option.bind_some, if_pos rfl]
      rw [if_neg h3, Option.bind_some]
      by_cases h4 : ((a0.enc.length : Nat) : Int) ≤ a2
      · rw [if_pos (by simpa using h4)]
      rw [if_neg (by simpa using h4), if_pos (by omega), if_pos (by omega), decode_eq, Option.bind_some, decode_short (by omega) _ (by omega)]
      dsimp only
      rw [Option.bind_some, if_pos (by rfl), Same_refl]
      rfl
    by_cases h5 : 0 < a1.length
    · rw [if_pos h5]
      dsimp only
      rw [if_pos (by rw [decide_eq_false (by omega), decide_eq_false (by omega)]), if_pos h5, Option.bind_some, Option.bind_some, if_neg (by decide)]
      exact hfin
    · rw [if_neg h5]
      dsimp only
      rw [if_pos (by rw [decide_eq_true rfl, decide_eq_true (by omega)]), if_neg h5, Option.bind_some, if_neg (by decide)]
      exact hfin
end Go.Fw
