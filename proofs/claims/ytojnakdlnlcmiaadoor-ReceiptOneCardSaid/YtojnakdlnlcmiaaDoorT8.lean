/- Part of a proof: rules that its law uses. -/
import Derived.Test.YtojnakdlnlcmiaaDoorT7
namespace Go.Fw
set_option linter.unusedVariables false
set_option linter.unusedSimpArgs false
set_option maxRecDepth 4000
theorem parse_enc_big : ∀ k, (∀ (d : Nat) (x : It) (r : List (BitVec 8)), 2 * x.enc.length + 1 ≤ k → x.good → x.dep + d ≤ 1024 → x.w9 ≤ 1099511627776 → x.enc.length ≤ 16777216 → parse k d (x.enc ++ r) = (0, x, r)) ∧
    (∀ (d : Nat) (l : List It) (acc : List It), 2 * (Its.enc l).length + 2 ≤ k → Its.good l → Its.dep l + d ≤ 1024 → Its.w9 l ≤ 1099511627776 → (Its.enc l).length ≤ 16777216 → plist k d (Its.enc l) acc = (0, acc ++ l)) := by
  intro k
  induction k with
  | zero => exact ⟨fun d x r h => by omega, fun d l acc h => by omega⟩
  | succ k ih =>
    obtain ⟨ihA, ihB⟩ := ih
    refine ⟨?_, ?_⟩
    · intro d x r hk hg hd hw hn
      have hw' := It.w9_eq x
      obtain ⟨g1, g2, g3⟩ := (It.good_eq x).1 hg
      have hdep := It.dep_eq x
      rw [It.enc_eq] at hk hn ⊢
      by_cases hl : x.list = true
      · rw [if_pos hl] at hk hn hdep ⊢
        rw [List.length_append] at hk hn
        have hc := cut_head (c := 192) (.inr rfl) (Its.enc x.items) r (by omega) (fun h => by omega)
        have hh := headB_length (c := 192) (n := (Its.enc x.items).length) (by omega)
        have hpay : ((headB 192 (Its.enc x.items).length ++ Its.enc x.items ++ r).drop (headB 192 (Its.enc x.items).length).length).take (Its.enc x.items).length = Its.enc x.items := by
          rw [List.append_assoc, List.drop_left' rfl, List.take_left' rfl]
        have hrest : (headB 192 (Its.enc x.items).length ++ Its.enc x.items ++ r).drop ((headB 192 (Its.enc x.items).length).length + (Its.enc x.items).length) = r := by
          rw [← List.length_append, List.drop_left' rfl]
        rw [parse_list hc, if_neg (by omega), hpay, hrest, ihB (d + 1) x.items [] (by omega) g3 (by omega) (by omega) (by omega)]
        dsimp only
        rw [if_pos rfl, List.nil_append, It.eta x, hl, g1 hl]
        rfl
      · rw [if_neg hl] at hk hn ⊢
        have hl' : x.list = false := by simpa using hl
        have hx : It.mk false x.data [] = x := by
          have := It.eta x
          rw [hl', g2 hl'] at this
          exact this.symm
        by_cases ho : oneB x.data = true
        · rw [if_pos ho]
          obtain ⟨h1, h2⟩ := oneB_len ho
          obtain ⟨c, hc⟩ : ∃ c, x.data = [c] := List.length_eq_one_iff.1 h1
          have h3 : c.toNat < 128 := by rw [hc] at h2; simpa [small] using h2
          have hcut : cutS ([c] ++ r) = (0, false, 0, 1) := by
            unfold cutS
            show (if c.toNat < 128 then _ else _) = _
            rw [if_pos h3]
          rw [hc] at hx ⊢
          rw [parse_text hcut]
          show (0, It.mk false [c] [], r) = _
          rw [hx]
        · rw [if_neg ho] at hn ⊢
          rw [List.length_append] at hn
          have hc := cut_head (c := 128) (.inl rfl) x.data r (by omega) (fun _ h => oneB_small ho h)
          have hpay : ((headB 128 x.data.length ++ x.data ++ r).drop (headB 128 x.data.length).length).take x.data.length = x.data := by
            rw [List.append_assoc, List.drop_left' rfl, List.take_left' rfl]
          have hrest : (headB 128 x.data.length ++ x.data ++ r).drop ((headB 128 x.data.length).length + x.data.length) = r := by
            rw [← List.length_append, List.drop_left' rfl]
          rw [parse_text hc, hpay, hrest, hx]
    · intro d l acc hk hg hd hw hn
      cases l with
      | nil => rw [Its.enc, plist_nil, List.append_nil]
      | cons x l =>
        rw [Its.enc, List.length_append] at hk hn
        rw [Its.good] at hg
        rw [Its.dep] at hd
        rw [Its.w9] at hw
        have hx := It.enc_le x (by omega)
        rw [Its.enc, plist_cons (by rw [List.length_append]; omega), ihA d x (Its.enc l) (by omega) hg.1 (by omega) (by omega) (by omega)]
        dsimp only
        rw [if_pos rfl, ihB d l (acc ++ [x]) (by omega) hg.2 (by omega) (by omega) (by omega), List.append_assoc]
        rfl
theorem decode_enc_big {x : It} (hg : x.good) (hd : x.dep ≤ 1024) (hw : x.w9 ≤ 1099511627776) (hn : x.enc.length ≤ 16777216) : decodeR x.enc = (x, 0) := by
  have h := (parse_enc_big (2 * x.enc.length + 1)).1 0 x [] (by omega) hg (by omega) hw hn
  rw [List.append_nil] at h
  unfold decodeR
  rw [if_neg (by omega), h]
  rfl
theorem encode_long {x : It} (hg : x.good) (hd : x.dep ≤ 1024) (hw : x.w9 ≤ 1099511627776) (hl : 16777216 < x.enc.length) : rlp_Encode x = some ([], 2) := by
  unfold rlp_Encode rlp_Check
  rw [sound_eq hg (by omega), Option.bind_some]
  dsimp only
  rw [if_pos rfl, if_neg (by omega), size_eq hw, Option.bind_some, if_pos hl, Option.bind_some, if_neg (by decide)]
theorem size_long {x : It} (hg : x.good) (hd : x.dep ≤ 1024) (hw : x.w9 ≤ 1099511627776) (hl : 16777216 < x.enc.length) : rlp_Size x = some (0, 2) := by
  unfold rlp_Size rlp_Check
  rw [sound_eq hg (by omega), Option.bind_some]
  dsimp only
  rw [if_pos rfl, if_neg (by omega), size_eq hw, Option.bind_some, if_pos hl, Option.bind_some, if_neg (by decide)]
theorem enc_list_head {x : It} (hl : x.list = true) (hn : x.enc.length ≤ 16777216) : ∃ b, x.enc[0]? = some b ∧ 192 ≤ b.toNat := by
  rw [It.enc_eq, if_pos hl] at hn ⊢
  rw [List.length_append] at hn
  generalize hm : (Its.enc x.items).length = m at hn ⊢
  unfold headB at hn ⊢
  split
  · rename_i h
    refine ⟨_, rfl, ?_⟩
    rw [nat8 (by omega)]; omega
  · rename_i h
    rw [if_neg h] at hn
    refine ⟨_, rfl, ?_⟩
    have h1 : nb m ≤ 4 := by
      have := bl_le (n := m) (k := 32) (by simp at hn; omega)
      unfold nb; omega
    rw [nat8 (by omega)]
    omega
end Go.Fw
namespace Go.Fw
set_option linter.unusedVariables false
set_option linter.unusedSimpArgs false
set_option maxRecDepth 10000
def smallIt (x : BitVec 64) : It := tIt (bytesN x.toNat)
theorem rsmall_it (x : BitVec 64) : rlp_Small x = some (smallIt x) := by
  have h := x.isLt
  rw [small_eq, val4_lim _ (by omega)]; rfl
theorem small_char (x : It) : ∃ v e, rlp_GetSmall x = some (v, e) ∧ ((e = 0 ∧ x = smallIt v) ∨ (e ≠ 0 ∧ ∀ y, x ≠ smallIt y)) := by
  unfold rlp_GetSmall rlp_number
  obtain ⟨⟨e, h1, h2⟩, _⟩ := kind_spec x
  have hlen : ∀ y : BitVec 64, (bytesN y.toNat).length ≤ 8 := fun y => by
    rw [bytesN_length]
    have h := y.isLt
    exact nb_8 h
  have htop : ∀ y : BitVec 64, (bytesN y.toNat)[0]? ≠ some 0#8 := fun y => by
    by_cases h0 : y.toNat = 0
    · rw [h0]; decide
    · exact bytesN_top h0
  rw [h1, Option.bind_some]
  by_cases he : e = 0
  · have ht := h2.1 he
    have ex := isT_iff.1 ht
    rw [if_pos he]
    by_cases h8 : (8 : Int) < ((x.data.length : Nat) : Int)
    · rw [if_pos h8, Option.bind_some]
      refine ⟨_, _, rfl, .inr ⟨by decide, fun y hy => ?_⟩⟩
      have := hlen y
      rw [hy] at h8
      replace h8 : (8 : Int) < (((bytesN y.toNat).length : Nat) : Int) := h8
      omega
    · rw [if_neg h8, strict_eq _ (by omega), Option.bind_some]
      by_cases h0 : x.data[0]? = some 0#8
      · rw [if_pos h0]
        dsimp only
        rw [if_neg (by decide), Option.bind_some]
        refine ⟨_, _, rfl, .inr ⟨by decide, fun y hy => htop y ?_⟩⟩
        rw [hy] at h0; exact h0
      · rw [if_neg h0]
        dsimp only
        rw [if_pos rfl, Option.bind_some]
        refine ⟨_, _, rfl, .inl ⟨rfl, ?_⟩⟩
        have hb := beV_lt x.data
        have hp : 256 ^ x.data.length ≤ 256 ^ 8 := Nat.pow_le_pow_right (by decide) (by omega)
        have e8 : (256 : Nat) ^ 8 = 2 ^ 64 := by decide
        dsimp only
        rw [lim_get _ 0 (by decide)]
        unfold smallIt
        rw [BitVec.toNat_ofNat, Nat.mul_zero, Nat.pow_zero, Nat.div_one, Nat.mod_eq_of_lt (by omega), bytesN_beV h0]
        exact ex
  · rw [if_neg he, Option.bind_some]
    exact ⟨_, _, rfl, .inr ⟨he, fun y hy => he (h2.2 (by rw [hy]; exact isT_tIt _))⟩⟩
theorem smallIt_inj {a b : BitVec 64} (h : smallIt a = smallIt b) : a = b := by
  have h1 := tIt_inj h
  apply BitVec.eq_of_toNat_eq
  rw [← beV_bytesN a.toNat, h1, beV_bytesN]
theorem rsmall_char (r : Rdr) (old : BitVec 64) (x : It) : (r.err ≠ 0 → rsmall r old x = some (old, r)) ∧ (r.err = 0 → ∃ v q, rsmall r old x = some (v, q) ∧ ((q = r ∧ x = smallIt v) ∨ (q = ⟨172⟩ ∧ ∀ y, x ≠ smallIt y))) := by
  unfold rsmall
  refine ⟨fun h => if_neg h, fun h => ?_⟩
  obtain ⟨v, e, h1, h2⟩ := small_char x
  rw [if_pos h, h1, Option.bind_some]
  rcases h2 with ⟨rfl, h2⟩ | ⟨h3, h2⟩
  · exact ⟨v, r, if_pos rfl, .inl ⟨rfl, h2⟩⟩
  · refine ⟨v, ⟨172⟩, ?_, .inr ⟨rfl, h2⟩⟩
    dsimp only
    rw [if_neg h3, refuse_eq, if_pos h]; rfl
theorem rbloom_char (r : Rdr) (old : Vector (BitVec 8) 256) (x : It) : (r.err ≠ 0 → rbloom r old x = some (old, r)) ∧ (r.err = 0 → ∃ v q, rbloom r old x = some (v, q) ∧ ((q = r ∧ x = tIt v.toList) ∨ (q = ⟨172⟩ ∧ ∀ y : Vector (BitVec 8) 256, x ≠ tIt y.toList))) := by
  unfold rbloom
  refine ⟨fun h => ?_, fun h => ?_⟩
  · rw [text_spec, if_neg h, Option.bind_some]; exact if_neg h
  · rw [text_spec, if_pos h, Option.bind_some]
    by_cases hc : isT x = true ∧ ((256 : Int) < 0 ∨ (x.data.length : Int) = 256)
    · rw [if_pos hc]
      dsimp only
      rw [if_pos h]
      obtain ⟨v, hv, hvl⟩ := toVec_full (n := 256) (l := x.data) (by omega)
      rw [hv, Option.bind_some]
      exact ⟨_, _, rfl, .inl ⟨rfl, by rw [hvl]; exact isT_iff.1 hc.1⟩⟩
    · rw [if_neg hc]
      dsimp only
      rw [if_neg (by decide)]
      exact ⟨_, _, rfl, .inr ⟨rfl, fun y hy => hc (by rw [hy]; exact ⟨isT_tIt _, .inr (by show ((y.toList.length : Nat) : Int) = 256; rw [Vector.length_toList]; rfl)⟩)⟩⟩
def firstIt (ro : Bool) (rt : Vector (BitVec 8) 32) (st : BitVec 64) : It := if ro = true then tIt rt.toList else smallIt st
def firstOk (k : Int) (ro : Bool) (rt : Vector (BitVec 8) 32) (st : BitVec 64) : Prop := (ro = true → k = 0 ∧ st = 0#64) ∧ (ro = false → rt = Vector.replicate 32 0#8 ∧ st.toNat ≤ 1)
theorem small0 : smallIt 0#64 = tIt [] := congrArg tIt (show bytesN (0#64).toNat = [] by decide)
theorem small1 : smallIt 1#64 = tIt [1#8] := congrArg tIt (show bytesN (1#64).toNat = [1#8] by decide)
theorem st01 {st : BitVec 64} (h : st.toNat ≤ 1) : st = 0#64 ∨ st = 1#64 := by
  rcases (by omega : st.toNat = 0 ∨ st.toNat = 1) with h | h
  · exact .inl (BitVec.eq_of_toNat_eq h)
  · exact .inr (BitVec.eq_of_toNat_eq h)
theorem firstIt_inj {k : Int} {ro ro2 : Bool} {rt rt2 : Vector (BitVec 8) 32} {st st2 : BitVec 64} (h1 : firstOk k ro rt st) (h2 : firstOk k ro2 rt2 st2) (h : firstIt ro rt st = firstIt ro2 rt2 st2) : ro = ro2 ∧ rt = rt2 ∧ st = st2 := by
  unfold firstIt at h
  have hl : ∀ (v : Vector (BitVec 8) 32) (s : BitVec 64), s.toNat ≤ 1 → tIt v.toList ≠ smallIt s := fun v s hs e => by
    have e2 := congrArg List.length (tIt_inj e)
    rw [Vector.length_toList] at e2
    rcases st01 hs with rfl | rfl
    · exact absurd e2 (by decide)
    · exact absurd e2 (by decide)
  cases ro <;> cases ro2
  · rw [if_neg (by decide), if_neg (by decide)] at h
    exact ⟨rfl, (h1.2 rfl).1.trans (h2.2 rfl).1.symm, smallIt_inj h⟩
  · rw [if_neg (by decide), if_pos rfl] at h
    exact absurd h.symm (hl _ _ (h1.2 rfl).2)
  · rw [if_pos rfl, if_neg (by decide)] at h
    exact absurd h (hl _ _ (h2.2 rfl).2)
  · rw [if_pos rfl, if_pos rfl] at h
    exact ⟨rfl, Vector.toList_inj.1 (tIt_inj h), (h1.1 rfl).2.trans (h2.1 rfl).2.symm⟩
theorem routcome_char (k : Int) (x : It) : ∃ o q, routcome ⟨0⟩ { RcptZ with kind := k } x = some (o, q) ∧ ((q = ⟨0⟩ ∧ firstOk k o.rooted o.root o.status ∧ x = firstIt o.rooted o.root o.status) ∨ (q = ⟨172⟩ ∧ ∀ ro rt st, firstOk k ro rt st → x ≠ firstIt ro rt st)) := by
  unfold routcome
  rw [text_spec, if_pos rfl, Option.bind_some]
  by_cases hc : isT x = true ∧ ((-1 : Int) < 0 ∨ (x.data.length : Int) = -1)
  · rw [if_pos hc]
    dsimp only
    rw [if_pos rfl]
    have ex := isT_iff.1 hc.1
    have hz : firstOk k false (Vector.replicate 32 0#8) 0#64 := ⟨(fun h => by cases h), fun _ => ⟨rfl, by decide⟩⟩
    have bad : ∀ ro rt st, firstOk k ro rt st → x = firstIt ro rt st → x.data.length = 0 ∨ x.data = [1#8] ∨ (x.data.length = 32 ∧ k = 0) := fun ro rt st h1 h2 => by
      unfold firstIt at h2
      cases ro with
      | false =>
        rw [if_neg (by decide)] at h2
        rcases st01 (h1.2 rfl).2 with rfl | rfl
        · left; rw [h2, small0]; rfl
        · right; left; rw [h2, small1]; rfl
      | true =>
        rw [if_pos rfl] at h2
        right; right
        refine ⟨?_, (h1.1 rfl).1⟩
        rw [h2]; show rt.toList.length = 32; exact Vector.length_toList
    have rootc : x.data.length ≠ 0 → x.data ≠ [1#8] → ∃ o q, rroot ⟨0⟩ { RcptZ with kind := k } x.data = some (o, q) ∧ ((q = ⟨0⟩ ∧ firstOk k o.rooted o.root o.status ∧ x = firstIt o.rooted o.root o.status) ∨ (q = ⟨172⟩ ∧ ∀ ro rt st, firstOk k ro rt st → x ≠ firstIt ro rt st)) := fun n0 n1 => by
      unfold rroot
      by_cases h32 : x.data.length = 32 ∧ k = 0
      · rw [if_pos h32]
        obtain ⟨v, hv, hvl⟩ := toVec_full (n := 32) (l := x.data) h32.1
        rw [hv, Option.bind_some]
        refine ⟨_, _, rfl, .inl ⟨rfl, ⟨fun _ => ⟨h32.2, rfl⟩, fun h => by cases h⟩, ?_⟩⟩
        show x = if true = true then tIt v.toList else _
        rw [if_pos rfl, hvl]; exact ex
      · rw [if_neg h32, refuse_eq, Option.bind_some, if_pos rfl]
        refine ⟨_, _, rfl, .inr ⟨rfl, fun ro rt st h1 h2 => ?_⟩⟩
        rcases bad ro rt st h1 h2 with h | h | h
        · exact n0 h
        · exact n1 h
        · exact h32 h
    by_cases h0 : x.data.length = 0
    · rw [if_pos h0]
      refine ⟨_, _, rfl, .inl ⟨rfl, hz, ?_⟩⟩
      show x = if false = true then _ else smallIt 0#64
      rw [if_neg (by decide), small0, ex, List.length_eq_zero_iff.1 h0]; rfl
    · rw [if_neg h0]
      by_cases h1 : x.data.length = 1
      · rw [if_pos h1]
        obtain ⟨c, hcx⟩ := List.length_eq_one_iff.1 h1
        rw [hcx, List.getElem?_cons_zero, Option.bind_some]
        by_cases hb : c = 1#8
        · subst hb
          rw [if_pos rfl]
          refine ⟨_, _, rfl, .inl ⟨rfl, ⟨(fun h => by cases h), fun _ => ⟨rfl, (by show (1#64).toNat ≤ 1; decide)⟩⟩, ?_⟩⟩
          show x = if false = true then _ else smallIt 1#64
          rw [if_neg (by decide), small1, ex, hcx]; rfl
        · rw [if_neg hb]
          have := rootc h0 (by rw [hcx]; simpa using hb)
          rwa [hcx] at this
      · rw [if_neg h1]
        exact rootc h0 (fun h => h1 (by rw [h]; rfl))
  · rw [if_neg hc]
    dsimp only
    rw [if_neg (by decide)]
    refine ⟨_, _, rfl, .inr ⟨rfl, fun ro rt st h1 h2 => hc ⟨?_, .inl (by decide)⟩⟩⟩
    rw [h2]
    unfold firstIt
    split
    · exact isT_tIt _
    · exact isT_tIt _
theorem map_logIt_inj : ∀ {a b : List Log}, a.map logIt = b.map logIt → a = b
  | [], [], _ => rfl
  | [], _ :: _, h => by cases h
  | _ :: _, [], h => by cases h
  | x :: a, y :: b, h => by
    rw [List.map_cons, List.map_cons] at h
    obtain ⟨h1, h2⟩ := List.cons.inj h
    rw [logIt_inj h1, map_logIt_inj h2]
def fewT (l : List Log) : Prop := ∀ x ∈ l, x.topics.length ≤ 4
theorem logsF_char : ∀ (its : List It) (l : List Log), Its.wt its ≤ 2147483647 → (l.length + its.length) * 72 ≤ 140737488355328 →
    ∃ ls q, rlogsF ⟨0⟩ l its = some (ls, q) ∧ ((q = ⟨0⟩ ∧ ∃ xs, ls = l ++ xs ∧ its = xs.map logIt ∧ fewT xs) ∨ (q.err ≠ 0 ∧ ∀ xs, fewT xs → its ≠ xs.map logIt))
  | [], l, hw, h => ⟨l, ⟨0⟩, rfl, .inl ⟨rfl, [], by simp, rfl, fun x hx => by cases hx⟩⟩
  | it :: its, l, hw, h => by
    rw [List.length_cons] at h
    rw [Its.wt] at hw
    rw [rlogsF]
    obtain ⟨x, e, h1, h2⟩ := parselog_char it (by omega)
    rw [h1, Option.bind_some]
    dsimp only
    rcases h2 with ⟨rfl, hx⟩ | ⟨he, rfl, hno⟩
    · rw [if_pos rfl, if_pos (by omega)]
      obtain ⟨ls, q, h3, h4⟩ := logsF_char its (l ++ [x]) (by omega) (by rw [List.length_append, List.length_singleton]; omega)
      refine ⟨ls, q, h3, ?_⟩
      rcases h4 with ⟨h5, xs, h6, h7, h8⟩ | ⟨h5, h6⟩
      · refine .inl ⟨h5, x :: xs, by rw [h6]; simp, by rw [List.map_cons, ← h7, ← hx.1], fun y hy => ?_⟩
        rcases List.mem_cons.1 hy with rfl | hy
        · exact hx.2
        · exact h8 y hy
      · refine .inr ⟨h5, fun xs hf hxs => ?_⟩
        cases xs with
        | nil => cases hxs
        | cons y ys =>
          rw [List.map_cons] at hxs
          exact h6 ys (fun z hz => hf z (List.mem_cons_of_mem _ hz)) (List.cons.inj hxs).2
    · rw [if_neg he, refuse_eq, Option.bind_some, if_pos rfl]
      refine ⟨_, _, rfl, .inr ⟨he, fun xs hf hxs => ?_⟩⟩
      cases xs with
      | nil => cases hxs
      | cons y ys =>
        rw [List.map_cons] at hxs
        exact hno y ⟨(List.cons.inj hxs).1, hf y (List.mem_cons_self ..)⟩
theorem rlogs_char (r : Rdr) (x : It) (hw : x.wt ≤ 2147483647) : (r.err ≠ 0 → rlogs r [] x = some ([], r)) ∧ (r = ⟨0⟩ → ∃ ls q, rlogs r [] x = some (ls, q) ∧ ((q = ⟨0⟩ ∧ x = It.mk true [] (ls.map logIt) ∧ fewT ls) ∨ (q.err ≠ 0 ∧ ∀ xs, fewT xs → x ≠ It.mk true [] (xs.map logIt)))) := by
  have hwt := It.wt_eq x
  unfold rlogs
  rw [list_spec _ _ (by omega)]
  refine ⟨fun h => by rw [if_neg h]; rfl, fun h => ?_⟩
  subst h
  rw [if_pos rfl, Option.bind_some]
  by_cases hL : isL x = true
  · rw [if_pos hL]
    dsimp only
    obtain ⟨ls, q, h1, h2⟩ := logsF_char x.items [] (by omega) (by simp; omega)
    refine ⟨ls, q, h1, ?_⟩
    rcases h2 with ⟨h3, xs, h4, h5, h6⟩ | ⟨h3, h4⟩
    · rw [List.nil_append] at h4
      subst h4
      exact .inl ⟨h3, by rw [← h5]; exact isL_iff.1 hL, h6⟩
    · exact .inr ⟨h3, fun xs hf hx => h4 xs hf (by rw [hx]; rfl)⟩
  · rw [if_neg hL]
    exact ⟨_, _, rfl, .inr ⟨by decide, fun xs hf hx => hL (by rw [hx]; rfl)⟩⟩
end Go.Fw
namespace Go.Fw
set_option linter.unusedVariables false
set_option linter.unusedSimpArgs false
set_option maxRecDepth 10000
def Valid (r : Rcpt) : Prop := (0 ≤ r.kind ∧ r.kind ≤ 4) ∧ firstOk r.kind r.rooted r.root r.status ∧ fewT r.logs ∧ receipt_BloomOf r.logs = some r.bloom
def rcptItems (r : Rcpt) : List It := [firstIt r.rooted r.root r.status, smallIt r.used, tIt r.bloom.toList, It.mk true [] (r.logs.map logIt)]
def rcptIt (r : Rcpt) : It := It.mk true [] (rcptItems r)
theorem logsT_few : ∀ {l : List Log}, fewT l → (logsT l).length ≤ 5 * l.length
  | [], _ => by simp [logsT]
  | x :: l, h => by
    have h1 := h x (List.mem_cons_self ..)
    have h2 := logsT_few (l := l) (fun y hy => h y (List.mem_cons_of_mem _ hy))
    rw [logsT, List.flatMap_cons, List.length_append, logT_len, List.length_cons, show (l.flatMap logT).length = (logsT l).length from rfl]
    omega
theorem bloom_total {l : List Log} (h : fewT l) (hl : l.length ≤ 1099511627776) : ∃ b, receipt_BloomOf l = some b := by
  have := logsT_few h
  obtain ⟨b, hb, _⟩ := rbof_bits l (by omega)
  exact ⟨b, hb⟩
theorem checkl (r : Rcpt) : ∀ (d i k : Nat), i + d = r.logs.length → d < k → receipt_Check.l1 r k i = if ∃ x ∈ r.logs.drop i, 4 < x.topics.length then some (Lp.ret (some 174)) else some (Lp.go ())
  | 0, i, k, h, hk => by
    obtain ⟨k, rfl⟩ : ∃ m, k = m + 1 := ⟨k - 1, by omega⟩
    rw [receipt_Check.l1, if_neg (by omega), List.drop_eq_nil_of_le (by omega)]; simp
  | d + 1, i, k, h, hk => by
    obtain ⟨k, rfl⟩ : ∃ m, k = m + 1 := ⟨k - 1, by omega⟩
    have h1 : i < r.logs.length := by omega
    rw [receipt_Check.l1, if_pos h1, List.getElem?_eq_getElem h1, Option.bind_some, checkl r d (i + 1) k (by omega) (by omega), List.drop_eq_getElem_cons h1]
    by_cases e : 4 < (r.logs[i]).topics.length
    · rw [if_pos e, if_pos ⟨_, List.mem_cons_self .., e⟩]
    · rw [if_neg e]
      simp only [List.mem_cons, exists_eq_or_imp, e, false_or]
theorem check_char (r : Rcpt) (hl : r.logs.length ≤ 1099511627776) : ∃ e, receipt_Check r = some e ∧ (Valid r → e = 0) ∧ (e = 0 → Valid r) ∧ ((0 ≤ r.kind ∧ r.kind ≤ 4) → firstOk r.kind r.rooted r.root r.status → fewT r.logs → receipt_BloomOf r.logs ≠ some r.bloom → e = 173) := by
  unfold receipt_Check
  by_cases hk : r.kind < 0 ∨ 4 < r.kind
  · have h1 : (if r.kind < (0 : Int) then some true else some (decide ((4 : Int) < r.kind))) = some true := by
      by_cases h : r.kind < 0
      · rw [if_pos h]
      · rw [if_neg h]; simp; omega
    rw [h1, Option.bind_some, if_pos rfl]
    exact ⟨_, rfl, fun h => absurd h.1 (by omega), fun h => absurd h (by decide), fun h => absurd h (by omega)⟩
  have h1 : (if r.kind < (0 : Int) then some true else some (decide ((4 : Int) < r.kind))) = some false := by
    rw [if_neg (by omega)]; simp; omega
  rw [h1, Option.bind_some, if_neg (by decide)]
  have key : ∃ p : Bool, ((if r.rooted = true then (if r.kind = (0 : Int) then (if r.status = 0#64 then (if r.rooted = true then (some (false)) else (if r.root = (Vector.replicate 32 0#8) then (some ((decide (1 < r.status.toNat)))) else (some (true)))) else (some (true))) else (some (true))) else (if r.rooted = true then (some (false)) else (if r.root = (Vector.replicate 32 0#8) then (some ((decide (1 < r.status.toNat)))) else (some (true))))) : Option Bool) = some p ∧ (p = false ↔ firstOk r.kind r.rooted r.root r.status) := by
    unfold firstOk
    cases hr : r.rooted with
    | false =>
      rw [if_neg (by decide), if_neg (by decide)]
      by_cases h2 : r.root = Vector.replicate 32 0#8
      · rw [if_pos h2]
        refine ⟨_, rfl, ?_⟩
        simp [h2]
      · rw [if_neg h2]
        refine ⟨_, rfl, ?_⟩
        simp [h2]
    | true =>
      rw [if_pos rfl, if_pos rfl]
      by_cases h2 : r.kind = 0
      · rw [if_pos h2]
        by_cases h3 : r.status = 0#64
        · rw [if_pos h3]
          exact ⟨_, rfl, by simp [h2, h3]⟩
        · rw [if_neg h3]
          exact ⟨_, rfl, by simp [h2, h3]⟩
      · rw [if_neg h2]
        exact ⟨_, rfl, by simp [h2]⟩
  obtain ⟨p, hp1, hp2⟩ := key
  rw [hp1, Option.bind_some]
  by_cases hp : p = true
  · rw [if_pos hp]
    have hno : ¬ firstOk r.kind r.rooted r.root r.status := fun h => by have := hp2.2 h; rw [hp] at this; cases this
    exact ⟨_, rfl, fun h => absurd h.2.1 hno, fun h => absurd h (by decide), fun _ h => absurd h hno⟩
  · rw [if_neg hp]
    have hok := hp2.1 (by simpa using hp)
    rw [checkl r r.logs.length 0 _ (by omega) (by omega), List.drop_zero]
    by_cases ht : ∃ x ∈ r.logs, 4 < x.topics.length
    · rw [if_pos ht, Option.bind_some]
      obtain ⟨x, hx, hx4⟩ := ht
      have hno : ¬ fewT r.logs := fun h => by have := h x hx; omega
      exact ⟨_, rfl, fun h => absurd h.2.2.1 hno, fun h => absurd h (by decide), fun _ _ h => absurd h hno⟩
    · rw [if_neg ht, Option.bind_some]
      have hfew : fewT r.logs := fun x hx => by
        by_cases h4 : x.topics.length ≤ 4
        · exact h4
        · exact absurd ⟨x, hx, by omega⟩ ht
      obtain ⟨b, hb⟩ := bloom_total hfew hl
      dsimp only
      rw [hb, Option.bind_some]
      by_cases he : r.bloom = b
      · rw [if_pos he]
        exact ⟨_, rfl, fun _ => rfl, fun _ => ⟨by omega, hok, hfew, by rw [hb, he]⟩, fun _ _ _ h => absurd (by rw [he]) h⟩
      · rw [if_neg he]
        refine ⟨_, rfl, fun h => ?_, fun h => absurd h (by decide), fun _ _ _ _ => rfl⟩
        have := h.2.2.2
        rw [hb] at this
        exact absurd (Option.some.inj this).symm he
theorem rfields_char (k : Int) (f : List It) (h4 : f.length = 4) (hw : Its.wt f ≤ 2147483647) (hk : 0 ≤ k ∧ k ≤ 4) : ∃ x e, rfields k f = some (x, e) ∧ ((e = 0 ∧ x.kind = k ∧ Valid x ∧ f = rcptItems x) ∨ (e ≠ 0 ∧ x = Rcpt.zero ∧ ∀ y, y.kind = k → Valid y → f ≠ rcptItems y)) := by
  obtain ⟨x0, x1, x2, x3, rfl⟩ : ∃ x0 x1 x2 x3, f = [x0, x1, x2, x3] := by
    match f, h4 with
    | [a, b, c, d], _ => exact ⟨a, b, c, d, rfl⟩
  have w3 : It.wt x3 ≤ 2147483647 := by have := Its.wt_mem (l := [x0, x1, x2, x3]) (x := x3) (by simp); omega
  unfold rfields
  simp only [List.getElem?_cons_zero, List.getElem?_cons_succ, Option.bind_some]
  have hi : ∀ y, [x0, x1, x2, x3] = rcptItems y → x0 = firstIt y.rooted y.root y.status ∧ x1 = smallIt y.used ∧ x2 = tIt y.bloom.toList ∧ x3 = It.mk true [] (y.logs.map logIt) := fun y h => by
    unfold rcptItems at h
    simp only [List.cons.injEq, and_true] at h
    exact h
  obtain ⟨o, q1, h1, c1⟩ := routcome_char k x0
  have hkeep := (routcome_keep h1).1
  replace hkeep : o.kind = k := hkeep
  rw [h1, Option.bind_some]
  dsimp only
  rcases c1 with ⟨rfl, hok, hx0⟩ | ⟨rfl, hno⟩
  · obtain ⟨v, q2, h2, c2⟩ := (rsmall_char ⟨0⟩ o.used x1).2 rfl
    rw [h2, Option.bind_some]
    dsimp only
    rcases c2 with ⟨rfl, hx1⟩ | ⟨rfl, hno⟩
    · obtain ⟨bl, q3, h3, c3⟩ := (rbloom_char ⟨0⟩ o.bloom x2).2 rfl
      rw [h3, Option.bind_some]
      dsimp only
      rcases c3 with ⟨rfl, hx2⟩ | ⟨rfl, hno⟩
      · obtain ⟨ls, q4, h4, c4⟩ := (rlogs_char ⟨0⟩ x3 w3).2 rfl
        rw [h4, Option.bind_some]
        dsimp only
        rcases c4 with ⟨rfl, hx3, hfew⟩ | ⟨he, hno⟩
        · rw [if_pos rfl]
          have hlen : ls.length ≤ 1099511627776 := by
            have e1 := It.wt_eq x3
            have e2 : x3.items.length = ls.length := by rw [hx3]; simp [It.items]
            omega
          obtain ⟨b, hb⟩ := bloom_total hfew hlen
          rw [hb, Option.bind_some]
          by_cases he : bl = b
          · rw [if_pos he]
            exact ⟨_, _, rfl, .inl ⟨rfl, hkeep, ⟨by dsimp only; omega, by dsimp only; rw [hkeep]; exact hok, hfew, by rw [hb, he]⟩, by rw [hx0, hx1, hx2, hx3]; rfl⟩⟩
          · rw [if_neg he]
            refine ⟨_, _, rfl, .inr ⟨by decide, rfl, fun y hy hv hf => he ?_⟩⟩
            obtain ⟨_, _, e2, e3⟩ := hi y hf
            have e4 : ls = y.logs := by
              rw [hx3] at e3
              injection e3 with _ _ e3
              exact map_logIt_inj e3
            have e5 : bl = y.bloom := by rw [hx2] at e2; exact Vector.toList_inj.1 (tIt_inj e2)
            have := hv.2.2.2
            rw [← e4, hb] at this
            rw [e5, ← Option.some.inj this]
        · rw [if_neg he]
          exact ⟨_, _, rfl, .inr ⟨he, rfl, fun y hy hv hf => hno y.logs hv.2.2.1 (hi y hf).2.2.2⟩⟩
      · rw [(rlogs_char ⟨172⟩ x3 w3).1 (by decide), Option.bind_some]
        dsimp only
        rw [if_neg (by decide)]
        exact ⟨_, _, rfl, .inr ⟨by decide, rfl, fun y hy hv hf => hno y.bloom (hi y hf).2.2.1⟩⟩
    · rw [(rbloom_char ⟨172⟩ o.bloom x2).1 (by decide), Option.bind_some]
      dsimp only
      rw [(rlogs_char ⟨172⟩ x3 w3).1 (by decide), Option.bind_some]
      dsimp only
      rw [if_neg (by decide)]
      exact ⟨_, _, rfl, .inr ⟨by decide, rfl, fun y hy hv hf => hno y.used (hi y hf).2.1⟩⟩
  · rw [(rsmall_char ⟨172⟩ o.used x1).1 (by decide), Option.bind_some]
    dsimp only
    rw [(rbloom_char ⟨172⟩ o.bloom x2).1 (by decide), Option.bind_some]
    dsimp only
    rw [(rlogs_char ⟨172⟩ x3 w3).1 (by decide), Option.bind_some]
    dsimp only
    rw [if_neg (by decide)]
    exact ⟨_, _, rfl, .inr ⟨by decide, rfl, fun y hy hv hf => hno y.rooted y.root y.status (by have := hv.2.1; rwa [hy] at this) (hi y hf).1⟩⟩
theorem good_t (d : List (BitVec 8)) : (tIt d).good := by rw [It.good_eq]; exact ⟨(fun h => by cases h), (fun _ => rfl), by show Its.good []; simp [Its.good]⟩
theorem good_l {l : List It} (h : ∀ x ∈ l, x.good) : (It.mk true [] l).good := by
  rw [It.good_eq]
  refine ⟨(fun _ => rfl), (fun h => by cases h), ?_⟩
  show Its.good l
  induction l with
  | nil => simp [Its.good]
  | cons x l ih => rw [Its.good]; exact ⟨h x (List.mem_cons_self ..), ih fun y hy => h y (List.mem_cons_of_mem _ hy)⟩
theorem dep_le {l : List It} {n : Nat} (h : ∀ x ∈ l, x.dep ≤ n) : Its.dep l ≤ n := by
  induction l with
  | nil => simp [Its.dep]
  | cons x l ih =>
    rw [Its.dep]
    have := h x (List.mem_cons_self ..)
    have := ih fun y hy => h y (List.mem_cons_of_mem _ hy)
    omega
theorem dep_t (d : List (BitVec 8)) : (tIt d).dep = 0 := by rw [It.dep_eq]; rfl
theorem dep_l {l : List It} {n : Nat} (h : ∀ x ∈ l, x.dep ≤ n) : (It.mk true [] l).dep ≤ n + 1 := by
  rw [It.dep_eq]
  have := dep_le h
  show (if true = true then Its.dep l + 1 else 0) ≤ _
  rw [if_pos rfl]; omega
theorem w9_t (d : List (BitVec 8)) : (tIt d).w9 = 9 + d.length := by rw [It.w9_eq]; show 9 + d.length + Its.w9 [] = _; simp [Its.w9]
theorem w9_l (l : List It) : (It.mk true [] l).w9 = 9 + Its.w9 l := by rw [It.w9_eq]; show 9 + 0 + Its.w9 l = _; omega
theorem w9_hs (l : List (Vector (BitVec 8) 32)) : Its.w9 (l.map fun h => tIt h.toList) = 41 * l.length := by
  induction l with
  | nil => rfl
  | cons x l ih => rw [List.map_cons, Its.w9, w9_t, ih, Vector.length_toList, List.length_cons]; omega
def szL (x : Log) : Nat := 56 + 41 * x.topics.length + x.data.length
theorem w9_log (x : Log) : (logIt x).w9 = szL x := by
  unfold logIt szL
  rw [w9_l, Its.w9, Its.w9, Its.w9, Its.w9, w9_t, w9_t, w9_l, w9_hs, Vector.length_toList]; omega
theorem w9_logs (l : List Log) : Its.w9 (l.map logIt) = (l.map szL).sum := by
  induction l with
  | nil => rfl
  | cons x l ih => rw [List.map_cons, Its.w9, w9_log, ih, List.map_cons, List.sum_cons]
theorem good_log (x : Log) : (logIt x).good := by
  refine good_l fun y hy => ?_
  simp only [List.mem_cons, List.not_mem_nil, or_false] at hy
  rcases hy with rfl | rfl | rfl
  · exact good_t _
  · refine good_l fun z hz => ?_
    obtain ⟨h, _, rfl⟩ := List.mem_map.1 hz
    exact good_t _
  · exact good_t _
theorem dep_log (x : Log) : (logIt x).dep ≤ 2 := by
  refine dep_l (n := 1) fun y hy => ?_
  simp only [List.mem_cons, List.not_mem_nil, or_false] at hy
  rcases hy with rfl | rfl | rfl
  · rw [dep_t]; omega
  · refine dep_l (n := 0) fun z hz => ?_
    obtain ⟨h, _, rfl⟩ := List.mem_map.1 hz
    rw [dep_t]; omega
  · rw [dep_t]; omega
theorem first_t (ro : Bool) (rt : Vector (BitVec 8) 32) (st : BitVec 64) : ∃ d, firstIt ro rt st = tIt d ∧ d.length ≤ 32 := by
  unfold firstIt
  split
  · exact ⟨_, rfl, by rw [Vector.length_toList]; omega⟩
  · exact ⟨_, rfl, by rw [bytesN_length]; have := nb_8 st.isLt; omega⟩
theorem good_rcpt (r : Rcpt) : (rcptIt r).good := by
  refine good_l fun y hy => ?_
  simp only [rcptItems, List.mem_cons, List.not_mem_nil, or_false] at hy
  rcases hy with rfl | rfl | rfl | rfl
  · obtain ⟨d, h, _⟩ := first_t r.rooted r.root r.status
    rw [h]; exact good_t _
  · exact good_t _
  · exact good_t _
  · refine good_l fun z hz => ?_
    obtain ⟨h, _, rfl⟩ := List.mem_map.1 hz
    exact good_log _
theorem dep_rcpt (r : Rcpt) : (rcptIt r).dep ≤ 4 := by
  refine dep_l (n := 3) fun y hy => ?_
  simp only [rcptItems, List.mem_cons, List.not_mem_nil, or_false] at hy
  rcases hy with rfl | rfl | rfl | rfl
  · obtain ⟨d, h, _⟩ := first_t r.rooted r.root r.status
    rw [h, dep_t]; omega
  · show (tIt _).dep ≤ 3; rw [dep_t]; omega
  · rw [dep_t]; omega
  · refine dep_l (n := 2) fun z hz => ?_
    obtain ⟨h, _, rfl⟩ := List.mem_map.1 hz
    exact dep_log _
theorem w9_rcpt (r : Rcpt) : (rcptIt r).w9 ≤ 350 + (r.logs.map szL).sum := by
  obtain ⟨d, h, hd⟩ := first_t r.rooted r.root r.status
  have h8 : (bytesN r.used.toNat).length ≤ 8 := by rw [bytesN_length]; exact nb_8 r.used.isLt
  unfold rcptIt rcptItems
  rw [w9_l, Its.w9, Its.w9, Its.w9, Its.w9, Its.w9, h, w9_t, w9_t, w9_l, w9_logs, Vector.length_toList]
  unfold smallIt
  rw [w9_t]; omega
end Go.Fw
namespace Go.Fw
set_option linter.unusedVariables false
set_option linter.unusedSimpArgs false
set_option maxRecDepth 10000
def encR (r : Rcpt) : List (BitVec 8) := if r.kind = 0 then (rcptIt r).enc else BitVec.ofInt 8 r.kind :: (rcptIt r).enc
theorem rcptIt_inj {a b : Rcpt} (hk : a.kind = b.kind) (ha : Valid a) (hb : Valid b) (h : rcptItems a = rcptItems b) : a = b := by
  obtain ⟨a1, a2, a3, a4, a5, a6, a7⟩ := a
  obtain ⟨b1, b2, b3, b4, b5, b6, b7⟩ := b
  dsimp only at hk
  subst hk
  unfold rcptItems at h
  simp only [List.cons.injEq, and_true] at h
  obtain ⟨h1, h2, h3, h4⟩ := h
  obtain ⟨e1, e2, e3⟩ := firstIt_inj ha.2.1 hb.2.1 h1
  dsimp only at e1 e2 e3
  subst e1 e2 e3
  obtain rfl := smallIt_inj h2
  obtain rfl : a6 = b6 := Vector.toList_inj.1 (tIt_inj h3)
  injection h4 with _ _ h4
  obtain rfl := map_logIt_inj h4
  rfl
theorem getlist_char (x : It) (hw : x.wt ≤ 2147483647) : ∃ l e, rlp_GetList x = some (l, e) ∧ ((e = 0 ∧ x = It.mk true [] l) ∨ (e ≠ 0 ∧ ∀ l, x ≠ It.mk true [] l)) := by
  have hwt := It.wt_eq x
  obtain ⟨_, ⟨e, h1, h2⟩⟩ := kind_spec x
  unfold rlp_GetList
  rw [h1, Option.bind_some]
  by_cases he : e = 0
  · rw [if_pos he, twin_eq (by omega), Option.bind_some]
    exact ⟨_, _, rfl, .inl ⟨rfl, isL_iff.1 (h2.1 he)⟩⟩
  · rw [if_neg he]
    exact ⟨_, _, rfl, .inr ⟨he, fun l hl => he (h2.2 (by rw [hl]; rfl))⟩⟩
theorem decode2_char (k : Int) (d : List (BitVec 8)) (hk : 0 ≤ k ∧ k ≤ 4) : ∃ x e, rdecode2 k d = some (x, e) ∧ ((e = 0 ∧ x.kind = k ∧ Valid x ∧ d = (rcptIt x).enc ∧ d.length ≤ 16777216 ∧ (rcptIt x).w9 ≤ 10 * d.length) ∨ (e ≠ 0 ∧ x = Rcpt.zero ∧ ∀ y, y.kind = k → Valid y → d.length ≤ 16777216 → (rcptIt y).w9 ≤ 1099511627776 → d ≠ (rcptIt y).enc)) := by
  unfold rdecode2
  rw [decode_eq, Option.bind_some]
  generalize hq : decodeR d = q
  obtain ⟨it, e⟩ := q
  have key : ∀ y, y.kind = k → Valid y → d.length ≤ 16777216 → (rcptIt y).w9 ≤ 1099511627776 → d = (rcptIt y).enc → it = rcptIt y ∧ e = 0 := fun y hy hv hl hw hd => by
    have := decode_enc_big (good_rcpt y) (by have := dep_rcpt y; omega) hw (by rw [← hd]; exact hl)
    rw [← hd, hq] at this
    exact ⟨(Prod.mk.inj this).1, (Prod.mk.inj this).2⟩
  rcases decode_back hq with ⟨he, rfl⟩ | ⟨rfl, hg, hd, hl, hdep, hw⟩
  · dsimp only
    rw [if_neg he]
    exact ⟨_, _, rfl, .inr ⟨by omega, rfl, fun y hy hv hl hw hd => he (key y hy hv hl hw hd).2⟩⟩
  · dsimp only
    rw [if_pos rfl]
    have hwt := It.wt_w9 it
    obtain ⟨l, e2, h1, h2⟩ := getlist_char it (by omega)
    rw [h1, Option.bind_some]
    rcases h2 with ⟨rfl, hit⟩ | ⟨he2, hno⟩
    · by_cases h4 : l.length = 4
      · rw [if_pos ⟨rfl, h4⟩]
        have hwl : Its.wt l ≤ 2147483647 := by
          have := It.wt_eq it
          rw [hit] at this hwt
          simp only [It.items] at this
          rw [hit] at hw
          omega
        obtain ⟨x, e, h3, c⟩ := rfields_char k l h4 hwl hk
        refine ⟨x, e, h3, ?_⟩
        rcases c with ⟨c1, c2, c3, c4⟩ | ⟨c1, c2, c3⟩
        · refine .inl ⟨c1, c2, c3, ?_, hl, ?_⟩
          · rw [hd, hit, c4]; rfl
          · have : rcptIt x = it := by rw [hit, c4]; rfl
            rw [this]; exact hw
        · refine .inr ⟨c1, c2, fun y hy hv hl hw hd => c3 y hy hv ?_⟩
          have := (key y hy hv hl hw hd).1
          rw [hit] at this
          injection this
      · rw [if_neg (fun h => h4 h.2)]
        refine ⟨_, _, rfl, .inr ⟨by decide, rfl, fun y hy hv hl hw hd => h4 ?_⟩⟩
        have := (key y hy hv hl hw hd).1
        rw [hit] at this
        injection this with _ _ this
        rw [this]; rfl
    · rw [if_neg (fun h => he2 h.1)]
      exact ⟨_, _, rfl, .inr ⟨by decide, rfl, fun y hy hv hl hw hd => hno _ (key y hy hv hl hw hd).1⟩⟩
theorem enc_pos {x : It} (hw : x.w9 ≤ 1099511627776) : 0 < x.enc.length := (It.enc_le x hw).2
theorem decode_char (d : List (BitVec 8)) : ∃ x e, receipt_Decode d = some (x, e) ∧ ((e = 0 ∧ Valid x ∧ d = encR x ∧ d.length ≤ 16777216 ∧ (rcptIt x).w9 ≤ 10 * d.length) ∨ (e ≠ 0 ∧ x = Rcpt.zero ∧ ∀ y, Valid y → d.length ≤ 16777216 → (rcptIt y).w9 ≤ 1099511627776 → d ≠ encR y)) := by
  unfold receipt_Decode
  by_cases h1 : 16777216 < d.length
  · rw [if_pos h1]
    exact ⟨_, _, rfl, .inr ⟨by decide, rfl, fun y _ hl => by omega⟩⟩
  rw [if_neg h1]
  by_cases h0 : d.length = 0
  · rw [if_pos h0]
    refine ⟨_, _, rfl, .inr ⟨by decide, rfl, fun y hv hl hw hd => ?_⟩⟩
    have := enc_pos hw
    rw [hd] at h0
    unfold encR at h0
    split at h0
    · omega
    · rw [List.length_cons] at h0; omega
  rw [if_neg h0]
  obtain ⟨b, rest, rfl⟩ : ∃ b rest, d = b :: rest := by
    cases d with
    | nil => exact absurd rfl h0
    | cons b r => exact ⟨b, r, rfl⟩
  rw [List.getElem?_cons_zero, Option.bind_some]
  have hd0 : ∀ y, Valid y → (b :: rest).length ≤ 16777216 → (rcptIt y).w9 ≤ 1099511627776 → b :: rest = encR y → (y.kind = 0 ∧ 192 ≤ b.toNat ∧ b :: rest = (rcptIt y).enc) ∨ (1 ≤ y.kind ∧ y.kind ≤ 4 ∧ (b.toNat : Int) = y.kind ∧ rest = (rcptIt y).enc) := fun y hv hl hw hd => by
    unfold encR at hd
    by_cases hk : y.kind = 0
    · rw [if_pos hk] at hd
      obtain ⟨c, hc, hc2⟩ := enc_list_head (x := rcptIt y) rfl (by rw [← hd]; exact hl)
      rw [← hd, List.getElem?_cons_zero] at hc
      obtain rfl := Option.some.inj hc
      exact .inl ⟨hk, hc2, hd⟩
    · rw [if_neg hk] at hd
      obtain ⟨e1, e2⟩ := List.cons.inj hd
      have hk4 := hv.1
      refine .inr ⟨by omega, hk4.2, ?_, e2⟩
      rw [e1]
      have : y.kind = 1 ∨ y.kind = 2 ∨ y.kind = 3 ∨ y.kind = 4 := by omega
      rcases this with h | h | h | h <;> rw [h] <;> rfl
  unfold dkind
  by_cases h192 : 192 ≤ b.toNat
  · rw [if_pos h192]
    obtain ⟨x, e, h3, c⟩ := decode2_char 0 (b :: rest) (by omega)
    refine ⟨x, e, h3, ?_⟩
    rcases c with ⟨c1, c2, c3, c4, c5, c6⟩ | ⟨c1, c2, c3⟩
    · exact .inl ⟨c1, c3, by unfold encR; rw [if_pos c2]; exact c4, c5, c6⟩
    · refine .inr ⟨c1, c2, fun y hv hl hw hd => ?_⟩
      rcases hd0 y hv hl hw hd with ⟨e1, e2, e3⟩ | ⟨e1, e2, e3, e4⟩
      · exact c3 y e1 hv hl hw e3
      · omega
  · rw [if_neg h192]
    by_cases h14 : 1 ≤ b.toNat ∧ b.toNat ≤ 4
    · rw [if_pos h14]
      obtain ⟨x, e, h3, c⟩ := decode2_char (b.toNat : Int) rest (by omega)
      refine ⟨x, e, h3, ?_⟩
      rcases c with ⟨c1, c2, c3, c4, c5, c6⟩ | ⟨c1, c2, c3⟩
      · refine .inl ⟨c1, c3, ?_, by omega, by rw [List.length_cons]; omega⟩
        unfold encR
        rw [if_neg (by omega), c2, ← c4]
        congr 1
        have hb := b.isLt
        apply BitVec.eq_of_toNat_eq
        rw [BitVec.toNat_ofInt]
        omega
      · refine .inr ⟨c1, c2, fun y hv hl hw hd => ?_⟩
        rcases hd0 y hv hl hw hd with ⟨e1, e2, e3⟩ | ⟨e1, e2, e3, e4⟩
        · omega
        · exact c3 y e3.symm hv (by rw [List.length_cons] at hl; omega) hw e4
    · rw [if_neg h14]
      refine ⟨_, _, rfl, .inr ⟨by decide, rfl, fun y hv hl hw hd => ?_⟩⟩
      rcases hd0 y hv hl hw hd with ⟨e1, e2, e3⟩ | ⟨e1, e2, e3, e4⟩
      · omega
      · exact h14 (by omega)
theorem logitem_loop (x : Log) (hx : x.topics.length ≤ 4) : ∀ (d i k : Nat) (l : List It), i + d = x.topics.length → d < k → l.length ≤ i → receipt_LogItem.l1 x k l i = some (l ++ (x.topics.drop i).map fun h => tIt h.toList)
  | 0, i, k, l, h, hk, hl => by
    obtain ⟨k, rfl⟩ : ∃ m, k = m + 1 := ⟨k - 1, by omega⟩
    rw [receipt_LogItem.l1, if_neg (by omega), List.drop_eq_nil_of_le (by omega)]; simp
  | d + 1, i, k, l, h, hk, hl => by
    obtain ⟨k, rfl⟩ : ∃ m, k = m + 1 := ⟨k - 1, by omega⟩
    have h1 : i < x.topics.length := by omega
    rw [receipt_LogItem.l1, if_pos h1, List.getElem?_eq_getElem h1, Option.bind_some, text_eq, Option.bind_some, if_pos (by rw [List.length_singleton]; omega), logitem_loop x hx d (i + 1) k _ (by omega) (by omega) (by rw [List.length_append, List.length_singleton]; omega), List.drop_eq_getElem_cons h1, List.map_cons, List.append_assoc]
    rfl
theorem wt_le_w9 : ∀ l : List It, Its.wt l ≤ Its.w9 l := fun l => by have := Its.wt_w9 l; omega
theorem logitem_char (x : Log) (hx : x.topics.length ≤ 4) (hd : x.data.length ≤ 1073741824) : receipt_LogItem x = some (if (logIt x).enc.length ≤ 16777216 then (logIt x, 0) else (It.zero, 2)) := by
  have hw := w9_log x
  unfold szL at hw
  unfold receipt_LogItem
  rw [if_neg (by omega), logitem_loop x hx x.topics.length 0 _ [] (by omega) (by omega) (by simp), Option.bind_some, text_eq, Option.bind_some, List.nil_append, List.drop_zero]
  have h1 := w9_hs x.topics
  rw [list_eq (by have := wt_le_w9 (x.topics.map fun h => tIt h.toList); omega), Option.bind_some, text_eq, Option.bind_some]
  have h2 : Its.wt [It.mk false x.address.toList [], It.mk true [] (x.topics.map fun h => tIt h.toList), It.mk false x.data []] ≤ 2147483647 := by
    have h3 := wt_le_w9 [tIt x.address.toList, It.mk true [] (x.topics.map fun h => tIt h.toList), tIt x.data]
    have h4 : Its.w9 [tIt x.address.toList, It.mk true [] (x.topics.map fun h => tIt h.toList), tIt x.data] + 9 = szL x := by rw [← w9_log, logIt, w9_l]; omega
    unfold szL at h4
    exact Nat.le_trans h3 (by omega)
  rw [list_eq h2, Option.bind_some]
  show (rlp_Size (logIt x)).bind _ = _
  have hdep := dep_log x
  by_cases hl : (logIt x).enc.length ≤ 16777216
  · rw [size_gen (good_log x) (by omega) (by omega) hl, Option.bind_some]; dsimp only; rw [if_pos rfl, if_pos hl]; rfl
  · rw [size_long (good_log x) (by omega) (by omega) (by omega), Option.bind_some]; dsimp only; rw [if_neg (by decide), if_neg hl]
theorem logs_enc_mem {l : List Log} {x : Log} (h : x ∈ l) : (logIt x).enc.length ≤ (Its.enc (l.map logIt)).length := by
  induction l with
  | nil => cases h
  | cons y l ih =>
    rw [List.map_cons, Its.enc, List.length_append]
    rcases List.mem_cons.1 h with rfl | h
    · omega
    · have := ih h; omega
theorem encode_loop (r : Rcpt) (hf : fewT r.logs) (hd : ∀ x ∈ r.logs, x.data.length ≤ 1073741824) (hn : r.logs.length ≤ 1073741824) : ∀ (d i k : Nat) (l : List It), i + d = r.logs.length → d < k → l.length ≤ i →
    receipt_Encode.l1 r k l i = if ∀ x ∈ r.logs.drop i, (logIt x).enc.length ≤ 16777216 then some (Lp.go (l ++ (r.logs.drop i).map logIt)) else some (Lp.ret (some ([], 2)))
  | 0, i, k, l, h, hk, hl => by
    obtain ⟨k, rfl⟩ : ∃ m, k = m + 1 := ⟨k - 1, by omega⟩
    rw [receipt_Encode.l1, if_neg (by omega), List.drop_eq_nil_of_le (by omega)]; simp
  | d + 1, i, k, l, h, hk, hl => by
    obtain ⟨k, rfl⟩ : ∃ m, k = m + 1 := ⟨k - 1, by omega⟩
    have h1 : i < r.logs.length := by omega
    have hm := List.getElem_mem h1
    rw [receipt_Encode.l1, if_pos h1, List.getElem?_eq_getElem h1, Option.bind_some, logitem_char _ (hf _ hm) (hd _ hm), Option.bind_some, List.drop_eq_getElem_cons h1]
    by_cases he : (logIt r.logs[i]).enc.length ≤ 16777216
    · rw [if_pos he]
      dsimp only
      rw [if_pos rfl, if_pos (by rw [List.length_singleton]; omega), encode_loop r hf hd hn d (i + 1) k _ (by omega) (by omega) (by rw [List.length_append, List.length_singleton]; omega)]
      by_cases ha : ∀ x ∈ r.logs.drop (i + 1), (logIt x).enc.length ≤ 16777216
      · rw [if_pos ha, if_pos (fun x hx => by rcases List.mem_cons.1 hx with rfl | hx; exact he; exact ha x hx), List.map_cons, List.append_assoc]; rfl
      · rw [if_neg ha, if_neg (fun h => ha fun x hx => h x (List.mem_cons_of_mem _ hx))]
    · rw [if_neg he]
      dsimp only
      rw [if_neg (by decide), if_neg (fun h => he (h _ (List.mem_cons_self ..)))]
theorem encR_length (r : Rcpt) : (encR r).length = (rcptIt r).enc.length + if r.kind = 0 then 0 else 1 := by
  unfold encR
  split
  · rfl
  · rw [List.length_cons]
theorem encode_char (r : Rcpt) (hv : Valid r) (hd : ∀ x ∈ r.logs, x.data.length ≤ 1073741824) (hn : (r.logs.map szL).sum ≤ 2147480000) : receipt_Encode r = some (if (encR r).length ≤ 16777216 then (encR r, 0) else ([], 2)) := by
  have hlen : r.logs.length * 56 ≤ (r.logs.map szL).sum := by
    clear hn hd hv
    generalize r.logs = l
    induction l with
    | nil => simp
    | cons x l ih => rw [List.length_cons, List.map_cons, List.sum_cons]; unfold szL at ih ⊢; omega
  have hw := w9_rcpt r
  have hdep := dep_rcpt r
  obtain ⟨e, hc, hc0, _⟩ := check_char r (by omega)
  have he := hc0 hv
  subst he
  unfold receipt_Encode
  rw [hc, Option.bind_some, if_pos rfl, rsmall_it, Option.bind_some]
  have hfirst : ((if r.rooted = true then ((rlp_Text r.root.toList).bind fun x298 => (some (((x298.list), x298.data, x298.items)))) else (some ((((smallIt r.status).list), (smallIt r.status).data, (smallIt r.status).items)))) : Option ((Bool) × (List (BitVec 8)) × (List (It)))) = some ((firstIt r.rooted r.root r.status).list, (firstIt r.rooted r.root r.status).data, (firstIt r.rooted r.root r.status).items) := by
    unfold firstIt
    split
    · rw [text_eq]; rfl
    · rfl
  rw [hfirst, Option.bind_some]
  dsimp only
  rw [encode_loop r hv.2.2.1 hd (by omega) r.logs.length 0 _ [] (by omega) (by omega) (by simp), List.drop_zero]
  have henc : (Its.enc (r.logs.map logIt)).length ≤ (rcptIt r).enc.length := by
    have e1 : (rcptIt r).enc = headB 192 (Its.enc (rcptItems r)).length ++ Its.enc (rcptItems r) := by rw [It.enc_eq]; rfl
    rw [e1]
    unfold rcptItems
    simp only [Its.enc, List.length_append]
    have e2 : (It.mk true [] (r.logs.map logIt)).enc = headB 192 (Its.enc (r.logs.map logIt)).length ++ Its.enc (r.logs.map logIt) := by rw [It.enc_eq]; rfl
    rw [e2, List.length_append]; omega
  have hwl : Its.wt (r.logs.map logIt) ≤ 2147483647 := by
    have := wt_le_w9 (r.logs.map logIt)
    rw [w9_logs] at this; omega
  have hwi : Its.wt (rcptItems r) ≤ 2147483647 := by
    have h1 := wt_le_w9 (rcptItems r)
    have h2 : (rcptIt r).w9 = 9 + Its.w9 (rcptItems r) := w9_l _
    omega
  by_cases ha : ∀ x ∈ r.logs, (logIt x).enc.length ≤ 16777216
  · rw [if_pos ha, Option.bind_some]
    dsimp only
    rw [rsmall_it, Option.bind_some, text_eq, Option.bind_some, List.nil_append, list_eq hwl, Option.bind_some]
    have hl2 : rlp_List [It.mk (firstIt r.rooted r.root r.status).list (firstIt r.rooted r.root r.status).data (firstIt r.rooted r.root r.status).items, smallIt r.used, It.mk false r.bloom.toList [], It.mk true [] (r.logs.map logIt)] = some (rcptIt r) := by
      rw [show It.mk (firstIt r.rooted r.root r.status).list (firstIt r.rooted r.root r.status).data (firstIt r.rooted r.root r.status).items = firstIt r.rooted r.root r.status from (It.eta _).symm]
      exact list_eq hwi
    rw [hl2, Option.bind_some]
    have hel := encR_length r
    by_cases hl : (rcptIt r).enc.length ≤ 16777216
    · rw [encode_gen (good_rcpt r) (by omega) (by omega) hl, Option.bind_some]
      dsimp only
      rw [if_pos rfl]
      by_cases hk : r.kind = 0
      · rw [if_pos hk] at hel
        rw [if_pos hk, Option.bind_some, if_neg (by omega), if_pos (by omega)]
        unfold encR
        rw [if_pos hk]
      · rw [if_neg hk] at hel
        rw [if_neg hk, if_pos (by rw [List.length_singleton]; omega), Option.bind_some]
        have hcons : [BitVec.ofInt 8 r.kind] ++ (rcptIt r).enc = encR r := by unfold encR; rw [if_neg hk]; rfl
        rw [hcons]
        by_cases h2 : (encR r).length ≤ 16777216
        · rw [if_neg (by omega), if_pos h2]
        · rw [if_pos (by omega), if_neg h2]
    · rw [encode_long (good_rcpt r) (by omega) (by omega) (by omega), Option.bind_some]
      dsimp only
      rw [if_neg (by decide), if_neg (by omega)]
  · rw [if_neg ha, Option.bind_some]
    have hel := encR_length r
    rw [if_neg (fun h => ha fun x hx => by have := logs_enc_mem hx; omega)]
end Go.Fw
namespace Go.Fw
set_option linter.unusedVariables false
set_option linter.unusedSimpArgs false
set_option maxRecDepth 10000
theorem same17_loop (a : List (BitVec 8)) : ∀ (d i k : Nat), i + d = a.length → d < k → waybilllaw17_same.l1 a a k i = some (Lp.go ())
  | 0, i, k, h, hk => by
    obtain ⟨k, rfl⟩ : ∃ m, k = m + 1 := ⟨k - 1, by omega⟩
    rw [waybilllaw17_same.l1, if_neg (by omega)]
  | d + 1, i, k, h, hk => by
    obtain ⟨k, rfl⟩ : ∃ m, k = m + 1 := ⟨k - 1, by omega⟩
    have h1 : i < a.length := by omega
    rw [waybilllaw17_same.l1, if_pos h1, List.getElem?_eq_getElem h1, Option.bind_some, Option.bind_some, if_pos rfl, same17_loop a d (i + 1) k (by omega) (by omega)]
theorem same17 (a : List (BitVec 8)) : waybilllaw17_same a a = some true := by
  unfold waybilllaw17_same
  rw [if_pos rfl, same17_loop a a.length 0 _ (by omega) (by omega), Option.bind_some]
theorem sameLog_loop (a : Log) : ∀ (d i k : Nat), i + d = a.topics.length → d < k → waybilllaw17_sameLog.l1 a a k i = some (Lp.go ())
  | 0, i, k, h, hk => by
    obtain ⟨k, rfl⟩ : ∃ m, k = m + 1 := ⟨k - 1, by omega⟩
    rw [waybilllaw17_sameLog.l1, if_neg (by omega)]
  | d + 1, i, k, h, hk => by
    obtain ⟨k, rfl⟩ : ∃ m, k = m + 1 := ⟨k - 1, by omega⟩
    have h1 : i < a.topics.length := by omega
    rw [waybilllaw17_sameLog.l1, if_pos h1, List.getElem?_eq_getElem h1, Option.bind_some, Option.bind_some, if_pos rfl, sameLog_loop a d (i + 1) k (by omega) (by omega)]
theorem sameLog_refl (a : Log) : waybilllaw17_sameLog a a = some true := by
  unfold waybilllaw17_sameLog
  rw [if_pos rfl, Option.bind_some, if_neg (by simp), sameLog_loop a a.topics.length 0 _ (by omega) (by omega), Option.bind_some]
  dsimp only
  rw [same17, Option.bind_some]
theorem sameLogs_loop (a : List Log) : ∀ (d i k : Nat), i + d = a.length → d < k → waybilllaw17_sameLogs.l1 a a k i = some (Lp.go ())
  | 0, i, k, h, hk => by
    obtain ⟨k, rfl⟩ : ∃ m, k = m + 1 := ⟨k - 1, by omega⟩
    rw [waybilllaw17_sameLogs.l1, if_neg (by omega)]
  | d + 1, i, k, h, hk => by
    obtain ⟨k, rfl⟩ : ∃ m, k = m + 1 := ⟨k - 1, by omega⟩
    have h1 : i < a.length := by omega
    rw [waybilllaw17_sameLogs.l1, if_pos h1, List.getElem?_eq_getElem h1, Option.bind_some, Option.bind_some, sameLog_refl, Option.bind_some, if_pos rfl, sameLogs_loop a d (i + 1) k (by omega) (by omega)]
theorem sameLogs_refl (a : List Log) : waybilllaw17_sameLogs a a = some true := by
  unfold waybilllaw17_sameLogs
  rw [if_pos rfl, sameLogs_loop a a.length 0 _ (by omega) (by omega), Option.bind_some]
theorem sameRcpt_refl (a : Rcpt) : waybilllaw17_sameReceipt a a = some true := by
  unfold waybilllaw17_sameReceipt
  rw [if_pos rfl, if_pos rfl, if_pos rfl, if_pos rfl, Option.bind_some, if_neg (by simp), if_pos rfl, sameLogs_refl]; rfl
theorem num17 (x : Int) : waybilllaw17_num x = some x := by unfold waybilllaw17_num; rfl
theorem encR_inj {a b : Rcpt} (ha : Valid a) (hb : Valid b) (hl : (encR a).length ≤ 16777216) (hwa : (rcptIt a).w9 ≤ 1099511627776) (hwb : (rcptIt b).w9 ≤ 1099511627776) (h : encR a = encR b) : a = b := by
  have same : ∀ {a b : Rcpt}, Valid a → Valid b → a.kind = b.kind → (rcptIt a).enc.length ≤ 16777216 → (rcptIt a).w9 ≤ 1099511627776 → (rcptIt b).w9 ≤ 1099511627776 → (rcptIt a).enc = (rcptIt b).enc → a = b := fun {a b} ha hb hk hl hwa hwb h => by
    have h1 := decode_enc_big (good_rcpt a) (by have := dep_rcpt a; omega) hwa hl
    have h2 := decode_enc_big (good_rcpt b) (by have := dep_rcpt b; omega) hwb (by rw [← h]; exact hl)
    rw [h, h2] at h1
    have h3 := (Prod.mk.inj h1).1
    unfold rcptIt at h3
    injection h3 with _ _ h3
    exact rcptIt_inj hk ha hb h3.symm
  have cross : ∀ {a b : Rcpt}, Valid b → a.kind = 0 → b.kind ≠ 0 → (encR a).length ≤ 16777216 → encR a ≠ encR b := fun {a b} hb hka hkb hl h => by
    have e1 : encR a = (rcptIt a).enc := by unfold encR; rw [if_pos hka]
    obtain ⟨c, hc, hc2⟩ := enc_list_head (x := rcptIt a) rfl (by rw [← e1]; exact hl)
    rw [← e1, h] at hc
    unfold encR at hc
    rw [if_neg hkb, List.getElem?_cons_zero] at hc
    obtain rfl := Option.some.inj hc
    have := hb.1
    have h4 : b.kind = 1 ∨ b.kind = 2 ∨ b.kind = 3 ∨ b.kind = 4 := by omega
    rcases h4 with h | h | h | h <;> rw [h] at hc2 <;> exact absurd hc2 (by decide)
  by_cases hka : a.kind = 0
  · by_cases hkb : b.kind = 0
    · unfold encR at h hl
      rw [if_pos hka] at h hl
      rw [if_pos hkb] at h
      exact same ha hb (hka.trans hkb.symm) hl hwa hwb h
    · exact absurd h (cross hb hka hkb hl)
  · by_cases hkb : b.kind = 0
    · exact absurd h.symm (cross ha hkb hka (by rw [← h]; exact hl))
    · unfold encR at h hl
      rw [if_neg hka] at h hl
      rw [if_neg hkb] at h
      obtain ⟨e1, e2⟩ := List.cons.inj h
      rw [List.length_cons] at hl
      have h1 := ha.1
      have h2 := hb.1
      have hk : a.kind = b.kind := by
        have h4 : a.kind = 1 ∨ a.kind = 2 ∨ a.kind = 3 ∨ a.kind = 4 := by omega
        have h5 : b.kind = 1 ∨ b.kind = 2 ∨ b.kind = 3 ∨ b.kind = 4 := by omega
        rcases h4 with h | h | h | h <;> rcases h5 with h' | h' | h' | h' <;> rw [h, h'] at e1 ⊢ <;> first | rfl | exact absurd e1 (by decide)
      exact same ha hb hk (by omega) hwa hwb e2
theorem decode_encR {r : Rcpt} (hv : Valid r) (hl : (encR r).length ≤ 16777216) (hw : (rcptIt r).w9 ≤ 1099511627776) : receipt_Decode (encR r) = some (r, 0) := by
  obtain ⟨x, e, h, c⟩ := decode_char (encR r)
  rcases c with ⟨rfl, hx, hd, hl2, hwx⟩ | ⟨_, _, hno⟩
  · rw [h, encR_inj hv hx hl hw (by omega) hd]
  · exact absurd rfl (hno r hv hl hw)
theorem mem_le_sum {l : List Log} {y : Log} (h : y ∈ l) : szL y ≤ (l.map szL).sum := by
  induction l with
  | nil => cases h
  | cons a l ih =>
    rw [List.map_cons, List.sum_cons]
    rcases List.mem_cons.1 h with rfl | h
    · omega
    · have := ih h; omega
def zR : Rcpt := ⟨0, false, Vector.replicate 32 0#8, 1#64, 21000#64, Vector.replicate 256 0#8, []⟩
theorem bloomOf_nil : receipt_BloomOf [] = some (Vector.replicate 256 0#8) := by
  obtain ⟨b, h1, _, h2⟩ := rbof_bits [] (by simp [logsT])
  rw [h1, h2 rfl]
theorem zR_valid : Valid zR := ⟨by show (0 : Int) ≤ 0 ∧ (0 : Int) ≤ 4; omega, ⟨(fun h => by cases h), (fun _ => ⟨rfl, (by show (1#64).toNat ≤ 1; decide)⟩)⟩, (fun x hx => by cases hx), bloomOf_nil⟩
theorem enc_t (d : List (BitVec 8)) : (tIt d).enc = if oneB d = true then d else headB 128 d.length ++ d := by rw [It.enc_eq]; rfl
theorem enc_l (l : List It) : (It.mk true [] l).enc = headB 192 (Its.enc l).length ++ Its.enc l := by rw [It.enc_eq]; rfl
theorem zR_len : (encR zR).length = 267 := by
  have h1 : (smallIt 1#64).enc.length = 1 := by rw [small1, enc_t]; decide
  have h2 : (smallIt 21000#64).enc.length = 3 := by
    have : smallIt 21000#64 = tIt [82#8, 8#8] := congrArg tIt (show bytesN (21000#64).toNat = [82#8, 8#8] by decide)
    rw [this, enc_t]; decide
  have h3 : (tIt (Vector.replicate 256 0#8).toList).enc.length = 259 := by
    have e : (Vector.replicate 256 0#8).toList.length = 256 := Vector.length_toList
    rw [enc_t, if_neg (by unfold oneB; rw [e]; decide), List.length_append, e]
    decide
  have h4 : (It.mk true [] (([] : List Log).map logIt)).enc.length = 1 := by rw [enc_l]; decide
  have h5 : (Its.enc (rcptItems zR)).length = 264 := by
    unfold rcptItems firstIt
    show (Its.enc [if false = true then _ else smallIt 1#64, smallIt 21000#64, tIt (Vector.replicate 256 0#8).toList, It.mk true [] (([] : List Log).map logIt)]).length = 264
    rw [if_neg (by decide)]
    simp only [Its.enc, List.length_append, h1, h2, h3, h4, List.length_nil]
  unfold encR
  rw [if_pos (show zR.kind = 0 from rfl)]
  unfold rcptIt
  rw [enc_l, List.length_append, h5]
  decide
theorem make_char (k : Int) (st us : BitVec 64) (l : List Log) (hb : (logsT l).length * 24 ≤ 140737488355328) (hf : mkfit l = true) (hl : l.length ≤ 1099511627776) : ∃ b, receipt_BloomOf l = some b ∧ ((Valid ⟨k, false, Vector.replicate 32 0#8, st, us, b, l⟩ ∧ receipt_Make k st us l = some (⟨k, false, Vector.replicate 32 0#8, st, us, b, l⟩, 0)) ∨ (¬ Valid ⟨k, false, Vector.replicate 32 0#8, st, us, b, l⟩ ∧ ∃ e : Nat, e ≠ 0 ∧ receipt_Check ⟨k, false, Vector.replicate 32 0#8, st, us, b, l⟩ = some e ∧ receipt_Make k st us l = some (Rcpt.zero, (e : Int)))) := by
  obtain ⟨b, h1, _⟩ := rbof_bits l hb
  refine ⟨b, h1, ?_⟩
  obtain ⟨e, h2, h3, h4, _⟩ := check_char ⟨k, false, Vector.replicate 32 0#8, st, us, b, l⟩ hl
  unfold receipt_Make
  rw [h1, Option.bind_some, if_pos hf, h2, Option.bind_some]
  by_cases he : e = 0
  · rw [if_pos he]; exact .inl ⟨h4 he, rfl⟩
  · rw [if_neg he]; exact .inr ⟨fun h => he (h3 h), e, he, rfl, rfl⟩
theorem little_law : waybilllaw17_little = some true := by
  unfold waybilllaw17_little
  obtain ⟨b, h1, h2⟩ := make_char 0 1#64 21000#64 [] (by simp [logsT]) rfl (by simp)
  rw [bloomOf_nil] at h1
  obtain rfl := Option.some.inj h1
  have hv : Valid ⟨0, false, Vector.replicate 32 0#8, 1#64, 21000#64, Vector.replicate 256 0#8, []⟩ := zR_valid
  rcases h2 with ⟨_, h2⟩ | ⟨h2, _⟩
  · have hlen := zR_len
    rw [h2, Option.bind_some]
    dsimp only
    have he := encode_char zR hv (fun x hx => by cases hx) (by show ([] : List Nat).sum ≤ _; simp)
    rw [if_pos (by omega)] at he
    rw [show receipt_Encode ⟨0, false, Vector.replicate 32 0#8, 1#64, 21000#64, Vector.replicate 256 0#8, []⟩ = some (encR zR, 0) from he, Option.bind_some]
    dsimp only
    rw [decode_encR (r := zR) zR_valid (by omega) (by have := w9_rcpt zR; have e : (zR.logs.map szL).sum = 0 := rfl; omega), Option.bind_some]
    dsimp only
    simp only [num17, Option.bind_some]
    rw [if_pos trivial, if_pos (by decide), if_pos trivial, if_pos trivial, if_pos hlen]
    rw [show waybilllaw17_sameReceipt ⟨0, false, Vector.replicate 32 0#8, 1#64, 21000#64, Vector.replicate 256 0#8, []⟩ zR = some true from sameRcpt_refl zR]
    rfl
  · exact absurd hv h2
theorem one17_law (d : List (BitVec 8)) (hl : d.length + 70 ≤ 140737488355328) : waybilllaw17_ReceiptOne d = some true := by
  unfold waybilllaw17_ReceiptOne
  have hlent : waybilllaw17_lent d = some d := by unfold waybilllaw17_lent lentN; rw [if_pos hl]
  rw [little_law, Option.bind_some, hlent, Option.bind_some]
  obtain ⟨x, e, h, c⟩ := decode_char d
  rw [h, Option.bind_some]
  dsimp only
  rw [if_pos rfl]
  simp only [num17, Option.bind_some]
  rcases c with ⟨rfl, hv, hd, hlen, hw⟩ | ⟨he, rfl, _⟩
  · rw [if_neg (by decide)]
    have hsum : (x.logs.map szL).sum ≤ (rcptIt x).w9 := by
      unfold rcptIt rcptItems
      rw [w9_l, Its.w9, Its.w9, Its.w9, Its.w9, Its.w9, w9_l, w9_logs]; omega
    have hdat : ∀ y ∈ x.logs, y.data.length ≤ 1073741824 := fun y hy => by
      have h1 := mem_le_sum hy
      generalize (x.logs.map szL).sum = S at h1 hsum
      unfold szL at h1
      omega
    have henc := encode_char x hv hdat (by omega)
    rw [← hd, if_pos hlen] at henc
    rw [henc, Option.bind_some]
    dsimp only
    have hll : x.logs.length ≤ 1099511627776 := by
      have h1 : x.logs.length ≤ (x.logs.map szL).sum := by
        generalize x.logs = l
        induction l with
        | nil => simp
        | cons a l ih => rw [List.length_cons, List.map_cons, List.sum_cons]; unfold szL at ih ⊢; omega
      omega
    obtain ⟨e, hc, hc1, _⟩ := check_char x hll
    rw [hc1 hv] at hc
    rw [hc, Option.bind_some, if_pos (by decide), if_pos (by decide), same17]; rfl
  · rw [if_pos (by simp [he]), if_pos trivial]
    rw [show (Rcpt.mk (0 : Int) false (Vector.replicate 32 0#8) (0#64) (0#64) (Vector.replicate 256 0#8) ([] : List (Log))) = Rcpt.zero from rfl, sameRcpt_refl]; rfl
end Go.Fw
