/- Part of a proof: rules that its law uses. -/
import Derived.Test.YtogfjkomkpbjpaaDoorKecP2
import Derived.Test.YtogfjkomkpbjpaaDoorKecP3
namespace Go.Fw
set_option linter.unusedVariables false
set_option linter.unusedSimpArgs false
set_option maxRecDepth 10000
theorem absorb_loop (a0 : Sponge) : ∀ (d i k : Nat) (w : Sponge), i + d = 136 → d < k → ∃ w', keccak_Sponge_absorb.l1 a0 k i w = some w' ∧ w'.kind = w.kind ∧ w'.long = w.long
  | 0, i, k, w, h, hk => by
    obtain ⟨k, rfl⟩ : ∃ m, k = m + 1 := ⟨k - 1, by omega⟩
    exact ⟨w, by rw [keccak_Sponge_absorb.l1, if_neg (by omega)], rfl, rfl⟩
  | d + 1, i, k, w, h, hk => by
    obtain ⟨k, rfl⟩ : ∃ m, k = m + 1 := ⟨k - 1, by omega⟩
    rw [keccak_Sponge_absorb.l1, if_pos (by omega), Vector.getElem?_eq_getElem (by omega), Option.bind_some, if_pos (by omega), Vector.getElem?_eq_getElem (by omega), Option.bind_some]
    obtain ⟨w', e1, e2, e3⟩ := absorb_loop a0 d (i + 1) k _ (by omega) (by omega)
    exact ⟨w', e1, e2, e3⟩
theorem absorb_total (s : Sponge) : ∃ s', keccak_Sponge_absorb s = some s' ∧ s'.kind = s.kind ∧ s'.long = s.long ∧ s'.held = 0 := by
  unfold keccak_Sponge_absorb
  obtain ⟨w, e1, e2, e3⟩ := absorb_loop s 136 0 (136 - 0 + 2) s (by omega) (by omega)
  rw [e1, Option.bind_some]
  exact ⟨_, rfl, e2, e3, rfl⟩
theorem write_loop : ∀ (n k : Nat) (l : List (BitVec 8)) (w : Sponge), l.length ≤ n → n < k → 0 ≤ w.held → w.held < 136 → ∃ w', keccak_Sponge_Write.l1 k l w = some w' ∧ 0 ≤ w'.held ∧ w'.held < 136 ∧ w'.kind = w.kind ∧ w'.long = w.long
  | n, 0, l, w, hn, hk, h0, h1 => by omega
  | n, k + 1, l, w, hn, hk, h0, h1 => by
    rw [keccak_Sponge_Write.l1]
    by_cases hl : 0 < l.length
    · have hm : 0 < min l.length (136 - w.held.toNat) := by omega
      rw [if_pos hl, if_pos h0, if_pos (by omega), if_pos (Nat.min_le_left ..), if_pos (by constructor <;> (show _ ≤ _; dsimp only; omega))]
      by_cases hf : w.held + ((min l.length (136 - w.held.toNat) : Nat) : Int) = 136
      · rw [if_pos hf]
        obtain ⟨s', e1, e2, e3, e4⟩ := absorb_total ({ ({ w with part := cpV w.part ((w.held).toNat) (l.take (min l.length (136 - ((w.held).toNat)))) } : Sponge) with held := (({ w with part := cpV w.part ((w.held).toNat) (l.take (min l.length (136 - ((w.held).toNat)))) } : Sponge).held + (((min l.length (136 - ((w.held).toNat))) : Nat) : Int)) } : Sponge)
        rw [e1, Option.bind_some, Option.bind_some]
        obtain ⟨w', f1, f2, f3, f4, f5⟩ := write_loop (n - 1) k (l.drop (min l.length (136 - w.held.toNat))) s' (by rw [List.length_drop]; omega) (by omega) (by omega) (by omega)
        exact ⟨w', f1, f2, f3, f4.trans e2, f5.trans e3⟩
      · rw [if_neg hf, Option.bind_some]
        obtain ⟨w', f1, f2, f3, f4, f5⟩ := write_loop (n - 1) k (l.drop (min l.length (136 - w.held.toNat))) ({ ({ w with part := cpV w.part ((w.held).toNat) (l.take (min l.length (136 - ((w.held).toNat)))) } : Sponge) with held := (({ w with part := cpV w.part ((w.held).toNat) (l.take (min l.length (136 - ((w.held).toNat)))) } : Sponge).held + (((min l.length (136 - ((w.held).toNat))) : Nat) : Int)) } : Sponge) (by rw [List.length_drop]; omega) (by omega) (show 0 ≤ w.held + ((min l.length (136 - w.held.toNat) : Nat) : Int) by omega) (show w.held + ((min l.length (136 - w.held.toNat) : Nat) : Int) < 136 by omega)
        exact ⟨w', f1, f2, f3, f4, f5⟩
    · rw [if_neg hl]
      exact ⟨w, rfl, h0, h1, rfl, rfl⟩
theorem write_total (s : Sponge) (l : List (BitVec 8)) (h0 : 0 ≤ s.held) (h1 : s.held < 136) (h2 : -9223372036854775808 ≤ s.long + ((l.length : Nat) : Int) ∧ s.long + ((l.length : Nat) : Int) ≤ 9223372036854775807) : ∃ s', keccak_Sponge_Write s l = some s' ∧ 0 ≤ s'.held ∧ s'.held < 136 ∧ s'.kind = s.kind ∧ s'.long = s.long + ((l.length : Nat) : Int) := by
  unfold keccak_Sponge_Write
  rw [if_pos h2]
  obtain ⟨w, e1, e2, e3, e4, e5⟩ := write_loop l.length (l.length - 0 + 2) l ({ s with long := (s.long + ((l.length : Nat) : Int)) } : Sponge) (Nat.le_refl _) (by omega) h0 h1
  rw [e1, Option.bind_some]
  exact ⟨w, rfl, e2, e3, e4, e5⟩
end Go.Fw
namespace Go.Fw
set_option linter.unusedVariables false
set_option linter.unusedSimpArgs false
set_option maxRecDepth 10000
abbrev V25 := Vector (BitVec 64) 25
def permV (a : V25) : V25 := match keccak_Permute a with
  | some r => r
  | none => a
theorem perm_eq (a : V25) : keccak_Permute a = some (permV a) := rfl
def xin (b : List (BitVec 8)) : Nat → Nat → V25 → V25
  | 0, _, a => a
  | d + 1, i, a => xin b d (i + 1) (a.setIfInBounds (i / 8) ((a[i / 8]?.getD 0#64) ^^^ (((b[i]?.getD 0#8).setWidth 64) <<< (8 * (i % 8)))))
def takeIn (b : List (BitVec 8)) (a : V25) : V25 := permV (xin b 136 0 a)
def soak : Nat → List (BitVec 8) → V25 → V25
  | 0, _, a => a
  | n + 1, l, a => soak n (l.drop 136) (takeIn (l.take 136) a)
def zeroV : V25 := Vector.replicate 25 0#64
theorem soak_snoc : ∀ (n : Nat) (l : List (BitVec 8)) (a : V25), soak (n + 1) l a = takeIn ((l.drop (136 * n)).take 136) (soak n l a)
  | 0, l, a => by rw [soak, soak, soak, Nat.mul_zero, List.drop_zero]
  | n + 1, l, a => by
    rw [soak, soak_snoc n, soak, List.drop_drop]
    congr 3
    omega
theorem soak_congr : ∀ (n : Nat) (l l' : List (BitVec 8)) (a : V25), l.take (136 * n) = l'.take (136 * n) → soak n l a = soak n l' a
  | 0, l, l', a, h => rfl
  | n + 1, l, l', a, h => by
    rw [soak_snoc, soak_snoc]
    have h1 : l.take (136 * n) = l'.take (136 * n) := by
      have := congrArg (List.take (136 * n)) h
      rwa [List.take_take, List.take_take, Nat.min_eq_left (by omega)] at this
    have h2 : (l.drop (136 * n)).take 136 = (l'.drop (136 * n)).take 136 := by
      have := congrArg (List.drop (136 * n)) h
      rwa [List.drop_take, List.drop_take, show 136 * (n + 1) - 136 * n = 136 by omega] at this
    rw [h2, soak_congr n l l' a h1]
theorem absorb_loop_eq (s : Sponge) : ∀ (d i k : Nat) (w : Sponge), i + d = 136 → d < k → keccak_Sponge_absorb.l1 s k i w = some { w with lanes := xin s.part.toList d i w.lanes }
  | 0, i, k, w, h, hk => by
    obtain ⟨k, rfl⟩ : ∃ m, k = m + 1 := ⟨k - 1, by omega⟩
    rw [keccak_Sponge_absorb.l1, if_neg (by omega)]
    rfl
  | d + 1, i, k, w, h, hk => by
    obtain ⟨k, rfl⟩ : ∃ m, k = m + 1 := ⟨k - 1, by omega⟩
    have h1 : i < 136 := by omega
    have h2 : i / 8 < 25 := by omega
    rw [keccak_Sponge_absorb.l1, if_pos h1, Vector.getElem?_eq_getElem h1, Option.bind_some, if_pos h2, Vector.getElem?_eq_getElem h2, Option.bind_some, absorb_loop_eq s d (i + 1) k _ (by omega) (by omega)]
    have e1 : (s.part.toList)[i]? = some s.part[i] := by rw [Vector.getElem?_toList, Vector.getElem?_eq_getElem h1]
    simp only [xin, e1, Option.getD_some, Vector.getElem?_eq_getElem h2]
theorem absorb_eq (s : Sponge) : keccak_Sponge_absorb s = some { s with lanes := takeIn s.part.toList s.lanes, held := 0 } := by
  unfold keccak_Sponge_absorb
  rw [absorb_loop_eq s 136 0 (136 - 0 + 2) s (by omega) (by omega), Option.bind_some, perm_eq, Option.bind_some]
  rfl
structure Took (s : Sponge) (t : List (BitVec 8)) : Prop where
  held : s.held = ((t.length % 136 : Nat) : Int)
  lanes : s.lanes = soak (t.length / 136) t zeroV
  part : s.part.toList.take (t.length % 136) = t.drop (136 * (t.length / 136))
theorem took_loop : ∀ (n k : Nat) (l : List (BitVec 8)) (w : Sponge) (t : List (BitVec 8)), l.length ≤ n → n < k → Took w t → ∃ w', keccak_Sponge_Write.l1 k l w = some w' ∧ Took w' (t ++ l) ∧ w'.kind = w.kind ∧ w'.long = w.long
  | n, 0, l, w, t, hn, hk, ht => by omega
  | n, k + 1, l, w, t, hn, hk, ht => by
    have hq : t.length = 136 * (t.length / 136) + t.length % 136 := (Nat.div_add_mod _ _).symm
    have hm : t.length % 136 < 136 := Nat.mod_lt _ (by decide)
    have hh := ht.held
    rw [keccak_Sponge_Write.l1]
    by_cases hl : 0 < l.length
    · generalize hM : min l.length (136 - w.held.toNat) = M
      have hM' : M = min l.length (136 - t.length % 136) := by rw [← hM, hh]; rfl
      have hMl : M ≤ l.length := by omega
      have hM0 : 0 < M := by omega
      have hN : w.held.toNat = t.length % 136 := by rw [hh]; rfl
      have hlen : (l.take M).length = M := by rw [List.length_take]; omega
      have hfit : t.length % 136 + (l.take M).length ≤ 136 := by omega
      have hcp := cpV_toList w.part (lo := t.length % 136) (l := l.take M) hfit
      have htl : (t ++ l.take M).length = t.length + M := by rw [List.length_append, hlen]
      rw [if_pos hl, if_pos (by omega), if_pos (by omega), if_pos hMl, if_pos (by constructor <;> (show _ ≤ _; dsimp only; omega)), hN]
      have hsplit : t ++ l = (t ++ l.take M) ++ l.drop M := by rw [List.append_assoc, List.take_append_drop]
      by_cases hf : w.held + ((M : Nat) : Int) = 136
      · rw [if_pos hf, absorb_eq, Option.bind_some, Option.bind_some, hsplit]
        have hd : (t.length + M) / 136 = t.length / 136 + 1 := by omega
        have hr : (t.length + M) % 136 = 0 := by omega
        obtain ⟨w', f1, f2, f3, f4⟩ := took_loop (n - 1) k (l.drop M) _ (t ++ l.take M) (by rw [List.length_drop]; omega) (by omega) (⟨by rw [htl, hr]; rfl, by
            rw [htl, hd, soak_snoc]
            show takeIn (cpV w.part (t.length % 136) (l.take M)).toList w.lanes = _
            rw [ht.lanes]
            congr 1
            · have hz : w.part.toList.drop (t.length % 136 + (l.take M).length) = [] := List.drop_eq_nil_of_le (by rw [Vector.length_toList, hlen]; omega)
              have hT : (t.drop (136 * (t.length / 136)) ++ l.take M).take 136 = t.drop (136 * (t.length / 136)) ++ l.take M := List.take_of_length_le (by rw [List.length_append, List.length_drop, hlen]; omega)
              rw [hcp, ht.part, hz, List.drop_append_of_le_length (by omega), List.append_nil, hT]
            · exact soak_congr _ _ _ _ (by rw [List.take_append_of_le_length (by omega)]), by rw [htl, hr, List.take_zero, hd, List.drop_eq_nil_of_le (by rw [htl]; omega)]⟩ : Took ({ ({ ({ w with part := cpV w.part (t.length % 136) (l.take M) } : Sponge) with held := (({ w with part := cpV w.part (t.length % 136) (l.take M) } : Sponge).held + ((M : Nat) : Int)) } : Sponge) with lanes := takeIn (({ ({ w with part := cpV w.part (t.length % 136) (l.take M) } : Sponge) with held := (({ w with part := cpV w.part (t.length % 136) (l.take M) } : Sponge).held + ((M : Nat) : Int)) } : Sponge)).part.toList (({ ({ w with part := cpV w.part (t.length % 136) (l.take M) } : Sponge) with held := (({ w with part := cpV w.part (t.length % 136) (l.take M) } : Sponge).held + ((M : Nat) : Int)) } : Sponge)).lanes, held := 0 } : Sponge) (t ++ l.take M))
        exact ⟨w', f1, f2, f3, f4⟩
      · have hd : (t.length + M) / 136 = t.length / 136 := by omega
        have hr : (t.length + M) % 136 = t.length % 136 + M := by omega
        rw [if_neg hf, Option.bind_some, hsplit]
        obtain ⟨w', f1, f2, f3, f4⟩ := took_loop (n - 1) k (l.drop M) ({ ({ w with part := cpV w.part (t.length % 136) (l.take M) } : Sponge) with held := (({ w with part := cpV w.part (t.length % 136) (l.take M) } : Sponge).held + ((M : Nat) : Int)) } : Sponge) (t ++ l.take M) (by rw [List.length_drop]; omega) (by omega) ⟨by
            show w.held + ((M : Nat) : Int) = _
            rw [htl, hr]; omega, by
            show w.lanes = _
            rw [htl, hd, ht.lanes]
            exact soak_congr _ _ _ _ (by rw [List.take_append_of_le_length (by omega)]), by
            show (cpV w.part (t.length % 136) (l.take M)).toList.take _ = _
            rw [htl, hr, hd, hcp, List.take_left' (by rw [List.length_append, List.length_take, Vector.length_toList]; omega), ht.part, List.drop_append_of_le_length (by omega)]⟩
        exact ⟨w', f1, f2, f3, f4⟩
    · rw [if_neg hl]
      obtain rfl : l = [] := List.length_eq_zero_iff.1 (by omega)
      exact ⟨w, rfl, by rw [List.append_nil]; exact ht, rfl, rfl⟩
theorem write_took (s : Sponge) (t l : List (BitVec 8)) (h : Took s t) (h2 : -9223372036854775808 ≤ s.long + ((l.length : Nat) : Int) ∧ s.long + ((l.length : Nat) : Int) ≤ 9223372036854775807) : ∃ s', keccak_Sponge_Write s l = some s' ∧ Took s' (t ++ l) ∧ s'.kind = s.kind ∧ s'.long = s.long + ((l.length : Nat) : Int) := by
  unfold keccak_Sponge_Write
  rw [if_pos h2]
  obtain ⟨w, e1, e2, e3, e4⟩ := took_loop l.length (l.length - 0 + 2) l ({ s with long := (s.long + ((l.length : Nat) : Int)) } : Sponge) t (Nat.le_refl _) (by omega) ⟨h.held, h.lanes, h.part⟩
  rw [e1, Option.bind_some]
  exact ⟨w, rfl, e2, e3, e4⟩
def padB (r : List (BitVec 8)) (f : BitVec 8) : List (BitVec 8) := (r ++ f :: List.replicate (135 - r.length) 0#8).set 135 ((if r.length = 135 then f else 0#8) ||| 128#8)
def sq (a : V25) : Nat → Nat → Vector (BitVec 8) 32 → Vector (BitVec 8) 32
  | 0, _, w => w
  | d + 1, i, w => sq a d (i + 1) (w.setIfInBounds i (((a[i / 8]?.getD 0#64) >>> (8 * (i % 8))).setWidth 8))
def digestR (t : List (BitVec 8)) (f : BitVec 8) : Vector (BitVec 8) 32 := sq (takeIn (padB (t.drop (136 * (t.length / 136))) f) (soak (t.length / 136) t zeroV)) 32 0 (Vector.replicate 32 0#8)
theorem sum_loop_eq (x : Sponge) : ∀ (d i k : Nat) (w : Vector (BitVec 8) 32), i + d = 32 → d < k → keccak_Sponge_Sum.l1 x k i w = some (sq x.lanes d i w)
  | 0, i, k, w, h, hk => by
    obtain ⟨k, rfl⟩ : ∃ m, k = m + 1 := ⟨k - 1, by omega⟩
    rw [keccak_Sponge_Sum.l1, if_neg (by omega)]
    rfl
  | d + 1, i, k, w, h, hk => by
    obtain ⟨k, rfl⟩ : ∃ m, k = m + 1 := ⟨k - 1, by omega⟩
    have h2 : i / 8 < 25 := by omega
    rw [keccak_Sponge_Sum.l1, if_pos (by omega), if_pos h2, Vector.getElem?_eq_getElem h2, Option.bind_some, sum_loop_eq x d (i + 1) k _ (by omega) (by omega)]
    simp only [sq, Vector.getElem?_eq_getElem h2, Option.getD_some]
theorem set_at {α : Type} (r : List α) (x y : α) (z : List α) {i : Nat} (h : r.length = i) : (r ++ x :: z).set i y = r ++ y :: z := by
  rw [List.set_append_right _ _ (by omega), show i - r.length = 0 by omega, List.set_cons_zero]
theorem ssum_eq (s : Sponge) (t : List (BitVec 8)) (h : Took s t) (f : BitVec 8) (hk : (s.kind = 0 ∧ f = 1#8) ∨ (s.kind = 1 ∧ f = 6#8)) : keccak_Sponge_Sum s = some (digestR t f, s) := by
  have hm : t.length % 136 < 136 := Nat.mod_lt _ (by decide)
  have hh := h.held
  have hN : s.held.toNat = t.length % 136 := by rw [hh]; rfl
  have hkk : 0 ≤ s.kind := by omega
  have hfst : firstL[s.kind.toNat]? = some f := by
    rcases hk with ⟨e, rfl⟩ | ⟨e, rfl⟩ <;> rw [e] <;> rfl
  have hr : (t.drop (136 * (t.length / 136))).length = t.length % 136 := by rw [List.length_drop]; omega
  have hP1 := cpV_toList s.part (lo := t.length % 136) (l := List.replicate (136 - t.length % 136) 0#8) (by rw [List.length_replicate]; omega)
  have hz : s.part.toList.drop (t.length % 136 + (List.replicate (136 - t.length % 136) 0#8).length) = [] := List.drop_eq_nil_of_le (by rw [Vector.length_toList, List.length_replicate]; omega)
  rw [h.part, hz, List.append_nil, show 136 - t.length % 136 = (135 - t.length % 136) + 1 by omega, List.replicate_succ] at hP1
  unfold keccak_Sponge_Sum
  rw [if_pos (by omega), if_pos (by omega)]
  dsimp only
  rw [if_pos (by omega), if_pos (by omega), hN]
  generalize hP : cpV s.part (t.length % 136) (List.replicate (136 - t.length % 136) 0#8) = P
  have hPl : P.toList = t.drop (136 * (t.length / 136)) ++ 0#8 :: List.replicate (135 - t.length % 136) 0#8 := by rw [← hP]; rw [show 136 - t.length % 136 = (135 - t.length % 136) + 1 by omega, List.replicate_succ]; exact hP1
  have hPh : P[t.length % 136]? = some 0#8 := by rw [← Vector.getElem?_toList, hPl, List.getElem?_append_right (by omega), hr, Nat.sub_self]; rfl
  rw [hPh, Option.bind_some, if_pos hkk, hfst, Option.bind_some]
  generalize hS : (Sponge.mk _ _ _ _ _ : Sponge) = S
  rw [absorb_eq, Option.bind_some, sum_loop_eq _ 32 0 _ _ (by omega) (by omega), Option.bind_some]
  have h1 : S.lanes = s.lanes := by rw [← hS]
  have h2 : S.part.toList = padB (t.drop (136 * (t.length / 136))) f := by
    rw [← hS]
    show ((P.setIfInBounds (t.length % 136) (0#8 ^^^ f)).setIfInBounds 135 ((P.setIfInBounds (t.length % 136) (0#8 ^^^ f))[135] ^^^ 128#8)).toList = _
    generalize hQ : P.setIfInBounds (t.length % 136) (0#8 ^^^ f) = Q
    have hQl : Q.toList = t.drop (136 * (t.length / 136)) ++ f :: List.replicate (135 - t.length % 136) 0#8 := by
      rw [← hQ, ← vset, hPl, set_at _ _ _ _ hr, BitVec.zero_xor]
    have hQx : Q[135] = if t.length % 136 = 135 then f else 0#8 := by
      have e1 : Q.toList[135]? = some Q[135] := by rw [Vector.getElem?_toList, Vector.getElem?_eq_getElem (by decide)]
      rw [hQl, List.getElem?_append_right (by omega), hr] at e1
      by_cases c : t.length % 136 = 135
      · rw [if_pos c]
        rw [c] at e1
        exact (Option.some.inj e1).symm
      · rw [if_neg c]
        obtain ⟨j, hj⟩ : ∃ j, 135 - t.length % 136 = j + 1 := ⟨135 - t.length % 136 - 1, by omega⟩
        rw [hj, List.getElem?_cons_succ, List.getElem?_replicate, if_pos (by omega)] at e1
        exact (Option.some.inj e1).symm
    have hf : f ^^^ 128#8 = f ||| 128#8 := by rcases hk with ⟨_, rfl⟩ | ⟨_, rfl⟩ <;> rfl
    have hx : Q[135] ^^^ 128#8 = (if t.length % 136 = 135 then f else 0#8) ||| 128#8 := by
      rw [hQx]
      split
      · exact hf
      · rfl
    rw [hx, ← vset, hQl]
    unfold padB
    rw [hr]
  dsimp only
  rw [h1, h2, h.lanes]
  rfl
theorem digest_loop_eq (a : List (List (BitVec 8))) : ∀ (d i k : Nat) (w : Sponge) (t : List (BitVec 8)), i + d = a.length → d < k → Took w t → 0 ≤ w.long → w.long + (((a.drop i).flatten.length : Nat) : Int) ≤ 9223372036854775807 → ∃ w', keccak_digest.l1 a k i w = some w' ∧ Took w' (t ++ (a.drop i).flatten) ∧ w'.kind = w.kind
  | 0, i, k, w, t, h, hk, ht, h0, hl => by
    obtain ⟨k, rfl⟩ : ∃ m, k = m + 1 := ⟨k - 1, by omega⟩
    refine ⟨w, by rw [keccak_digest.l1, if_neg (by omega)], ?_, rfl⟩
    rw [List.drop_eq_nil_of_le (by omega), List.flatten_nil, List.append_nil]
    exact ht
  | d + 1, i, k, w, t, h, hk, ht, h0, hl => by
    obtain ⟨k, rfl⟩ : ∃ m, k = m + 1 := ⟨k - 1, by omega⟩
    have h1 : i < a.length := by omega
    rw [List.drop_eq_getElem_cons h1, List.flatten_cons, List.length_append] at hl
    obtain ⟨s', e1, e2, e3, e4⟩ := write_took w t a[i] ht ⟨by omega, by omega⟩
    obtain ⟨w', f1, f2, f3⟩ := digest_loop_eq a d (i + 1) k s' (t ++ a[i]) (by omega) (by omega) e2 (by omega) (by omega)
    refine ⟨w', by rw [keccak_digest.l1, if_pos h1, List.getElem?_eq_getElem h1, Option.bind_some, e1, Option.bind_some, f1], ?_, f3.trans e3⟩
    rw [List.drop_eq_getElem_cons h1, List.flatten_cons, ← List.append_assoc]
    exact f2
theorem took_zero (k : Int) : Took (⟨k, Vector.replicate 25 0#64, Vector.replicate 136 0#8, 0, 0⟩ : Sponge) [] := ⟨rfl, rfl, by rw [List.length_nil]; rfl⟩
theorem digest_eq (k : Int) (a : List (List (BitVec 8))) (f : BitVec 8) (hk : (k = 0 ∧ f = 1#8) ∨ (k = 1 ∧ f = 6#8)) (hl : a.flatten.length ≤ 9223372036854775807) : keccak_digest k a = some (digestR a.flatten f) := by
  unfold keccak_digest
  obtain ⟨w, e1, e2, e3⟩ := digest_loop_eq a a.length 0 (a.length - 0 + 2) (⟨k, Vector.replicate 25 0#64, Vector.replicate 136 0#8, 0, 0⟩ : Sponge) [] (by omega) (by omega) (took_zero k) (by show (0 : Int) ≤ 0; omega) (by rw [List.drop_zero]; show (0 : Int) + _ ≤ _; omega)
  rw [List.drop_zero, List.nil_append] at e2
  have e1' : keccak_digest.l1 a (a.length - 0 + 2) 0 ({ (⟨0, (Vector.replicate 25 0#64), (Vector.replicate 136 0#8), 0, 0⟩ : Sponge) with kind := k } : Sponge) = some w := e1
  rw [e1', Option.bind_some, ssum_eq w a.flatten e2 f (by rw [e3]; exact hk), Option.bind_some]
theorem ksum_eq (a : List (List (BitVec 8))) (hl : a.flatten.length ≤ 9223372036854775807) : keccak_Sum a = some (digestR a.flatten 1#8) := by
  unfold keccak_Sum
  rw [digest_eq 0 a 1#8 (.inl ⟨rfl, rfl⟩) hl, Option.bind_some]
end Go.Fw
namespace Go.Fw
set_option linter.unusedVariables false
set_option linter.unusedSimpArgs false
set_option maxRecDepth 10000
theorem filled_loop : ∀ (d k : Nat) (l : List (BitVec 8)), (l.length + d) % 136 = 0 → d < 136 → d < k → l.length + d ≤ 140737488355328 → waybillref02_filled.l1 k l = some (l ++ List.replicate d 0#8)
  | 0, k, l, h, hd, hk, hb => by
    obtain ⟨k, rfl⟩ : ∃ m, k = m + 1 := ⟨k - 1, by omega⟩
    rw [waybillref02_filled.l1, if_pos (by omega)]
    simp
  | d + 1, k, l, h, hd, hk, hb => by
    obtain ⟨k, rfl⟩ : ∃ m, k = m + 1 := ⟨k - 1, by omega⟩
    rw [waybillref02_filled.l1, if_neg (by omega), if_pos (by simp; omega), filled_loop d k _ (by simp; omega) (by omega) (by omega) (by simp; omega), List.append_assoc, List.replicate_succ]
    rfl
theorem padB_len (r : List (BitVec 8)) (f : BitVec 8) (h : r.length ≤ 135) : (padB r f).length = 136 := by unfold padB; simp; omega
theorem filled_eq (t : List (BitVec 8)) (f : BitVec 8) (ht : t.length + 137 ≤ 140737488355328) : waybillref02_filled t f = some (t.take (136 * (t.length / 136)) ++ padB (t.drop (136 * (t.length / 136))) f) := by
  have hm : t.length % 136 < 136 := Nat.mod_lt _ (by decide)
  have hq : t.length = 136 * (t.length / 136) + t.length % 136 := (Nat.div_add_mod _ _).symm
  have hr : (t.drop (136 * (t.length / 136))).length = t.length % 136 := by rw [List.length_drop]; omega
  have hlen : (t ++ [f]).length = t.length + 1 := by simp
  unfold waybillref02_filled
  rw [if_pos (by simp; omega), filled_loop (135 - t.length % 136) 140 (t ++ [f]) (by omega) (by omega) (by omega) (by omega), Option.bind_some]
  have hL : t ++ [f] ++ List.replicate (135 - t.length % 136) 0#8 = t.take (136 * (t.length / 136)) ++ (t.drop (136 * (t.length / 136)) ++ f :: List.replicate (135 - t.length % 136) 0#8) := by
    rw [← List.append_assoc, List.take_append_drop, List.append_assoc]
    rfl
  have hLl : (t ++ [f] ++ List.replicate (135 - t.length % 136) 0#8).length = 136 * (t.length / 136) + 136 := by simp; omega
  have hi : ((((t ++ [f] ++ List.replicate (135 - t.length % 136) 0#8).length : Nat) : Int) - (1 : Int)).toNat = 136 * (t.length / 136) + 135 := by rw [hLl]; omega
  have htk : (t.take (136 * (t.length / 136))).length = 136 * (t.length / 136) := by rw [List.length_take]; omega
  have hx : (t ++ [f] ++ List.replicate (135 - t.length % 136) 0#8)[136 * (t.length / 136) + 135]? = some (if t.length % 136 = 135 then f else 0#8) := by
    rw [hL, List.getElem?_append_right (by omega), htk, show 136 * (t.length / 136) + 135 - 136 * (t.length / 136) = 135 by omega, List.getElem?_append_right (by omega), hr]
    by_cases c : t.length % 136 = 135
    · rw [if_pos c, c]; rfl
    · rw [if_neg c]
      obtain ⟨j, hj⟩ : ∃ j, 135 - t.length % 136 = j + 1 := ⟨135 - t.length % 136 - 1, by omega⟩
      rw [hj, List.getElem?_cons_succ, List.getElem?_replicate, if_pos (by omega)]
  rw [if_pos (by omega), hi, hx, Option.bind_some, Option.bind_some, hL, List.set_append_right _ _ (by omega), htk, show 136 * (t.length / 136) + 135 - 136 * (t.length / 136) = 135 by omega]
  unfold padB
  rw [hr]
theorem rin_loop (F : List (BitVec 8)) (n : Nat) (hn : n + 136 ≤ F.length) : ∀ (d i k : Nat) (w : V25), i + d = 136 → d < k → waybillref02_Digest.l3 F n k i w = some (xin ((F.drop n).take 136) d i w)
  | 0, i, k, w, h, hk => by
    obtain ⟨k, rfl⟩ : ∃ m, k = m + 1 := ⟨k - 1, by omega⟩
    rw [waybillref02_Digest.l3, if_neg (by omega)]
    rfl
  | d + 1, i, k, w, h, hk => by
    obtain ⟨k, rfl⟩ : ∃ m, k = m + 1 := ⟨k - 1, by omega⟩
    have h2 : i / 8 < 25 := by omega
    have h3 : n + i < F.length := by omega
    have h4 : ((F.drop n).take 136)[i]? = some F[n + i] := by rw [List.getElem?_take, if_pos (by omega), List.getElem?_drop, List.getElem?_eq_getElem h3]
    have h5 : (BitVec.ofNat 64 (8 * (i % 8))).toNat = 8 * (i % 8) := by rw [BitVec.toNat_ofNat]; omega
    rw [waybillref02_Digest.l3, if_pos (by omega), if_pos h2, Vector.getElem?_eq_getElem h2, Option.bind_some, List.getElem?_eq_getElem h3, Option.bind_some, rin_loop F n hn d (i + 1) k _ (by omega) (by omega), h5]
    simp only [xin, h4, Vector.getElem?_eq_getElem h2, Option.getD_some]
theorem rblk_loop (F : List (BitVec 8)) : ∀ (d j k : Nat) (w : V25), 136 * (j + d) = F.length → d < k → waybillref02_Digest.l2 F k (136 * j) w = some (soak d (F.drop (136 * j)) w)
  | 0, j, k, w, h, hk => by
    obtain ⟨k, rfl⟩ : ∃ m, k = m + 1 := ⟨k - 1, by omega⟩
    rw [waybillref02_Digest.l2, if_neg (by omega)]
    rfl
  | d + 1, j, k, w, h, hk => by
    obtain ⟨k, rfl⟩ : ∃ m, k = m + 1 := ⟨k - 1, by omega⟩
    rw [waybillref02_Digest.l2, if_pos (by omega), rin_loop F _ (by omega) 136 0 (136 - 0 + 2) w (by omega) (by omega), Option.bind_some, perm_eq, Option.bind_some, show 136 * j + 136 = 136 * (j + 1) by omega, rblk_loop F d (j + 1) k _ (by omega) (by omega), soak, List.drop_drop, show 136 * j + 136 = 136 * (j + 1) by omega]
    rfl
theorem rsq_loop (x : V25) : ∀ (d i k : Nat) (w : Vector (BitVec 8) 32), i + d = 32 → d < k → waybillref02_Digest.l1 x k i w = some (sq x d i w)
  | 0, i, k, w, h, hk => by
    obtain ⟨k, rfl⟩ : ∃ m, k = m + 1 := ⟨k - 1, by omega⟩
    rw [waybillref02_Digest.l1, if_neg (by omega)]
    rfl
  | d + 1, i, k, w, h, hk => by
    obtain ⟨k, rfl⟩ : ∃ m, k = m + 1 := ⟨k - 1, by omega⟩
    have h2 : i / 8 < 25 := by omega
    have h5 : (BitVec.ofNat 64 (8 * (i % 8))).toNat = 8 * (i % 8) := by rw [BitVec.toNat_ofNat]; omega
    rw [waybillref02_Digest.l1, if_pos (by omega), if_pos h2, Vector.getElem?_eq_getElem h2, Option.bind_some, rsq_loop x d (i + 1) k _ (by omega) (by omega), h5]
    simp only [sq, Vector.getElem?_eq_getElem h2, Option.getD_some]
theorem rdigest_eq (t : List (BitVec 8)) (f : BitVec 8) (ht : t.length + 137 ≤ 140737488355328) : waybillref02_Digest t f = some (digestR t f) := by
  have hm : t.length % 136 < 136 := Nat.mod_lt _ (by decide)
  have hq : t.length = 136 * (t.length / 136) + t.length % 136 := (Nat.div_add_mod _ _).symm
  have hr : (t.drop (136 * (t.length / 136))).length = t.length % 136 := by rw [List.length_drop]; omega
  have htk : (t.take (136 * (t.length / 136))).length = 136 * (t.length / 136) := by rw [List.length_take]; omega
  have hp := padB_len (t.drop (136 * (t.length / 136))) f (by omega)
  unfold waybillref02_Digest
  rw [filled_eq t f ht, Option.bind_some]
  generalize hF : t.take (136 * (t.length / 136)) ++ padB (t.drop (136 * (t.length / 136))) f = F
  have hFl : F.length = 136 * (t.length / 136 + 1) := by rw [← hF, List.length_append, htk, hp]; omega
  have h2 := rblk_loop F (t.length / 136 + 1) 0 (F.length - 0 + 2) zeroV (by omega) (by omega)
  rw [Nat.mul_zero, List.drop_zero] at h2
  have h2' : waybillref02_Digest.l2 F (F.length - 0 + 2) 0 (Vector.replicate 25 0#64) = some (soak (t.length / 136 + 1) F zeroV) := h2
  rw [h2', Option.bind_some, rsq_loop _ 32 0 (32 - 0 + 2) _ (by omega) (by omega), Option.bind_some, soak_snoc]
  have h3 : (F.drop (136 * (t.length / 136))).take 136 = padB (t.drop (136 * (t.length / 136))) f := by
    rw [← hF, List.drop_left' htk, List.take_of_length_le (by omega)]
  have h4 : soak (t.length / 136) F zeroV = soak (t.length / 136) t zeroV := soak_congr _ _ _ _ (by rw [← hF, List.take_left' htk])
  rw [h3, h4]
  rfl
theorem joined_loop (a : List (List (BitVec 8))) : ∀ (d i k : Nat) (l : List (BitVec 8)), i + d = a.length → d < k → l.length + (a.drop i).flatten.length ≤ 140737488355328 → waybillref02_joined.l1 a k l i = some (l ++ (a.drop i).flatten)
  | 0, i, k, l, h, hk, hb => by
    obtain ⟨k, rfl⟩ : ∃ m, k = m + 1 := ⟨k - 1, by omega⟩
    rw [waybillref02_joined.l1, if_neg (by omega), List.drop_eq_nil_of_le (by omega)]
    simp
  | d + 1, i, k, l, h, hk, hb => by
    obtain ⟨k, rfl⟩ : ∃ m, k = m + 1 := ⟨k - 1, by omega⟩
    have h1 : i < a.length := by omega
    rw [List.drop_eq_getElem_cons h1, List.flatten_cons, List.length_append] at hb
    rw [waybillref02_joined.l1, if_pos h1, List.getElem?_eq_getElem h1, Option.bind_some, if_pos (by omega), joined_loop a d (i + 1) k _ (by omega) (by omega) (by rw [List.length_append]; omega), List.drop_eq_getElem_cons h1, List.flatten_cons, List.append_assoc]
theorem joined_eq (a : List (List (BitVec 8))) (hb : a.flatten.length ≤ 140737488355328) : waybillref02_joined a = some a.flatten := by
  unfold waybillref02_joined
  rw [joined_loop a a.length 0 (a.length - 0 + 2) [] (by omega) (by omega) (by rw [List.drop_zero, List.length_nil]; omega), Option.bind_some, List.drop_zero, List.nil_append]
theorem rsum_eq (a : List (List (BitVec 8))) (hb : a.flatten.length + 137 ≤ 140737488355328) : waybillref02_Sum a = some (digestR a.flatten 1#8) := by
  unfold waybillref02_Sum
  rw [joined_eq a (by omega), Option.bind_some, rdigest_eq _ _ hb, Option.bind_some]
end Go.Fw
