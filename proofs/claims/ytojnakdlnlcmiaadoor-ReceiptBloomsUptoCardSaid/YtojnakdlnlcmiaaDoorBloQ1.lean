/- Part of a proof: rules that its law uses. -/
import Derived.Test.YtojnakdlnlcmiaaDoorKecSs
import Derived.Test.YtojnakdlnlcmiaaDoorBloH3
import Derived.Test.YtojnakdlnlcmiaaDoorBloP4
namespace Go.Fw
set_option linter.unusedVariables false
set_option linter.unusedSimpArgs false
set_option maxRecDepth 10000
theorem rpl_loop (x : Vector (BitVec 8) 32) : ∀ (k n : Nat) (w : Vector Int 3), waybillref10_Places.l1 x k n w = bloom_Places.l1 x k n w
  | 0, n, w => rfl
  | k + 1, n, w => by
    rw [waybillref10_Places.l1, bloom_Places.l1]
    simp only [rpl_loop x k]
theorem rplaces_eq (t : List (BitVec 8)) (ht : t.length + 137 ≤ 140737488355328) : waybillref10_Places t = bloom_Places t := by
  unfold waybillref10_Places bloom_Places
  rw [rsum_eq [t] (by simpa using ht), ksum_eq [t] (by simp; omega), Option.bind_some, Option.bind_some, rpl_loop]
theorem rset_eq (b : Vector (BitVec 8) 256) (a : Int) : waybillref10_set b a = bloom_set b a := by
  have h : (BitVec.ofNat 64 (a.toNat % 8)).toNat = a.toNat % 8 := by rw [BitVec.toNat_ofNat]; omega
  unfold waybillref10_set bloom_set
  rw [h]
theorem mod_and8 (y : BitVec 8) : decide (y % 2#8 = 1#8) = decide (y &&& 1#8 = 1#8) := by
  refine decide_eq_decide.2 ?_
  rw [← BitVec.toNat_inj, ← BitVec.toNat_inj, BitVec.toNat_umod, BitVec.toNat_and]
  show y.toNat % 2 = 1 ↔ y.toNat &&& 1 = 1
  rw [Nat.and_one_is_mod]
theorem rbit_eq (b : Vector (BitVec 8) 256) (a : Int) : waybillref10_bit b a = bloom_has b a := by
  have h : (BitVec.ofNat 64 (a.toNat % 8)).toNat = a.toNat % 8 := by rw [BitVec.toNat_ofNat]; omega
  unfold waybillref10_bit bloom_has
  simp only [h, mod_and8]
theorem has_bit (b : Vector (BitVec 8) 256) (a : Int) : bloom_has b a = waybilllaw10_bit b a := by
  have h : (BitVec.ofNat 64 (a.toNat % 8)).toNat = a.toNat % 8 := by rw [BitVec.toNat_ofNat]; omega
  unfold bloom_has waybilllaw10_bit
  rw [h]
theorem radd_eq (b : Vector (BitVec 8) 256) (t : List (BitVec 8)) (ht : t.length + 137 ≤ 140737488355328) : waybillref10_Add b t = bloom_Add b t := by
  obtain ⟨p, e1, e2⟩ := places_total t (by omega)
  have r0 := e2 0 (by omega)
  have r1 := e2 1 (by omega)
  have r2 := e2 2 (by omega)
  obtain ⟨n0, h0⟩ : ∃ n : Nat, p[0] = (n : Int) := ⟨p[0].toNat, by omega⟩
  obtain ⟨n1, h1⟩ : ∃ n : Nat, p[1] = (n : Int) := ⟨p[1].toNat, by omega⟩
  obtain ⟨n2, h2⟩ : ∃ n : Nat, p[2] = (n : Int) := ⟨p[2].toNat, by omega⟩
  obtain ⟨b0, f0, _⟩ := set_eq b n0 (by omega)
  obtain ⟨b1, f1, _⟩ := set_eq b0 n1 (by omega)
  obtain ⟨b2, f2, _⟩ := set_eq b1 n2 (by omega)
  unfold waybillref10_Add bloom_Add
  rw [rplaces_eq t ht, e1, Option.bind_some, Option.bind_some, if_pos (by omega), rset_eq, h0, f0, Option.bind_some, if_pos (by omega), rset_eq, h1, f1, Option.bind_some, if_pos (by omega), rset_eq, h2, f2, Option.bind_some]
  have g0 : p[0]? = some (n0 : Int) := by rw [Vector.getElem?_eq_getElem (by omega), h0]
  have g1 : p[0 + 1]? = some (n1 : Int) := by rw [Vector.getElem?_eq_getElem (by omega)]; exact congrArg some h1
  have g2 : p[0 + 1 + 1]? = some (n2 : Int) := by rw [Vector.getElem?_eq_getElem (by omega)]; exact congrArg some h2
  have hl : bloom_Add.l1 p (3 - 0 + 2) 0 b = some b2 := by
    show bloom_Add.l1 p (4 + 1) 0 b = some b2
    rw [bloom_Add.l1, if_pos (by omega), g0, Option.bind_some, if_pos (by omega), f0, Option.bind_some]
    show bloom_Add.l1 p (3 + 1) (0 + 1) b0 = some b2
    rw [bloom_Add.l1, if_pos (by omega), g1, Option.bind_some, if_pos (by omega), f1, Option.bind_some]
    show bloom_Add.l1 p (2 + 1) (0 + 1 + 1) b1 = some b2
    rw [bloom_Add.l1, if_pos (by omega), g2, Option.bind_some, if_pos (by omega), f2, Option.bind_some]
    show bloom_Add.l1 p (1 + 1) (0 + 1 + 1 + 1) b2 = some b2
    rw [bloom_Add.l1, if_neg (by omega)]
  rw [hl, Option.bind_some]
theorem has_eq (b : Vector (BitVec 8) 256) (t : List (BitVec 8)) (p : Vector Int 3) (e1 : bloom_Places t = some p) (e2 : ∀ (i : Nat) (h : i < 3), 0 ≤ p[i] ∧ p[i] < (2048 : Int)) : bloom_Has b t = some (bitV b p[0].toNat && bitV b p[1].toNat && bitV b p[2].toNat) := by
  have r0 := e2 0 (by omega)
  have r1 := e2 1 (by omega)
  have r2 := e2 2 (by omega)
  obtain ⟨n0, h0⟩ : ∃ n : Nat, p[0] = (n : Int) := ⟨p[0].toNat, by omega⟩
  obtain ⟨n1, h1⟩ : ∃ n : Nat, p[1] = (n : Int) := ⟨p[1].toNat, by omega⟩
  obtain ⟨n2, h2⟩ : ∃ n : Nat, p[2] = (n : Int) := ⟨p[2].toNat, by omega⟩
  have g0 : p[0]? = some (n0 : Int) := by rw [Vector.getElem?_eq_getElem (by omega), h0]
  have g1 : p[0 + 1]? = some (n1 : Int) := by rw [Vector.getElem?_eq_getElem (by omega)]; exact congrArg some h1
  have g2 : p[0 + 1 + 1]? = some (n2 : Int) := by rw [Vector.getElem?_eq_getElem (by omega)]; exact congrArg some h2
  rw [h0, h1, h2, Int.toNat_natCast, Int.toNat_natCast, Int.toNat_natCast]
  unfold bloom_Has
  rw [e1, Option.bind_some]
  show (bloom_Has.l1 b p (4 + 1) 0).bind _ = _
  rw [bloom_Has.l1, if_pos (by omega), g0, Option.bind_some, if_pos (by omega), has_bit, bit_eq b n0 (by omega), Option.bind_some]
  cases c0 : bitV b n0 with
  | false => rw [if_neg (by decide)]; rfl
  | true =>
    rw [if_pos rfl]
    show (bloom_Has.l1 b p (3 + 1) (0 + 1)).bind _ = _
    rw [bloom_Has.l1, if_pos (by omega), g1, Option.bind_some, if_pos (by omega), has_bit, bit_eq b n1 (by omega), Option.bind_some]
    cases c1 : bitV b n1 with
    | false => rw [if_neg (by decide)]; rfl
    | true =>
      rw [if_pos rfl]
      show (bloom_Has.l1 b p (2 + 1) (0 + 1 + 1)).bind _ = _
      rw [bloom_Has.l1, if_pos (by omega), g2, Option.bind_some, if_pos (by omega), has_bit, bit_eq b n2 (by omega), Option.bind_some]
      cases c2 : bitV b n2 with
      | false => rw [if_neg (by decide)]; rfl
      | true =>
        rw [if_pos rfl]
        show (bloom_Has.l1 b p (1 + 1) (0 + 1 + 1 + 1)).bind _ = _
        rw [bloom_Has.l1, if_neg (by omega)]; rfl
theorem rhas_eq (b : Vector (BitVec 8) 256) (t : List (BitVec 8)) (ht : t.length + 137 ≤ 140737488355328) (p : Vector Int 3) (e1 : bloom_Places t = some p) (e2 : ∀ (i : Nat) (h : i < 3), 0 ≤ p[i] ∧ p[i] < (2048 : Int)) : waybillref10_Has b t = some (bitV b p[0].toNat && bitV b p[1].toNat && bitV b p[2].toNat) := by
  have r0 := e2 0 (by omega)
  have r1 := e2 1 (by omega)
  have r2 := e2 2 (by omega)
  obtain ⟨n0, h0⟩ : ∃ n : Nat, p[0] = (n : Int) := ⟨p[0].toNat, by omega⟩
  obtain ⟨n1, h1⟩ : ∃ n : Nat, p[1] = (n : Int) := ⟨p[1].toNat, by omega⟩
  obtain ⟨n2, h2⟩ : ∃ n : Nat, p[2] = (n : Int) := ⟨p[2].toNat, by omega⟩
  unfold waybillref10_Has
  rw [rplaces_eq t ht, e1, Option.bind_some, if_pos (by omega), rbit_eq, has_bit, h0, h1, h2, bit_eq b n0 (by omega), Option.bind_some, Int.toNat_natCast, Int.toNat_natCast, Int.toNat_natCast]
  cases c0 : bitV b n0 with
  | false => rw [if_neg (by decide)]; rfl
  | true =>
    rw [if_pos rfl, if_pos (by omega), rbit_eq, has_bit, bit_eq b n1 (by omega), Option.bind_some]
    cases c1 : bitV b n1 with
    | false => rw [if_neg (by decide)]; rfl
    | true =>
      rw [if_pos rfl, if_pos (by omega), rbit_eq, has_bit, bit_eq b n2 (by omega), Option.bind_some]
      rfl
theorem adds_law (b : Vector (BitVec 8) 256) (t : List (BitVec 8)) (ht : t.length + 137 ≤ 140737488355328) : waybilllaw10_BloomAdds b t = some true := by
  obtain ⟨p, e1, e2⟩ := places_total t (by omega)
  obtain ⟨b', f1, _⟩ := add_eq b t p e1 e2
  unfold waybilllaw10_BloomAdds waybilllaw10_roomy waybilllaw10_stays
  rw [if_pos (by omega), Option.bind_some, e1, Option.bind_some, rplaces_eq t ht, e1, Option.bind_some, if_pos rfl, radd_eq b t ht, f1, Option.bind_some, Option.bind_some, if_pos rfl, has_eq b t p e1 e2, rhas_eq b t ht p e1 e2, Option.bind_some, Option.bind_some, Option.bind_some, if_neg (by simp), Option.bind_some, decide_eq_true rfl]
theorem rof_loop (a : List (List (BitVec 8))) (ha : ∀ t ∈ a, t.length + 137 ≤ 140737488355328) : ∀ (k n : Nat) (w : Vector (BitVec 8) 256), waybillref10_Of.l1 a k n w = bloom_Of.l1 a k n w
  | 0, n, w => rfl
  | k + 1, n, w => by
    rw [waybillref10_Of.l1, bloom_Of.l1]
    by_cases h : n < a.length
    · rw [if_pos h, if_pos h, List.getElem?_eq_getElem h, Option.bind_some, Option.bind_some, radd_eq _ _ (ha _ (List.getElem_mem h))]
      simp only [rof_loop a ha k]
    · rw [if_neg h, if_neg h]
theorem rooms_loop (a : List (List (BitVec 8))) (ha : ∀ t ∈ a, t.length + 137 ≤ 140737488355328) (hb : (a.length + 1) * 24 ≤ 140737488355328) : ∀ (d i k : Nat) (l : List (List (BitVec 8))), i + d = a.length → d < k → l = a.take i → waybilllaw10_roomyAll.l1 a k l i = some a
  | 0, i, k, l, h, hk, hl => by
    obtain ⟨k, rfl⟩ : ∃ m, k = m + 1 := ⟨k - 1, by omega⟩
    rw [waybilllaw10_roomyAll.l1, if_neg (by omega), hl, List.take_of_length_le (by omega)]
  | d + 1, i, k, l, h, hk, hl => by
    obtain ⟨k, rfl⟩ : ∃ m, k = m + 1 := ⟨k - 1, by omega⟩
    have h1 : i < a.length := by omega
    have h2 := ha _ (List.getElem_mem h1)
    have h3 : l.length ≤ i := by rw [hl, List.length_take]; omega
    rw [waybilllaw10_roomyAll.l1, if_pos h1, List.getElem?_eq_getElem h1, Option.bind_some]
    unfold waybilllaw10_roomy
    rw [if_pos (by omega), Option.bind_some, if_pos (by simp only [List.length_cons, List.length_nil]; omega)]
    exact rooms_loop a ha hb d (i + 1) k _ (by omega) (by omega) (by rw [hl, List.take_add_one, List.getElem?_eq_getElem h1]; rfl)
theorem left_loop (a : List (List (BitVec 8))) : ∀ (d i k : Nat), i + d = a.length → d < k → waybilllaw10_left.l1 a a k i = some (Lp.go ())
  | 0, i, k, h, hk => by
    obtain ⟨k, rfl⟩ : ∃ m, k = m + 1 := ⟨k - 1, by omega⟩
    rw [waybilllaw10_left.l1, if_neg (by omega)]
  | d + 1, i, k, h, hk => by
    obtain ⟨k, rfl⟩ : ∃ m, k = m + 1 := ⟨k - 1, by omega⟩
    have h1 : i < a.length := by omega
    rw [waybilllaw10_left.l1, if_pos h1, List.getElem?_eq_getElem h1, Option.bind_some, Option.bind_some]
    unfold waybilllaw10_stays
    rw [decide_eq_true rfl, Option.bind_some, if_pos rfl]
    exact left_loop a d (i + 1) k (by omega) (by omega)
theorem same10_refl (a : List (BitVec 8)) : ∀ (d i k : Nat), i + d = a.length → d < k → waybilllaw10_same.l1 a a k i = some (Lp.go ())
  | 0, i, k, h, hk => by
    obtain ⟨k, rfl⟩ : ∃ m, k = m + 1 := ⟨k - 1, by omega⟩
    rw [waybilllaw10_same.l1, if_neg (by omega)]
  | d + 1, i, k, h, hk => by
    obtain ⟨k, rfl⟩ : ∃ m, k = m + 1 := ⟨k - 1, by omega⟩
    have h1 : i < a.length := by omega
    rw [waybilllaw10_same.l1, if_pos h1, List.getElem?_eq_getElem h1, Option.bind_some, Option.bind_some, if_pos rfl]
    exact same10_refl a d (i + 1) k (by omega) (by omega)
theorem left_refl (a : List (List (BitVec 8))) : waybilllaw10_left a a = some true := by
  unfold waybilllaw10_left
  rw [if_pos rfl, left_loop a a.length 0 _ (by omega) (by omega), Option.bind_some]
  dsimp only
  rw [if_pos (by simp), List.getElem?_take, if_pos (by omega), List.getElem?_append_right (Nat.le_refl _), Nat.sub_self]
  show (waybilllaw10_same [164#8] [164#8]).bind _ = _
  unfold waybilllaw10_same
  rw [if_pos rfl, same10_refl [164#8] 1 0 _ rfl (by decide)]
  rfl
theorem bof_law (a : List (List (BitVec 8))) (ha : ∀ t ∈ a, t.length + 137 ≤ 140737488355328) (hb : (a.length + 1) * 24 ≤ 140737488355328) : waybilllaw10_BloomOf a = some true := by
  obtain ⟨b, e1, _⟩ := of_eq a (fun t ht => by have := ha t ht; omega)
  have e2 : waybillref10_Of a = some b := by
    rw [← e1]
    unfold waybillref10_Of bloom_Of
    rw [rof_loop a ha]
  have e3 : waybilllaw10_roomyAll a = some a := by
    unfold waybilllaw10_roomyAll
    rw [rooms_loop a ha hb a.length 0 (a.length - 0 + 2) [] (by omega) (by omega) (by simp), Option.bind_some, if_pos (by simp only [List.length_cons, List.length_nil]; omega), if_pos rfl]
  unfold waybilllaw10_BloomOf
  rw [e3, Option.bind_some, e1, Option.bind_some, e2, Option.bind_some, if_pos rfl, left_refl, Option.bind_some, Option.bind_some]
end Go.Fw
