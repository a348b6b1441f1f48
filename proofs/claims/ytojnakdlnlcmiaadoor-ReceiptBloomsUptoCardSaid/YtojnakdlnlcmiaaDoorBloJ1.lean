/- Part of a proof: rules that its law uses. -/
import Derived.Test.YtojnakdlnlcmiaaDoorBloQ1
namespace Go.Fw
set_option linter.unusedVariables false
set_option linter.unusedSimpArgs false
set_option maxRecDepth 10000
theorem bits_ext {b c : Vector (BitVec 8) 256} (h : ∀ k, k < 2048 → bitV b k = bitV c k) : b = c := by
  refine Vector.ext fun i hi => ?_
  refine BitVec.eq_of_getLsbD_eq fun j hj => ?_
  have h1 := h (8 * (255 - i) + j) (by omega)
  unfold bitV at h1
  have e1 : 255 - (8 * (255 - i) + j) / 8 = i := by omega
  have e2 : (8 * (255 - i) + j) % 8 = j := by omega
  simp only [e1, e2] at h1
  exact h1
theorem or_loop (x : Vector (BitVec 8) 256) : ∀ (d n k : Nat) (w : Vector (BitVec 8) 256), n + d = 256 → d < k → ∃ w', bloom_Union.l2 x k n w = some w' ∧ ∀ (i : Nat) (h : i < 256), w'[i] = if n ≤ i then w[i] ||| x[i] else w[i]
  | 0, n, k, w, h, hk => by
    obtain ⟨k, rfl⟩ : ∃ m, k = m + 1 := ⟨k - 1, by omega⟩
    exact ⟨w, by rw [bloom_Union.l2, if_neg (by omega)], fun i hi => by rw [if_neg (by omega)]⟩
  | d + 1, n, k, w, h, hk => by
    obtain ⟨k, rfl⟩ : ∃ m, k = m + 1 := ⟨k - 1, by omega⟩
    have h1 : n < 256 := by omega
    obtain ⟨w', e1, e2⟩ := or_loop x d (n + 1) k (w.setIfInBounds n (w[n] ||| x[n])) (by omega) (by omega)
    refine ⟨w', by rw [bloom_Union.l2, if_pos h1, Vector.getElem?_eq_getElem h1, Option.bind_some, Vector.getElem?_eq_getElem h1, Option.bind_some, e1], fun i hi => ?_⟩
    rw [e2 i hi, Vector.getElem_setIfInBounds]
    by_cases c : n = i
    · subst c
      rw [if_neg (by omega), if_pos rfl, if_pos (Nat.le_refl _)]
    · rw [if_neg c]
      by_cases c2 : n + 1 ≤ i
      · rw [if_pos c2, if_pos (by omega)]
      · rw [if_neg c2, if_neg (by omega)]
theorem union_two (x y : Vector (BitVec 8) 256) : ∃ u, bloom_Union [x, y] = some u ∧ ∀ k, k < 2048 → bitV u k = (bitV x k || bitV y k) := by
  obtain ⟨w1, e1, g1⟩ := or_loop x 256 0 (256 - 0 + 2) (Vector.replicate 256 0#8) (by omega) (by omega)
  obtain ⟨w2, e2, g2⟩ := or_loop y 256 0 (256 - 0 + 2) w1 (by omega) (by omega)
  refine ⟨w2, ?_, fun k hk => ?_⟩
  · unfold bloom_Union
    have h : bloom_Union.l1 [x, y] ([x, y].length - 0 + 2) 0 (Vector.replicate 256 0#8) = some w2 := by
      show bloom_Union.l1 [x, y] (3 + 1) 0 _ = _
      rw [bloom_Union.l1, if_pos (by simp)]
      show (some x).bind _ = _
      rw [Option.bind_some, e1, Option.bind_some]
      show bloom_Union.l1 [x, y] (2 + 1) (0 + 1) w1 = _
      rw [bloom_Union.l1, if_pos (by simp)]
      show (some y).bind _ = _
      rw [Option.bind_some, e2, Option.bind_some]
      show bloom_Union.l1 [x, y] (1 + 1) (0 + 1 + 1) w2 = _
      rw [bloom_Union.l1, if_neg (by simp)]
    rw [h, Option.bind_some]
  · unfold bitV
    rw [g2 _ (by omega), if_pos (Nat.zero_le _), g1 _ (by omega), if_pos (Nat.zero_le _), BitVec.getLsbD_or, BitVec.getLsbD_or]
    simp
theorem within_eq (x u : Vector (BitVec 8) 256) (h : ∀ k, k < 2048 → bitV x k = true → bitV u k = true) : bloom_Within x u = some true := by
  obtain ⟨v, e1, e2⟩ := union_two x u
  have e : v = u := bits_ext fun k hk => by
    rw [e2 k hk]
    cases c : bitV x k with
    | false => rfl
    | true => rw [h k hk c]; rfl
  unfold bloom_Within
  rw [e1, Option.bind_some, e, decide_eq_true rfl]
def dbl (l : List (List (BitVec 8))) : List (List (BitVec 8)) := l.flatMap fun x => [x, x]
theorem take_rev {α : Type} (l : List α) (i : Nat) (h : i < l.length) : (l.take (i + 1)).reverse = l[i] :: (l.take i).reverse := by
  rw [List.take_add_one, List.getElem?_eq_getElem h, Option.toList_some, List.reverse_append]; rfl
theorem dbl_loop (b : List (List (BitVec 8))) (hb : b.length ≤ 1000000000000) : ∀ (i k : Nat) (l : List (List (BitVec 8))), i ≤ b.length → i < k → l.length + 2 * i ≤ 2000000000000 → waybilllaw10_BloomJoins.l3 b k l (((i : Nat) : Int) - 1) = some (l ++ dbl (b.take i).reverse)
  | 0, k, l, hi, hk, hl => by
    obtain ⟨k, rfl⟩ : ∃ m, k = m + 1 := ⟨k - 1, by omega⟩
    rw [waybilllaw10_BloomJoins.l3, if_neg (by omega)]
    simp [dbl]
  | i + 1, k, l, hi, hk, hl => by
    obtain ⟨k, rfl⟩ : ∃ m, k = m + 1 := ⟨k - 1, by omega⟩
    have h1 : i < b.length := by omega
    have e : (((i + 1 : Nat) : Int) - 1) = (i : Int) := by omega
    rw [e, waybilllaw10_BloomJoins.l3, if_pos (by omega), Int.toNat_natCast, List.getElem?_eq_getElem h1, Option.bind_some, Option.bind_some, if_pos (by simp only [List.length_cons, List.length_nil]; omega), if_pos (by omega), dbl_loop b hb i k _ (by omega) (by omega) (by simp only [List.length_append, List.length_cons, List.length_nil]; omega), take_rev b i h1, List.append_assoc]
    rfl
theorem step_loop (a : List (List (BitVec 8))) (ha : ∀ t ∈ a, t.length ≤ 140737488355328) (hn : a.length ≤ 1000000000000) : ∀ (i k : Nat) (l : List (List (BitVec 8))) (w : Vector (BitVec 8) 256), i ≤ a.length → i < k → l.length + i ≤ 3000000000000 → ∃ w', waybilllaw10_BloomJoins.l2 a k l (((i : Nat) : Int) - 1) w = some (l ++ (a.take i).reverse, w') ∧ ∀ q, q < 2048 → bitV w' q = (bitV w q || inL (a.take i) q)
  | 0, k, l, w, hi, hk, hl => by
    obtain ⟨k, rfl⟩ : ∃ m, k = m + 1 := ⟨k - 1, by omega⟩
    refine ⟨w, ?_, fun q _ => by simp [inL]⟩
    rw [waybilllaw10_BloomJoins.l2, if_neg (by omega)]
    simp
  | i + 1, k, l, w, hi, hk, hl => by
    obtain ⟨k, rfl⟩ : ∃ m, k = m + 1 := ⟨k - 1, by omega⟩
    have h1 : i < a.length := by omega
    have e : (((i + 1 : Nat) : Int) - 1) = (i : Int) := by omega
    obtain ⟨p, p1, p2⟩ := places_total a[i] (ha _ (List.getElem_mem h1))
    obtain ⟨b', f1, f2⟩ := add_eq w a[i] p p1 p2
    obtain ⟨w', g1, g2⟩ := step_loop a ha hn i k (l ++ ([a[i]] : List (List (BitVec 8)))) b' (by omega) (by omega) (by simp only [List.length_append, List.length_cons, List.length_nil]; omega)
    refine ⟨w', ?_, fun q hq => ?_⟩
    · rw [e, waybilllaw10_BloomJoins.l2, if_pos (by omega), Int.toNat_natCast, List.getElem?_eq_getElem h1, Option.bind_some, if_pos (by simp only [List.length_cons, List.length_nil]; omega), Option.bind_some, f1, Option.bind_some, if_pos (by omega), g1, take_rev a i h1, List.append_assoc]
      rfl
    · rw [g2 q hq, f2 q hq, List.take_add_one, List.getElem?_eq_getElem h1, Option.toList_some]
      have hT : inT a[i] q = inP p q := by unfold inT; rw [p1]
      unfold inL
      rw [List.any_append]
      simp only [List.any_cons, List.any_nil, Bool.or_false, hT]
      cases bitV w q <;> cases inP p q <;> cases (a.take i).any (fun t => inT t q) <;> rfl
theorem dbl_any (l : List (List (BitVec 8))) (q : Nat) : inL (dbl l) q = inL l q := by
  unfold inL dbl
  induction l with
  | nil => rfl
  | cons x l ih =>
    rw [List.flatMap_cons, List.any_append, ih, List.any_cons]
    simp
theorem hasall_loop (T : List (List (BitVec 8))) (hT : ∀ t ∈ T, t.length ≤ 140737488355328) (b : Vector (BitVec 8) 256) (hb : ∀ q, q < 2048 → bitV b q = inL T q) : ∀ (d i k : Nat), i + d = T.length → d < k → waybilllaw10_BloomJoins.l1 T b k i = some (Lp.go ())
  | 0, i, k, h, hk => by
    obtain ⟨k, rfl⟩ : ∃ m, k = m + 1 := ⟨k - 1, by omega⟩
    rw [waybilllaw10_BloomJoins.l1, if_neg (by omega)]
  | d + 1, i, k, h, hk => by
    obtain ⟨k, rfl⟩ : ∃ m, k = m + 1 := ⟨k - 1, by omega⟩
    have h1 : i < T.length := by omega
    have hm := List.getElem_mem h1
    obtain ⟨p, p1, p2⟩ := places_total T[i] (hT _ hm)
    have bits : ∀ z : Int, 0 ≤ z → z < 2048 → (p[0] = z ∨ p[1] = z ∨ p[2] = z) → bitV b z.toNat = true := by
      intro z h0 h2 hz
      rw [hb _ (by omega)]
      unfold inL
      rw [List.any_eq_true]
      refine ⟨T[i], hm, ?_⟩
      unfold inT
      rw [p1]
      unfold inP
      have hz' : ((z.toNat : Nat) : Int) = z := by omega
      rcases hz with e | e | e <;> simp [e, hz']
    have r0 := p2 0 (by omega)
    have r1 := p2 1 (by omega)
    have r2 := p2 2 (by omega)
    rw [waybilllaw10_BloomJoins.l1, if_pos h1, List.getElem?_eq_getElem h1, Option.bind_some, has_eq b T[i] p p1 p2, bits p[0] r0.1 r0.2 (.inl rfl), bits p[1] r1.1 r1.2 (.inr (.inl rfl)), bits p[2] r2.1 r2.2 (.inr (.inr rfl)), Option.bind_some, if_pos (by decide)]
    exact hasall_loop T hT b hb d (i + 1) k (by omega) (by omega)
theorem joinsB_law (a b : List (List (BitVec 8))) (ha : ∀ t ∈ a, t.length ≤ 140737488355328) (hb : ∀ t ∈ b, t.length ≤ 140737488355328) (hn : a.length ≤ 1000000000000) (hm : b.length ≤ 1000000000000) : waybilllaw10_BloomJoins a b = some true := by
  obtain ⟨x, x1, x2, _⟩ := of_eq a ha
  obtain ⟨y, y1, y2, _⟩ := of_eq b hb
  have d1 := dbl_loop b hm b.length (((((b.length : Nat) : Int) - (1 : Int)) - (0 : Int) + 2).toNat) [] (Nat.le_refl _) (by omega) (by simp only [List.length_nil]; omega)
  rw [List.nil_append, List.take_length] at d1
  have hdl : (dbl b.reverse).length = 2 * b.length := by
    have : ∀ l : List (List (BitVec 8)), (dbl l).length = 2 * l.length := fun l => by
      unfold dbl
      induction l with
      | nil => rfl
      | cons x l ih => rw [List.flatMap_cons, List.length_append, ih]; simp; omega
    rw [this, List.length_reverse]
  obtain ⟨w, s1, s2⟩ := step_loop a ha hn a.length (((((a.length : Nat) : Int) - (1 : Int)) - (0 : Int) + 2).toNat) (dbl b.reverse) y (Nat.le_refl _) (by omega) (by omega)
  rw [List.take_length] at s1 s2
  generalize hT : dbl b.reverse ++ a.reverse = T at s1
  have hTm : ∀ t ∈ T, t.length ≤ 140737488355328 := by
    intro t ht
    rw [← hT] at ht
    rcases List.mem_append.1 ht with h | h
    · unfold dbl at h
      obtain ⟨z, hz, h⟩ := List.mem_flatMap.1 h
      have : t = z := by simpa using h
      exact hb _ (by rw [this]; exact List.mem_reverse.1 hz)
    · exact ha _ (List.mem_reverse.1 h)
  obtain ⟨u, u1, u2, _⟩ := of_eq T hTm
  have hin : ∀ q, inL T q = (inL b q || inL a q) := by
    intro q
    rw [← hT]
    have e1 : inL (dbl b.reverse) q = inL b q := by rw [dbl_any]; unfold inL; rw [List.any_reverse]
    have e2 : inL a.reverse q = inL a q := by unfold inL; rw [List.any_reverse]
    rw [← e1, ← e2]
    unfold inL
    rw [List.any_append]
  obtain ⟨v, v1, v2⟩ := union_two x y
  have huv : u = v := bits_ext fun k hk => by rw [u2 k hk, v2 k hk, x2 k hk, y2 k hk, hin, Bool.or_comm]
  have huw : u = w := bits_ext fun k hk => by rw [u2 k hk, s2 k hk, y2 k hk, hin]
  have hxu : bloom_Within x u = some true := within_eq x u fun k hk h => by rw [u2 k hk, hin]; rw [x2 k hk] at h; rw [h, Bool.or_true]
  have hyu : bloom_Within y u = some true := within_eq y u fun k hk h => by rw [u2 k hk, hin]; rw [y2 k hk] at h; rw [h, Bool.true_or]
  unfold waybilllaw10_BloomJoins
  rw [x1, Option.bind_some, y1, Option.bind_some, d1, Option.bind_some, s1, Option.bind_some]
  dsimp only
  rw [u1, Option.bind_some, v1, Option.bind_some, if_pos huv, if_pos huw, hxu, Option.bind_some, if_pos rfl, hyu, Option.bind_some, Option.bind_some, if_neg (by decide), hasall_loop T hTm u u2 T.length 0 (T.length - 0 + 2) (by omega) (by omega), Option.bind_some]
  dsimp only
  by_cases h0 : T.length = 0
  · rw [if_pos h0, Option.bind_some]
  · rw [if_neg h0, Option.bind_some]
    have h1 : 0 < T.length := by omega
    obtain ⟨p, p1, p2⟩ := places_total T[0] (hTm _ (List.getElem_mem h1))
    have r0 := p2 0 (by omega)
    have hz : u ≠ Vector.replicate 256 0#8 := by
      intro e
      have h2 := u2 p[0].toNat (by omega)
      rw [e, zero_bits] at h2
      have h3 : inL T p[0].toNat = true := by
        unfold inL
        rw [List.any_eq_true]
        refine ⟨T[0], List.getElem_mem h1, ?_⟩
        unfold inT
        rw [p1]
        unfold inP
        have hz' : ((p[0].toNat : Nat) : Int) = p[0] := by omega
        simp [hz']
      rw [h3] at h2
      cases h2
    rw [decide_eq_false hz]
    rfl
end Go.Fw
