/- Part of a proof: rules that its law uses. -/
import Derived.Test.YtojnakdlnlcmiaaDoorBloH2
namespace Go.Fw
set_option linter.unusedVariables false
set_option linter.unusedSimpArgs false
set_option maxRecDepth 10000
def inT (t : List (BitVec 8)) (k : Nat) : Bool := match bloom_Places t with
  | some p => inP p k
  | none => false
def inL (l : List (List (BitVec 8))) (k : Nat) : Bool := l.any (fun t => inT t k)
theorem of_loop (a : List (List (BitVec 8))) (ha : ∀ t ∈ a, t.length ≤ 140737488355328) : ∀ (d i k : Nat) (w : Vector (BitVec 8) 256), i + d = a.length → d < k → (∀ q, q < 2048 → bitV w q = inL (a.take i) q) → ∃ w', bloom_Of.l1 a k i w = some w' ∧ ∀ q, q < 2048 → bitV w' q = inL a q
  | 0, i, k, w, h, hk, hw => by
    obtain ⟨k, rfl⟩ : ∃ m, k = m + 1 := ⟨k - 1, by omega⟩
    refine ⟨w, by rw [bloom_Of.l1, if_neg (by omega)], ?_⟩
    rwa [List.take_of_length_le (by omega)] at hw
  | d + 1, i, k, w, h, hk, hw => by
    obtain ⟨k, rfl⟩ : ∃ m, k = m + 1 := ⟨k - 1, by omega⟩
    have h1 : i < a.length := by omega
    obtain ⟨p, e1, e2⟩ := places_total a[i] (ha _ (List.getElem_mem h1))
    obtain ⟨b', f1, f2⟩ := add_eq w a[i] p e1 e2
    rw [bloom_Of.l1, if_pos h1, List.getElem?_eq_getElem h1, Option.bind_some, f1, Option.bind_some]
    refine of_loop a ha d (i + 1) k b' (by omega) (by omega) fun q hq => ?_
    rw [f2 q hq, hw q hq, List.take_add_one, List.getElem?_eq_getElem h1]
    unfold inL
    rw [List.any_append]
    simp [inT, e1]
theorem of_eq (a : List (List (BitVec 8))) (ha : ∀ t ∈ a, t.length ≤ 140737488355328) : ∃ b, bloom_Of a = some b ∧ (∀ q, q < 2048 → bitV b q = inL a q) ∧ (a = [] → b = Vector.replicate 256 0#8) := by
  unfold bloom_Of
  by_cases h0 : a = []
  · subst h0
    refine ⟨Vector.replicate 256 0#8, rfl, fun q _ => by rw [zero_bits]; rfl, fun _ => rfl⟩
  · obtain ⟨w, e1, e2⟩ := of_loop a ha a.length 0 (a.length - 0 + 2) (Vector.replicate 256 0#8) (by omega) (by omega) (fun q _ => by rw [zero_bits]; simp [inL])
    rw [e1, Option.bind_some]
    exact ⟨w, rfl, e2, fun h => absurd h h0⟩
theorem holds_loop (a : List (List (BitVec 8))) (ha : ∀ t ∈ a, t.length ≤ 140737488355328) (j : Nat) (b : Vector (BitVec 8) 256) (hb : ∀ q, q < 2048 → bitV b q = inL a q) : ∀ (d i k : Nat) (w : Bool), i + d = a.length → d < k → w = inL (a.take i) j → waybilllaw10_BloomHolds.l1 a ((j : Nat) : Int) b k w i = some (Lp.go (inL a j))
  | 0, i, k, w, h, hk, hw => by
    obtain ⟨k, rfl⟩ : ∃ m, k = m + 1 := ⟨k - 1, by omega⟩
    rw [waybilllaw10_BloomHolds.l1, if_neg (by omega), hw, List.take_of_length_le (by omega)]
  | d + 1, i, k, w, h, hk, hw => by
    obtain ⟨k, rfl⟩ : ∃ m, k = m + 1 := ⟨k - 1, by omega⟩
    have h1 : i < a.length := by omega
    have hm := List.getElem_mem h1
    obtain ⟨p, e1, e2⟩ := places_total a[i] (ha _ hm)
    have r0 := e2 0 (by omega)
    have r1 := e2 1 (by omega)
    have r2 := e2 2 (by omega)
    have bits : ∀ (z : Int), 0 ≤ z → z < 2048 → (p[0] = z ∨ p[1] = z ∨ p[2] = z) → waybilllaw10_bit b z = some true := by
      intro z h0 h2 hz
      obtain ⟨n, rfl⟩ : ∃ n : Nat, z = (n : Int) := ⟨z.toNat, by omega⟩
      rw [bit_eq b n (by omega), hb n (by omega)]
      congr 1
      unfold inL
      rw [List.any_eq_true]
      refine ⟨a[i], hm, ?_⟩
      unfold inT
      rw [e1]
      unfold inP
      rcases hz with e | e | e <;> simp [e]
    have w' : (if w = true then some true else (if p[0] = ((j : Nat) : Int) then some true else (if p[1] = ((j : Nat) : Int) then some true else some (decide (p[2] = ((j : Nat) : Int)))))) = some (w || inP p j) := by
      unfold inP
      by_cases c : w = true
      · rw [if_pos c, c]; rfl
      · rw [if_neg c]
        have : w = false := by simpa using c
        subst this
        by_cases c0 : p[0] = ((j : Nat) : Int)
        · rw [if_pos c0]; simp [c0]
        · rw [if_neg c0]
          by_cases c1 : p[1] = ((j : Nat) : Int)
          · rw [if_pos c1]; simp [c1]
          · rw [if_neg c1]; simp [c0, c1]
    rw [waybilllaw10_BloomHolds.l1, if_pos h1, List.getElem?_eq_getElem h1, Option.bind_some, e1, Option.bind_some, w', Option.bind_some,
      if_neg (by omega), if_neg (by omega), if_neg (by omega), if_neg (by omega), if_neg (by omega), if_neg (by omega), if_pos (by omega), bits p[0] r0.1 r0.2 (.inl rfl), Option.bind_some, if_pos rfl, if_pos (by omega), bits p[1] r1.1 r1.2 (.inr (.inl rfl)), Option.bind_some, if_pos rfl, if_pos (by omega), bits p[2] r2.1 r2.2 (.inr (.inr rfl)), Option.bind_some, Option.bind_some, if_neg (by simp)]
    refine holds_loop a ha j b hb d (i + 1) k _ (by omega) (by omega) ?_
    rw [hw, List.take_add_one, List.getElem?_eq_getElem h1]
    unfold inL
    rw [List.any_append]
    simp [inT, e1]
theorem make_one (j : Nat) (hj : j < 2048) : ∃ b, bloom_Make [((j : Nat) : Int)] = some (b, 0) ∧ bitV b j = true := by
  obtain ⟨b', e1, e2⟩ := set_eq (Vector.replicate 256 0#8) j hj
  refine ⟨b', ?_, by rw [e2 j hj]; simp⟩
  have h : bloom_Make.l1 [((j : Nat) : Int)] ([((j : Nat) : Int)].length - 0 + 2) 0 (Vector.replicate 256 0#8) = some (Lp.go b') := by
    show bloom_Make.l1 [((j : Nat) : Int)] (2 + 1) 0 (Vector.replicate 256 0#8) = _
    rw [bloom_Make.l1, if_pos (by simp)]
    show (some ((j : Nat) : Int)).bind _ = _
    rw [Option.bind_some, if_neg (by omega), Option.bind_some, if_neg (by simp; omega), if_pos (by omega), e1, Option.bind_some, bloom_Make.l1, if_neg (by simp)]
  unfold bloom_Make
  rw [h, Option.bind_some]
theorem holds_law (a : List (List (BitVec 8))) (z : Int) (ha : ∀ t ∈ a, t.length ≤ 140737488355328) : waybilllaw10_BloomHolds a z = some true := by
  unfold waybilllaw10_BloomHolds
  obtain ⟨b, e1, e2, e3⟩ := of_eq a ha
  rw [e1, Option.bind_some]
  by_cases hz : 0 ≤ z ∧ z < 2048
  · obtain ⟨j, rfl⟩ : ∃ n : Nat, z = (n : Int) := ⟨z.toNat, by omega⟩
    rw [if_neg (by omega), Option.bind_some, if_neg (by simp; omega), holds_loop a ha j b e2 a.length 0 _ _ (by omega) (by omega) (by simp [inL]), Option.bind_some]
    dsimp only
    obtain ⟨c, f1, f2⟩ := make_one j (by omega)
    rw [f1, Option.bind_some]
    dsimp only
    rw [if_pos (by omega), bit_eq b j (by omega), e2 j (by omega), Option.bind_some, if_pos rfl, if_pos rfl, bit_eq c j (by omega), f2, Option.bind_some, Option.bind_some]
  · have h9 : (if z < 0 then some true else some (decide (2047 < z))) = some true := by
      by_cases h : z < 0
      · rw [if_pos h]
      · rw [if_neg h, decide_eq_true (by omega)]
    rw [h9, Option.bind_some, if_pos rfl]
    by_cases hl : 0 < a.length
    · rw [if_pos hl]; rfl
    · rw [if_neg hl, e3 (List.length_eq_zero_iff.1 (by omega))]
      simp
end Go.Fw
