/- Part of a proof: rules that its law uses. -/
import Derived.Test.YtojnakdlnlcmiaaDoorBloJ1
import Derived.Test.YtojnakdlnlcmiaaDoorRecP4
namespace Go.Fw
set_option linter.unusedVariables false
set_option linter.unusedSimpArgs false
set_option maxRecDepth 10000
theorem has_in (T : List (List (BitVec 8))) (hT : ∀ t ∈ T, t.length ≤ 140737488355328) (b : Vector (BitVec 8) 256) (hb : ∀ q, q < 2048 → bitV b q = inL T q) {t : List (BitVec 8)} (hm : t ∈ T) : bloom_Has b t = some true := by
  obtain ⟨p, p1, p2⟩ := places_total t (hT _ hm)
  have bits : ∀ z : Int, 0 ≤ z → z < 2048 → (p[0] = z ∨ p[1] = z ∨ p[2] = z) → bitV b z.toNat = true := by
    intro z h0 h2 hz
    rw [hb _ (by omega)]
    unfold inL
    rw [List.any_eq_true]
    refine ⟨t, hm, ?_⟩
    unfold inT
    rw [p1]
    unfold inP
    have hz' : ((z.toNat : Nat) : Int) = z := by omega
    rcases hz with e | e | e <;> simp [e, hz']
  have r0 := p2 0 (by omega)
  have r1 := p2 1 (by omega)
  have r2 := p2 2 (by omega)
  rw [has_eq b t p p1 p2, bits p[0] r0.1 r0.2 (.inl rfl), bits p[1] r1.1 r1.2 (.inr (.inl rfl)), bits p[2] r2.1 r2.2 (.inr (.inr rfl))]
  rfl
def logT (x : Log) : List (List (BitVec 8)) := x.address.toList :: x.topics.map (·.toList)
def logsT (l : List Log) : List (List (BitVec 8)) := l.flatMap logT
theorem logT_len (x : Log) : (logT x).length = x.topics.length + 1 := by simp [logT]
theorem logsT_len (l : List Log) : (logsT l).length = (l.map fun x => x.topics.length + 1).sum := by
  induction l with
  | nil => rfl
  | cons x l ih => rw [logsT, List.flatMap_cons, List.length_append, logT_len, List.map_cons, List.sum_cons, ← ih]; rfl
theorem logT_le {a : List Log} {x : Log} (hm : x ∈ a) : (logT x).length ≤ (logsT a).length := by
  obtain ⟨s, t, e⟩ := List.append_of_mem hm
  rw [logsT, e, List.flatMap_append, List.flatMap_cons, List.length_append, List.length_append]
  omega
theorem logsT_small {l : List Log} {t : List (BitVec 8)} (h : t ∈ logsT l) : t.length ≤ 32 := by
  obtain ⟨x, _, hx⟩ := List.mem_flatMap.1 h
  rcases List.mem_cons.1 hx with rfl | hx
  · rw [Vector.length_toList]; omega
  · obtain ⟨y, _, rfl⟩ := List.mem_map.1 hx
    rw [Vector.length_toList]; omega
theorem rbof_in (a : List Log) (n : Nat) (x : Log) (hx : a[n]? = some x) : ∀ (d i k : Nat) (l : List (List (BitVec 8))), i + d = x.topics.length → d < k → (l.length + d) * 24 ≤ 140737488355328 → receipt_BloomOf.l2 a n x k l i = some (l ++ (x.topics.drop i).map (·.toList))
  | 0, i, k, l, h, hk, hb => by
    obtain ⟨k, rfl⟩ : ∃ m, k = m + 1 := ⟨k - 1, by omega⟩
    rw [receipt_BloomOf.l2, if_neg (by omega), List.drop_eq_nil_of_le (by omega), List.map_nil, List.append_nil]
  | d + 1, i, k, l, h, hk, hb => by
    obtain ⟨k, rfl⟩ : ∃ m, k = m + 1 := ⟨k - 1, by omega⟩
    have h1 : i < x.topics.length := by omega
    rw [receipt_BloomOf.l2, if_pos h1, hx, Option.bind_some, List.getElem?_eq_getElem h1, Option.bind_some, if_pos (by simp; omega), rbof_in a n x hx d (i + 1) k _ (by omega) (by omega) (by simp; omega), List.append_assoc, List.singleton_append, List.drop_eq_getElem_cons h1, List.map_cons]
theorem rbof_out (a : List Log) : ∀ (d i k : Nat) (l : List (List (BitVec 8))), i + d = a.length → d < k → (l.length + (logsT (a.drop i)).length) * 24 ≤ 140737488355328 → receipt_BloomOf.l1 a k l i = some (l ++ logsT (a.drop i))
  | 0, i, k, l, h, hk, hb => by
    obtain ⟨k, rfl⟩ : ∃ m, k = m + 1 := ⟨k - 1, by omega⟩
    rw [receipt_BloomOf.l1, if_neg (by omega), List.drop_eq_nil_of_le (by omega)]
    simp [logsT]
  | d + 1, i, k, l, h, hk, hb => by
    obtain ⟨k, rfl⟩ : ∃ m, k = m + 1 := ⟨k - 1, by omega⟩
    have h1 : i < a.length := by omega
    have hx : a[i]? = some a[i] := List.getElem?_eq_getElem h1
    have hs : logsT (a.drop i) = logT a[i] ++ logsT (a.drop (i + 1)) := by rw [List.drop_eq_getElem_cons h1, logsT, List.flatMap_cons]; rfl
    rw [hs, List.length_append, logT_len] at hb
    rw [receipt_BloomOf.l1, if_pos h1, hx, Option.bind_some, if_pos (by simp; omega), Option.bind_some, rbof_in a i _ hx _ 0 _ _ (Nat.zero_add _) (by omega) (by simp; omega), Option.bind_some, rbof_out a d (i + 1) k _ (by omega) (by omega) (by simp; omega), hs, List.drop_zero]
    simp [logT]
theorem rbof_eq (a : List Log) (hb : (logsT a).length * 24 ≤ 140737488355328) : receipt_BloomOf a = bloom_Of (logsT a) := by
  unfold receipt_BloomOf
  rw [rbof_out a a.length 0 (a.length - 0 + 2) [] (by omega) (by omega) (by simpa using hb), Option.bind_some, List.drop_zero, List.nil_append]
  cases bloom_Of (logsT a) <;> rfl
theorem rbof_bits (a : List Log) (hb : (logsT a).length * 24 ≤ 140737488355328) : ∃ b, receipt_BloomOf a = some b ∧ (∀ q, q < 2048 → bitV b q = inL (logsT a) q) ∧ (logsT a = [] → b = Vector.replicate 256 0#8) := by
  rw [rbof_eq a hb]
  exact of_eq (logsT a) (fun t ht => by have := logsT_small ht; omega)
theorem inL_append (a b : List (List (BitVec 8))) (q : Nat) : inL (a ++ b) q = (inL a q || inL b q) := by unfold inL; rw [List.any_append]
theorem amongA_loop (l : List (Vector (BitVec 8) 20)) (x : Vector (BitVec 8) 20) : ∀ (d i k : Nat), i + d = l.length → d < k → receipt_among_Address.l1 l x k i = if x ∈ l.drop i then some (Lp.ret (some true)) else some (Lp.go ())
  | 0, i, k, h, hk => by
    obtain ⟨k, rfl⟩ : ∃ m, k = m + 1 := ⟨k - 1, by omega⟩
    rw [receipt_among_Address.l1, if_neg (by omega), List.drop_eq_nil_of_le (by omega)]; simp
  | d + 1, i, k, h, hk => by
    obtain ⟨k, rfl⟩ : ∃ m, k = m + 1 := ⟨k - 1, by omega⟩
    have h1 : i < l.length := by omega
    rw [receipt_among_Address.l1, if_pos h1, List.getElem?_eq_getElem h1, Option.bind_some, amongA_loop l x d (i + 1) k (by omega) (by omega), List.drop_eq_getElem_cons h1]
    by_cases e : x = l[i]
    · rw [if_pos e, if_pos (by rw [e]; exact List.mem_cons_self ..)]
    · rw [if_neg e]
      simp only [List.mem_cons, e, false_or]
theorem amongA_eq (l : List (Vector (BitVec 8) 20)) (x : Vector (BitVec 8) 20) : receipt_among_Address l x = some (decide (x ∈ l)) := by
  unfold receipt_among_Address
  rw [amongA_loop l x l.length 0 _ (by omega) (by omega), List.drop_zero]
  by_cases h : x ∈ l
  · rw [if_pos h, Option.bind_some]; simp [h]
  · rw [if_neg h, Option.bind_some]; simp [h]
theorem amongH_loop (l : List (Vector (BitVec 8) 32)) (x : Vector (BitVec 8) 32) : ∀ (d i k : Nat), i + d = l.length → d < k → receipt_among_Hash.l1 l x k i = if x ∈ l.drop i then some (Lp.ret (some true)) else some (Lp.go ())
  | 0, i, k, h, hk => by
    obtain ⟨k, rfl⟩ : ∃ m, k = m + 1 := ⟨k - 1, by omega⟩
    rw [receipt_among_Hash.l1, if_neg (by omega), List.drop_eq_nil_of_le (by omega)]; simp
  | d + 1, i, k, h, hk => by
    obtain ⟨k, rfl⟩ : ∃ m, k = m + 1 := ⟨k - 1, by omega⟩
    have h1 : i < l.length := by omega
    rw [receipt_among_Hash.l1, if_pos h1, List.getElem?_eq_getElem h1, Option.bind_some, amongH_loop l x d (i + 1) k (by omega) (by omega), List.drop_eq_getElem_cons h1]
    by_cases e : x = l[i]
    · rw [if_pos e, if_pos (by rw [e]; exact List.mem_cons_self ..)]
    · rw [if_neg e]
      simp only [List.mem_cons, e, false_or]
theorem amongH_eq (l : List (Vector (BitVec 8) 32)) (x : Vector (BitVec 8) 32) : receipt_among_Hash l x = some (decide (x ∈ l)) := by
  unfold receipt_among_Hash
  rw [amongH_loop l x l.length 0 _ (by omega) (by omega), List.drop_zero]
  by_cases h : x ∈ l
  · rw [if_pos h, Option.bind_some]; simp [h]
  · rw [if_neg h, Option.bind_some]; simp [h]
theorem find_loop (a : List Log) (ad : Vector (BitVec 8) 20) (t : Vector (BitVec 8) 32) : ∀ (d i k : Nat) (l : List Int), i + d = a.length → d < k → (l.length + d) * 8 ≤ 140737488355328 → (l ≠ [] → ad.toList ∈ logsT a ∧ t.toList ∈ logsT a) →
    ∃ r, receipt_Find.l1 a [ad] [[t]] k l i = some r ∧ (r ≠ [] → ad.toList ∈ logsT a ∧ t.toList ∈ logsT a)
  | 0, i, k, l, h, hk, hb, hl => by
    obtain ⟨k, rfl⟩ : ∃ m, k = m + 1 := ⟨k - 1, by omega⟩
    exact ⟨l, by rw [receipt_Find.l1, if_neg (by omega)], hl⟩
  | d + 1, i, k, l, h, hk, hb, hl => by
    obtain ⟨k, rfl⟩ : ∃ m, k = m + 1 := ⟨k - 1, by omega⟩
    have h1 : i < a.length := by omega
    have hm := List.getElem_mem h1
    have next := find_loop a ad t d (i + 1) k l (by omega) (by omega) (by omega) hl
    rw [receipt_Find.l1, if_pos h1, List.getElem?_eq_getElem h1, Option.bind_some]
    by_cases h2 : (a[i]).topics.length < ([[t]] : List (List (Vector (BitVec 8) 32))).length
    · rw [if_pos h2, Option.bind_some, if_pos rfl]; exact next
    · rw [if_neg h2, if_pos (by simp), amongA_eq, Option.bind_some, Option.bind_some]
      by_cases h3 : (a[i]).address ∈ [ad]
      · rw [show (!decide ((a[i]).address ∈ [ad])) = false by simp [h3], if_neg (by decide)]
        have h4 : 0 < (a[i]).topics.length := by
          have e : ([[t]] : List (List (Vector (BitVec 8) 32))).length = 1 := rfl
          omega
        have h5 : receipt_Find.l2 [[t]] a[i] ([[t]].length - 0 + 2) 0 = if (a[i]).topics[0] = t then some (Lq.go ()) else some Lq.out := by
          show receipt_Find.l2 [[t]] a[i] 3 0 = _
          rw [receipt_Find.l2, if_pos (by simp)]
          simp only [List.getElem?_cons_zero, Option.bind_some]
          rw [if_pos (by simp), List.getElem?_eq_getElem h4, Option.bind_some, amongH_eq, Option.bind_some, Option.bind_some]
          simp only [List.mem_singleton]
          by_cases h6 : (a[i]).topics[0] = t
          · rw [if_pos h6, show (!decide ((a[i]).topics[0] = t)) = false by simp [h6], if_neg (by decide), receipt_Find.l2, if_neg (by simp)]
          · rw [if_neg h6, show (!decide ((a[i]).topics[0] = t)) = true by simp [h6], if_pos rfl]
        rw [h5]
        by_cases h6 : (a[i]).topics[0] = t
        · rw [if_pos h6, Option.bind_some]
          dsimp only
          rw [if_pos (by simp; omega)]
          refine find_loop a ad t d (i + 1) k _ (by omega) (by omega) (by simp; omega) fun _ => ?_
          refine ⟨List.mem_flatMap.2 ⟨a[i], hm, ?_⟩, List.mem_flatMap.2 ⟨a[i], hm, ?_⟩⟩
          · rw [← List.mem_singleton.1 h3]; exact List.mem_cons_self ..
          · exact List.mem_cons_of_mem _ (List.mem_map.2 ⟨t, by rw [← h6]; exact List.getElem_mem h4, rfl⟩)
        · rw [if_neg h6, Option.bind_some]; exact next
      · rw [show (!decide ((a[i]).address ∈ [ad])) = true by simp [h3], if_pos rfl]; exact next
theorem hastopics (T : List (List (BitVec 8))) (hT : ∀ t ∈ T, t.length ≤ 140737488355328) (b : Vector (BitVec 8) 256) (hb : ∀ q, q < 2048 → bitV b q = inL T q) (x : Log) (hx : ∀ t ∈ logT x, t ∈ T) : ∀ (d i k : Nat), i + d = x.topics.length → d < k → waybilllaw17_ReceiptBlooms.l2 b x k i = some (Lp.go ())
  | 0, i, k, h, hk => by
    obtain ⟨k, rfl⟩ : ∃ m, k = m + 1 := ⟨k - 1, by omega⟩
    rw [waybilllaw17_ReceiptBlooms.l2, if_neg (by omega)]
  | d + 1, i, k, h, hk => by
    obtain ⟨k, rfl⟩ : ∃ m, k = m + 1 := ⟨k - 1, by omega⟩
    have h1 : i < x.topics.length := by omega
    have hm : (x.topics[i]).toList ∈ T := hx _ (List.mem_cons_of_mem _ (List.mem_map.2 ⟨_, List.getElem_mem h1, rfl⟩))
    rw [waybilllaw17_ReceiptBlooms.l2, if_pos h1, List.getElem?_eq_getElem h1, Option.bind_some, has_in T hT b hb hm, Option.bind_some, if_pos rfl]
    exact hastopics T hT b hb x hx d (i + 1) k (by omega) (by omega)
theorem turned_loop (a : List Log) (hlen : a.length ≤ 140737488355328) (hT : (logsT a).length * 24 ≤ 140737488355328) (b : Vector (BitVec 8) 256) (hb : ∀ q, q < 2048 → bitV b q = inL (logsT a) q) : ∀ (i k : Nat) (w : Vector (BitVec 8) 256), i ≤ a.length → i < k → (∀ q, q < 2048 → bitV w q = inL (logsT (a.drop i)) q) →
    ∃ w', waybilllaw17_ReceiptBlooms.l1 a b k (((i : Nat) : Int) - 1) w = some (Lp.go w') ∧ ∀ q, q < 2048 → bitV w' q = inL (logsT a) q
  | 0, k, w, hi, hk, hw => by
    obtain ⟨k, rfl⟩ : ∃ m, k = m + 1 := ⟨k - 1, by omega⟩
    exact ⟨w, by rw [waybilllaw17_ReceiptBlooms.l1, if_neg (by omega)], by rwa [List.drop_zero] at hw⟩
  | i + 1, k, w, hi, hk, hw => by
    obtain ⟨k, rfl⟩ : ∃ m, k = m + 1 := ⟨k - 1, by omega⟩
    have h1 : i < a.length := by omega
    have hm := List.getElem_mem h1
    have hz : (((i + 1 : Nat) : Int) - 1).toNat = i := by omega
    have hin : ∀ t ∈ logT a[i], t ∈ logsT a := fun t ht => List.mem_flatMap.2 ⟨a[i], hm, ht⟩
    have hsm : ∀ t ∈ logsT a, t.length ≤ 140737488355328 := fun t ht => by have := logsT_small ht; omega
    have hone : logsT [Log.mk (a[i]).address (a[i]).topics [BitVec.ofInt 8 (((i + 1 : Nat) : Int) - 1)]] = logT a[i] := by simp [logsT, logT]
    have hle := logT_le hm
    obtain ⟨c, c1, c2, _⟩ := rbof_bits [Log.mk (a[i]).address (a[i]).topics [BitVec.ofInt 8 (((i + 1 : Nat) : Int) - 1)]] (by rw [hone]; omega)
    obtain ⟨u, u1, u2⟩ := union_two w c
    rw [waybilllaw17_ReceiptBlooms.l1, if_pos (by omega), hz, List.getElem?_eq_getElem h1, Option.bind_some, c1, Option.bind_some, u1, Option.bind_some, has_in (logsT a) hsm b hb (hin _ (List.mem_cons_self ..)), Option.bind_some, if_pos rfl,
      hastopics (logsT a) hsm b hb a[i] hin _ 0 _ (Nat.zero_add _) (by omega), Option.bind_some]
    dsimp only
    rw [if_pos (by omega), show (((i + 1 : Nat) : Int) - 1 - 1) = ((i : Nat) : Int) - 1 by omega]
    refine turned_loop a hlen hT b hb i k u (by omega) (by omega) fun q hq => ?_
    rw [u2 q hq, hw q hq, c2 q hq, hone, List.drop_eq_getElem_cons h1]
    rw [show logsT (a[i] :: a.drop (i + 1)) = logT a[i] ++ logsT (a.drop (i + 1)) by rw [logsT, List.flatMap_cons]; rfl, inL_append, Bool.or_comm]
theorem blooms_law (a : List Log) (ad : Vector (BitVec 8) 20) (t : Vector (BitVec 8) 32) (hl : a.length * 72 ≤ 140737488355328) (hT : (logsT a).length * 24 ≤ 140737488355328) : waybilllaw17_ReceiptBlooms a ad t = some true := by
  have hsm : ∀ t ∈ logsT a, t.length ≤ 140737488355328 := fun t ht => by have := logsT_small ht; omega
  obtain ⟨b, b1, b2, _⟩ := rbof_bits a hT
  unfold waybilllaw17_ReceiptBlooms
  rw [b1, Option.bind_some]
  obtain ⟨w, w1, w2⟩ := turned_loop a (by omega) hT b b2 a.length ((((((a.length : Nat) : Int) - (1 : Int))) - ((0 : Int)) + 2).toNat) (Vector.replicate 256 0#8) (Nat.le_refl _) (by omega) (fun q _ => by rw [zero_bits, List.drop_length]; rfl)
  rw [w1, Option.bind_some]
  dsimp only
  have hbw : b = w := bits_ext fun q hq => by rw [b2 q hq, w2 q hq]
  obtain ⟨r, r1, r2⟩ := find_loop a ad t a.length 0 (a.length - 0 + 2) [] (by omega) (by omega) (by simp; omega) (fun h => absurd rfl h)
  have hf : receipt_Find a [ad] [[t]] = some r := by unfold receipt_Find; rw [r1, Option.bind_some]
  rw [hf, Option.bind_some]
  have hp : ((if 0 < r.length then (bloom_Has b ad.toList).bind fun x92 => if x92 = true then (bloom_Has b t.toList).bind fun x100 => some !x100 else some true else some false) : Option Bool) = some false := by
    by_cases h : 0 < r.length
    · obtain ⟨m1, m2⟩ := r2 (fun e => by rw [e] at h; cases h)
      rw [if_pos h, has_in (logsT a) hsm b b2 m1, Option.bind_some, if_pos rfl, has_in (logsT a) hsm b b2 m2, Option.bind_some]; rfl
    · rw [if_neg h]
  rw [hp, Option.bind_some, if_neg (by decide), if_pos hbw]
  obtain ⟨e, e1, _, e3⟩ := rbof_bits [] (by simp [logsT])
  rw [e1, Option.bind_some, if_pos (e3 rfl)]
  obtain ⟨z, z1, z2, _⟩ := rbof_bits [Log.mk (Vector.replicate 20 0#8) [] []] (by simp [logsT, logT])
  rw [z1, Option.bind_some, Option.bind_some]
  have hz : z ≠ Vector.replicate 256 0#8 := fun h => by
    obtain ⟨p, p1, p2⟩ := places_total (Vector.replicate 20 0#8).toList (by simp)
    have q0 := p2 0 (by omega)
    have h1 := z2 p[0].toNat (by omega)
    rw [h, zero_bits] at h1
    have h2 : inL (logsT [Log.mk (Vector.replicate 20 0#8) [] []]) p[0].toNat = true := by
      have e : logsT [Log.mk (Vector.replicate 20 0#8) [] []] = [(Vector.replicate 20 0#8).toList] := by simp [logsT, logT]
      rw [e]
      unfold inL
      rw [List.any_cons]
      unfold inT
      rw [p1]
      unfold inP
      rw [show ((p[0].toNat : Nat) : Int) = p[0] by omega]
      simp
    rw [h2] at h1
    cases h1
  simp [hz]
end Go.Fw
