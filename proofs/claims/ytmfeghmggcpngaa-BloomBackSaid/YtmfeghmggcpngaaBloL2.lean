/- Part of a proof over Ytmfeghmggcpngaa: rules and contracts that the law's text uses. No condition. -/
import Derived.Test.YtmfeghmggcpngaaBloL
namespace Go.Fw
set_option maxRecDepth 10000
/-! Bits of filters. -/
theorem byte_bit : ∀ (r : Fin 8) (x : Fin 256), decide ((BitVec.ofFin (w := 8) x >>> r.val) &&& 1#8 = 1#8) = (BitVec.ofFin (w := 8) x).getLsbD r.val := by decide +kernel
theorem byte_mod : ∀ (r : Fin 8) (x : Fin 256), decide ((BitVec.ofFin (w := 8) x >>> r.val) % 2#8 = 1#8) = (BitVec.ofFin (w := 8) x).getLsbD r.val := by decide +kernel
theorem byte_low : ∀ (r : Fin 8) (x : Fin 256), (BitVec.ofFin (w := 8) x &&& BitVec.ofNat 8 (2 ^ (r.val + 1) - 1)) = (BitVec.ofFin (w := 8) x &&& BitVec.ofNat 8 (2 ^ r.val - 1)) ||| (if (BitVec.ofFin (w := 8) x).getLsbD r.val then 1#8 <<< r.val else 0#8) := by decide +kernel
def hasB (b : List (BitVec 8)) (j : Nat) : Bool := (b.getD (255 - j / 8) 0#8).getLsbD (j % 8)
theorem has_and (b : List (BitVec 8)) (j : Nat) : decide ((b.getD (255 - j / 8) 0#8 >>> (j % 8)) &&& 1#8 = 1#8) = hasB b j := byte_bit ⟨j % 8, Nat.mod_lt _ (by decide)⟩ (b.getD (255 - j / 8) 0#8).toFin
theorem has_mod (b : List (BitVec 8)) (j : Nat) : decide ((b.getD (255 - j / 8) 0#8 >>> (j % 8)) % 2#8 = 1#8) = hasB b j := byte_mod ⟨j % 8, Nat.mod_lt _ (by decide)⟩ (b.getD (255 - j / 8) 0#8).toFin
def orB (a b : List (BitVec 8)) : List (BitVec 8) := List.zipWith (· ||| ·) a b
theorem orB_length {a b : List (BitVec 8)} (ha : a.length = 256) (hb : b.length = 256) : (orB a b).length = 256 := by simp [orB, ha, hb]
theorem orB_getD {a b : List (BitVec 8)} (ha : a.length = 256) (hb : b.length = 256) (i : Nat) : (orB a b).getD i 0#8 = a.getD i 0#8 ||| b.getD i 0#8 := by
  by_cases h : i < 256
  · simp [orB, List.getD, List.getElem?_zipWith, List.getElem?_eq_getElem, ha, hb, h]
  · simp [orB, List.getD, List.getElem?_zipWith, List.getElem?_eq_none, ha, hb, h]
theorem ext256 {a b : List (BitVec 8)} (ha : a.length = 256) (hb : b.length = 256) (h : ∀ i, i < 256 → a.getD i 0#8 = b.getD i 0#8) : a = b := by
  apply List.ext_getElem (by omega)
  intro i h1 h2
  have := h i (by omega)
  simpa [List.getD, List.getElem?_eq_getElem, h1, h2] using this
theorem orB_comm {a b : List (BitVec 8)} (ha : a.length = 256) (hb : b.length = 256) : orB a b = orB b a := ext256 (orB_length ha hb) (orB_length hb ha) fun i _ => by rw [orB_getD ha hb, orB_getD hb ha, BitVec.or_comm]
theorem orB_self {a : List (BitVec 8)} (ha : a.length = 256) : orB a a = a := ext256 (orB_length ha ha) ha fun i _ => by rw [orB_getD ha ha, BitVec.or_self]
theorem zeroB_length : zeroB.length = 256 := List.length_replicate ..
theorem zeroB_getD (i : Nat) : zeroB.getD i 0#8 = 0#8 := by
  simp only [zeroB, List.getD, List.getElem?_replicate]; split <;> rfl
theorem orB_zero {a : List (BitVec 8)} (ha : a.length = 256) : orB zeroB a = a := ext256 (orB_length zeroB_length ha) ha fun i _ => by rw [orB_getD zeroB_length ha, zeroB_getD, BitVec.zero_or]
theorem orB_absorb {a b : List (BitVec 8)} (ha : a.length = 256) (hb : b.length = 256) : orB b (orB a b) = orB a b := ext256 (orB_length hb (orB_length ha hb)) (orB_length ha hb) fun i _ => by
  rw [orB_getD hb (orB_length ha hb), orB_getD ha hb, BitVec.or_comm (a.getD i 0#8), ← BitVec.or_assoc, BitVec.or_self]
theorem has_or {a b : List (BitVec 8)} (ha : a.length = 256) (hb : b.length = 256) (j : Nat) : hasB (orB a b) j = (hasB a j || hasB b j) := by
  unfold hasB; rw [orB_getD ha hb, BitVec.getLsbD_or]
def unionB (l : List (List (BitVec 8))) : List (BitVec 8) := l.foldl orB zeroB
theorem unionB_length {l : List (List (BitVec 8))} (h : ∀ x ∈ l, x.length = 256) : (unionB l).length = 256 := by
  have : ∀ (l : List (List (BitVec 8))) (b : List (BitVec 8)), b.length = 256 → (∀ x ∈ l, x.length = 256) → (l.foldl orB b).length = 256 := by
    intro l
    induction l with
    | nil => intro b hb _; exact hb
    | cons x l ih => intro b hb hx; exact ih _ (orB_length hb (hx x (List.mem_cons_self ..))) (fun y hy => hx y (List.mem_cons_of_mem _ hy))
  exact this l zeroB zeroB_length h
/-- A union, bit by bit: 'J' bits are done. -/
def orTo (b c : List (BitVec 8)) (J : Nat) : List (BitVec 8) := (List.range 256).map fun i => if 255 - i < J / 8 then b.getD i 0#8 ||| c.getD i 0#8 else if 255 - i = J / 8 then b.getD i 0#8 ||| (c.getD i 0#8 &&& BitVec.ofNat 8 (2 ^ (J % 8) - 1)) else b.getD i 0#8
@[simp] theorem orTo_length (b c : List (BitVec 8)) (J : Nat) : (orTo b c J).length = 256 := by rw [orTo, List.length_map, List.length_range]
theorem orTo_getD (b c : List (BitVec 8)) (J : Nat) {i : Nat} (h : i < 256) : (orTo b c J).getD i 0#8 = if 255 - i < J / 8 then b.getD i 0#8 ||| c.getD i 0#8 else if 255 - i = J / 8 then b.getD i 0#8 ||| (c.getD i 0#8 &&& BitVec.ofNat 8 (2 ^ (J % 8) - 1)) else b.getD i 0#8 := by
  simp only [orTo, List.getD, List.getElem?_map, List.getElem?_range h, Option.map_some, Option.getD_some]
theorem orTo_zero {b c : List (BitVec 8)} (hb : b.length = 256) : orTo b c 0 = b := ext256 (orTo_length ..) hb fun i hi => by
  rw [orTo_getD _ _ _ hi]
  by_cases h : 255 - i = 0
  · simp [h]
  · simp [h]
theorem orTo_all {b c : List (BitVec 8)} (hb : b.length = 256) (hc : c.length = 256) : orTo b c 2048 = orB b c := ext256 (orTo_length ..) (orB_length hb hc) fun i hi => by
  rw [orTo_getD _ _ _ hi, orB_getD hb hc, if_pos (by omega)]
theorem setB_nat {b : List (BitVec 8)} {J : Nat} (hJ : J < 2048) : setB b (J : Int) = b.set (255 - J / 8) (b.getD (255 - J / 8) 0#8 ||| (1#8 <<< (J % 8))) := by
  have e1 : (255 - (J : Int) / 8).toNat = 255 - J / 8 := by omega
  have e2 : ((J : Int) % 8).toNat = J % 8 := by omega
  rw [setB, e1, e2]
theorem set_getD (l : List (BitVec 8)) (k : Nat) (v : BitVec 8) (i : Nat) (hk : k < l.length) : (l.set k v).getD i 0#8 = if i = k then v else l.getD i 0#8 := by
  simp only [List.getD, List.getElem?_set]
  by_cases h : k = i
  · subst h; simp [hk]
  · simp [h, Ne.symm h]
theorem orTo_step {b c : List (BitVec 8)} {J : Nat} (hJ : J < 2048) : orTo b c (J + 1) = if hasB c J then setB (orTo b c J) J else orTo b c J := by
  have hlow := byte_low ⟨J % 8, Nat.mod_lt _ (by decide)⟩ (c.getD (255 - J / 8) 0#8).toFin
  have hlow' : c.getD (255 - J / 8) 0#8 &&& BitVec.ofNat 8 (2 ^ (J % 8 + 1) - 1) = (c.getD (255 - J / 8) 0#8 &&& BitVec.ofNat 8 (2 ^ (J % 8) - 1)) ||| (if hasB c J then 1#8 <<< (J % 8) else 0#8) := hlow
  have hbyte : ∀ i, i < 256 → (orTo b c (J + 1)).getD i 0#8 = if i = 255 - J / 8 then (orTo b c J).getD i 0#8 ||| (if hasB c J then 1#8 <<< (J % 8) else 0#8) else (orTo b c J).getD i 0#8 := by
    intro i hi
    rw [orTo_getD _ _ _ hi, orTo_getD _ _ _ hi]
    by_cases h : i = 255 - J / 8
    · subst h
      have e0 : 255 - (255 - J / 8) = J / 8 := by omega
      rw [e0, if_pos rfl, if_neg (Nat.lt_irrefl _), if_pos rfl]
      by_cases h8 : J % 8 = 7
      · have e1 : (J + 1) / 8 = J / 8 + 1 := by omega
        rw [e1, if_pos (by omega), BitVec.or_assoc, ← hlow', h8]
        congr 1
        have : BitVec.ofNat 8 (2 ^ (7 + 1) - 1) = BitVec.allOnes 8 := by decide
        rw [this, BitVec.and_allOnes]
      · have e1 : (J + 1) / 8 = J / 8 := by omega
        have e2 : (J + 1) % 8 = J % 8 + 1 := by omega
        rw [e1, e2, if_neg (Nat.lt_irrefl _), if_pos rfl, BitVec.or_assoc, ← hlow']
    · rw [if_neg h]
      by_cases h8 : J % 8 = 7
      · have e1 : (J + 1) / 8 = J / 8 + 1 := by omega
        have e2 : (J + 1) % 8 = 0 := by omega
        have h9 : ¬ 255 - i = J / 8 := by omega
        rw [e1, e2, if_neg h9]
        by_cases h1 : 255 - i < J / 8
        · rw [if_pos (by omega), if_pos h1]
        · rw [if_neg (by omega), if_neg h1]
          by_cases h2 : 255 - i = J / 8 + 1
          · rw [if_pos h2]; simp
          · rw [if_neg h2]
      · have e1 : (J + 1) / 8 = J / 8 := by omega
        have h9 : ¬ 255 - i = J / 8 := by omega
        rw [e1, if_neg h9, if_neg h9]
  split
  · rename_i hh
    refine ext256 (orTo_length ..) (by simp) fun i hi => ?_
    rw [hbyte i hi, setB_nat hJ, set_getD _ _ _ _ (by rw [orTo_length]; omega)]
    by_cases h : i = 255 - J / 8
    · subst h; simp [hh]
    · rw [if_neg h, if_neg h]
  · rename_i hh
    refine ext256 (orTo_length ..) (orTo_length ..) fun i hi => ?_
    rw [hbyte i hi]
    split
    · simp [hh]
    · rfl
def bitsB (b : List (BitVec 8)) : List Nat := (List.range 2048).filter (hasB b)
theorem bitsB_lt {b : List (BitVec 8)} {j : Nat} (h : j ∈ bitsB b) : j < 2048 := List.mem_range.1 (List.mem_filter.1 h).1
theorem bitsB_length (b : List (BitVec 8)) : (bitsB b).length ≤ 2048 := by
  have := List.length_filter_le (hasB b) (List.range 2048)
  rw [List.length_range] at this
  exact this
def bitsTo (b : List (BitVec 8)) (J : Nat) : List Nat := (List.range J).filter (hasB b)
theorem bitsTo_step (b : List (BitVec 8)) (J : Nat) : bitsTo b (J + 1) = if hasB b J then bitsTo b J ++ [J] else bitsTo b J := by
  unfold bitsTo
  rw [List.range_succ, List.filter_append]
  cases h : hasB b J <;> simp [h]
theorem bitsTo_length (b : List (BitVec 8)) (J : Nat) : (bitsTo b J).length ≤ J := by
  have := List.length_filter_le (hasB b) (List.range J)
  rw [List.length_range] at this
  exact this
def intsB (b : List (BitVec 8)) (J : Nat) : List Int := (bitsTo b J).map (fun (j : Nat) => (j : Int))
theorem intsB_step (b : List (BitVec 8)) (J : Nat) : intsB b (J + 1) = if hasB b J then intsB b J ++ [(J : Int)] else intsB b J := by
  unfold intsB
  rw [bitsTo_step]; split <;> simp
theorem intsB_length (b : List (BitVec 8)) (J : Nat) : (intsB b J).length ≤ J := by rw [intsB, List.length_map]; exact bitsTo_length b J
/-- Make of the bits is the filter. -/
theorem foldB_bits (b c : List (BitVec 8)) (hb : b.length = 256) : ∀ J, J ≤ 2048 → foldB b (intsB c J) = orTo b c J := by
  intro J
  induction J with
  | zero => intro _; rw [orTo_zero hb]; rfl
  | succ J ih =>
    intro h
    rw [intsB_step, orTo_step (by omega)]
    split
    · rw [foldB, List.foldl_append, List.foldl_cons, List.foldl_nil]
      have := ih (by omega)
      rw [foldB] at this
      rw [this]
    · exact ih (by omega)
theorem mk_bits {c : List (BitVec 8)} (hc : c.length = 256) : mkB (intsB c 2048) = c ∧ erB (intsB c 2048) = 0 := by
  obtain ⟨h1, h2⟩ := mkB_good (xs := intsB c 2048) (fun j hj => by
    have hm : (intsB c 2048).getD j 0 ∈ intsB c 2048 := by simp [List.getD, List.getElem?_eq_getElem hj]
    obtain ⟨k, hk, e⟩ := List.mem_map.1 hm
    have := List.mem_range.1 (List.mem_filter.1 hk).1
    rw [← e]; omega)
  exact ⟨by rw [h1, foldB_bits _ _ zeroB_length _ (Nat.le_refl _), orTo_all zeroB_length hc, orB_zero hc], h2⟩
/-- Within. -/
theorem within_iff {a b : List (BitVec 8)} (ha : a.length = 256) (hb : b.length = 256) : (∀ j, j < 2048 → hasB a j = true → hasB b j = true) ↔ orB a b = b := by
  constructor
  · intro h
    refine ext256 (orB_length ha hb) hb fun i hi => ?_
    rw [orB_getD ha hb]
    apply BitVec.eq_of_getLsbD_eq
    intro r hr
    rw [BitVec.getLsbD_or]
    have := h (8 * (255 - i) + r) (by omega)
    unfold hasB at this
    have e1 : 255 - (8 * (255 - i) + r) / 8 = i := by omega
    have e2 : (8 * (255 - i) + r) % 8 = r := by omega
    rw [e1, e2] at this
    cases h1 : (a.getD i 0#8).getLsbD r
    · simp
    · rw [this h1]; rfl
  · intro h j _ hj
    rw [← h, has_or ha hb, hj]; rfl
/-- Counting. -/
def popB (x : BitVec 8) : Nat := (List.range 8).countP fun r => x.getLsbD r
theorem count_or {a b : List (BitVec 8)} (ha : a.length = 256) (hb : b.length = 256) (J : Nat) : (bitsTo (orB a b) J).length ≤ (bitsTo a J).length + (bitsTo b J).length := by
  induction J with
  | zero => simp [bitsTo]
  | succ J ih =>
    rw [bitsTo_step, bitsTo_step, bitsTo_step, has_or ha hb]
    cases hasB a J <;> cases hasB b J <;> simp <;> omega
theorem bitsTo_bytes (b : List (BitVec 8)) : ∀ k, k ≤ 256 → (bitsTo b (8 * k)).length = ((List.range k).map fun q => popB (b.getD (255 - q) 0#8)).sum := by
  intro k
  induction k with
  | zero => intro _; rfl
  | succ k ih =>
    intro h
    have e : 8 * (k + 1) = 8 * k + 8 := by omega
    rw [List.range_succ, List.map_append, List.sum_append, ← ih (by omega), e]
    unfold bitsTo
    rw [List.range_add, List.filter_append, List.length_append]
    congr 1
    rw [← List.countP_eq_length_filter, List.countP_map]
    simp only [List.map_cons, List.map_nil, List.sum_cons, List.sum_nil, Nat.add_zero, popB]
    apply List.countP_congr
    intro r hr
    have hr' := List.mem_range.1 hr
    have e1 : 255 - (8 * k + r) / 8 = 255 - k := by omega
    have e2 : (8 * k + r) % 8 = r := by omega
    simp only [Function.comp, hasB, e1, e2]
def cntTo (b : List (BitVec 8)) (k : Nat) : Nat := ((List.range k).map fun i => popB (b.getD i 0#8)).sum
theorem cntTo_step (b : List (BitVec 8)) (k : Nat) : cntTo b (k + 1) = cntTo b k + popB (b.getD k 0#8) := by simp [cntTo, List.range_succ]
theorem popB_le (x : BitVec 8) : popB x ≤ 8 := by
  have := List.countP_le_length (p := fun r => x.getLsbD r) (l := List.range 8)
  rw [List.length_range] at this; exact this
theorem cntTo_le (b : List (BitVec 8)) (k : Nat) : cntTo b k ≤ 8 * k := by
  induction k with
  | zero => simp [cntTo]
  | succ k ih => rw [cntTo_step]; have := popB_le (b.getD k 0#8); omega
theorem cntTo_all (b : List (BitVec 8)) : cntTo b 256 = (intsB b 2048).length := by
  rw [intsB, List.length_map, show 2048 = 8 * 256 by rfl, bitsTo_bytes b 256 (Nat.le_refl _)]
  have : (List.range 256).map (fun q => popB (b.getD (255 - q) 0#8)) = ((List.range 256).map fun i => popB (b.getD i 0#8)).reverse := by
    rw [← List.map_reverse]
    apply List.ext_getElem
    · simp
    · intro i h1 h2
      simp only [List.length_map, List.length_range] at h1
      simp [List.getElem_reverse]
  rw [this, List.sum_reverse]; rfl
/-- The bits rise. -/
theorem bitsTo_rise (b : List (BitVec 8)) (J : Nat) : (bitsTo b J).Pairwise (· < ·) := (List.pairwise_lt_range (n := J)).filter _
theorem intsB_rise (b : List (BitVec 8)) (J : Nat) {i : Nat} (h : i + 1 < (intsB b J).length) : (intsB b J).getD i 0 < (intsB b J).getD (i + 1) 0 := by
  have hl : (bitsTo b J).length = (intsB b J).length := by rw [intsB, List.length_map]
  have := List.pairwise_iff_getElem.1 (bitsTo_rise b J) i (i + 1) (by omega) (by omega) (by omega)
  simp only [intsB, List.getD, List.getElem?_map, List.getElem?_eq_getElem (show i < (bitsTo b J).length by omega), List.getElem?_eq_getElem (show i + 1 < (bitsTo b J).length by omega), Option.map_some, Option.getD_some]
  omega
theorem intsB_in (b : List (BitVec 8)) (J : Nat) {i : Nat} (h : i < (intsB b J).length) : 0 ≤ (intsB b J).getD i 0 ∧ (intsB b J).getD i 0 < J := by
  have hm : (intsB b J).getD i 0 ∈ intsB b J := by simp [List.getD, List.getElem?_eq_getElem h]
  obtain ⟨k, hk, e⟩ := List.mem_map.1 hm
  have := List.mem_range.1 (List.mem_filter.1 hk).1
  rw [← e]; omega
def orFst (b c : List (BitVec 8)) (j : Nat) : List (BitVec 8) := (orB b c).take j ++ b.drop j
theorem orFst_length {b c : List (BitVec 8)} (hb : b.length = 256) (hc : c.length = 256) (j : Nat) : (orFst b c j).length = 256 := by
  rw [orFst, List.length_append, List.length_take, List.length_drop, orB_length hb hc]; omega
theorem orFst_get {b c : List (BitVec 8)} (hb : b.length = 256) (hc : c.length = 256) {j : Nat} (hj : j < 256) : (orFst b c j).getD j 0#8 = b.getD j 0#8 := by
  have hl : ((orB b c).take j).length = j := by rw [List.length_take, orB_length hb hc]; omega
  simp only [orFst, List.getD]
  rw [List.getElem?_append_right (by omega), hl, List.getElem?_drop, Nat.sub_self, Nat.add_zero]
theorem orFst_set {b c : List (BitVec 8)} (hb : b.length = 256) (hc : c.length = 256) {j : Nat} (hj : j < 256) : (orFst b c j).set j (b.getD j 0#8 ||| c.getD j 0#8) = orFst b c (j + 1) := by
  have hl : ((orB b c).take j).length = j := by rw [List.length_take, orB_length hb hc]; omega
  rw [orFst, orFst, List.set_append_right _ _ (by omega), hl, Nat.sub_self, ← orB_getD hb hc, List.take_add_one, List.append_assoc]
  have hj1 : j < (orB b c).length := by rw [orB_length hb hc]; exact hj
  have hj2 : j < b.length := by omega
  have e : b.drop j = b[j] :: b.drop (j + 1) := List.drop_eq_getElem_cons hj2
  rw [e, List.set_cons_zero]
  simp [List.getD, List.getElem?_eq_getElem hj1]
theorem orFst_all {b c : List (BitVec 8)} (hb : b.length = 256) (hc : c.length = 256) : orFst b c 256 = orB b c := by
  rw [orFst, List.take_of_length_le (by rw [orB_length hb hc]; omega), List.drop_of_length_le (by omega), List.append_nil]
theorem unionB_take {l : List (List (BitVec 8))} {i : Nat} (h : i < l.length) : unionB (l.take (i + 1)) = orB (unionB (l.take i)) (l.getD i []) := by
  have e : l.take (i + 1) = l.take i ++ [l.getD i []] := by
    rw [List.take_add_one, List.getElem?_eq_getElem h]; simp [List.getD, List.getElem?_eq_getElem h]
  rw [e, unionB, List.foldl_append]; rfl
/-- A list of arrays in memory. -/
theorem flat_ne {α : Type} {f : α → Value} {s : Nat} {xss : List (List α)} (hs : 0 < s) (h : ∀ x ∈ xss, x.length = s) {i : Nat} (hi : i < xss.length) : (xss.flatMap fun x => x.map f) ≠ [] := by
  cases xss with
  | nil => simp at hi
  | cons x r =>
    have hx := h x (List.mem_cons_self ..)
    intro e
    rw [List.flatMap_cons] at e
    have h1 := congrArg List.length (List.append_eq_nil_iff.1 e).1
    rw [List.length_map, hx] at h1
    simp only [List.length_nil] at h1
    omega
theorem flat_get {s : Nat} : ∀ {xss : List (List (BitVec 8))} (h : ∀ x ∈ xss, x.length = s) {i k : Nat} {u : Value}, i < xss.length → (u8s (xss.getD i []))[k]? = some u → (xss.flatMap u8s)[i * s + k]? = some u
  | [], _, i, k, u, hi, _ => by simp at hi
  | x :: r, h, i, k, u, hi, hk => by
    have hx := h x (List.mem_cons_self ..)
    cases i with
    | zero =>
      have hk' : (u8s x)[k]? = some u := hk
      have hkl := (List.getElem?_eq_some_iff.1 hk').1
      rw [Nat.zero_mul, Nat.zero_add, List.flatMap_cons, List.getElem?_append_left hkl]; exact hk'
    | succ i =>
      have hk' : (u8s (r.getD i []))[k]? = some u := by simpa [List.getD] using hk
      rw [List.flatMap_cons, List.getElem?_append_right (by rw [u8s_length, hx, Nat.add_mul]; omega), u8s_length, hx]
      have e : (i + 1) * s + k - s = i * s + k := by rw [Nat.add_mul]; omega
      rw [e]
      exact flat_get (fun y hy => h y (List.mem_cons_of_mem _ hy)) (by simpa using hi) hk'
end Go.Fw
