/- Part of a proof: rules that its law uses. -/
import Derived.Test.YtojnakdlnlcmiaaDoorT7
namespace Go.Fw
set_option linter.unusedVariables false
set_option linter.unusedSimpArgs false
set_option maxRecDepth 10000
theorem dbof_in (a : List Log) (n : Nat) (x : Log) (hx : a[n]? = some x) : ∀ (d i k : Nat) (l : List (List (BitVec 8))), i + d = x.topics.length → d < k → (l.length + d) * 24 ≤ 140737488355328 → waybillref17_BloomOf.l2 a n k l i = some (l ++ (x.topics.drop i).map (·.toList))
  | 0, i, k, l, h, hk, hb => by
    obtain ⟨k, rfl⟩ : ∃ m, k = m + 1 := ⟨k - 1, by omega⟩
    rw [waybillref17_BloomOf.l2, hx, Option.bind_some, if_neg (by omega), List.drop_eq_nil_of_le (by omega), List.map_nil, List.append_nil]
  | d + 1, i, k, l, h, hk, hb => by
    obtain ⟨k, rfl⟩ : ∃ m, k = m + 1 := ⟨k - 1, by omega⟩
    have h1 : i < x.topics.length := by omega
    rw [waybillref17_BloomOf.l2, hx, Option.bind_some, if_pos h1, Option.bind_some, List.getElem?_eq_getElem h1, Option.bind_some, waybillref17_text, Option.bind_some, if_pos (by simp; omega), dbof_in a n x hx d (i + 1) k _ (by omega) (by omega) (by simp; omega), List.append_assoc, List.singleton_append, List.drop_eq_getElem_cons h1, List.map_cons]
    rfl
theorem dbof_out (a : List Log) : ∀ (d i k : Nat) (l : List (List (BitVec 8))), i + d = a.length → d < k → (l.length + (logsT (a.drop i)).length) * 24 ≤ 140737488355328 → waybillref17_BloomOf.l1 a k l i = some (l ++ logsT (a.drop i))
  | 0, i, k, l, h, hk, hb => by
    obtain ⟨k, rfl⟩ : ∃ m, k = m + 1 := ⟨k - 1, by omega⟩
    rw [waybillref17_BloomOf.l1, if_neg (by omega), List.drop_eq_nil_of_le (by omega)]
    simp [logsT]
  | d + 1, i, k, l, h, hk, hb => by
    obtain ⟨k, rfl⟩ : ∃ m, k = m + 1 := ⟨k - 1, by omega⟩
    have h1 : i < a.length := by omega
    have hx : a[i]? = some a[i] := List.getElem?_eq_getElem h1
    have hs : logsT (a.drop i) = logT a[i] ++ logsT (a.drop (i + 1)) := by rw [List.drop_eq_getElem_cons h1, logsT, List.flatMap_cons]; rfl
    rw [hs, List.length_append, logT_len] at hb
    rw [waybillref17_BloomOf.l1, if_pos h1, hx, Option.bind_some, waybillref17_text, Option.bind_some, if_pos (by simp; omega), Option.elim_some, dbof_in a i _ hx _ 0 _ _ (Nat.zero_add _) (by omega) (by simp; omega), Option.bind_some, dbof_out a d (i + 1) k _ (by omega) (by omega) (by simp; omega), hs, List.drop_zero]
    simp [logT, It.data]
theorem dof_eq (a : List (List (BitVec 8))) (ha : ∀ t ∈ a, t.length + 137 ≤ 140737488355328) : waybillref10_Of a = bloom_Of a := by
  unfold waybillref10_Of bloom_Of
  rw [rof_loop a ha]
theorem dbof_eq (a : List Log) (hb : (logsT a).length * 24 ≤ 140737488355328) : waybillref17_BloomOf a = receipt_BloomOf a := by
  rw [rbof_eq a hb]
  unfold waybillref17_BloomOf
  rw [dbof_out a a.length 0 (a.length - 0 + 2) [] (by omega) (by omega) (by simpa using hb), Option.bind_some, List.drop_zero, List.nil_append, dof_eq _ (fun t ht => by have := logsT_small ht; omega)]
  cases bloom_Of (logsT a) <;> rfl
theorem dcheckl (r : Rcpt) : ∀ (k i : Nat), waybillref17_Check.l1 r k i = receipt_Check.l1 r k i
  | 0, i => rfl
  | k + 1, i => by
    rw [waybillref17_Check.l1, receipt_Check.l1]
    simp only [dcheckl r k]
theorem dcheck_eq (r : Rcpt) (hl : r.logs.length ≤ 1099511627776) : waybillref17_Check r = receipt_Check r := by
  unfold waybillref17_Check receipt_Check
  congr 1
  funext p
  by_cases hp : p = true
  · rw [if_pos hp, if_pos hp]
  rw [if_neg hp, if_neg hp]
  have tail : ((waybillref17_Check.l1 r (r.logs.length - 0 + 2) 0).bind fun | .ret o => o | .go () => ((waybillref17_BloomOf r.logs).bind fun x46 => (if r.bloom = x46 then (some 0) else (some 173)))) =
      ((receipt_Check.l1 r (r.logs.length - 0 + 2) 0).bind fun | .ret o => o | .go () => ((receipt_BloomOf r.logs).bind fun x46 => (if r.bloom = x46 then (some 0) else (some 173)))) := by
    rw [dcheckl, checkl r r.logs.length 0 _ (by omega) (by omega), List.drop_zero]
    by_cases ht : ∃ x ∈ r.logs, 4 < x.topics.length
    · rw [if_pos ht]; rfl
    · rw [if_neg ht]
      have hfew : fewT r.logs := fun x hx => by
        by_cases h4 : x.topics.length ≤ 4
        · exact h4
        · exact absurd ⟨x, hx, by omega⟩ ht
      have := logsT_few hfew
      simp only [Option.bind_some]
      rw [dbof_eq _ (by omega)]
  cases hr : r.rooted with
  | false =>
    simp only [Bool.false_eq_true, if_false, Option.bind_some]
    congr 1
    funext q
    by_cases hq : q = true
    · rw [if_pos hq, if_pos hq]
    · rw [if_neg hq, if_neg hq]; exact tail
  | true =>
    simp only [if_true, Option.bind_some, Bool.false_eq_true, if_false]
    by_cases h2 : r.kind = 0
    · by_cases h3 : r.status = 0#64
      · rw [if_pos h2, if_pos h2, if_pos h3, Option.bind_some, Option.bind_some, if_neg (by simp [h3]), if_neg (by decide)]; exact tail
      · rw [if_pos h2, if_pos h2, if_neg h3, Option.bind_some, Option.bind_some, if_pos (by simp [h3]), if_pos rfl]
    · rw [if_neg h2, if_neg h2, Option.bind_some, Option.bind_some, if_pos rfl, if_pos rfl]
theorem dlog_loop (x : Log) (hx : x.topics.length * 56 ≤ 140737488355328) (p : Bool) (d0 : List (BitVec 8)) : ∀ (d i k : Nat) (l : List It), i + d = x.topics.length → d < k → l.length ≤ i → waybillref17_logItem.l1 x k i p d0 l = some (p, d0, l ++ (x.topics.drop i).map fun h => tIt h.toList)
  | 0, i, k, l, h, hk, hl => by
    obtain ⟨k, rfl⟩ : ∃ m, k = m + 1 := ⟨k - 1, by omega⟩
    rw [waybillref17_logItem.l1, if_neg (by omega), List.drop_eq_nil_of_le (by omega)]; simp
  | d + 1, i, k, l, h, hk, hl => by
    obtain ⟨k, rfl⟩ : ∃ m, k = m + 1 := ⟨k - 1, by omega⟩
    have h1 : i < x.topics.length := by omega
    rw [waybillref17_logItem.l1, if_pos h1, List.getElem?_eq_getElem h1, Option.bind_some, waybillref17_text, Option.bind_some, if_pos (by rw [List.length_singleton]; omega), dlog_loop x hx p d0 d (i + 1) k _ (by omega) (by omega) (by rw [List.length_append, List.length_singleton]; omega), List.drop_eq_getElem_cons h1, List.map_cons, List.append_assoc]
    rfl
theorem dlog_eq (x : Log) (hx : x.topics.length * 56 ≤ 140737488355328) : waybillref17_logItem x = some (logIt x) := by
  unfold waybillref17_logItem
  rw [dlog_loop x hx true [] x.topics.length 0 _ [] (by omega) (by omega) (by simp), Option.bind_some]
  dsimp only
  rw [waybillref17_text, Option.bind_some, waybillref17_text, Option.bind_some, List.nil_append, List.drop_zero]
  rfl
theorem ditem_loop (r : Rcpt) (hx : ∀ x ∈ r.logs, x.topics.length * 56 ≤ 140737488355328) (hn : r.logs.length * 56 ≤ 140737488355328) (p : Bool) (d0 : List (BitVec 8)) : ∀ (d i k : Nat) (l : List It), i + d = r.logs.length → d < k → l.length ≤ i → waybillref17_item.l1 r k i p d0 l = some (p, d0, l ++ (r.logs.drop i).map logIt)
  | 0, i, k, l, h, hk, hl => by
    obtain ⟨k, rfl⟩ : ∃ m, k = m + 1 := ⟨k - 1, by omega⟩
    rw [waybillref17_item.l1, if_neg (by omega), List.drop_eq_nil_of_le (by omega)]; simp
  | d + 1, i, k, l, h, hk, hl => by
    obtain ⟨k, rfl⟩ : ∃ m, k = m + 1 := ⟨k - 1, by omega⟩
    have h1 : i < r.logs.length := by omega
    rw [waybillref17_item.l1, if_pos h1, List.getElem?_eq_getElem h1, Option.bind_some, dlog_eq _ (hx _ (List.getElem_mem h1)), Option.bind_some, if_pos (by rw [List.length_singleton]; omega), ditem_loop r hx hn p d0 d (i + 1) k _ (by omega) (by omega) (by rw [List.length_append, List.length_singleton]; omega), List.drop_eq_getElem_cons h1, List.map_cons, List.append_assoc]
    rfl
theorem dsmall_it (x : BitVec 64) : waybillref07_Small x = some (smallIt x) := by
  have h := x.isLt
  rw [rsmall_eq, val4_lim _ (by omega)]; rfl
theorem ditem_eq (r : Rcpt) (hx : ∀ x ∈ r.logs, x.topics.length * 56 ≤ 140737488355328) (hn : r.logs.length * 56 ≤ 140737488355328) : waybillref17_item r = some (rcptIt r) := by
  unfold waybillref17_item
  rw [dsmall_it, Option.bind_some]
  have hfirst : ((if r.rooted = true then ((waybillref17_text r.root.toList).bind fun x298 => (some (((x298.list), x298.data, x298.items)))) else (some ((((smallIt r.status).list), (smallIt r.status).data, (smallIt r.status).items)))) : Option ((Bool) × (List (BitVec 8)) × (List (It)))) = some ((firstIt r.rooted r.root r.status).list, (firstIt r.rooted r.root r.status).data, (firstIt r.rooted r.root r.status).items) := by
    unfold firstIt
    split
    · rw [waybillref17_text]; rfl
    · rfl
  rw [hfirst, Option.bind_some]
  dsimp only
  rw [ditem_loop r hx hn true [] r.logs.length 0 _ [] (by omega) (by omega) (by simp), Option.bind_some]
  dsimp only
  rw [dsmall_it, Option.bind_some, waybillref17_text, Option.bind_some, List.nil_append, List.drop_zero, show It.mk (firstIt r.rooted r.root r.status).list (firstIt r.rooted r.root r.status).data (firstIt r.rooted r.root r.status).items = firstIt r.rooted r.root r.status from (It.eta _).symm]
  rfl
theorem dencode_eq (r : Rcpt) (hl : r.logs.length ≤ 1099511627776) (hd : ∀ x ∈ r.logs, x.data.length ≤ 1073741824) (hn : (r.logs.map szL).sum ≤ 2147480000) : waybillref17_Encode r = receipt_Encode r := by
  obtain ⟨e, hc, hc1, hc2, _⟩ := check_char r hl
  unfold waybillref17_Encode
  rw [dcheck_eq r hl, hc, Option.bind_some]
  by_cases he : e = 0
  · subst he
    have hv := hc2 rfl
    have hmem : ∀ (l : List Log), (∀ x ∈ l, szL x ≤ (l.map szL).sum) ∧ l.length * 56 ≤ (l.map szL).sum := fun l => by
      induction l with
      | nil => simp
      | cons x l ih =>
        refine ⟨fun y hy => ?_, ?_⟩
        · rw [List.map_cons, List.sum_cons]
          rcases List.mem_cons.1 hy with rfl | hy
          · omega
          · have := ih.1 y hy; omega
        · rw [List.length_cons, List.map_cons, List.sum_cons]; have := ih.2; unfold szL at this ⊢; omega
    have hm := hmem r.logs
    have hw := w9_rcpt r
    have hdep := dep_rcpt r
    rw [encode_char r hv hd hn, if_pos rfl, ditem_eq r (fun x hx => by have := hv.2.2.1 x hx; omega) (by have := hm.2; omega), Option.bind_some]
    have hwt : (rcptIt r).wt ≤ 2147483647 := by
      have := wt_le_w9 [rcptIt r]
      simp only [Its.wt, Its.w9] at this
      omega
    obtain ⟨b, f, h1, h2⟩ := encodes_all _ hwt
    have hel := encR_length r
    rw [h2, Option.bind_some]
    by_cases hle : (rcptIt r).enc.length ≤ 16777216
    · rw [encode_gen (good_rcpt r) (by omega) (by omega) hle] at h1
      obtain ⟨rfl, rfl⟩ := Prod.mk.inj (Option.some.inj h1)
      dsimp only
      rw [if_pos rfl]
      by_cases hk : r.kind = 0
      · rw [if_pos hk] at hel
        rw [if_neg (by omega), Option.bind_some, if_neg (by decide), if_neg (by omega), Option.bind_some, if_pos (by rw [List.length_nil]; omega), if_pos (by omega)]
        unfold encR
        rw [if_pos hk]; rfl
      · rw [if_neg hk] at hel
        have hk0 := hv.1.1
        rw [if_pos (by omega), Option.bind_some]
        by_cases h2 : (encR r).length ≤ 16777216
        · rw [if_neg (by simp; omega), if_pos (by omega), Option.bind_some, if_pos (by rw [List.length_singleton]; omega), if_pos h2]
          unfold encR
          rw [if_neg hk]; rfl
        · rw [if_pos (by simp; omega), if_neg h2]
    · rw [encode_long (good_rcpt r) (by omega) (by omega) (by omega)] at h1
      obtain ⟨rfl, rfl⟩ := Prod.mk.inj (Option.some.inj h1)
      dsimp only
      rw [if_neg (by decide), Option.bind_some, if_pos rfl, if_neg (by omega)]
  · rw [if_neg he, encode_bad r he hc]
end Go.Fw
namespace Go.Fw
set_option linter.unusedVariables false
set_option linter.unusedSimpArgs false
set_option maxRecDepth 10000
theorem ones_loop : ∀ (d i k : Nat) (l : List (BitVec 8)), i + d = l.length → d < k → ∃ m, waybilllaw17_ReceiptWrites.l2 k l i = some m ∧ m.length = l.length
  | 0, i, k, l, h, hk => by
    obtain ⟨k, rfl⟩ : ∃ m, k = m + 1 := ⟨k - 1, by omega⟩
    exact ⟨l, by rw [waybilllaw17_ReceiptWrites.l2, if_neg (by omega)], rfl⟩
  | d + 1, i, k, l, h, hk => by
    obtain ⟨k, rfl⟩ : ∃ m, k = m + 1 := ⟨k - 1, by omega⟩
    have h1 : i < l.length := by omega
    obtain ⟨m, h2, h3⟩ := ones_loop d (i + 1) k (l.set i (1#8)) (by rw [List.length_set]; omega) (by omega)
    exact ⟨m, by rw [waybilllaw17_ReceiptWrites.l2, if_pos h1, List.getElem?_eq_getElem h1, Option.bind_some, h2], by rw [h3, List.length_set]⟩
theorem twos_loop : ∀ (d i k : Nat) (l : List (BitVec 8)), i + d = 99 → d < k → l.length + d ≤ 140737488355328 → ∃ m, waybilllaw17_ReceiptWrites.l1 k l i = some m ∧ m.length = l.length + d
  | 0, i, k, l, h, hk, hl => by
    obtain ⟨k, rfl⟩ : ∃ m, k = m + 1 := ⟨k - 1, by omega⟩
    exact ⟨l, by rw [waybilllaw17_ReceiptWrites.l1, if_neg (by omega)], rfl⟩
  | d + 1, i, k, l, h, hk, hl => by
    obtain ⟨k, rfl⟩ : ∃ m, k = m + 1 := ⟨k - 1, by omega⟩
    obtain ⟨m, h2, h3⟩ := twos_loop d (i + 1) k (l ++ [2#8]) (by omega) (by omega) (by rw [List.length_append, List.length_singleton]; omega)
    exact ⟨m, by rw [waybilllaw17_ReceiptWrites.l1, if_pos (by omega), if_pos (by rw [List.length_singleton]; omega), h2], by rw [h3, List.length_append, List.length_singleton]; omega⟩
theorem stillLogs_refl (x : List Log) : waybilllaw17_stillLogs x x = some true := by
  unfold waybilllaw17_stillLogs
  rw [sameLogs_refl]; rfl
theorem twin_eq17 {l : List Log} (h : twfit l = true) : waybilllaw17_twin l = some l := by
  unfold waybilllaw17_twin
  rw [if_pos h]
theorem writes_law (r : Rcpt) (ht : twfit r.logs = true) (hl : r.logs.length ≤ 1099511627776) (hd : ∀ x ∈ r.logs, x.data.length ≤ 1073741824) (hn : (r.logs.map szL).sum ≤ 2147480000) : waybilllaw17_ReceiptWrites r = some true := by
  obtain ⟨e, hc, hc1, hc2, _⟩ := check_char r hl
  obtain ⟨b, f, he, hb⟩ : ∃ b f, receipt_Encode r = some (b, f) ∧ b.length ≤ 16777216 := by
    by_cases h0 : e = 0
    · subst h0
      rw [encode_char r (hc2 rfl) hd hn]
      by_cases h : (encR r).length ≤ 16777216
      · rw [if_pos h]; exact ⟨_, _, rfl, h⟩
      · rw [if_neg h]; exact ⟨_, _, rfl, by simp⟩
    · exact ⟨_, _, encode_bad r h0 hc, by simp⟩
  obtain ⟨m, hm1, hm2⟩ := ones_loop b.length 0 (b.length - 0 + 2) b (by omega) (by omega)
  obtain ⟨q, hq1, hq2⟩ := twos_loop 99 0 (99 - 0 + 2) (m ++ [2#8]) (by omega) (by omega) (by rw [List.length_append, List.length_singleton]; omega)
  unfold waybilllaw17_ReceiptWrites
  rw [twin_eq17 ht, Option.bind_some, show (Rcpt.mk r.kind r.rooted r.root r.status r.used r.bloom r.logs) = r from rfl, he, Option.bind_some]
  dsimp only
  rw [Option.bind_some]
  dsimp only
  rw [dencode_eq r hl hd hn, he, Option.bind_some]
  dsimp only
  rw [same17, Option.bind_some, if_pos rfl, Option.bind_some, if_pos rfl, num17, Option.bind_some, if_pos rfl, hc, Option.bind_some, num17, Option.bind_some, dcheck_eq r hl, hc, Option.bind_some, if_pos rfl, stillLogs_refl, Option.bind_some, Option.bind_some, if_neg (by decide), hm1, Option.bind_some, if_pos (by rw [List.length_singleton]; omega), hq1, Option.bind_some, Option.bind_some, if_pos rfl, if_pos (by rw [hq2, List.length_append, List.length_singleton]), Option.bind_some]
  rfl
end Go.Fw
namespace Go.Fw
open Go Go.RowKit Go.Deep Go.WideShapes
set_option linter.unusedVariables false
section
variable {H : Type} {enc : TypeId × Value → H} {P : Program} {W : World} {tL tA tS tH tB t8 : TypeId}
structure RcptTypes (P : Program) (tR tN tO tH tU tM tLs tL t8 : TypeId) where
  fs : Array Field
  f0 : Field
  f1 : Field
  f2 : Field
  f3 : Field
  f4 : Field
  f5 : Field
  f6 : Field
  hR : P.underlying tR = some (.struct fs)
  h0 : fs[0]? = some f0
  o0 : f0.offset = 0
  y0 : f0.type = tN
  h1 : fs[1]? = some f1
  o1 : f1.offset = 1
  y1 : f1.type = tO
  h2 : fs[2]? = some f2
  o2 : f2.offset = 2
  y2 : f2.type = tH
  h3 : fs[3]? = some f3
  o3 : f3.offset = 34
  y3 : f3.type = tU
  h4 : fs[4]? = some f4
  o4 : f4.offset = 35
  y4 : f4.type = tU
  h5 : fs[5]? = some f5
  o5 : f5.offset = 36
  y5 : f5.type = tM
  h6 : fs[6]? = some f6
  o6 : f6.offset = 292
  y6 : f6.type = tLs
  uN : P.underlying tN = some (.int .i64)
  uO : P.underlying tO = some .bool
  uH : P.underlying tH = some (.array 32 t8)
  uU : P.underlying tU = some (.int .u64)
  uM : P.underlying tM = some (.array 256 t8)
  uL : P.underlying tLs = some (.slice tL)
  u8 : P.underlying t8 = some (.int .u8)
  cN : P.cellsOf tN = 1
  cO : P.cellsOf tO = 1
  cH : P.cellsOf tH = 32
  cU : P.cellsOf tU = 1
  cM : P.cellsOf tM = 256
  cLs : P.cellsOf tLs = 1
  c8 : P.cellsOf t8 = 1
  cR : P.cellsOf tR = 293
theorem seg_list (cs : List Value) (o n : Nat) : cs.drop o = (cs.drop o).take n ++ cs.drop (o + n) := by
  rw [← List.drop_drop, List.take_append_drop]
def RcptD (d : DataW H) (x : Rcpt) : Prop := ∃ ds el sp, d = .agg ds ∧ (∃ dl ∈ ds, Els dl el sp) ∧ el.length = x.logs.length ∧ ∀ (i : Nat) x' d', x.logs[i]? = some x' → el[i]? = some d' → LogD d' x'
theorem RcptD.bulk {ub : DataW H → Nat} {uba : List (DataW H) → Nat} (B : BulkFn ub uba) {d : DataW H} {x : Rcpt} (h : RcptD d x) : (x.logs.map fun x => x.topics.length + x.data.length + 1).sum ≤ ub d := by
  obtain ⟨ds, el, sp, rfl, ⟨dl, hm, he⟩, hl, hq⟩ := h
  have h1 := B.sum (fun x : Log => x.topics.length + x.data.length + 1) x.logs el hl (fun i x d hx hd => (hq i x d hx hd).bulk2 B)
  have h2 := B.els he
  have h3 := B.mem hm
  rw [B.ha]
  omega
theorem arg_rcpt {tR tN tO tU tM tLs : TypeId} (R : RcptTypes P tR tN tO tH tU tM tLs tL t8) (T : LogTypes P tL tA tS tH tB t8) {b0 : Nat} {v : Value} (hval : Value.okWide P W .any b0 tR v) {d : DataW H} {ps : List MemPlace} (h : DataW.Trod enc P W 0 (fun _ => true) true tR v d ps) (hz : Fits P tR d) :
    ∃ (cs : List Value) (x : Rcpt), v = .agg cs.toArray ∧ RcptRd (fun w => Mem W w []) cs x ∧ RcptD d x := by
  obtain ⟨xs0, rfl⟩ := okWide_st R.hR hval
  obtain ⟨fuel, hf⟩ := h
  have hr : reads enc P W fuel tR xs0.toList = some (d, ps) := by simpa [Value.cells] using hf
  generalize hcs : xs0.toList = cs at hr
  obtain ⟨xs, m, hn, hx, hcl, hxl, hf⟩ := DataW.trod_struct R.hR hr
  rw [R.cR] at hcl
  have hl : cs.length = 293 := hcl
  have g0 := hf 0 R.f0 R.h0
  rw [R.o0, R.y0, R.cN] at g0
  have hs0 : 0 < R.fs.size := (Array.getElem?_eq_some_iff.1 R.h0).1
  obtain ⟨x0, e0⟩ : ∃ x, xs[0]? = some x := ⟨_, List.getElem?_eq_getElem (by omega)⟩
  rw [e0] at g0
  have g1 := hf 1 R.f1 R.h1
  rw [R.o1, R.y1, R.cO] at g1
  have hs1 : 1 < R.fs.size := (Array.getElem?_eq_some_iff.1 R.h1).1
  obtain ⟨x1, e1⟩ : ∃ x, xs[1]? = some x := ⟨_, List.getElem?_eq_getElem (by omega)⟩
  rw [e1] at g1
  have g2 := hf 2 R.f2 R.h2
  rw [R.o2, R.y2, R.cH] at g2
  have hs2 : 2 < R.fs.size := (Array.getElem?_eq_some_iff.1 R.h2).1
  obtain ⟨x2, e2⟩ : ∃ x, xs[2]? = some x := ⟨_, List.getElem?_eq_getElem (by omega)⟩
  rw [e2] at g2
  have g3 := hf 3 R.f3 R.h3
  rw [R.o3, R.y3, R.cU] at g3
  have hs3 : 3 < R.fs.size := (Array.getElem?_eq_some_iff.1 R.h3).1
  obtain ⟨x3, e3⟩ : ∃ x, xs[3]? = some x := ⟨_, List.getElem?_eq_getElem (by omega)⟩
  rw [e3] at g3
  have g4 := hf 4 R.f4 R.h4
  rw [R.o4, R.y4, R.cU] at g4
  have hs4 : 4 < R.fs.size := (Array.getElem?_eq_some_iff.1 R.h4).1
  obtain ⟨x4, e4⟩ : ∃ x, xs[4]? = some x := ⟨_, List.getElem?_eq_getElem (by omega)⟩
  rw [e4] at g4
  have g5 := hf 5 R.f5 R.h5
  rw [R.o5, R.y5, R.cM] at g5
  have hs5 : 5 < R.fs.size := (Array.getElem?_eq_some_iff.1 R.h5).1
  obtain ⟨x5, e5⟩ : ∃ x, xs[5]? = some x := ⟨_, List.getElem?_eq_getElem (by omega)⟩
  rw [e5] at g5
  have g6 := hf 6 R.f6 R.h6
  rw [R.o6, R.y6, R.cLs] at g6
  have hs6 : 6 < R.fs.size := (Array.getElem?_eq_some_iff.1 R.h6).1
  obtain ⟨x6, e6⟩ : ∃ x, xs[6]? = some x := ⟨_, List.getElem?_eq_getElem (by omega)⟩
  rw [e6] at g6
  have hd2 : d = .agg (xs.map (·.1)) := congrArg Prod.fst hx
  subst hd2
  have hz6 : Fits P tLs x6.1 := by have := Fits.struct R.hR hz R.h6 (d := x6.1) (by simp [e6]); rwa [R.y6] at this
  obtain ⟨n0, a0, w0⟩ := reads_int R.uN g0
  obtain ⟨b1, a1, _⟩ := DataW.trod_bool R.uO g1
  obtain ⟨r2, a2, l2⟩ := reads_arr8 R.uH R.u8 T.c8 R.cH g2
  obtain ⟨s3, a3⟩ := reads_u64 R.uU g3
  obtain ⟨s4, a4⟩ := reads_u64 R.uU g4
  obtain ⟨m5, a5, l5⟩ := reads_arr8 R.uM R.u8 T.c8 R.cM g5
  obtain ⟨u6, a6⟩ : ∃ u, (cs.drop 292).take 1 = [u] := List.length_eq_one_iff.1 (by rw [List.length_take, List.length_drop]; omega)
  rw [a6] at g6
  obtain ⟨A, cap, cells, ls, el, sp, rfl, v6, r6, hel, hll, _, _, hq⟩ := reads_logs T R.uL g6 hz6
  obtain ⟨root, rfl⟩ : ∃ v : Vector (BitVec 8) 32, r2 = v.toList := ⟨⟨r2.toArray, by simpa using l2⟩, rfl⟩
  obtain ⟨bl, rfl⟩ : ∃ v : Vector (BitVec 8) 256, m5 = v.toList := ⟨⟨m5.toArray, by simpa using l5⟩, rfl⟩
  have hb : -9223372036854775808 ≤ n0 ∧ n0 ≤ 9223372036854775807 := wf_i64_in w0
  refine ⟨cs, ⟨n0, b1, root, s3, s4, bl, ls⟩, by rw [← hcs], ?_, ⟨_, el, sp, rfl, ⟨x6.1, List.mem_map.2 ⟨x6, List.mem_of_getElem? e6, rfl⟩, hel⟩, hll, hq⟩⟩
  have hc : cs = (⟨n0, b1, root, s3, s4, bl, .slice A ls.length cap⟩ : RcptC).C := by
    have h0 : cs = cs.drop 0 := rfl
    have h7 : cs.drop 293 = [] := List.drop_of_length_le (by omega)
    rw [h0, seg_list cs 0 1, seg_list cs 1 1, seg_list cs 2 32, seg_list cs 34 1, seg_list cs 35 1, seg_list cs 36 256, seg_list cs 292 1, a0, a1, a2, a3, a4, a5, a6, h7]
    rfl
  rw [hc]
  exact RcptRd.mk hb v6 r6
theorem sum_szL (l : List Log) : (l.map szL).sum ≤ 56 * (l.map fun x => x.topics.length + x.data.length + 1).sum := by
  induction l with
  | nil => simp
  | cons x l ih => simp only [List.map_cons, List.sum_cons, szL]; omega
theorem bulk_logs {l : List Log} {n : Nat} (h : (l.map fun x => x.topics.length + x.data.length + 1).sum ≤ n) : l.length ≤ n ∧ ∀ x ∈ l, x.data.length ≤ n ∧ x.topics.length ≤ n := by
  induction l generalizing n with
  | nil => simp
  | cons x l ih =>
    rw [List.map_cons, List.sum_cons] at h
    obtain ⟨h1, h2⟩ := ih (n := n - (x.topics.length + x.data.length + 1)) (by omega)
    refine ⟨by rw [List.length_cons]; omega, fun y hy => ?_⟩
    rcases List.mem_cons.1 hy with rfl | hy
    · exact ⟨by omega, by omega⟩
    · obtain ⟨h3, h4⟩ := h2 y hy; exact ⟨by omega, by omega⟩
end
end Go.Fw
