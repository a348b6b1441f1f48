/- Part of a proof: rules that its law uses. -/
import Derived.Test.YtojnakdlnlcmiaaDoorT5
namespace Go.Fw
set_option linter.unusedVariables false
set_option linter.unusedSimpArgs false
set_option maxRecDepth 10000
def Valid (r : Rcpt) : Prop := (0 ≤ r.kind ∧ r.kind ≤ 4) ∧ firstOk r.kind r.rooted r.root r.status ∧ fewT r.logs ∧ receipt_BloomOf r.logs = some r.bloom
theorem logsT_few : ∀ {l : List Log}, fewT l → (logsT l).length ≤ 5 * l.length
  | [], _ => by simp [logsT]
  | x :: l, h => by
    have h1 := h x (List.mem_cons_self ..)
    have h2 := logsT_few (l := l) (fun y hy => h y (List.mem_cons_of_mem _ hy))
    rw [logsT, List.flatMap_cons, List.length_append, logT_len, List.length_cons, show (l.flatMap logT).length = (logsT l).length from rfl]
    omega
theorem bloom_total {l : List Log} (h : fewT l) (hl : l.length ≤ 1099511627776) : ∃ b, receipt_BloomOf l = some b := by
  have := logsT_few h
  obtain ⟨b, hb, _⟩ := rbof_bits l (by omega)
  exact ⟨b, hb⟩
theorem checkl (r : Rcpt) : ∀ (d i k : Nat), i + d = r.logs.length → d < k → receipt_Check.l1 r k i = if ∃ x ∈ r.logs.drop i, 4 < x.topics.length then some (Lp.ret (some 174)) else some (Lp.go ())
  | 0, i, k, h, hk => by
    obtain ⟨k, rfl⟩ : ∃ m, k = m + 1 := ⟨k - 1, by omega⟩
    rw [receipt_Check.l1, if_neg (by omega), List.drop_eq_nil_of_le (by omega)]; simp
  | d + 1, i, k, h, hk => by
    obtain ⟨k, rfl⟩ : ∃ m, k = m + 1 := ⟨k - 1, by omega⟩
    have h1 : i < r.logs.length := by omega
    rw [receipt_Check.l1, if_pos h1, List.getElem?_eq_getElem h1, Option.bind_some, checkl r d (i + 1) k (by omega) (by omega), List.drop_eq_getElem_cons h1]
    by_cases e : 4 < (r.logs[i]).topics.length
    · rw [if_pos e, if_pos ⟨_, List.mem_cons_self .., e⟩]
    · rw [if_neg e]
      simp only [List.mem_cons, exists_eq_or_imp, e, false_or]
theorem check_char (r : Rcpt) (hl : r.logs.length ≤ 1099511627776) : ∃ e, receipt_Check r = some e ∧ (Valid r → e = 0) ∧ (e = 0 → Valid r) ∧ ((0 ≤ r.kind ∧ r.kind ≤ 4) → firstOk r.kind r.rooted r.root r.status → fewT r.logs → receipt_BloomOf r.logs ≠ some r.bloom → e = 173) := by
  unfold receipt_Check
  by_cases hk : r.kind < 0 ∨ 4 < r.kind
  · have h1 : (if r.kind < (0 : Int) then some true else some (decide ((4 : Int) < r.kind))) = some true := by
      by_cases h : r.kind < 0
      · rw [if_pos h]
      · rw [if_neg h]; simp; omega
    rw [h1, Option.bind_some, if_pos rfl]
    exact ⟨_, rfl, fun h => absurd h.1 (by omega), fun h => absurd h (by decide), fun h => absurd h (by omega)⟩
  have h1 : (if r.kind < (0 : Int) then some true else some (decide ((4 : Int) < r.kind))) = some false := by
    rw [if_neg (by omega)]; simp; omega
  rw [h1, Option.bind_some, if_neg (by decide)]
  have key : ∃ p : Bool, ((if r.rooted = true then (if r.kind = (0 : Int) then (if r.status = 0#64 then (if r.rooted = true then (some (false)) else (if r.root = (Vector.replicate 32 0#8) then (some ((decide (1 < r.status.toNat)))) else (some (true)))) else (some (true))) else (some (true))) else (if r.rooted = true then (some (false)) else (if r.root = (Vector.replicate 32 0#8) then (some ((decide (1 < r.status.toNat)))) else (some (true))))) : Option Bool) = some p ∧ (p = false ↔ firstOk r.kind r.rooted r.root r.status) := by
    unfold firstOk
    cases hr : r.rooted with
    | false =>
      rw [if_neg (by decide), if_neg (by decide)]
      by_cases h2 : r.root = Vector.replicate 32 0#8
      · rw [if_pos h2]
        refine ⟨_, rfl, ?_⟩
        simp [h2]
      · rw [if_neg h2]
        refine ⟨_, rfl, ?_⟩
        simp [h2]
    | true =>
      rw [if_pos rfl, if_pos rfl]
      by_cases h2 : r.kind = 0
      · rw [if_pos h2]
        by_cases h3 : r.status = 0#64
        · rw [if_pos h3]
          exact ⟨_, rfl, by simp [h2, h3]⟩
        · rw [if_neg h3]
          exact ⟨_, rfl, by simp [h2, h3]⟩
      · rw [if_neg h2]
        exact ⟨_, rfl, by simp [h2]⟩
  obtain ⟨p, hp1, hp2⟩ := key
  rw [hp1, Option.bind_some]
  by_cases hp : p = true
  · rw [if_pos hp]
    have hno : ¬ firstOk r.kind r.rooted r.root r.status := fun h => by have := hp2.2 h; rw [hp] at this; cases this
    exact ⟨_, rfl, fun h => absurd h.2.1 hno, fun h => absurd h (by decide), fun _ h => absurd h hno⟩
  · rw [if_neg hp]
    have hok := hp2.1 (by simpa using hp)
    rw [checkl r r.logs.length 0 _ (by omega) (by omega), List.drop_zero]
    by_cases ht : ∃ x ∈ r.logs, 4 < x.topics.length
    · rw [if_pos ht, Option.bind_some]
      obtain ⟨x, hx, hx4⟩ := ht
      have hno : ¬ fewT r.logs := fun h => by have := h x hx; omega
      exact ⟨_, rfl, fun h => absurd h.2.2.1 hno, fun h => absurd h (by decide), fun _ _ h => absurd h hno⟩
    · rw [if_neg ht, Option.bind_some]
      have hfew : fewT r.logs := fun x hx => by
        by_cases h4 : x.topics.length ≤ 4
        · exact h4
        · exact absurd ⟨x, hx, by omega⟩ ht
      obtain ⟨b, hb⟩ := bloom_total hfew hl
      dsimp only
      rw [hb, Option.bind_some]
      by_cases he : r.bloom = b
      · rw [if_pos he]
        exact ⟨_, rfl, fun _ => rfl, fun _ => ⟨by omega, hok, hfew, by rw [hb, he]⟩, fun _ _ _ h => absurd (by rw [he]) h⟩
      · rw [if_neg he]
        refine ⟨_, rfl, fun h => ?_, fun h => absurd h (by decide), fun _ _ _ _ => rfl⟩
        have := h.2.2.2
        rw [hb] at this
        exact absurd (Option.some.inj this).symm he
end Go.Fw
namespace Go.Fw
set_option linter.unusedVariables false
set_option linter.unusedSimpArgs false
set_option maxRecDepth 10000
theorem same17_loop (a : List (BitVec 8)) : ∀ (d i k : Nat), i + d = a.length → d < k → waybilllaw17_same.l1 a a k i = some (Lp.go ())
  | 0, i, k, h, hk => by
    obtain ⟨k, rfl⟩ : ∃ m, k = m + 1 := ⟨k - 1, by omega⟩
    rw [waybilllaw17_same.l1, if_neg (by omega)]
  | d + 1, i, k, h, hk => by
    obtain ⟨k, rfl⟩ : ∃ m, k = m + 1 := ⟨k - 1, by omega⟩
    have h1 : i < a.length := by omega
    rw [waybilllaw17_same.l1, if_pos h1, List.getElem?_eq_getElem h1, Option.bind_some, Option.bind_some, if_pos rfl, same17_loop a d (i + 1) k (by omega) (by omega)]
theorem same17 (a : List (BitVec 8)) : waybilllaw17_same a a = some true := by
  unfold waybilllaw17_same
  rw [if_pos rfl, same17_loop a a.length 0 _ (by omega) (by omega), Option.bind_some]
theorem sameLog_loop (a : Log) : ∀ (d i k : Nat), i + d = a.topics.length → d < k → waybilllaw17_sameLog.l1 a a k i = some (Lp.go ())
  | 0, i, k, h, hk => by
    obtain ⟨k, rfl⟩ : ∃ m, k = m + 1 := ⟨k - 1, by omega⟩
    rw [waybilllaw17_sameLog.l1, if_neg (by omega)]
  | d + 1, i, k, h, hk => by
    obtain ⟨k, rfl⟩ : ∃ m, k = m + 1 := ⟨k - 1, by omega⟩
    have h1 : i < a.topics.length := by omega
    rw [waybilllaw17_sameLog.l1, if_pos h1, List.getElem?_eq_getElem h1, Option.bind_some, Option.bind_some, if_pos rfl, sameLog_loop a d (i + 1) k (by omega) (by omega)]
theorem sameLog_refl (a : Log) : waybilllaw17_sameLog a a = some true := by
  unfold waybilllaw17_sameLog
  rw [if_pos rfl, Option.bind_some, if_neg (by simp), sameLog_loop a a.topics.length 0 _ (by omega) (by omega), Option.bind_some]
  dsimp only
  rw [same17, Option.bind_some]
theorem sameLogs_loop (a : List Log) : ∀ (d i k : Nat), i + d = a.length → d < k → waybilllaw17_sameLogs.l1 a a k i = some (Lp.go ())
  | 0, i, k, h, hk => by
    obtain ⟨k, rfl⟩ : ∃ m, k = m + 1 := ⟨k - 1, by omega⟩
    rw [waybilllaw17_sameLogs.l1, if_neg (by omega)]
  | d + 1, i, k, h, hk => by
    obtain ⟨k, rfl⟩ : ∃ m, k = m + 1 := ⟨k - 1, by omega⟩
    have h1 : i < a.length := by omega
    rw [waybilllaw17_sameLogs.l1, if_pos h1, List.getElem?_eq_getElem h1, Option.bind_some, Option.bind_some, sameLog_refl, Option.bind_some, if_pos rfl, sameLogs_loop a d (i + 1) k (by omega) (by omega)]
theorem sameLogs_refl (a : List Log) : waybilllaw17_sameLogs a a = some true := by
  unfold waybilllaw17_sameLogs
  rw [if_pos rfl, sameLogs_loop a a.length 0 _ (by omega) (by omega), Option.bind_some]
theorem sameRcpt_refl (a : Rcpt) : waybilllaw17_sameReceipt a a = some true := by
  unfold waybilllaw17_sameReceipt
  rw [if_pos rfl, if_pos rfl, if_pos rfl, if_pos rfl, Option.bind_some, if_neg (by simp), if_pos rfl, sameLogs_refl]; rfl
theorem num17 (x : Int) : waybilllaw17_num x = some x := by unfold waybilllaw17_num; rfl
theorem make_char (k : Int) (st us : BitVec 64) (l : List Log) (hb : (logsT l).length * 24 ≤ 140737488355328) (hf : mkfit l = true) (hl : l.length ≤ 1099511627776) : ∃ b, receipt_BloomOf l = some b ∧ ((Valid ⟨k, false, Vector.replicate 32 0#8, st, us, b, l⟩ ∧ receipt_Make k st us l = some (⟨k, false, Vector.replicate 32 0#8, st, us, b, l⟩, 0)) ∨ (¬ Valid ⟨k, false, Vector.replicate 32 0#8, st, us, b, l⟩ ∧ ∃ e : Nat, e ≠ 0 ∧ receipt_Check ⟨k, false, Vector.replicate 32 0#8, st, us, b, l⟩ = some e ∧ receipt_Make k st us l = some (Rcpt.zero, (e : Int)))) := by
  obtain ⟨b, h1, _⟩ := rbof_bits l hb
  refine ⟨b, h1, ?_⟩
  obtain ⟨e, h2, h3, h4, _⟩ := check_char ⟨k, false, Vector.replicate 32 0#8, st, us, b, l⟩ hl
  unfold receipt_Make
  rw [h1, Option.bind_some, if_pos hf, h2, Option.bind_some]
  by_cases he : e = 0
  · rw [if_pos he]; exact .inl ⟨h4 he, rfl⟩
  · rw [if_neg he]; exact .inr ⟨fun h => he (h3 h), e, he, rfl, rfl⟩
end Go.Fw
namespace Go.Fw
set_option linter.unusedVariables false
set_option linter.unusedSimpArgs false
set_option maxRecDepth 10000
theorem dbof_in (a : List Log) (n : Nat) (x : Log) (hx : a[n]? = some x) : ∀ (d i k : Nat) (l : List (List (BitVec 8))), i + d = x.topics.length → d < k → (l.length + d) * 24 ≤ 140737488355328 → waybillref17_BloomOf.l2 a n k l i = some (l ++ (x.topics.drop i).map (·.toList))
  | 0, i, k, l, h, hk, hb => by
    obtain ⟨k, rfl⟩ : ∃ m, k = m + 1 := ⟨k - 1, by omega⟩
    rw [waybillref17_BloomOf.l2, hx, Option.bind_some, if_neg (by omega), List.drop_eq_nil_of_le (by omega), List.map_nil, List.append_nil]
  | d + 1, i, k, l, h, hk, hb => by
    obtain ⟨k, rfl⟩ : ∃ m, k = m + 1 := ⟨k - 1, by omega⟩
    have h1 : i < x.topics.length := by omega
    rw [waybillref17_BloomOf.l2, hx, Option.bind_some, if_pos h1, Option.bind_some, List.getElem?_eq_getElem h1, Option.bind_some, waybillref17_text, Option.bind_some, if_pos (by simp; omega), dbof_in a n x hx d (i + 1) k _ (by omega) (by omega) (by simp; omega), List.append_assoc, List.singleton_append, List.drop_eq_getElem_cons h1, List.map_cons]
    rfl
theorem dbof_out (a : List Log) : ∀ (d i k : Nat) (l : List (List (BitVec 8))), i + d = a.length → d < k → (l.length + (logsT (a.drop i)).length) * 24 ≤ 140737488355328 → waybillref17_BloomOf.l1 a k l i = some (l ++ logsT (a.drop i))
  | 0, i, k, l, h, hk, hb => by
    obtain ⟨k, rfl⟩ : ∃ m, k = m + 1 := ⟨k - 1, by omega⟩
    rw [waybillref17_BloomOf.l1, if_neg (by omega), List.drop_eq_nil_of_le (by omega)]
    simp [logsT]
  | d + 1, i, k, l, h, hk, hb => by
    obtain ⟨k, rfl⟩ : ∃ m, k = m + 1 := ⟨k - 1, by omega⟩
    have h1 : i < a.length := by omega
    have hx : a[i]? = some a[i] := List.getElem?_eq_getElem h1
    have hs : logsT (a.drop i) = logT a[i] ++ logsT (a.drop (i + 1)) := by rw [List.drop_eq_getElem_cons h1, logsT, List.flatMap_cons]; rfl
    rw [hs, List.length_append, logT_len] at hb
    rw [waybillref17_BloomOf.l1, if_pos h1, hx, Option.bind_some, waybillref17_text, Option.bind_some, if_pos (by simp; omega), Option.elim_some, dbof_in a i _ hx _ 0 _ _ (Nat.zero_add _) (by omega) (by simp; omega), Option.bind_some, dbof_out a d (i + 1) k _ (by omega) (by omega) (by simp; omega), hs, List.drop_zero]
    simp [logT, It.data]
theorem dof_eq (a : List (List (BitVec 8))) (ha : ∀ t ∈ a, t.length + 137 ≤ 140737488355328) : waybillref10_Of a = bloom_Of a := by
  unfold waybillref10_Of bloom_Of
  rw [rof_loop a ha]
theorem dbof_eq (a : List Log) (hb : (logsT a).length * 24 ≤ 140737488355328) : waybillref17_BloomOf a = receipt_BloomOf a := by
  rw [rbof_eq a hb]
  unfold waybillref17_BloomOf
  rw [dbof_out a a.length 0 (a.length - 0 + 2) [] (by omega) (by omega) (by simpa using hb), Option.bind_some, List.drop_zero, List.nil_append, dof_eq _ (fun t ht => by have := logsT_small ht; omega)]
  cases bloom_Of (logsT a) <;> rfl
theorem dcheckl (r : Rcpt) : ∀ (k i : Nat), waybillref17_Check.l1 r k i = receipt_Check.l1 r k i
  | 0, i => rfl
  | k + 1, i => by
    rw [waybillref17_Check.l1, receipt_Check.l1]
    simp only [dcheckl r k]
theorem dcheck_eq (r : Rcpt) (hl : r.logs.length ≤ 1099511627776) : waybillref17_Check r = receipt_Check r := by
  unfold waybillref17_Check receipt_Check
  congr 1
  funext p
  by_cases hp : p = true
  · rw [if_pos hp, if_pos hp]
  rw [if_neg hp, if_neg hp]
  have tail : ((waybillref17_Check.l1 r (r.logs.length - 0 + 2) 0).bind fun | .ret o => o | .go () => ((waybillref17_BloomOf r.logs).bind fun x46 => (if r.bloom = x46 then (some 0) else (some 173)))) =
      ((receipt_Check.l1 r (r.logs.length - 0 + 2) 0).bind fun | .ret o => o | .go () => ((receipt_BloomOf r.logs).bind fun x46 => (if r.bloom = x46 then (some 0) else (some 173)))) := by
    rw [dcheckl, checkl r r.logs.length 0 _ (by omega) (by omega), List.drop_zero]
    by_cases ht : ∃ x ∈ r.logs, 4 < x.topics.length
    · rw [if_pos ht]; rfl
    · rw [if_neg ht]
      have hfew : fewT r.logs := fun x hx => by
        by_cases h4 : x.topics.length ≤ 4
        · exact h4
        · exact absurd ⟨x, hx, by omega⟩ ht
      have := logsT_few hfew
      simp only [Option.bind_some]
      rw [dbof_eq _ (by omega)]
  cases hr : r.rooted with
  | false =>
    simp only [Bool.false_eq_true, if_false, Option.bind_some]
    congr 1
    funext q
    by_cases hq : q = true
    · rw [if_pos hq, if_pos hq]
    · rw [if_neg hq, if_neg hq]; exact tail
  | true =>
    simp only [if_true, Option.bind_some, Bool.false_eq_true, if_false]
    by_cases h2 : r.kind = 0
    · by_cases h3 : r.status = 0#64
      · rw [if_pos h2, if_pos h2, if_pos h3, Option.bind_some, Option.bind_some, if_neg (by simp [h3]), if_neg (by decide)]; exact tail
      · rw [if_pos h2, if_pos h2, if_neg h3, Option.bind_some, Option.bind_some, if_pos (by simp [h3]), if_pos rfl]
    · rw [if_neg h2, if_neg h2, Option.bind_some, Option.bind_some, if_pos rfl, if_pos rfl]
end Go.Fw
namespace Go.Fw
set_option linter.unusedVariables false
set_option linter.unusedSimpArgs false
set_option maxRecDepth 10000
theorem stillLogs_refl (x : List Log) : waybilllaw17_stillLogs x x = some true := by
  unfold waybilllaw17_stillLogs
  rw [sameLogs_refl]; rfl
theorem twin_eq17 {l : List Log} (h : twfit l = true) : waybilllaw17_twin l = some l := by
  unfold waybilllaw17_twin
  rw [if_pos h]
end Go.Fw
namespace Go.Fw
set_option linter.unusedVariables false
set_option linter.unusedSimpArgs false
set_option maxRecDepth 10000
theorem clone_loop (a : List Log) (ht : ∀ x ∈ a, x.topics.length * 32 ≤ 140737488355328) (hn : a.length * 72 ≤ 140737488355328) : ∀ (d i k : Nat) (l : List Log), i + d = a.length → d < k → l = a.take i → waybillref17_clone.l1 a k l i = some a
  | 0, i, k, l, h, hk, hl => by
    obtain ⟨k, rfl⟩ : ∃ m, k = m + 1 := ⟨k - 1, by omega⟩
    rw [waybillref17_clone.l1, if_neg (by omega), hl, List.take_of_length_le (by omega)]
  | d + 1, i, k, l, h, hk, hl => by
    obtain ⟨k, rfl⟩ : ∃ m, k = m + 1 := ⟨k - 1, by omega⟩
    have h1 : i < a.length := by omega
    have hll : l.length = i := by rw [hl, List.length_take, Nat.min_eq_left (by omega)]
    have hx : a[i]? = some a[i] := List.getElem?_eq_getElem h1
    rw [waybillref17_clone.l1, if_pos h1, hx, Option.bind_some, Option.bind_some, if_pos (ht _ (List.getElem_mem h1)), Option.bind_some, if_pos (by rw [List.length_singleton]; omega)]
    exact clone_loop a ht hn d (i + 1) k _ (by omega) (by omega) (by rw [hl, List.take_add_one, hx]; rfl)
theorem clone_eq (a : List Log) (ht : ∀ x ∈ a, x.topics.length * 32 ≤ 140737488355328) (hn : a.length * 72 ≤ 140737488355328) : waybillref17_clone a = some a := by
  unfold waybillref17_clone
  rw [clone_loop a ht hn a.length 0 _ [] (by omega) (by omega) (by simp), Option.bind_some]
theorem rmakes_law (k : Int) (st us : BitVec 64) (l : List Log) (hb : (logsT l).length * 24 ≤ 140737488355328) (hf : twfit l = true) (hl : l.length ≤ 1099511627776) :
    ∃ (x : Rcpt) (e : Int) (e2 : Nat) (b : Vector (BitVec 8) 256), waybilllaw17_twin l = some l ∧ receipt_Make k st us l = some (x, e) ∧ waybillref17_Make k st us l = some (x, e2) ∧ e = (e2 : Int) ∧ receipt_BloomOf l = some b ∧ waybillref17_BloomOf l = some b ∧ waybilllaw17_sameReceipt x x = some true ∧ waybilllaw17_num e = some e ∧ waybilllaw17_stillLogs l l = some true ∧ (x.logs = l ∨ x.logs = []) := by
  have hf2 := hf
  simp only [twfit, Bool.and_eq_true, List.all_eq_true, decide_eq_true_eq] at hf2
  obtain ⟨ht, hn⟩ := hf2
  have hmf : mkfit l = true := by
    simp only [mkfit, Bool.and_eq_true, List.all_eq_true, decide_eq_true_eq]
    exact ⟨fun x hx => (ht x hx).1, hn⟩
  obtain ⟨b, h1, h2⟩ := make_char k st us l hb hmf hl
  have h3 : waybillref17_BloomOf l = some b := by rw [dbof_eq l hb, h1]
  have hc := clone_eq l (fun x hx => (ht x hx).1) hn
  obtain ⟨e, he, he1, he2, _⟩ := check_char ⟨k, false, Vector.replicate 32 0#8, st, us, b, l⟩ hl
  have hd := dcheck_eq ⟨k, false, Vector.replicate 32 0#8, st, us, b, l⟩ hl
  rcases h2 with ⟨hv, h2⟩ | ⟨hv, e', hne, hce, h2⟩
  · have h0 := he1 hv
    subst h0
    refine ⟨_, _, 0, b, twin_eq17 hf, h2, ?_, rfl, h1, h3, sameRcpt_refl _, num17 _, stillLogs_refl l, .inl rfl⟩
    unfold waybillref17_Make
    rw [h3, Option.bind_some, hc, Option.bind_some, hd, he, Option.bind_some, if_pos rfl]
  · obtain rfl : e = e' := Option.some.inj (he.symm.trans hce)
    refine ⟨_, _, e, b, twin_eq17 hf, h2, ?_, rfl, h1, h3, sameRcpt_refl _, num17 _, stillLogs_refl l, .inr rfl⟩
    unfold waybillref17_Make
    rw [h3, Option.bind_some, hc, Option.bind_some, hd, he, Option.bind_some, if_neg hne]
    rfl
end Go.Fw
namespace Go.Fw
open Go Go.RowKit Go.Deep Go.WideShapes
set_option linter.unusedVariables false
section
variable {H : Type} {enc : TypeId × Value → H} {P : Program} {W : World} {tL tA tS tH tB t8 : TypeId}
def RcptD (d : DataW H) (x : Rcpt) : Prop := ∃ ds el sp, d = .agg ds ∧ (∃ dl ∈ ds, Els dl el sp) ∧ el.length = x.logs.length ∧ ∀ (i : Nat) x' d', x.logs[i]? = some x' → el[i]? = some d' → LogD d' x'
theorem RcptD.bulk {ub : DataW H → Nat} {uba : List (DataW H) → Nat} (B : BulkFn ub uba) {d : DataW H} {x : Rcpt} (h : RcptD d x) : (x.logs.map fun x => x.topics.length + x.data.length + 1).sum ≤ ub d := by
  obtain ⟨ds, el, sp, rfl, ⟨dl, hm, he⟩, hl, hq⟩ := h
  have h1 := B.sum (fun x : Log => x.topics.length + x.data.length + 1) x.logs el hl (fun i x d hx hd => (hq i x d hx hd).bulk2 B)
  have h2 := B.els he
  have h3 := B.mem hm
  rw [B.ha]
  omega
theorem wf_u64_in {n : Int} (h : (Lit.int .u64 n).wf = true) : ∃ y : BitVec 64, Value.int .u64 n = U64 y := by
  have h' := h
  simp only [Lit.wf, Bool.and_eq_true, decide_eq_true_eq] at h'
  have e1 : IntKind.min .u64 = 0 := by decide
  have e2 : IntKind.max .u64 = 18446744073709551615 := by decide
  rw [e1, e2] at h'
  exact ⟨BitVec.ofInt 64 n, by
    show Value.int .u64 n = .int .u64 ((BitVec.ofInt 64 n).toNat : Int)
    rw [BitVec.toNat_ofInt]
    congr 1
    omega⟩
theorem bulk_logs {l : List Log} {n : Nat} (h : (l.map fun x => x.topics.length + x.data.length + 1).sum ≤ n) : l.length ≤ n ∧ ∀ x ∈ l, x.data.length ≤ n ∧ x.topics.length ≤ n := by
  induction l generalizing n with
  | nil => simp
  | cons x l ih =>
    rw [List.map_cons, List.sum_cons] at h
    obtain ⟨h1, h2⟩ := ih (n := n - (x.topics.length + x.data.length + 1)) (by omega)
    refine ⟨by rw [List.length_cons]; omega, fun y hy => ?_⟩
    rcases List.mem_cons.1 hy with rfl | hy
    · exact ⟨by omega, by omega⟩
    · obtain ⟨h3, h4⟩ := h2 y hy; exact ⟨by omega, by omega⟩
end
end Go.Fw
