/- Part of a proof: rules that its law uses. -/
import Derived.Test.YtojnakdlnlcmiaaDoorT5
namespace Go.Fw.Tryd
open Go Go.Proofs Go.Fw
set_option maxRecDepth 100000
set_option linter.unusedVariables false
set_option linter.unusedSimpArgs false
set_option maxHeartbeats 1000000
theorem waybilllaw17_sameLog_does (w0 : World) (Φ : Ctx) (N : List Ent) (hΦ : ∀ w, Mem w0 w N → Φ w) (cs0_ : List Value) (a0 : Log) (cs1_ : List Value) (a1 : Log) (res0 : Bool) (ha0 : LogRd Φ cs0_ a0) (ha1 : LogRd Φ cs1_ a1) (hf : waybilllaw17_sameLog a0 a1 = some res0) : DoesG Tryd.prog 76 [.agg cs0_.toArray, .agg cs1_.toArray] w0 [] N (fun v G => v = .bool res0) := by
 unfold waybilllaw17_sameLog at hf
 replace ha0 := LogRd.mono (Ψ := More w0 Φ []) (fun w q => q.1) _ _ ha0
 have h10 := ha0
 obtain ⟨A1, c2, cs4, A6, c7, e9, v3, h5, v8⟩ := LogRd.opn ha0
 subst e9
 have m11 := v3.mx
 have m12 := v8.mx
 replace ha1 := LogRd.mono (Ψ := More w0 Φ []) (fun w q => q.1) _ _ ha1
 have h22 := ha1
 obtain ⟨A13, c14, cs16, A18, c19, e21, v15, h17, v20⟩ := LogRd.opn ha1
 subst e21
 have m23 := v15.mx
 have m24 := v20.mx
 refine DoesG.enter Tryd.func76 rfl Tryd.ntmps76 rfl (M := (([] ++ N))) rfl ?_
 refine CW.seq (CW.region ?_)
 refine OW.boxA rfl rfl (fun b25 => ?_)
 refine OW.boxA rfl rfl (fun b26 => ?_)
 refine OW.rv (RV.assign rfl) rfl ?_
 refine OW.nil (QW.then_n (CW.seq (CW.seq ?_)))
 obtain ⟨q27, hq28, hf⟩ := some_bind hf
 refine CW.cutJ (fun L' M' => ∃ p29 : Bool, q27 = p29 ∧ L' = [(2, ptr (some b25) 0), (3, ptr (some b26) 0), (19, .bool (p29))] ∧ M' = ((some b26, blk (⟨a1.address, .slice A13 a1.topics.length c14, .slice A18 a1.data.length c19⟩ : LogC).C 63) :: (some b25, blk (⟨a0.address, .slice A1 a0.topics.length c2, .slice A6 a0.data.length c7⟩ : LogC).C 63) :: ([] ++ N))) ?_ ?_
 ·rintro L31 M32 ⟨p29, e30, e33, e34⟩
  rw [e33, e34]
  clear e33 e34 L31 M32
  clear hq28
  rw [e30] at hf
  clear e30
  try dsimp only at hf
  refine QW.then_n ?_
  by_cases h35 : p29 = true
  ·replace hf := if_t hf h35
   refine CW.is_t rfl (h35) ?_
   refine CW.seq (CW.region ?_)
   refine OW.rv (RV.assign rfl) rfl ?_
   refine OW.nil (QW.then_n (CW.ret (QW.then_r ?_)))
   have e0 := Option.some.inj hf
   subst e0
   refine QW.retG (rs := [.tmp 4]) ([.bool false]) ((some b26, blk (⟨a1.address, .slice A13 a1.topics.length c14, .slice A18 a1.data.length c19⟩ : LogC).C 63) :: (some b25, blk (⟨a0.address, .slice A1 a0.topics.length c2, .slice A6 a0.data.length c7⟩ : LogC).C 63) :: []) rfl ?_ rfl ?_ ?_ _ (.inl rfl)
   ·exact ⟨rfl, trivial⟩
   ·exact rfl
   ·exact (fun w m => m)
  ·replace hf := if_f hf h35
   refine CW.is_f rfl (Bool.eq_false_iff.2 h35) ?_
   refine CW.skip (QW.then_n (CW.seq (CW.seq (CW.region ?_))))
   refine OW.rv (RV.assign rfl) rfl ?_
   refine OW.nil (QW.then_n ?_)
   obtain ⟨q36, hq37, hf⟩ := some_bind hf
   refine CW.cutJ (fun L' M' => q36 = Lp.go () ∧ L' = [(2, ptr (some b25) 0), (3, ptr (some b26) 0)] ∧ M' = ((some b26, blk (⟨a1.address, .slice A13 a1.topics.length c14, .slice A18 a1.data.length c19⟩ : LogC).C 63) :: (some b25, blk (⟨a0.address, .slice A1 a0.topics.length c2, .slice A6 a0.data.length c7⟩ : LogC).C 63) :: ([] ++ N))) ?_ ?_
   ·rintro L39 M40 ⟨e38, e41, e42⟩
    rw [e41, e42]
    clear e41 e42 L39 M40
    clear hq37
    rw [e38] at hf
    clear e38
    try dsimp only at hf
    refine QW.then_n (CW.seq (CW.region ?_))
    refine OW.rv (RV.field rfl rfl rfl rfl) rfl ?_
    refine OW.slot (ptr (some b25) 21) rfl ?_
    refine OW.rv (RV.load rfl (List.Mem.tail _ (List.Mem.head _)) rfl rfl rfl (LogC.C_data (⟨a0.address, .slice A1 a0.topics.length c2, .slice A6 a0.data.length c7⟩ : LogC))) rfl ?_
    refine OW.rv (RV.field rfl rfl rfl rfl) rfl ?_
    refine OW.slot (ptr (some b26) 21) rfl ?_
    refine OW.rv (RV.load rfl (List.Mem.head _) rfl rfl rfl (LogC.C_data (⟨a1.address, .slice A13 a1.topics.length c14, .slice A18 a1.data.length c19⟩ : LogC))) rfl ?_
    obtain ⟨x44, hx43, hf⟩ := some_bind hf
    refine OW.callG Tryd.call35 rfl (waybilllaw17_same_does w0 (More w0 Φ []) ((some b26, blk (⟨a1.address, .slice A13 a1.topics.length c14, .slice A18 a1.data.length c19⟩ : LogC).C 63) :: (some b25, blk (⟨a0.address, .slice A1 a0.topics.length c2, .slice A6 a0.data.length c7⟩ : LogC).C 63) :: ([] ++ N)) (fun w m => More.of hΦ 2 m rfl) A6 c7 a0.data A18 c19 a1.data x44 v8 v20 hx43) rfl rfl ?_
    rintro _ G45 rfl
    refine OW.mem (M' := ((some b26, blk (⟨a1.address, .slice A13 a1.topics.length c14, .slice A18 a1.data.length c19⟩ : LogC).C 63) :: (some b25, blk (⟨a0.address, .slice A1 a0.topics.length c2, .slice A6 a0.data.length c7⟩ : LogC).C 63) :: ([] ++ N))) (fun w m => m.appR) ?_
    refine OW.rv (RV.assign rfl) rfl ?_
    refine OW.nil (QW.then_n (CW.ret ?_))
    have e0 := Option.some.inj hf
    subst e0
    refine QW.retG (rs := [.tmp 4]) ([.bool (x44)]) ((some b26, blk (⟨a1.address, .slice A13 a1.topics.length c14, .slice A18 a1.data.length c19⟩ : LogC).C 63) :: (some b25, blk (⟨a0.address, .slice A1 a0.topics.length c2, .slice A6 a0.data.length c7⟩ : LogC).C 63) :: []) rfl ?_ rfl ?_ ?_ _ (.inl rfl)
    ·exact ⟨rfl, trivial⟩
    ·exact rfl
    ·exact (fun w m => m)
   ·skip
    refine CW.block ?_
    refine CW.loopJ (fun k L' M' => ∃ n47 : Nat, (waybilllaw17_sameLog.l1 a0 a1 k n47) = some q36 ∧ (n47 ≤ 9223372036854775807) ∧ L' = [(2, ptr (some b25) 0), (3, ptr (some b26) 0), (5, .int .i64 ((n47 : Nat) : Int))] ∧ M' = ((some b26, blk (⟨a1.address, .slice A13 a1.topics.length c14, .slice A18 a1.data.length c19⟩ : LogC).C 63) :: (some b25, blk (⟨a0.address, .slice A1 a0.topics.length c2, .slice A6 a0.data.length c7⟩ : LogC).C 63) :: ([] ++ N))) (k0 := (a0.topics.length - 0 + 2)) ⟨0, hq37, (by omega), rfl, rfl⟩ ⟨rfl, rfl, rfl, trivial⟩ (fun w m => m.pick [0, 1] 2 rfl rfl) ?_
    clear hq37
    rintro k49 L52 M53 ⟨n47, hl50, b48, e54, e55⟩
    rw [e54, e55]
    clear e54 e55 L52 M53
    rcases k49 with _ | k49
    ·rw [waybilllaw17_sameLog.l1] at hl50; cases hl50
    rw [waybilllaw17_sameLog.l1] at hl50
    refine CW.seq (CW.seq (CW.region ?_))
    refine OW.rv (RV.move rfl) rfl ?_
    refine OW.rv (RV.field rfl rfl rfl rfl) rfl ?_
    refine OW.slot (ptr (some b25) 20) rfl ?_
    refine OW.rv (RV.load rfl (List.Mem.tail _ (List.Mem.head _)) rfl rfl rfl (LogC.C_topics (⟨a0.address, .slice A1 a0.topics.length c2, .slice A6 a0.data.length c7⟩ : LogC))) rfl ?_
    refine OW.rv (RV.len rfl rfl) rfl ?_
    refine OW.rv (RV.lss rfl rfl) rfl ?_
    refine OW.slot (.bool (decide (n47 < a0.topics.length))) (congrArg Value.bool (decide_eq_decide.2 (by omega))) ?_
    refine OW.nil (QW.then_n ?_)
    by_cases h56 : n47 < a0.topics.length
    ·replace hl50 := if_t hl50 h56
     refine CW.is_t rfl (decide_eq_true h56) ?_
     refine CW.skip (QW.then_n (CW.seq (CW.block (CW.seq ?_))))
     refine CW.drawsU 11 mixed (by kernel_rfl) rfl ?_
     refine UW.rv 0 rfl (by kernel_rfl) rfl (RV.field rfl rfl rfl rfl) rfl ?_
     refine UW.slot (ptr (some b25) 20) rfl ?_
     refine UW.rv 1 rfl (by kernel_rfl) rfl (RV.load rfl (List.Mem.tail _ (List.Mem.head _)) rfl rfl rfl (LogC.C_topics (⟨a0.address, .slice A1 a0.topics.length c2, .slice A6 a0.data.length c7⟩ : LogC))) rfl ?_
     refine UW.rv 2 rfl (by kernel_rfl) rfl (RV.move rfl) rfl ?_
     obtain ⟨x57, hx58, hl50⟩ := some_bind hl50
     have hl59 := lt_of_at hx58
     refine UW.rv 3 rfl (by kernel_rfl) rfl (RV.idx_rs (n47) rfl rfl rfl rfl rfl (v3.isSome (by decide) hl59) (by omega)) rfl ?_
     obtain ⟨cs60, h61, h62⟩ := h5.get Ar8Rd.len hx58
     have h61a := h61
     subst h61a
     refine UW.rv 4 rfl (by kernel_rfl) rfl (RV.loadAs rfl rfl rfl rfl (fun w m => v3.load (More.of hΦ 2 m rfl) h62) ((u8s_length _).trans Vector.length_toList)) rfl ?_
     refine UW.rv 5 rfl (by kernel_rfl) rfl (RV.field rfl rfl rfl rfl) rfl ?_
     refine UW.slot (ptr (some b26) 20) rfl ?_
     refine UW.rv 6 rfl (by kernel_rfl) rfl (RV.load rfl (List.Mem.head _) rfl rfl rfl (LogC.C_topics (⟨a1.address, .slice A13 a1.topics.length c14, .slice A18 a1.data.length c19⟩ : LogC))) rfl ?_
     refine UW.rv 7 rfl (by kernel_rfl) rfl (RV.move rfl) rfl ?_
     obtain ⟨x63, hx64, hl50⟩ := some_bind hl50
     have hl65 := lt_of_at hx64
     refine UW.rv 8 rfl (by kernel_rfl) rfl (RV.idx_rs (n47) rfl rfl rfl rfl rfl (v15.isSome (by decide) hl65) (by omega)) rfl ?_
     obtain ⟨cs66, h67, h68⟩ := h17.get Ar8Rd.len hx64
     have h67a := h67
     subst h67a
     refine UW.rv 9 rfl (by kernel_rfl) rfl (RV.loadAs rfl rfl rfl rfl (fun w m => v15.load (More.of hΦ 2 m rfl) h68) ((u8s_length _).trans Vector.length_toList)) rfl ?_
     refine UW.rv 10 rfl (by kernel_rfl) rfl (RV.neA8 rfl rfl rfl rfl rfl rfl (Vector.length_toList) (Vector.length_toList)) rfl ?_
     refine UW.slot (.bool (!decide (x57 = x63))) (congrArg (fun b => Value.bool (!b)) (decide_eq_decide.2 Vector.toList_inj)) ?_
     refine UW.nil (by kernel_rfl) ?_
     refine OW.nil (QW.then_n ?_)
     by_cases h69 : x57 = x63
     ·replace hl50 := if_t hl50 h69
      refine CW.is_f rfl (congrArg (fun b => !b) (decide_eq_true h69)) ?_
      refine CW.skip (QW.block_n (QW.then_n (CW.region ?_)))
      refine OW.rv (RV.move rfl) rfl ?_
      refine OW.rv (RV.add rfl rfl (by omega)) rfl ?_
      refine OW.slot (.int .i64 (((n47 + 1) : Nat) : Int)) (by first | rfl | (congr 1) | (congr 1; omega)) ?_
      refine OW.rv (RV.assign rfl) rfl ?_
      refine OW.nil ?_
      exact QW.againJ (k' := k49) (Nat.lt_succ_self _) ⟨(n47 + 1), hl50, (by omega), rfl, rfl⟩ ⟨rfl, rfl, rfl, trivial⟩ (fun w m => m.pick [0, 1] 2 rfl rfl)
     ·replace hl50 := if_f hl50 h69
      refine CW.is_t rfl (congrArg (fun b => !b) (decide_eq_false h69)) ?_
      refine CW.seq (CW.region ?_)
      refine OW.rv (RV.assign rfl) rfl ?_
      refine OW.nil (QW.then_n (CW.ret (QW.block_r (QW.then_r (QW.then_r (QW.block_r (QW.then_r ?_)))))))
      have hc := Option.some.inj hl50
      subst hc
      try dsimp only at hf
      refine QW.then_r ?_
      have e0 := Option.some.inj hf
      subst e0
      refine QW.retG (rs := [.tmp 4]) ([.bool false]) ((some b26, blk (⟨a1.address, .slice A13 a1.topics.length c14, .slice A18 a1.data.length c19⟩ : LogC).C 63) :: (some b25, blk (⟨a0.address, .slice A1 a0.topics.length c2, .slice A6 a0.data.length c7⟩ : LogC).C 63) :: []) rfl ?_ rfl ?_ ?_ _ (.inl rfl)
      ·exact ⟨rfl, trivial⟩
      ·exact rfl
      ·exact (fun w m => m)
    ·replace hl50 := if_f hl50 h56
     refine CW.is_f rfl (decide_eq_false h56) ?_
     refine CW.exit (QW.then_x (QW.then_x (QW.block_xe ?_)))
     exact QW.join ⟨(Option.some.inj hl50).symm, rfl, rfl⟩ ⟨rfl, rfl, trivial⟩ (fun w m => m.pick [0, 1] 2 rfl rfl)
 ·skip
  refine CW.region ?_
  refine OW.rv (RV.field rfl rfl rfl rfl) rfl ?_
  refine OW.slot (ptr (some b25) 0) rfl ?_
  refine OW.rv (RV.loadAo rfl (List.Mem.tail _ (List.Mem.head _)) rfl rfl rfl rfl (LogC.C_address_all (⟨a0.address, .slice A1 a0.topics.length c2, .slice A6 a0.data.length c7⟩ : LogC)) ((u8s_length _).trans Vector.length_toList)) rfl ?_
  refine OW.rv (RV.field rfl rfl rfl rfl) rfl ?_
  refine OW.slot (ptr (some b26) 0) rfl ?_
  refine OW.rv (RV.loadAo rfl (List.Mem.head _) rfl rfl rfl rfl (LogC.C_address_all (⟨a1.address, .slice A13 a1.topics.length c14, .slice A18 a1.data.length c19⟩ : LogC)) ((u8s_length _).trans Vector.length_toList)) rfl ?_
  refine OW.rv (RV.neA8 rfl rfl rfl rfl rfl rfl (Vector.length_toList) (Vector.length_toList)) rfl ?_
  refine OW.slot (.bool (!decide (a0.address = a1.address))) (congrArg (fun b => Value.bool (!b)) (decide_eq_decide.2 Vector.toList_inj)) ?_
  refine OW.rv (RV.move rfl) rfl ?_
  by_cases h70 : a0.address = a1.address
  ·replace hq28 := if_t hq28 h70
   refine OW.slot (.bool false) (congrArg Value.bool (congrArg (fun b => !b) (decide_eq_true h70))) ?_
   refine OW.want rfl ?_
   refine OW.rv (RV.field rfl rfl rfl rfl) rfl ?_
   refine OW.slot (ptr (some b25) 20) rfl ?_
   refine OW.want rfl ?_
   refine OW.rv (RV.load rfl (List.Mem.tail _ (List.Mem.head _)) rfl rfl rfl (LogC.C_topics (⟨a0.address, .slice A1 a0.topics.length c2, .slice A6 a0.data.length c7⟩ : LogC))) rfl ?_
   refine OW.want rfl ?_
   refine OW.rv (RV.len rfl rfl) rfl ?_
   refine OW.want rfl ?_
   refine OW.rv (RV.field rfl rfl rfl rfl) rfl ?_
   refine OW.slot (ptr (some b26) 20) rfl ?_
   refine OW.want rfl ?_
   refine OW.rv (RV.load rfl (List.Mem.head _) rfl rfl rfl (LogC.C_topics (⟨a1.address, .slice A13 a1.topics.length c14, .slice A18 a1.data.length c19⟩ : LogC))) rfl ?_
   refine OW.want rfl ?_
   refine OW.rv (RV.len rfl rfl) rfl ?_
   refine OW.want rfl ?_
   refine OW.rv (RV.neq rfl rfl) rfl ?_
   refine OW.slot (.bool (!decide (a0.topics.length = a1.topics.length))) (congrArg (fun b => Value.bool (!b)) (decide_eq_decide.2 (by omega))) ?_
   refine OW.rv (RV.pick_f rfl rfl rfl) rfl ?_
   refine OW.nil ?_
   exact QW.join ⟨(!decide (a0.topics.length = a1.topics.length)), (Option.some.inj hq28).symm, rfl, rfl⟩ ⟨rfl, rfl, rfl, trivial⟩ (fun w m => m.pick [0, 1] 2 rfl rfl)
  ·replace hq28 := if_f hq28 h70
   refine OW.slot (.bool true) (congrArg Value.bool (congrArg (fun b => !b) (decide_eq_false h70))) ?_
   refine OW.skip rfl rfl rfl ?_
   refine OW.skip rfl rfl rfl ?_
   refine OW.skip rfl rfl rfl ?_
   refine OW.skip rfl rfl rfl ?_
   refine OW.skip rfl rfl rfl ?_
   refine OW.skip rfl rfl rfl ?_
   refine OW.skip rfl rfl rfl ?_
   refine OW.rv (RV.pick_t rfl rfl rfl) rfl ?_
   refine OW.nil ?_
   exact QW.join ⟨true, (Option.some.inj hq28).symm, rfl, rfl⟩ ⟨rfl, rfl, rfl, trivial⟩ (fun w m => m.pick [0, 1] 2 rfl rfl)
theorem waybilllaw17_sameLogs_does (w0 : World) (Φ : Ctx) (N : List Ent) (hΦ : ∀ w, Mem w0 w N → Φ w) (A0_ : Option Addr) (c0_ : Nat) (cs0_ : List Value) (a0 : List (Log)) (A1_ : Option Addr) (c1_ : Nat) (cs1_ : List Value) (a1 : List (Log)) (res0 : Bool) (va0 : View Φ A0_ a0.length c0_ 22 cs0_) (ha0 : Reps (LogRd Φ) cs0_ a0) (va1 : View Φ A1_ a1.length c1_ 22 cs1_) (ha1 : Reps (LogRd Φ) cs1_ a1) (hf : waybilllaw17_sameLogs a0 a1 = some res0) : DoesG Tryd.prog 45 [.slice A0_ a0.length c0_, .slice A1_ a1.length c1_] w0 [] N (fun v G => v = .bool res0) := by
 unfold waybilllaw17_sameLogs at hf
 replace va0 := va0.mono (Ψ := More w0 Φ []) (fun w q => q.1)
 replace va1 := va1.mono (Ψ := More w0 Φ []) (fun w q => q.1)
 replace ha0 := ha0.mono (LogRd.mono (Ψ := More w0 Φ []) (fun w q => q.1))
 replace ha1 := ha1.mono (LogRd.mono (Ψ := More w0 Φ []) (fun w q => q.1))
 have m1 := va0.mx
 have m2 := va1.mx
 refine DoesG.enter Tryd.func45 rfl Tryd.ntmps45 rfl (M := (([] ++ N))) rfl ?_
 refine CW.seq (CW.region ?_)
 refine OW.rv (RV.assign rfl) rfl ?_
 refine OW.nil (QW.then_n (CW.seq (CW.seq (CW.region ?_))))
 refine OW.rv (RV.move rfl) rfl ?_
 refine OW.rv (RV.len rfl rfl) rfl ?_
 refine OW.rv (RV.move rfl) rfl ?_
 refine OW.rv (RV.len rfl rfl) rfl ?_
 refine OW.rv (RV.neq rfl rfl) rfl ?_
 refine OW.slot (.bool (!decide (a0.length = a1.length))) (congrArg (fun b => Value.bool (!b)) (decide_eq_decide.2 (by omega))) ?_
 refine OW.nil (QW.then_n ?_)
 by_cases h3 : a0.length = a1.length
 ·replace hf := if_t hf h3
  refine CW.is_f rfl (congrArg (fun b => !b) (decide_eq_true h3)) ?_
  refine CW.skip (QW.then_n (CW.seq (CW.seq (CW.region ?_))))
  refine OW.rv (RV.assign rfl) rfl ?_
  refine OW.nil (QW.then_n ?_)
  obtain ⟨q4, hq5, hf⟩ := some_bind hf
  refine CW.cutJ (fun L' M' => q4 = Lp.go () ∧ L' = [] ∧ M' = (([] ++ N))) ?_ ?_
  ·rintro L7 M8 ⟨e6, e9, e10⟩
   rw [e9, e10]
   clear e9 e10 L7 M8
   clear hq5
   rw [e6] at hf
   clear e6
   try dsimp only at hf
   refine QW.then_n (CW.seq (CW.region ?_))
   refine OW.rv (RV.assign rfl) rfl ?_
   refine OW.nil (QW.then_n (CW.ret ?_))
   have e0 := Option.some.inj hf
   subst e0
   refine QW.retG (rs := [.tmp 4]) ([.bool true]) ([]) rfl ?_ rfl ?_ ?_ _ (.inl rfl)
   ·exact ⟨rfl, trivial⟩
   ·exact rfl
   ·exact (fun w m => m)
  ·skip
   refine CW.block ?_
   refine CW.loopJ (fun k L' M' => ∃ n11 : Nat, (waybilllaw17_sameLogs.l1 a0 a1 k n11) = some q4 ∧ (n11 ≤ 9223372036854775807) ∧ L' = [(0, .slice A0_ a0.length c0_), (1, .slice A1_ a1.length c1_), (5, .int .i64 ((n11 : Nat) : Int))] ∧ M' = (([] ++ N))) (k0 := (a0.length - 0 + 2)) ⟨0, hq5, (by omega), rfl, rfl⟩ ⟨rfl, rfl, rfl, trivial⟩ (fun w m => m.pick [] 0 rfl rfl) ?_
   clear hq5
   rintro k13 L16 M17 ⟨n11, hl14, b12, e18, e19⟩
   rw [e18, e19]
   clear e18 e19 L16 M17
   rcases k13 with _ | k13
   ·rw [waybilllaw17_sameLogs.l1] at hl14; cases hl14
   rw [waybilllaw17_sameLogs.l1] at hl14
   refine CW.seq (CW.seq (CW.region ?_))
   refine OW.rv (RV.move rfl) rfl ?_
   refine OW.rv (RV.move rfl) rfl ?_
   refine OW.rv (RV.len rfl rfl) rfl ?_
   refine OW.rv (RV.lss rfl rfl) rfl ?_
   refine OW.slot (.bool (decide (n11 < a0.length))) (congrArg Value.bool (decide_eq_decide.2 (by omega))) ?_
   refine OW.nil (QW.then_n ?_)
   by_cases h20 : n11 < a0.length
   ·replace hl14 := if_t hl14 h20
    refine CW.is_t rfl (decide_eq_true h20) ?_
    refine CW.skip (QW.then_n (CW.seq (CW.block (CW.seq ?_))))
    refine CW.drawsU 10 mixed (by kernel_rfl) rfl ?_
    refine UW.rv 0 rfl (by kernel_rfl) rfl (RV.move rfl) rfl ?_
    refine UW.rv 1 rfl (by kernel_rfl) rfl (RV.move rfl) rfl ?_
    obtain ⟨x21, hx22, hl14⟩ := some_bind hl14
    have hl23 := lt_of_at hx22
    refine UW.rv 2 rfl (by kernel_rfl) rfl (RV.idx_rs (n11) rfl rfl rfl rfl rfl (va0.isSome (by decide) hl23) (by omega)) rfl ?_
    obtain ⟨cs24, h25, h26⟩ := ha0.get LogRd.len hx22
    have h36 := h25
    obtain ⟨A27, c28, cs30, A32, c33, e35, v29, h31, v34⟩ := LogRd.opn h25
    subst e35
    have m37 := v29.mx
    have m38 := v34.mx
    refine UW.rv 3 rfl (by kernel_rfl) rfl (RV.loadAs rfl rfl rfl rfl (fun w m => va0.load (More.of hΦ 0 m rfl) h26) (LogC.C_length _)) rfl ?_
    refine UW.rv 4 rfl (by kernel_rfl) rfl (RV.move rfl) rfl ?_
    refine UW.rv 5 rfl (by kernel_rfl) rfl (RV.move rfl) rfl ?_
    obtain ⟨x39, hx40, hl14⟩ := some_bind hl14
    have hl41 := lt_of_at hx40
    refine UW.rv 6 rfl (by kernel_rfl) rfl (RV.idx_rs (n11) rfl rfl rfl rfl rfl (va1.isSome (by decide) hl41) (by omega)) rfl ?_
    obtain ⟨cs42, h43, h44⟩ := ha1.get LogRd.len hx40
    have h54 := h43
    obtain ⟨A45, c46, cs48, A50, c51, e53, v47, h49, v52⟩ := LogRd.opn h43
    subst e53
    have m55 := v47.mx
    have m56 := v52.mx
    refine UW.rv 7 rfl (by kernel_rfl) rfl (RV.loadAs rfl rfl rfl rfl (fun w m => va1.load (More.of hΦ 0 m rfl) h44) (LogC.C_length _)) rfl ?_
    obtain ⟨x58, hx57, hl14⟩ := some_bind hl14
    refine UW.callG 8 rfl (by kernel_rfl) rfl Tryd.call76 rfl (fun N' hN' => waybilllaw17_sameLog_does w0 (More w0 Φ []) N' (fun w m => More.of hΦ 0 (hN' w m) rfl) (⟨x21.address, .slice A27 x21.topics.length c28, .slice A32 x21.data.length c33⟩ : LogC).C x21 (⟨x39.address, .slice A45 x39.topics.length c46, .slice A50 x39.data.length c51⟩ : LogC).C x39 x58 h36 h54 hx57) rfl ?_
    rintro _ G59 rfl
    refine UW.mem (M' := (([] ++ N))) (fun w m => m.appR) ?_
    refine UW.rv 9 rfl (by kernel_rfl) rfl (RV.assign rfl) rfl ?_
    refine UW.nil (by kernel_rfl) ?_
    refine OW.nil (QW.then_n (CW.seq (CW.region ?_)))
    refine OW.rv (RV.move rfl) rfl ?_
    refine OW.rv (RV.not rfl) rfl ?_
    refine OW.nil (QW.then_n ?_)
    by_cases h61 : x58 = true
    ·replace hl14 := if_t hl14 h61
     refine CW.is_f rfl (congrArg (fun b => !b) (h61)) ?_
     refine CW.skip (QW.block_n (QW.then_n (CW.region ?_)))
     refine OW.rv (RV.move rfl) rfl ?_
     refine OW.rv (RV.add rfl rfl (by omega)) rfl ?_
     refine OW.slot (.int .i64 (((n11 + 1) : Nat) : Int)) (by first | rfl | (congr 1) | (congr 1; omega)) ?_
     refine OW.rv (RV.assign rfl) rfl ?_
     refine OW.nil ?_
     exact QW.againJ (k' := k13) (Nat.lt_succ_self _) ⟨(n11 + 1), hl14, (by omega), rfl, rfl⟩ ⟨rfl, rfl, rfl, trivial⟩ (fun w m => m.pick [] 0 rfl rfl)
    ·replace hl14 := if_f hl14 h61
     refine CW.is_t rfl (congrArg (fun b => !b) (Bool.eq_false_iff.2 h61)) ?_
     refine CW.seq (CW.region ?_)
     refine OW.rv (RV.assign rfl) rfl ?_
     refine OW.nil (QW.then_n (CW.ret (QW.block_r (QW.then_r (QW.then_r (QW.block_r (QW.then_r ?_)))))))
     have hc := Option.some.inj hl14
     subst hc
     try dsimp only at hf
     refine QW.then_r ?_
     have e0 := Option.some.inj hf
     subst e0
     refine QW.retG (rs := [.tmp 4]) ([.bool false]) ([]) rfl ?_ rfl ?_ ?_ _ (.inl rfl)
     ·exact ⟨rfl, trivial⟩
     ·exact rfl
     ·exact (fun w m => m)
   ·replace hl14 := if_f hl14 h20
    refine CW.is_f rfl (decide_eq_false h20) ?_
    refine CW.exit (QW.then_x (QW.then_x (QW.block_xe ?_)))
    exact QW.join ⟨(Option.some.inj hl14).symm, rfl, rfl⟩ trivial (fun w m => m.pick [] 0 rfl rfl)
 ·replace hf := if_f hf h3
  refine CW.is_t rfl (congrArg (fun b => !b) (decide_eq_false h3)) ?_
  refine CW.seq (CW.region ?_)
  refine OW.rv (RV.assign rfl) rfl ?_
  refine OW.nil (QW.then_n (CW.ret (QW.then_r ?_)))
  have e0 := Option.some.inj hf
  subst e0
  refine QW.retG (rs := [.tmp 4]) ([.bool false]) ([]) rfl ?_ rfl ?_ ?_ _ (.inl rfl)
  ·exact ⟨rfl, trivial⟩
  ·exact rfl
  ·exact (fun w m => m)
theorem waybilllaw17_sameReceipt_does (w0 : World) (Φ : Ctx) (N : List Ent) (hΦ : ∀ w, Mem w0 w N → Φ w) (cs0_ : List Value) (a0 : Rcpt) (cs1_ : List Value) (a1 : Rcpt) (res0 : Bool) (ha0 : RcptRd Φ cs0_ a0) (ha1 : RcptRd Φ cs1_ a1) (hf : waybilllaw17_sameReceipt a0 a1 = some res0) : DoesG Tryd.prog 16 [.agg cs0_.toArray, .agg cs1_.toArray] w0 [] N (fun v G => v = .bool res0) := by
 unfold waybilllaw17_sameReceipt at hf
 replace ha0 := RcptRd.mono (Ψ := More w0 Φ []) (fun w q => q.1) _ _ ha0
 have h8 := ha0
 obtain ⟨A2, c3, cs5, e7, b1, v4, h6⟩ := RcptRd.opn ha0
 subst e7
 have m9 := v4.mx
 replace ha1 := RcptRd.mono (Ψ := More w0 Φ []) (fun w q => q.1) _ _ ha1
 have h17 := ha1
 obtain ⟨A11, c12, cs14, e16, b10, v13, h15⟩ := RcptRd.opn ha1
 subst e16
 have m18 := v13.mx
 refine DoesG.enter Tryd.func16 rfl Tryd.ntmps16 rfl (M := (([] ++ N))) rfl ?_
 refine CW.seq (CW.region ?_)
 refine OW.boxA rfl rfl (fun b19 => ?_)
 refine OW.boxA rfl rfl (fun b20 => ?_)
 refine OW.rv (RV.assign rfl) rfl ?_
 refine OW.nil (QW.then_n (CW.seq (CW.seq ?_)))
 obtain ⟨q21, hq22, hf⟩ := some_bind hf
 refine CW.cutJ (fun L' M' => ∃ p23 : Bool, q21 = p23 ∧ L' = [(2, ptr (some b19) 0), (3, ptr (some b20) 0), (37, .bool (p23))] ∧ M' = ((some b20, blk (⟨a1.kind, (a1.rooted), a1.root, a1.status, a1.used, a1.bloom, .slice A11 a1.logs.length c12⟩ : RcptC).C 30) :: (some b19, blk (⟨a0.kind, (a0.rooted), a0.root, a0.status, a0.used, a0.bloom, .slice A2 a0.logs.length c3⟩ : RcptC).C 30) :: ([] ++ N))) ?_ ?_
 ·rintro L25 M26 ⟨p23, e24, e27, e28⟩
  rw [e27, e28]
  clear e27 e28 L25 M26
  clear hq22
  rw [e24] at hf
  clear e24
  try dsimp only at hf
  refine QW.then_n ?_
  by_cases h29 : p23 = true
  ·replace hf := if_t hf h29
   refine CW.is_t rfl (h29) ?_
   refine CW.seq (CW.region ?_)
   refine OW.rv (RV.assign rfl) rfl ?_
   refine OW.nil (QW.then_n (CW.ret (QW.then_r ?_)))
   have e0 := Option.some.inj hf
   subst e0
   refine QW.retG (rs := [.tmp 4]) ([.bool false]) ((some b20, blk (⟨a1.kind, (a1.rooted), a1.root, a1.status, a1.used, a1.bloom, .slice A11 a1.logs.length c12⟩ : RcptC).C 30) :: (some b19, blk (⟨a0.kind, (a0.rooted), a0.root, a0.status, a0.used, a0.bloom, .slice A2 a0.logs.length c3⟩ : RcptC).C 30) :: []) rfl ?_ rfl ?_ ?_ _ (.inl rfl)
   ·exact ⟨rfl, trivial⟩
   ·exact rfl
   ·exact (fun w m => m)
  ·replace hf := if_f hf h29
   refine CW.is_f rfl (Bool.eq_false_iff.2 h29) ?_
   refine CW.skip (QW.then_n (CW.seq ?_))
   obtain ⟨q30, hq31, hf⟩ := some_bind hf
   refine CW.cutJ (fun L' M' => ∃ p32 : Bool, q30 = p32 ∧ L' = [(4, .bool (p32))] ∧ M' = (([] ++ N))) ?_ ?_
   ·rintro L34 M35 ⟨p32, e33, e36, e37⟩
    rw [e36, e37]
    clear e36 e37 L34 M35
    clear hq31
    rw [e33] at hf
    clear e33
    try dsimp only at hf
    refine QW.then_n (CW.ret ?_)
    have e0 := Option.some.inj hf
    subst e0
    refine QW.retG (rs := [.tmp 4]) ([.bool (p32)]) ([]) rfl ?_ rfl ?_ ?_ _ (.inl rfl)
    ·exact ⟨rfl, trivial⟩
    ·exact rfl
    ·exact (fun w m => m)
   ·skip
    refine CW.region ?_
    refine OW.rv (RV.field rfl rfl rfl rfl) rfl ?_
    refine OW.slot (ptr (some b19) 36) rfl ?_
    refine OW.rv (RV.loadAo rfl (List.Mem.tail _ (List.Mem.head _)) rfl rfl rfl rfl (RcptC.C_bloom_all (⟨a0.kind, (a0.rooted), a0.root, a0.status, a0.used, a0.bloom, .slice A2 a0.logs.length c3⟩ : RcptC)) ((u8s_length _).trans Vector.length_toList)) rfl ?_
    refine OW.rv (RV.field rfl rfl rfl rfl) rfl ?_
    refine OW.slot (ptr (some b20) 36) rfl ?_
    refine OW.rv (RV.loadAo rfl (List.Mem.head _) rfl rfl rfl rfl (RcptC.C_bloom_all (⟨a1.kind, (a1.rooted), a1.root, a1.status, a1.used, a1.bloom, .slice A11 a1.logs.length c12⟩ : RcptC)) ((u8s_length _).trans Vector.length_toList)) rfl ?_
    refine OW.rv (RV.eqA8 rfl rfl rfl rfl rfl rfl (Vector.length_toList) (Vector.length_toList)) rfl ?_
    refine OW.slot (.bool (decide (a0.bloom = a1.bloom))) (congrArg Value.bool (decide_eq_decide.2 Vector.toList_inj)) ?_
    refine OW.rv (RV.move rfl) rfl ?_
    by_cases h38 : a0.bloom = a1.bloom
    ·replace hq31 := if_t hq31 h38
     refine OW.slot (.bool true) (congrArg Value.bool (decide_eq_true h38)) ?_
     refine OW.want rfl ?_
     refine OW.rv (RV.field rfl rfl rfl rfl) rfl ?_
     refine OW.slot (ptr (some b19) 292) rfl ?_
     refine OW.want rfl ?_
     refine OW.rv (RV.load rfl (List.Mem.tail _ (List.Mem.head _)) rfl rfl rfl (RcptC.C_logs (⟨a0.kind, (a0.rooted), a0.root, a0.status, a0.used, a0.bloom, .slice A2 a0.logs.length c3⟩ : RcptC))) rfl ?_
     refine OW.want rfl ?_
     refine OW.rv (RV.field rfl rfl rfl rfl) rfl ?_
     refine OW.slot (ptr (some b20) 292) rfl ?_
     refine OW.want rfl ?_
     refine OW.rv (RV.load rfl (List.Mem.head _) rfl rfl rfl (RcptC.C_logs (⟨a1.kind, (a1.rooted), a1.root, a1.status, a1.used, a1.bloom, .slice A11 a1.logs.length c12⟩ : RcptC))) rfl ?_
     refine OW.want rfl ?_
     obtain ⟨x40, hx39, hq31⟩ := some_bind hq31
     refine OW.callG Tryd.call45 rfl (waybilllaw17_sameLogs_does w0 (More w0 Φ []) ((some b20, blk (⟨a1.kind, (a1.rooted), a1.root, a1.status, a1.used, a1.bloom, .slice A11 a1.logs.length c12⟩ : RcptC).C 30) :: (some b19, blk (⟨a0.kind, (a0.rooted), a0.root, a0.status, a0.used, a0.bloom, .slice A2 a0.logs.length c3⟩ : RcptC).C 30) :: ([] ++ N)) (fun w m => More.of hΦ 2 m rfl) A2 c3 cs5 a0.logs A11 c12 cs14 a1.logs x40 v4 h6 v13 h15 hx39) rfl rfl ?_
     rintro _ G41 rfl
     refine OW.mem (M' := ((some b20, blk (⟨a1.kind, (a1.rooted), a1.root, a1.status, a1.used, a1.bloom, .slice A11 a1.logs.length c12⟩ : RcptC).C 30) :: (some b19, blk (⟨a0.kind, (a0.rooted), a0.root, a0.status, a0.used, a0.bloom, .slice A2 a0.logs.length c3⟩ : RcptC).C 30) :: ([] ++ N))) (fun w m => m.appR) ?_
     refine OW.rv (RV.pick_t rfl rfl rfl) rfl ?_
     refine OW.rv (RV.assign rfl) rfl ?_
     refine OW.nil ?_
     exact QW.join ⟨(x40), (Option.some.inj hq31).symm, rfl, rfl⟩ ⟨rfl, trivial⟩ (fun w m => m.pick [] 2 rfl rfl)
    ·replace hq31 := if_f hq31 h38
     refine OW.slot (.bool false) (congrArg Value.bool (decide_eq_false h38)) ?_
     refine OW.skip rfl rfl rfl ?_
     refine OW.skip rfl rfl rfl ?_
     refine OW.skip rfl rfl rfl ?_
     refine OW.skip rfl rfl rfl ?_
     refine OW.skip rfl rfl rfl ?_
     refine OW.rv (RV.pick_f rfl rfl rfl) rfl ?_
     refine OW.rv (RV.assign rfl) rfl ?_
     refine OW.nil ?_
     exact QW.join ⟨false, (Option.some.inj hq31).symm, rfl, rfl⟩ ⟨rfl, trivial⟩ (fun w m => m.pick [] 2 rfl rfl)
 ·skip
  refine CW.region ?_
  refine OW.rv (RV.field rfl rfl rfl rfl) rfl ?_
  refine OW.slot (ptr (some b19) 0) rfl ?_
  refine OW.rv (RV.load rfl (List.Mem.tail _ (List.Mem.head _)) rfl rfl rfl (RcptC.C_kind (⟨a0.kind, (a0.rooted), a0.root, a0.status, a0.used, a0.bloom, .slice A2 a0.logs.length c3⟩ : RcptC))) rfl ?_
  refine OW.rv (RV.field rfl rfl rfl rfl) rfl ?_
  refine OW.slot (ptr (some b20) 0) rfl ?_
  refine OW.rv (RV.load rfl (List.Mem.head _) rfl rfl rfl (RcptC.C_kind (⟨a1.kind, (a1.rooted), a1.root, a1.status, a1.used, a1.bloom, .slice A11 a1.logs.length c12⟩ : RcptC))) rfl ?_
  refine OW.rv (RV.neq rfl rfl) rfl ?_
  refine OW.rv (RV.move rfl) rfl ?_
  by_cases h43 : a0.kind = a1.kind
  ·replace hq22 := if_t hq22 h43
   refine OW.slot (.bool false) (congrArg Value.bool (congrArg (fun b => !b) (decide_eq_true h43))) ?_
   refine OW.want rfl ?_
   refine OW.rv (RV.field rfl rfl rfl rfl) rfl ?_
   refine OW.slot (ptr (some b19) 1) rfl ?_
   refine OW.want rfl ?_
   refine OW.rv (RV.load rfl (List.Mem.tail _ (List.Mem.head _)) rfl rfl rfl (RcptC.C_rooted (⟨a0.kind, (a0.rooted), a0.root, a0.status, a0.used, a0.bloom, .slice A2 a0.logs.length c3⟩ : RcptC))) rfl ?_
   refine OW.want rfl ?_
   refine OW.rv (RV.field rfl rfl rfl rfl) rfl ?_
   refine OW.slot (ptr (some b20) 1) rfl ?_
   refine OW.want rfl ?_
   refine OW.rv (RV.load rfl (List.Mem.head _) rfl rfl rfl (RcptC.C_rooted (⟨a1.kind, (a1.rooted), a1.root, a1.status, a1.used, a1.bloom, .slice A11 a1.logs.length c12⟩ : RcptC))) rfl ?_
   refine OW.want rfl ?_
   refine OW.rv (RV.neqB rfl rfl rfl) rfl ?_
   refine OW.slot (.bool (!decide ((a0.rooted) = (a1.rooted)))) (by first | rfl | (congr 1) | simp) ?_
   refine OW.rv (RV.pick_f rfl rfl rfl) rfl ?_
   refine OW.rv (RV.move rfl) rfl ?_
   by_cases h44 : (a0.rooted) = (a1.rooted)
   ·replace hq22 := if_t hq22 h44
    refine OW.slot (.bool false) (congrArg Value.bool (congrArg (fun b => !b) (decide_eq_true h44))) ?_
    refine OW.want rfl ?_
    refine OW.rv (RV.field rfl rfl rfl rfl) rfl ?_
    refine OW.slot (ptr (some b19) 2) rfl ?_
    refine OW.want rfl ?_
    refine OW.rv (RV.loadAo rfl (List.Mem.tail _ (List.Mem.head _)) rfl rfl rfl rfl (RcptC.C_root_all (⟨a0.kind, (a0.rooted), a0.root, a0.status, a0.used, a0.bloom, .slice A2 a0.logs.length c3⟩ : RcptC)) ((u8s_length _).trans Vector.length_toList)) rfl ?_
    refine OW.want rfl ?_
    refine OW.rv (RV.field rfl rfl rfl rfl) rfl ?_
    refine OW.slot (ptr (some b20) 2) rfl ?_
    refine OW.want rfl ?_
    refine OW.rv (RV.loadAo rfl (List.Mem.head _) rfl rfl rfl rfl (RcptC.C_root_all (⟨a1.kind, (a1.rooted), a1.root, a1.status, a1.used, a1.bloom, .slice A11 a1.logs.length c12⟩ : RcptC)) ((u8s_length _).trans Vector.length_toList)) rfl ?_
    refine OW.want rfl ?_
    refine OW.rv (RV.neA8 rfl rfl rfl rfl rfl rfl (Vector.length_toList) (Vector.length_toList)) rfl ?_
    refine OW.slot (.bool (!decide (a0.root = a1.root))) (congrArg (fun b => Value.bool (!b)) (decide_eq_decide.2 Vector.toList_inj)) ?_
    refine OW.rv (RV.pick_f rfl rfl rfl) rfl ?_
    refine OW.rv (RV.move rfl) rfl ?_
    by_cases h45 : a0.root = a1.root
    ·replace hq22 := if_t hq22 h45
     refine OW.slot (.bool false) (congrArg Value.bool (congrArg (fun b => !b) (decide_eq_true h45))) ?_
     refine OW.want rfl ?_
     refine OW.rv (RV.field rfl rfl rfl rfl) rfl ?_
     refine OW.slot (ptr (some b19) 34) rfl ?_
     refine OW.want rfl ?_
     refine OW.rv (RV.load rfl (List.Mem.tail _ (List.Mem.head _)) rfl rfl rfl (RcptC.C_status (⟨a0.kind, (a0.rooted), a0.root, a0.status, a0.used, a0.bloom, .slice A2 a0.logs.length c3⟩ : RcptC))) rfl ?_
     refine OW.want rfl ?_
     refine OW.rv (RV.field rfl rfl rfl rfl) rfl ?_
     refine OW.slot (ptr (some b20) 34) rfl ?_
     refine OW.want rfl ?_
     refine OW.rv (RV.load rfl (List.Mem.head _) rfl rfl rfl (RcptC.C_status (⟨a1.kind, (a1.rooted), a1.root, a1.status, a1.used, a1.bloom, .slice A11 a1.logs.length c12⟩ : RcptC))) rfl ?_
     refine OW.want rfl ?_
     refine OW.rv (RV.neq64 rfl (by first | rfl | exact lit64 _ rfl) rfl (by first | rfl | exact lit64 _ rfl)) rfl ?_
     refine OW.rv (RV.pick_f rfl rfl rfl) rfl ?_
     refine OW.rv (RV.move rfl) rfl ?_
     by_cases h46 : a0.status = a1.status
     ·replace hq22 := if_t hq22 h46
      refine OW.slot (.bool false) (congrArg Value.bool (congrArg (fun b => !b) (decide_eq_true h46))) ?_
      refine OW.want rfl ?_
      refine OW.rv (RV.field rfl rfl rfl rfl) rfl ?_
      refine OW.slot (ptr (some b19) 35) rfl ?_
      refine OW.want rfl ?_
      refine OW.rv (RV.load rfl (List.Mem.tail _ (List.Mem.head _)) rfl rfl rfl (RcptC.C_used (⟨a0.kind, (a0.rooted), a0.root, a0.status, a0.used, a0.bloom, .slice A2 a0.logs.length c3⟩ : RcptC))) rfl ?_
      refine OW.want rfl ?_
      refine OW.rv (RV.field rfl rfl rfl rfl) rfl ?_
      refine OW.slot (ptr (some b20) 35) rfl ?_
      refine OW.want rfl ?_
      refine OW.rv (RV.load rfl (List.Mem.head _) rfl rfl rfl (RcptC.C_used (⟨a1.kind, (a1.rooted), a1.root, a1.status, a1.used, a1.bloom, .slice A11 a1.logs.length c12⟩ : RcptC))) rfl ?_
      refine OW.want rfl ?_
      refine OW.rv (RV.neq64 rfl (by first | rfl | exact lit64 _ rfl) rfl (by first | rfl | exact lit64 _ rfl)) rfl ?_
      refine OW.rv (RV.pick_f rfl rfl rfl) rfl ?_
      refine OW.nil ?_
      exact QW.join ⟨(!decide (a0.used = a1.used)), (Option.some.inj hq22).symm, rfl, rfl⟩ ⟨rfl, rfl, rfl, trivial⟩ (fun w m => m.pick [0, 1] 2 rfl rfl)
     ·replace hq22 := if_f hq22 h46
      refine OW.slot (.bool true) (congrArg Value.bool (congrArg (fun b => !b) (decide_eq_false h46))) ?_
      refine OW.skip rfl rfl rfl ?_
      refine OW.skip rfl rfl rfl ?_
      refine OW.skip rfl rfl rfl ?_
      refine OW.skip rfl rfl rfl ?_
      refine OW.skip rfl rfl rfl ?_
      refine OW.rv (RV.pick_t rfl rfl rfl) rfl ?_
      refine OW.nil ?_
      exact QW.join ⟨true, (Option.some.inj hq22).symm, rfl, rfl⟩ ⟨rfl, rfl, rfl, trivial⟩ (fun w m => m.pick [0, 1] 2 rfl rfl)
    ·replace hq22 := if_f hq22 h45
     refine OW.slot (.bool true) (congrArg Value.bool (congrArg (fun b => !b) (decide_eq_false h45))) ?_
     refine OW.skip rfl rfl rfl ?_
     refine OW.skip rfl rfl rfl ?_
     refine OW.skip rfl rfl rfl ?_
     refine OW.skip rfl rfl rfl ?_
     refine OW.skip rfl rfl rfl ?_
     refine OW.rv (RV.pick_t rfl rfl rfl) rfl ?_
     refine OW.rv (RV.move rfl) rfl ?_
     refine OW.skip rfl rfl rfl ?_
     refine OW.skip rfl rfl rfl ?_
     refine OW.skip rfl rfl rfl ?_
     refine OW.skip rfl rfl rfl ?_
     refine OW.skip rfl rfl rfl ?_
     refine OW.rv (RV.pick_t rfl rfl rfl) rfl ?_
     refine OW.nil ?_
     exact QW.join ⟨true, (Option.some.inj hq22).symm, rfl, rfl⟩ ⟨rfl, rfl, rfl, trivial⟩ (fun w m => m.pick [0, 1] 2 rfl rfl)
   ·replace hq22 := if_f hq22 h44
    refine OW.slot (.bool true) (congrArg Value.bool (congrArg (fun b => !b) (decide_eq_false h44))) ?_
    refine OW.skip rfl rfl rfl ?_
    refine OW.skip rfl rfl rfl ?_
    refine OW.skip rfl rfl rfl ?_
    refine OW.skip rfl rfl rfl ?_
    refine OW.skip rfl rfl rfl ?_
    refine OW.rv (RV.pick_t rfl rfl rfl) rfl ?_
    refine OW.rv (RV.move rfl) rfl ?_
    refine OW.skip rfl rfl rfl ?_
    refine OW.skip rfl rfl rfl ?_
    refine OW.skip rfl rfl rfl ?_
    refine OW.skip rfl rfl rfl ?_
    refine OW.skip rfl rfl rfl ?_
    refine OW.rv (RV.pick_t rfl rfl rfl) rfl ?_
    refine OW.rv (RV.move rfl) rfl ?_
    refine OW.skip rfl rfl rfl ?_
    refine OW.skip rfl rfl rfl ?_
    refine OW.skip rfl rfl rfl ?_
    refine OW.skip rfl rfl rfl ?_
    refine OW.skip rfl rfl rfl ?_
    refine OW.rv (RV.pick_t rfl rfl rfl) rfl ?_
    refine OW.nil ?_
    exact QW.join ⟨true, (Option.some.inj hq22).symm, rfl, rfl⟩ ⟨rfl, rfl, rfl, trivial⟩ (fun w m => m.pick [0, 1] 2 rfl rfl)
  ·replace hq22 := if_f hq22 h43
   refine OW.slot (.bool true) (congrArg Value.bool (congrArg (fun b => !b) (decide_eq_false h43))) ?_
   refine OW.skip rfl rfl rfl ?_
   refine OW.skip rfl rfl rfl ?_
   refine OW.skip rfl rfl rfl ?_
   refine OW.skip rfl rfl rfl ?_
   refine OW.skip rfl rfl rfl ?_
   refine OW.rv (RV.pick_t rfl rfl rfl) rfl ?_
   refine OW.rv (RV.move rfl) rfl ?_
   refine OW.skip rfl rfl rfl ?_
   refine OW.skip rfl rfl rfl ?_
   refine OW.skip rfl rfl rfl ?_
   refine OW.skip rfl rfl rfl ?_
   refine OW.skip rfl rfl rfl ?_
   refine OW.rv (RV.pick_t rfl rfl rfl) rfl ?_
   refine OW.rv (RV.move rfl) rfl ?_
   refine OW.skip rfl rfl rfl ?_
   refine OW.skip rfl rfl rfl ?_
   refine OW.skip rfl rfl rfl ?_
   refine OW.skip rfl rfl rfl ?_
   refine OW.skip rfl rfl rfl ?_
   refine OW.rv (RV.pick_t rfl rfl rfl) rfl ?_
   refine OW.rv (RV.move rfl) rfl ?_
   refine OW.skip rfl rfl rfl ?_
   refine OW.skip rfl rfl rfl ?_
   refine OW.skip rfl rfl rfl ?_
   refine OW.skip rfl rfl rfl ?_
   refine OW.skip rfl rfl rfl ?_
   refine OW.rv (RV.pick_t rfl rfl rfl) rfl ?_
   refine OW.nil ?_
   exact QW.join ⟨true, (Option.some.inj hq22).symm, rfl, rfl⟩ ⟨rfl, rfl, rfl, trivial⟩ (fun w m => m.pick [0, 1] 2 rfl rfl)
theorem waybill_receipt_reader_refuse_does (w0 : World) (Φ : Ctx) (N : List Ent) (hΦ : ∀ w, Mem w0 w N → Φ w) (b0_ : Nat) (a0 : Rdr) (a1 : Int) (new0 : Rdr) (ba1 : -9223372036854775808 ≤ a1 ∧ a1 ≤ 9223372036854775807) (hf : waybill_receipt_reader_refuse a0 a1 = some new0) : DoesG Tryd.prog 95 [ptr (some b0_) 0, .int .i64 a1] w0 [(some b0_, blk a0.C 109)] N (fun v G => ∃ B : List Ent, v = .tuple #[] ∧ G = (some b0_, blk new0.C 109) :: B) := by
 unfold waybill_receipt_reader_refuse at hf
 refine DoesG.enter Tryd.func95 rfl Tryd.ntmps95 rfl (M := ((some b0_, blk a0.C 109) :: ([] ++ N))) rfl ?_
 refine CW.seq (CW.region ?_)
 refine OW.rv (RV.move rfl) rfl ?_
 refine OW.rv (RV.nilCheck rfl) rfl ?_
 refine OW.rv (RV.field rfl rfl rfl rfl) rfl ?_
 refine OW.slot (ptr (some b0_) 0) rfl ?_
 refine OW.rv (RV.load rfl (List.Mem.head _) rfl rfl rfl (Rdr.C_err _)) rfl ?_
 refine OW.rv (RV.eql rfl rfl) rfl ?_
 refine OW.nil (QW.then_n ?_)
 obtain ⟨q1, hq2, hf⟩ := some_bind hf
 refine CW.cutJ (fun L' M' => ∃ w3 : Rdr, q1 = w3 ∧ L' = [] ∧ M' = ((some b0_, blk w3.C 109) :: ([] ++ N))) ?_ ?_
 ·rintro L5 M6 ⟨w3, e4, e7, e8⟩
  rw [e7, e8]
  clear e7 e8 L5 M6
  clear hq2
  rw [e4] at hf
  clear e4
  try dsimp only at hf
  have e0 := Option.some.inj hf
  subst e0
  refine QW.retG (rs := []) ([]) ((some b0_, blk w3.C 109) :: []) rfl ?_ rfl ?_ ?_ _ (.inr rfl)
  ·exact trivial
  ·exact ⟨[], rfl, rfl⟩
  ·exact (fun w m => m.pick [0] 1 rfl rfl)
 ·skip
  by_cases h9 : a0.err = (0 : Int)
  ·replace hq2 := if_t hq2 h9
   refine CW.is_t rfl (decide_eq_true h9) ?_
   refine CW.region ?_
   refine OW.rv (RV.move rfl) rfl ?_
   refine OW.rv (RV.move rfl) rfl ?_
   refine OW.rv (RV.nilCheck rfl) rfl ?_
   refine OW.rv (RV.field rfl rfl rfl rfl) rfl ?_
   refine OW.slot (ptr (some b0_) 0) rfl ?_
   refine OW.sv (SV.store rfl rfl rfl rfl rfl (by rw [Rdr.C_length]; omega)) ?_
   refine OW.cells ({ a0 with err := a1 } : Rdr).C (Rdr.C_err_set _ _) ?_
   refine OW.nil ?_
   exact QW.join ⟨({ a0 with err := a1 } : Rdr), (Option.some.inj hq2).symm, rfl, rfl⟩ trivial (fun w m => m.pick [0] 1 rfl rfl)
  ·replace hq2 := if_f hq2 h9
   refine CW.is_f rfl (decide_eq_false h9) ?_
   refine CW.skip ?_
   exact QW.join ⟨a0, (Option.some.inj hq2).symm, rfl, rfl⟩ trivial (fun w m => m.pick [0] 1 rfl rfl)
theorem waybill_receipt_reader_list_does (w0 : World) (Φ : Ctx) (N : List Ent) (hΦ : ∀ w, Mem w0 w N → Φ w) (b0_ : Nat) (a0 : Rdr) (cs1_ : List Value) (a1 : It) (res0 : List (It)) (new0 : Rdr) (ha1 : ItRd Φ cs1_ a1) (hf : waybill_receipt_reader_list a0 a1 = some (res0, new0)) : DoesG Tryd.prog 97 [ptr (some b0_) 0, .agg cs1_.toArray] w0 [(some b0_, blk a0.C 109)] N (fun v G => ∃ B : List Ent, ∃ cr0 : List Value, ∃ or0 : Option Nat, ∃ kr0 : Nat, ∃ rr0 : List Value, (Reps (ItRd (More w0 Φ B)) cr0 res0) ∧ (OwnS or0 res0.length kr0 3 cr0 rr0) ∧ v = sl or0 0 res0.length kr0 ∧ G = (or0, blk (cr0 ++ rr0) 89) :: (some b0_, blk new0.C 109) :: B) := by
 unfold waybill_receipt_reader_list at hf
 replace ha1 := ItRd.mono (Ψ := More w0 Φ []) (fun w q => q.1) _ _ ha1
 have h10 := ha1
 obtain ⟨A1, c2, A4, c5, cs7, e9, v3, v6, h8⟩ := ItRd.opn ha1
 subst e9
 have m11 := v3.mx
 have m12 := v6.mx
 refine DoesG.enter Tryd.func97 rfl Tryd.ntmps97 rfl (M := ((some b0_, blk a0.C 109) :: ([] ++ N))) rfl ?_
 refine CW.seq (CW.region ?_)
 refine OW.boxA rfl rfl (fun b13 => ?_)
 refine OW.rv (RV.assign rfl) rfl ?_
 refine OW.nil (QW.then_n (CW.seq (CW.seq (CW.region ?_))))
 refine OW.rv (RV.move rfl) rfl ?_
 refine OW.rv (RV.nilCheck rfl) rfl ?_
 refine OW.rv (RV.field rfl rfl rfl rfl) rfl ?_
 refine OW.slot (ptr (some b0_) 0) rfl ?_
 refine OW.rv (RV.load rfl (List.Mem.tail _ (List.Mem.head _)) rfl rfl rfl (Rdr.C_err _)) rfl ?_
 refine OW.rv (RV.neq rfl rfl) rfl ?_
 refine OW.nil (QW.then_n ?_)
 by_cases h14 : a0.err = (0 : Int)
 ·replace hf := if_t hf h14
  refine CW.is_f rfl (congrArg (fun b => !b) (decide_eq_true h14)) ?_
  refine CW.skip (QW.then_n (CW.seq (CW.region ?_)))
  refine OW.rv (RV.loadW rfl (List.Mem.head _) rfl rfl rfl rfl rfl) rfl ?_
  obtain ⟨⟨x16, x17⟩, hx15, hf⟩ := some_bind hf
  try dsimp only at hf
  refine OW.callG Tryd.call67 rfl (rlp_GetList_does w0 (More w0 Φ []) ((some b13, blk [.bool (a1.list), .slice A1 a1.data.length c2, .slice A4 a1.items.length c5] 89) :: (some b0_, blk a0.C 109) :: ([] ++ N)) (fun w m => More.of hΦ 2 m rfl) [.bool (a1.list), .slice A1 a1.data.length c2, .slice A4 a1.items.length c5] a1 x16 x17 h10 hx15) rfl rfl ?_
  rintro L26 M27 ⟨B18, cs19, ob21, c22, r23, h20, o24, b25, e28, e29⟩
  rw [e28, e29]
  clear e28 e29 L26 M27
  refine OW.mem (M' := ((ob21, blk (cs19 ++ r23) 89) :: (some b13, blk [.bool (a1.list), .slice A1 a1.data.length c2, .slice A4 a1.items.length c5] 89) :: (some b0_, blk a0.C 109) :: ((B18 ++ []) ++ N))) (fun w m => by have h := Mem.sinkAt (A := B18) m 1 2 rfl rfl; exact h) ?_
  have gq1 : ∀ w, More w0 Φ (B18 ++ []) w → More w0 Φ [] w := fun w q => More.mono (fun w m => (m).appR) q
  replace h10 := ItRd.mono gq1 _ _ h10
  replace v3 := v3.mono gq1
  replace v6 := v6.mono gq1
  replace h8 := h8.mono (ItRd.mono gq1)
  replace h20 := h20.mono (ItRd.mono (Ψ := (More w0 Φ (B18 ++ []))) (fun w q => More.flat q))
  have m30 := o24.mx
  refine OW.rv (RV.move rfl) rfl ?_
  refine OW.rv (RV.extract rfl rfl) rfl ?_
  refine OW.slot (sl ob21 0 x16.length c22) (rfl) ?_
  refine OW.rv (RV.extract rfl rfl) rfl ?_
  refine OW.slot (.int .i64 ((x17 : Nat) : Int)) (rfl) ?_
  refine OW.rv (RV.assign rfl) rfl ?_
  refine OW.rv (RV.assign rfl) rfl ?_
  refine OW.nil (QW.then_n (CW.seq (CW.seq (CW.region ?_))))
  refine OW.rv (RV.move rfl) rfl ?_
  refine OW.rv (RV.neq rfl rfl) rfl ?_
  refine OW.slot (.bool (!decide (x17 = 0))) (congrArg (fun b => Value.bool (!b)) (decide_eq_decide.2 (by omega))) ?_
  refine OW.nil (QW.then_n ?_)
  obtain ⟨q31, hq32, hf⟩ := some_bind hf
  refine CW.cutJ (fun L' M' => ∃ w35 : Rdr, ∃ B33 : List Ent, q31 = w35 ∧ (∀ w, Mem w0 w B33 → Mem w0 w (B18 ++ [])) ∧ L' = [(5, sl ob21 0 x16.length c22)] ∧ M' = ((ob21, blk (cs19 ++ r23) 89) :: (some b0_, blk w35.C 109) :: (B33 ++ N))) ?_ ?_
  ·rintro L37 M38 ⟨w35, B33, e36, hB34, e39, e40⟩
   rw [e39, e40]
   clear e39 e40 L37 M38
   clear hq32
   rw [e36] at hf
   clear e36
   try dsimp only at hf
   have gq2 : ∀ w, More w0 Φ B33 w → More w0 Φ (B18 ++ []) w := fun w q => More.mono (fun w m => hB34 w (m)) q
   replace h20 := h20.mono (ItRd.mono gq2)
   have m41 := o24.mx
   refine QW.then_n (CW.seq (CW.region ?_))
   refine OW.rv (RV.move rfl) rfl ?_
   refine OW.rv (RV.assign rfl) rfl ?_
   refine OW.nil (QW.then_n (CW.ret ?_))
   have er0 := Option.some.inj hf
   obtain ⟨e0, er1⟩ := Prod.mk.inj er0
   clear er0
   subst e0
   subst er1
   refine QW.retG (rs := [.tmp 4]) ([sl ob21 0 x16.length c22]) ((ob21, blk (cs19 ++ r23) 89) :: (some b0_, blk w35.C 109) :: B33) rfl ?_ rfl ?_ ?_ _ (.inl rfl)
   ·exact ⟨rfl, trivial⟩
   ·exact ⟨B33, cs19, ob21, c22, r23, h20, o24, rfl, rfl⟩
   ·exact (fun w m => m.pick [0, 1] 2 rfl rfl)
  ·skip
   by_cases h42 : x17 = 0
   ·replace hq32 := if_t hq32 h42
    refine CW.is_f rfl (congrArg (fun b => !b) (decide_eq_true h42)) ?_
    refine CW.skip ?_
    exact QW.join ⟨a0, (B18 ++ []), (Option.some.inj hq32).symm, (fun w m => m), rfl, rfl⟩ ⟨rfl, trivial⟩ (fun w m => m.pick [0, 2] 3 rfl rfl)
   ·replace hq32 := if_f hq32 h42
    refine CW.is_t rfl (congrArg (fun b => !b) (decide_eq_false h42)) ?_
    refine CW.region ?_
    refine OW.rv (RV.move rfl) rfl ?_
    obtain ⟨x44, hx43, hq32⟩ := some_bind hq32
    refine OW.mem (M' := ((some b0_, blk a0.C 109) :: (ob21, blk (cs19 ++ r23) 89) :: (some b13, blk [.bool (a1.list), .slice A1 a1.data.length c2, .slice A4 a1.items.length c5] 89) :: ((B18 ++ []) ++ N))) (fun w m => m.pick [2, 0, 1] 3 rfl rfl) ?_
    refine OW.callG Tryd.call95 rfl (waybill_receipt_reader_refuse_does w0 (More w0 Φ (B18 ++ [])) ((ob21, blk (cs19 ++ r23) 89) :: (some b13, blk [.bool (a1.list), .slice A1 a1.data.length c2, .slice A4 a1.items.length c5] 89) :: ((B18 ++ []) ++ N)) (fun w m => More.of hΦ 2 m rfl) b0_ a0 (172 : Int) x44 (by omega) hx43) rfl rfl ?_
    rintro L46 M47 ⟨B45, e48, e49⟩
    rw [e48, e49]
    clear e48 e49 L46 M47
    refine OW.mem (M' := ((some b0_, blk x44.C 109) :: (ob21, blk (cs19 ++ r23) 89) :: (some b13, blk [.bool (a1.list), .slice A1 a1.data.length c2, .slice A4 a1.items.length c5] 89) :: ((B45 ++ (B18 ++ [])) ++ N))) (fun w m => by have h := Mem.sinkAt (A := B45) m 1 2 rfl rfl; exact h) ?_
    have gq3 : ∀ w, More w0 Φ (B45 ++ (B18 ++ [])) w → More w0 Φ (B18 ++ []) w := fun w q => More.mono (fun w m => (m).appR) q
    replace h10 := ItRd.mono gq3 _ _ h10
    replace v3 := v3.mono gq3
    replace v6 := v6.mono gq3
    replace h8 := h8.mono (ItRd.mono gq3)
    replace h20 := h20.mono (ItRd.mono gq3)
    refine OW.nil ?_
    exact QW.join ⟨x44, (B45 ++ (B18 ++ [])), (Option.some.inj hq32).symm, (fun w m => (m).appR), rfl, rfl⟩ ⟨rfl, trivial⟩ (fun w m => m.pick [1, 0] 3 rfl rfl)
 ·replace hf := if_f hf h14
  refine CW.is_t rfl (congrArg (fun b => !b) (decide_eq_false h14)) ?_
  refine CW.seq (CW.region ?_)
  refine OW.rv (RV.assign rfl) rfl ?_
  refine OW.nil (QW.then_n (CW.ret (QW.then_r ?_)))
  refine QW.mem (M' := ((none, blk ([] ++ []) 89) :: (some b13, blk [.bool (a1.list), .slice A1 a1.data.length c2, .slice A4 a1.items.length c5] 89) :: (some b0_, blk a0.C 109) :: ([] ++ N))) (fun w m => m.nil_ent _) ?_
  have er0 := Option.some.inj hf
  obtain ⟨e0, er1⟩ := Prod.mk.inj er0
  clear er0
  subst e0
  subst er1
  refine QW.retG (rs := [.tmp 4]) ([sl none 0 ([] : List (It)).length 0]) ((none, blk ([] ++ []) 89) :: (some b0_, blk a0.C 109) :: []) rfl ?_ rfl ?_ ?_ _ (.inl rfl)
  ·exact ⟨rfl, trivial⟩
  ·exact ⟨[], [], none, 0, [], Reps.nil, OwnS.nil, rfl, rfl⟩
  ·exact (fun w m => m.pick [0, 2] 3 rfl rfl)
theorem waybill_receipt_reader_text_does (w0 : World) (Φ : Ctx) (N : List Ent) (hΦ : ∀ w, Mem w0 w N → Φ w) (b0_ : Nat) (a0 : Rdr) (cs1_ : List Value) (a1 : It) (a2 : Int) (res0 : List (BitVec 8)) (new0 : Rdr) (ha1 : ItRd Φ cs1_ a1) (ba2 : -9223372036854775808 ≤ a2 ∧ a2 ≤ 9223372036854775807) (hf : waybill_receipt_reader_text a0 a1 a2 = some (res0, new0)) : DoesG Tryd.prog 94 [ptr (some b0_) 0, .agg cs1_.toArray, .int .i64 a2] w0 [(some b0_, blk a0.C 109)] N (fun v G => ∃ B : List Ent, ∃ or0 : Option Nat, ∃ kr0 : Nat, ∃ rr0 : List Value, (OwnS or0 res0.length kr0 1 (u8s res0) rr0) ∧ v = sl or0 0 res0.length kr0 ∧ G = (or0, blk ((u8s res0) ++ rr0) 5) :: (some b0_, blk new0.C 109) :: B) := by
 unfold waybill_receipt_reader_text at hf
 replace ha1 := ItRd.mono (Ψ := More w0 Φ []) (fun w q => q.1) _ _ ha1
 have h10 := ha1
 obtain ⟨A1, c2, A4, c5, cs7, e9, v3, v6, h8⟩ := ItRd.opn ha1
 subst e9
 have m11 := v3.mx
 have m12 := v6.mx
 refine DoesG.enter Tryd.func94 rfl Tryd.ntmps94 rfl (M := ((some b0_, blk a0.C 109) :: ([] ++ N))) rfl ?_
 refine CW.seq (CW.region ?_)
 refine OW.boxA rfl rfl (fun b13 => ?_)
 refine OW.rv (RV.assign rfl) rfl ?_
 refine OW.nil (QW.then_n (CW.seq (CW.seq (CW.region ?_))))
 refine OW.rv (RV.move rfl) rfl ?_
 refine OW.rv (RV.nilCheck rfl) rfl ?_
 refine OW.rv (RV.field rfl rfl rfl rfl) rfl ?_
 refine OW.slot (ptr (some b0_) 0) rfl ?_
 refine OW.rv (RV.load rfl (List.Mem.tail _ (List.Mem.head _)) rfl rfl rfl (Rdr.C_err _)) rfl ?_
 refine OW.rv (RV.neq rfl rfl) rfl ?_
 refine OW.nil (QW.then_n ?_)
 by_cases h14 : a0.err = (0 : Int)
 ·replace hf := if_t hf h14
  refine CW.is_f rfl (congrArg (fun b => !b) (decide_eq_true h14)) ?_
  refine CW.skip (QW.then_n (CW.seq (CW.region ?_)))
  refine OW.rv (RV.loadW rfl (List.Mem.head _) rfl rfl rfl rfl rfl) rfl ?_
  obtain ⟨⟨x16, x17⟩, hx15, hf⟩ := some_bind hf
  try dsimp only at hf
  refine OW.callG Tryd.call121 rfl (rlp_GetText_does w0 (More w0 Φ []) ((some b13, blk [.bool (a1.list), .slice A1 a1.data.length c2, .slice A4 a1.items.length c5] 89) :: (some b0_, blk a0.C 109) :: ([] ++ N)) (fun w m => More.of hΦ 2 m rfl) [.bool (a1.list), .slice A1 a1.data.length c2, .slice A4 a1.items.length c5] a1 x16 x17 h10 hx15) rfl rfl ?_
  rintro L24 M25 ⟨B18, ob19, c20, r21, o22, b23, e26, e27⟩
  rw [e26, e27]
  clear e26 e27 L24 M25
  refine OW.mem (M' := ((ob19, blk ((u8s x16) ++ r21) 5) :: (some b13, blk [.bool (a1.list), .slice A1 a1.data.length c2, .slice A4 a1.items.length c5] 89) :: (some b0_, blk a0.C 109) :: ((B18 ++ []) ++ N))) (fun w m => by have h := Mem.sinkAt (A := B18) m 1 2 rfl rfl; exact h) ?_
  have gq1 : ∀ w, More w0 Φ (B18 ++ []) w → More w0 Φ [] w := fun w q => More.mono (fun w m => (m).appR) q
  replace h10 := ItRd.mono gq1 _ _ h10
  replace v3 := v3.mono gq1
  replace v6 := v6.mono gq1
  replace h8 := h8.mono (ItRd.mono gq1)
  have m28 := o22.mx
  refine OW.rv (RV.move rfl) rfl ?_
  refine OW.rv (RV.extract rfl rfl) rfl ?_
  refine OW.slot (sl ob19 0 x16.length c20) (rfl) ?_
  refine OW.rv (RV.extract rfl rfl) rfl ?_
  refine OW.slot (.int .i64 ((x17 : Nat) : Int)) (rfl) ?_
  refine OW.rv (RV.assign rfl) rfl ?_
  refine OW.rv (RV.assign rfl) rfl ?_
  refine OW.nil (QW.then_n (CW.seq (CW.seq ?_)))
  obtain ⟨q29, hq30, hf⟩ := some_bind hf
  refine CW.cutJ (fun L' M' => ∃ p31 : Bool, q29 = p31 ∧ L' = [(0, ptr (some b0_) 0), (7, sl ob19 0 x16.length c20), (30, .bool (p31))] ∧ M' = ((ob19, blk ((u8s x16) ++ r21) 5) :: (some b0_, blk a0.C 109) :: ((B18 ++ []) ++ N))) ?_ ?_
  ·rintro L33 M34 ⟨p31, e32, e35, e36⟩
   rw [e35, e36]
   clear e35 e36 L33 M34
   clear hq30
   rw [e32] at hf
   clear e32
   try dsimp only at hf
   have m37 := o22.mx
   refine QW.then_n ?_
   by_cases h38 : p31 = true
   ·replace hf := if_t hf h38
    refine CW.is_t rfl (h38) ?_
    refine CW.seq (CW.region ?_)
    refine OW.rv (RV.move rfl) rfl ?_
    obtain ⟨x40, hx39, hf⟩ := some_bind hf
    refine OW.mem (M' := ((some b0_, blk a0.C 109) :: (ob19, blk ((u8s x16) ++ r21) 5) :: ((B18 ++ []) ++ N))) (fun w m => m.pick [1, 0] 2 rfl rfl) ?_
    refine OW.callG Tryd.call95 rfl (waybill_receipt_reader_refuse_does w0 (More w0 Φ (B18 ++ [])) ((ob19, blk ((u8s x16) ++ r21) 5) :: ((B18 ++ []) ++ N)) (fun w m => More.of hΦ 1 m rfl) b0_ a0 (172 : Int) x40 (by omega) hx39) rfl rfl ?_
    rintro L42 M43 ⟨B41, e44, e45⟩
    rw [e44, e45]
    clear e44 e45 L42 M43
    refine OW.mem (M' := ((some b0_, blk x40.C 109) :: (ob19, blk ((u8s x16) ++ r21) 5) :: ((B41 ++ (B18 ++ [])) ++ N))) (fun w m => by have h := Mem.sinkAt (A := B41) m 1 1 rfl rfl; exact h) ?_
    refine OW.nil (QW.then_n (CW.seq (CW.region ?_)))
    refine OW.rv (RV.assign rfl) rfl ?_
    refine OW.nil (QW.then_n (CW.ret (QW.then_r ?_)))
    refine QW.mem (M' := ((none, blk ((u8s ([] : List (BitVec 8))) ++ []) 5) :: (some b0_, blk x40.C 109) :: (ob19, blk ((u8s x16) ++ r21) 5) :: ((B41 ++ (B18 ++ [])) ++ N))) (fun w m => m.nil_ent _) ?_
    have er0 := Option.some.inj hf
    obtain ⟨e0, er1⟩ := Prod.mk.inj er0
    clear er0
    subst e0
    subst er1
    refine QW.retG (rs := [.tmp 6]) ([sl none 0 ([] : List (BitVec 8)).length 0]) ((none, blk ((u8s ([] : List (BitVec 8))) ++ []) 5) :: (some b0_, blk x40.C 109) :: (B41 ++ (B18 ++ []))) rfl ?_ rfl ?_ ?_ _ (.inl rfl)
    ·exact ⟨rfl, trivial⟩
    ·exact ⟨(B41 ++ (B18 ++ [])), none, 0, [], OwnS.nil, rfl, rfl⟩
    ·exact (fun w m => m.pick [0, 1] 3 rfl rfl)
   ·replace hf := if_f hf h38
    refine CW.is_f rfl (Bool.eq_false_iff.2 h38) ?_
    refine CW.skip (QW.then_n (CW.seq (CW.region ?_)))
    refine OW.rv (RV.move rfl) rfl ?_
    refine OW.rv (RV.assign rfl) rfl ?_
    refine OW.nil (QW.then_n (CW.ret ?_))
    have er0 := Option.some.inj hf
    obtain ⟨e0, er1⟩ := Prod.mk.inj er0
    clear er0
    subst e0
    subst er1
    refine QW.retG (rs := [.tmp 6]) ([sl ob19 0 x16.length c20]) ((ob19, blk ((u8s x16) ++ r21) 5) :: (some b0_, blk a0.C 109) :: (B18 ++ [])) rfl ?_ rfl ?_ ?_ _ (.inl rfl)
    ·exact ⟨rfl, trivial⟩
    ·exact ⟨(B18 ++ []), ob19, c20, r21, o22, rfl, rfl⟩
    ·exact (fun w m => m.pick [0, 1] 2 rfl rfl)
  ·skip
   refine CW.region ?_
   refine OW.rv (RV.move rfl) rfl ?_
   refine OW.rv (RV.neq rfl rfl) rfl ?_
   refine OW.slot (.bool (!decide (x17 = 0))) (congrArg (fun b => Value.bool (!b)) (decide_eq_decide.2 (by omega))) ?_
   refine OW.rv (RV.move rfl) rfl ?_
   by_cases h46 : x17 = 0
   ·replace hq30 := if_t hq30 h46
    refine OW.slot (.bool false) (congrArg Value.bool (congrArg (fun b => !b) (decide_eq_true h46))) ?_
    refine OW.want rfl ?_
    refine OW.rv (RV.move rfl) rfl ?_
    refine OW.want rfl ?_
    refine OW.rv (RV.geq rfl rfl) rfl ?_
    refine OW.want rfl ?_
    refine OW.rv (RV.move rfl) rfl ?_
    by_cases h47 : (0 : Int) ≤ a2
    ·replace hq30 := if_t hq30 h47
     refine OW.slot (.bool true) (congrArg Value.bool (decide_eq_true h47)) ?_
     refine OW.want rfl ?_
     refine OW.rv (RV.move rfl) rfl ?_
     refine OW.want rfl ?_
     refine OW.rv (RV.len rfl rfl) rfl ?_
     refine OW.want rfl ?_
     refine OW.rv (RV.move rfl) rfl ?_
     refine OW.want rfl ?_
     refine OW.rv (RV.neq rfl rfl) rfl ?_
     refine OW.want rfl ?_
     refine OW.rv (RV.pick_t rfl rfl rfl) rfl ?_
     refine OW.rv (RV.pick_f rfl rfl rfl) rfl ?_
     refine OW.nil ?_
     exact QW.join ⟨(!decide (((x16.length : Nat) : Int) = a2)), (Option.some.inj hq30).symm, rfl, rfl⟩ ⟨rfl, rfl, rfl, trivial⟩ (fun w m => m.pick [0, 2] 3 rfl rfl)
    ·replace hq30 := if_f hq30 h47
     refine OW.slot (.bool false) (congrArg Value.bool (decide_eq_false h47)) ?_
     refine OW.skip rfl rfl rfl ?_
     refine OW.skip rfl rfl rfl ?_
     refine OW.skip rfl rfl rfl ?_
     refine OW.skip rfl rfl rfl ?_
     refine OW.want rfl ?_
     refine OW.rv (RV.pick_f rfl rfl rfl) rfl ?_
     refine OW.rv (RV.pick_f rfl rfl rfl) rfl ?_
     refine OW.nil ?_
     exact QW.join ⟨false, (Option.some.inj hq30).symm, rfl, rfl⟩ ⟨rfl, rfl, rfl, trivial⟩ (fun w m => m.pick [0, 2] 3 rfl rfl)
   ·replace hq30 := if_f hq30 h46
    refine OW.slot (.bool true) (congrArg Value.bool (congrArg (fun b => !b) (decide_eq_false h46))) ?_
    refine OW.skip rfl rfl rfl ?_
    refine OW.skip rfl rfl rfl ?_
    refine OW.skip rfl rfl rfl ?_
    refine OW.skip rfl rfl rfl ?_
    refine OW.skip rfl rfl rfl ?_
    refine OW.skip rfl rfl rfl ?_
    refine OW.skip rfl rfl rfl ?_
    refine OW.skip rfl rfl rfl ?_
    refine OW.rv (RV.pick_t rfl rfl rfl) rfl ?_
    refine OW.nil ?_
    exact QW.join ⟨true, (Option.some.inj hq30).symm, rfl, rfl⟩ ⟨rfl, rfl, rfl, trivial⟩ (fun w m => m.pick [0, 2] 3 rfl rfl)
 ·replace hf := if_f hf h14
  refine CW.is_t rfl (congrArg (fun b => !b) (decide_eq_false h14)) ?_
  refine CW.seq (CW.region ?_)
  refine OW.rv (RV.assign rfl) rfl ?_
  refine OW.nil (QW.then_n (CW.ret (QW.then_r ?_)))
  refine QW.mem (M' := ((none, blk ((u8s ([] : List (BitVec 8))) ++ []) 5) :: (some b13, blk [.bool (a1.list), .slice A1 a1.data.length c2, .slice A4 a1.items.length c5] 89) :: (some b0_, blk a0.C 109) :: ([] ++ N))) (fun w m => m.nil_ent _) ?_
  have er0 := Option.some.inj hf
  obtain ⟨e0, er1⟩ := Prod.mk.inj er0
  clear er0
  subst e0
  subst er1
  refine QW.retG (rs := [.tmp 6]) ([sl none 0 ([] : List (BitVec 8)).length 0]) ((none, blk ((u8s ([] : List (BitVec 8))) ++ []) 5) :: (some b0_, blk a0.C 109) :: []) rfl ?_ rfl ?_ ?_ _ (.inl rfl)
  ·exact ⟨rfl, trivial⟩
  ·exact ⟨[], none, 0, [], OwnS.nil, rfl, rfl⟩
  ·exact (fun w m => m.pick [0, 2] 3 rfl rfl)
abbrev Zc : List Value := [.bool false, .slice none 0 0, .slice none 0 0]
abbrev DecR (w0 : World) (Φ : Ctx) (res0 : It) (res1 : Nat) : Value → List Ent → Prop := fun v G => ∃ B : List Ent, ∃ cr0 : List Value, (ItRd (More w0 Φ B) cr0 res0) ∧ (res1 ≤ 9223372036854775807) ∧ v = .tuple #[.agg cr0.toArray, .int .i64 ((res1 : Nat) : Int)] ∧ G = B
abbrev DecQ (w0 : World) (Φ : Ctx) (N : List Ent) (res0 : It) (res1 : Nat) := bodyPost Tryd.prog Tryd.f66 (EndsJ w0 (fun v M' => ∃ G, DecR w0 Φ res0 res1 v G ∧ M' = G ++ N))
def JD (w0 : World) (Φ : Ctx) (N : List Ent) (res0 : It) (res1 : Nat) : Nat → Nat → Slots → List Ent → Prop
 | 0, _, L, M => ∃ b2 : Nat, res0 = It.zero ∧ res1 ≤ 9223372036854775807 ∧ L = [(2, ptr (some b2) 0), (9, .int .i64 ((res1 : Nat) : Int))] ∧ M = (some b2, blk Zc 89) :: N
 | l + 1, k, L, M => ∃ (b : List (BitVec 8)) (A : Option Addr) (c : Nat) (F : List Frm) (B : List Ent) (ob4 : Option Nat) (c4 : Nat) (r4 : List Value) (b5 : Nat) (cs5 : List Value) (b2 : Nat) (it : It),
   dec k (l + 1) b it (F.map Frm.pure) = some (res0, res1) ∧ (l = 1 → ItRd (More w0 Φ B) cs5 it) ∧ View (More w0 Φ B) A b.length c 1 (u8s b) ∧ (∀ f ∈ F, f.Ok (More w0 Φ B)) ∧ OwnS ob4 F.length c4 2 (stC F) r4 ∧ cs5.length = 3 ∧
   L = [(0, .slice A b.length c), (2, ptr (some b2) 0), (4, sl ob4 0 F.length c4), (5, ptr (some b5) 0)] ∧
   M = (ob4, blk (stC F ++ r4) 141) :: (some b5, blk cs5 89) :: (some b2, blk Zc 89) :: (F.map (Frm.ent 89) ++ (B ++ N))
theorem toBroken {w0 w : World} {s c5 c2 : Ent} {X B N : List Ent} (m : Mem w0 w (s :: c5 :: c2 :: (X ++ (B ++ N)))) : Mem w0 w (c2 :: N) :=
 m.tail.tail.sublist (List.Sublist.cons_cons _ ((List.sublist_append_right _ _).trans (List.sublist_append_right _ _)))
theorem dec_w3 (w0 : World) (Φ : Ctx) (N : List Ent) (hΦ : ∀ w, Mem w0 w N → Φ w) (res0 : It) (res1 : Nat) (k m : Nat) (hkm : k ≤ m) (L : Slots) (M : List Ent) (h : JD w0 Φ N res0 res1 3 k L M) :
  CW Tryd.prog 105 (JumpJ 105 w0 (JD w0 Φ N res0 res1) m (DecQ w0 Φ N res0 res1)) w0 (afterL (scopeOf Tryd.f66.body) 3) L M := by
 obtain ⟨b, A, c, F, B, ob4, c4, r4, b5, cs5, b2, it, hf, -, vb, hF, o4, h5, rfl, rfl⟩ := h
 rcases k with _ | k
 ·rw [dec] at hf; cases hf
 replace hf : dec (k + 1) 3 b it _ = _ := hf
 rw [dec_3] at hf
 have m1 := vb.mx
 have m2 := o4.mx
 refine CW.seq (CW.seq (CW.region ?_))
 refine OW.rv (RV.move rfl) rfl ?_
 refine OW.rv (RV.len rfl rfl) rfl ?_
 refine OW.rv (RV.gtr rfl rfl) rfl ?_
 refine OW.slot (.bool (decide (0 < b.length))) (congrArg Value.bool (decide_eq_decide.2 (by omega))) ?_
 refine OW.nil (QW.then_n ?_)
 by_cases h1 : 0 < b.length
 ·replace hf := if_t hf h1
  refine CW.is_t rfl (decide_eq_true h1) ?_
  refine CW.goto ?_
  refine QW.then_g ?_
  exact QW.jump (k := k) (by omega) ⟨b, A, c, F, B, ob4, c4, r4, b5, cs5, b2, It.zero, hf, (fun e => absurd e (by decide)), vb, hF, o4, h5, rfl, rfl⟩ ⟨rfl, rfl, rfl, rfl, trivial⟩ (fun w m => m)
 ·replace hf := if_f hf h1
  refine CW.is_f rfl (decide_eq_false h1) ?_
  refine CW.skip (QW.then_n ?_)
  rcases F with _ | ⟨f, F⟩
  ·cases hf
  replace hf : dec k 2 f.behind (It.mk true [] f.items) (F.map Frm.pure) = some (res0, res1) := hf
  have o4' : OwnS ob4 (F.length + 1) c4 2 (stC (f :: F)) r4 := o4
  have h0 : ob4.isSome = true := o4'.isSome (i := F.length) (by decide) (by omega)
  have hf0 := hF f (List.mem_cons_self ..)
  refine CW.seq (CW.region ?_)
  refine OW.rv (RV.move rfl) rfl ?_
  refine OW.rv (RV.move rfl) rfl ?_
  refine OW.rv (RV.len rfl rfl) rfl ?_
  refine OW.rv (RV.sub rfl rfl (by simp only [List.length_cons] at *; omega)) rfl ?_
  refine OW.rv (RV.idx_os (F.length) rfl rfl (by simp) rfl rfl h0 (by simp only [List.length_cons]; omega)) rfl ?_
  refine OW.rv (RV.field rfl rfl rfl rfl) rfl ?_
  refine OW.rv (RV.load rfl (List.Mem.head _) h0 rfl rfl (stC_at0 F f r4)) rfl ?_
  refine OW.rv (RV.buildSt (l := Zc) (cs := [.bool true, .slice none 0 0, sl f.ob 0 f.items.length f.c]) [(0, [.bool true]), (2, [sl f.ob 0 f.items.length f.c])] rfl rfl rfl rfl rfl rfl rfl) rfl ?_
  refine OW.rot1 ?_
  refine OW.sv (SV.storeW rfl rfl rfl (by intro u hu; simp at hu; rcases hu with rfl | rfl | rfl <;> rfl) rfl h5 rfl) ?_
  refine OW.nil (QW.then_n (CW.seq (CW.region ?_)))
  refine OW.rv (RV.move rfl) rfl ?_
  refine OW.rv (RV.move rfl) rfl ?_
  refine OW.rv (RV.len rfl rfl) rfl ?_
  refine OW.rv (RV.sub rfl rfl (by simp only [List.length_cons] at *; omega)) rfl ?_
  refine OW.rv (RV.idx_os (F.length) rfl rfl (by simp) rfl rfl h0 (by simp only [List.length_cons]; omega)) rfl ?_
  refine OW.rv (RV.field rfl rfl rfl rfl) rfl ?_
  refine OW.rv (RV.load rfl (List.Mem.tail _ (List.Mem.head _)) h0 rfl rfl (stC_at1 F f r4)) rfl ?_
  refine OW.rv (RV.assign rfl) rfl ?_
  refine OW.nil (QW.then_n (CW.seq (CW.region ?_)))
  refine OW.rv (RV.move rfl) rfl ?_
  refine OW.rv (RV.move rfl) rfl ?_
  refine OW.rv (RV.len rfl rfl) rfl ?_
  refine OW.rv (RV.sub rfl rfl (by simp only [List.length_cons] at *; omega)) rfl ?_
  refine OW.rv (RV.cut_o (F.length) rfl rfl (by simp) rfl rfl (by have := o4'.le (by decide); simp only [List.length_cons]; omega)) rfl ?_
  refine OW.rv (RV.assign rfl) rfl ?_
  refine OW.nil (QW.then_n (CW.seq ?_))
  refine CW.goto ?_
  refine QW.then_g ?_
  have hm : ∀ w, More w0 Φ (f.ent 89 :: B) w → More w0 Φ B w := fun w q => More.mono (fun w m => m.tail) q
  have v1 : View (More w0 Φ (f.ent 89 :: B)) ((f.ob).map fun k => ⟨k, 0, none⟩) f.items.length f.c 3 f.cells := hf0.o.view (by decide) (fun w q => q.2.sublist (List.singleton_sublist.2 (List.mem_cons_self ..)))
  have hit : ItRd (More w0 Φ (f.ent 89 :: B)) [.bool true, .slice none 0 0, sl f.ob 0 f.items.length f.c] (It.mk true [] f.items) := by
   have v0 : View (More w0 Φ (f.ent 89 :: B)) none ([] : List (BitVec 8)).length 0 1 (u8s []) := View.nil
   exact ItRd.mk v0 v1 (hf0.h.mono (ItRd.mono hm))
  refine QW.jump (k := k) (by omega) (l := 2) ⟨f.behind, f.A, f.cb, F, f.ent 89 :: B, ob4, c4, f.cs ++ r4, b5, _, b2, It.mk true [] f.items, hf, (fun _ => hit), hf0.v.mono hm, (fun g hg => (hF g (List.mem_cons_of_mem _ hg)).mono hm), o4'.pop rfl, rfl, rfl, rfl⟩ ⟨rfl, rfl, rfl, rfl, trivial⟩ (fun w m => ?_)
  have m := m.pick [1, 0] 2 rfl rfl
  rw [stC_pop] at m
  exact m.underB [_, _, _] _
theorem dec_w2 (w0 : World) (Φ : Ctx) (N : List Ent) (hΦ : ∀ w, Mem w0 w N → Φ w) (res0 : It) (res1 : Nat) (k m : Nat) (hkm : k ≤ m) (L : Slots) (M : List Ent) (h : JD w0 Φ N res0 res1 2 k L M) :
  CW Tryd.prog 105 (JumpJ 105 w0 (JD w0 Φ N res0 res1) m (DecQ w0 Φ N res0 res1)) w0 (afterL (scopeOf Tryd.f66.body) 2) L M := by
 obtain ⟨b, A, c, F, B, ob4, c4, r4, b5, cs5, b2, it, hf, hit, vb, hF, o4, h5, rfl, rfl⟩ := h
 replace hit := hit rfl
 rcases k with _ | k
 ·rw [dec] at hf; cases hf
 replace hf : dec (k + 1) 2 b it _ = _ := hf
 have m1 := vb.mx
 have m2 := o4.mx
 obtain ⟨Ai, ci, Bi, ei, cells, hcs, vi, wi, ri⟩ := ItRd.opn hit
 subst hcs
 refine CW.seq (CW.seq (CW.region ?_))
 refine OW.rv (RV.move rfl) rfl ?_
 refine OW.rv (RV.len rfl rfl) rfl ?_
 refine OW.rv (RV.eql rfl rfl) rfl ?_
 refine OW.slot (.bool (decide (F.length = 0))) (congrArg Value.bool (decide_eq_decide.2 (by omega))) ?_
 refine OW.nil (QW.then_n ?_)
 rcases F with _ | ⟨f, F⟩
 ·rw [List.map_nil, dec_2n] at hf
  refine CW.is_t rfl rfl ?_
  refine CW.seq (CW.seq (CW.region ?_))
  refine OW.rv (RV.move rfl) rfl ?_
  refine OW.rv (RV.len rfl rfl) rfl ?_
  refine OW.rv (RV.gtr rfl rfl) rfl ?_
  refine OW.slot (.bool (decide (0 < b.length))) (congrArg Value.bool (decide_eq_decide.2 (by omega))) ?_
  refine OW.nil (QW.then_n ?_)
  by_cases h1 : 0 < b.length
  ·replace hf := if_t hf h1
   refine CW.is_t rfl (decide_eq_true h1) ?_
   refine CW.seq (CW.region ?_)
   refine OW.rv (RV.assign rfl) rfl ?_
   refine OW.nil (QW.then_n ?_)
   refine CW.goto ?_
   refine QW.then_g ?_
   refine QW.then_g ?_
   obtain ⟨e0, e1⟩ := Prod.mk.inj (Option.some.inj hf)
   subst e1
   exact QW.jump (k := 0) (l := 0) (by omega) ⟨b2, e0.symm, (by omega), rfl, rfl⟩ ⟨rfl, rfl, trivial⟩ (fun w m => toBroken m)
  ·replace hf := if_f hf h1
   refine CW.is_f rfl (decide_eq_false h1) ?_
   refine CW.skip (QW.then_n (CW.seq (CW.region ?_)))
   refine OW.rv (RV.loadW rfl (List.Mem.tail _ (List.Mem.head _)) rfl rfl rfl rfl rfl) rfl ?_
   refine OW.rot2 ?_
   refine OW.sv (SV.storeW rfl rfl rfl (by intro u hu; simp at hu; rcases hu with rfl | rfl | rfl <;> rfl) rfl rfl rfl) ?_
   refine OW.rv (RV.assign rfl) rfl ?_
   refine OW.nil (QW.then_n (CW.ret (QW.then_r ?_)))
   obtain ⟨e0, e1⟩ := Prod.mk.inj (Option.some.inj hf)
   subst e0
   subst e1
   refine QW.jump_r ?_
   refine QW.retG (rs := [.cell 2 89, .tmp 3]) ([.agg [.bool it.list, .slice Ai it.data.length ci, .slice Bi it.items.length ei].toArray, .int .i64 (0 : Int)]) B rfl ?_ rfl ?_ ?_ _ (.inl rfl)
   ·exact ⟨⟨_, _, _, _, rfl, (List.Mem.head _), rfl, rfl, rfl, rfl⟩, rfl, trivial⟩
   ·exact ⟨B, _, hit, (by omega), rfl, rfl⟩
   ·exact (fun w m => m.drop 3)
 ·replace hf : dec (k + 1) 2 b it ((f.items, f.behind) :: F.map Frm.pure) = some (res0, res1) := hf
  rw [dec_2c] at hf
  obtain ⟨hg, hf⟩ := some_if hf
  refine CW.is_f rfl rfl ?_
  refine CW.skip (QW.then_n ?_)
  have o4' : OwnS ob4 (F.length + 1) c4 2 (stC (f :: F)) r4 := o4
  have h0 : ob4.isSome = true := o4'.isSome (i := F.length) (by decide) (by omega)
  have hf0 := hF f (List.mem_cons_self ..)
  have hl4 : 0 + F.length * 2 + 0 < (stC (f :: F) ++ r4).length := by rw [List.length_append, stC_len, List.length_cons]; omega
  have m3 : F.length + 1 ≤ 140737488355328 := m2
  refine CW.seq ?_
  refine CW.cutJ (fun L' M' => ∃ g : Frm, g.items = f.items ++ [it] ∧ g.behind = f.behind ∧ g.Ok (More w0 Φ B) ∧ L' = [(0, .slice A b.length c), (2, ptr (some b2) 0), (4, sl ob4 0 (F.length + 1) c4), (5, ptr (some b5) 0)] ∧
   M' = (ob4, blk (stC (g :: F) ++ r4) 141) :: (some b5, blk [.bool it.list, .slice Ai it.data.length ci, .slice Bi it.items.length ei] 89) :: (some b2, blk Zc 89) :: ((g :: F).map (Frm.ent 89) ++ (B ++ N))) ?_ ?_
  ·rintro L' M' ⟨g, gi, gb, gok, e1, e2⟩
   refine QW.then_n (CW.seq ?_)
   refine CW.label ?_
   refine QW.then_n ?_
   refine dec_w3 w0 Φ N hΦ res0 res1 k m (by omega) L' M' ⟨b, A, c, g :: F, B, ob4, c4, r4, b5, _, b2, It.zero, ?_, (fun e => absurd e (by decide)), vb, ?_, o4.swap, rfl, e1, e2⟩
   ·show dec k 3 b It.zero ((g.items, g.behind) :: F.map Frm.pure) = some (res0, res1)
    rw [gi, gb]; exact hf
   ·intro x hx
    rcases List.mem_cons.1 hx with rfl | hx
    ·exact gok
    ·exact hF x (List.mem_cons_of_mem _ hx)
  ·refine CW.seqJ (fun L' M' => ∃ v : Bool, L' = [(45, .bool v), (0, .slice A b.length c), (2, ptr (some b2) 0), (4, sl ob4 0 (F.length + 1) c4), (5, ptr (some b5) 0)] ∧ M' = (ob4, blk (stC (f :: F) ++ r4) 141) :: (some b5, blk [.bool it.list, .slice Ai it.data.length ci, .slice Bi it.items.length ei] 89) :: (some b2, blk Zc 89) :: (f.ent 89 :: (F.map (Frm.ent 89) ++ (B ++ N)))) ?_ ?_
   ·rintro L' M' ⟨v, rfl, rfl⟩
    cases v
    ·refine CW.is_f rfl rfl ?_
     refine CW.drawsX ((some b5, blk [.bool it.list, .slice Ai it.data.length ci, .slice Bi it.items.length ei] 89) :: (some b2, blk Zc 89) :: (F.map (Frm.ent 89) ++ (B ++ N))) [13, 16] (fun w m => m.pick [1, 2] 4 rfl rfl) mixed (by kernel_rfl) ?_
     refine XW.rs 0 rfl (by kernel_rfl) rfl (RV.move rfl) rfl ?_
     refine XW.rs 1 rfl (by kernel_rfl) rfl (RV.move rfl) rfl ?_
     refine XW.rs 2 rfl (by kernel_rfl) rfl (RV.len rfl rfl) rfl ?_
     refine XW.rs 3 rfl (by kernel_rfl) rfl (RV.sub rfl rfl (by omega)) rfl ?_
     refine XW.rs 4 rfl (by kernel_rfl) rfl (RV.move rfl) rfl ?_
     refine XW.rs 5 rfl (by kernel_rfl) rfl (RV.move rfl) rfl ?_
     refine XW.rs 6 rfl (by kernel_rfl) rfl (RV.len rfl rfl) rfl ?_
     refine XW.rs 7 rfl (by kernel_rfl) rfl (RV.sub rfl rfl (by omega)) rfl ?_
     refine XW.rs 8 rfl (by kernel_rfl) rfl (RV.idx_os (F.length) rfl rfl (by omega) rfl rfl h0 (by omega)) rfl ?_
     refine XW.rs 9 rfl (by kernel_rfl) rfl (RV.field rfl rfl rfl rfl) rfl ?_
     refine XW.rv 10 rfl (by kernel_rfl) rfl (by kernel_rfl) (RV.load rfl (List.Mem.head _) h0 rfl rfl (stC_at0 F f r4)) rfl ?_
     refine XW.rs 11 rfl (by kernel_rfl) rfl (RV.loadW rfl (List.Mem.head _) rfl rfl rfl rfl rfl) rfl ?_
     refine XW.new 12 rfl (by kernel_rfl) rfl (NV.bsA rfl rfl (by intro x hx; simp at hx; subst hx; rfl) rfl rfl rfl (by decide) (by decide) rfl) rfl (fun b76 => ?_)
     refine XW.mem (M' := ((f.ob, blk (f.cells ++ f.r) 89) :: (some b76, blk ([.bool it.list, .slice Ai it.data.length ci, .slice Bi it.items.length ei] ++ []) 89) :: (ob4, blk (stC (f :: F) ++ r4) 141) :: (some b5, blk [.bool it.list, .slice Ai it.data.length ci, .slice Bi it.items.length ei] 89) :: (some b2, blk Zc 89) :: (F.map (Frm.ent 89) ++ (B ++ N)))) (fun w m => m.pick [4, 0, 1, 2, 3] 5 rfl rfl) (fun w m => m.pick [3, 4] 5 rfl rfl) ?_
     refine XW.appendOwn 13 (s := 3) rfl (by kernel_rfl) rfl rfl rfl rfl rfl rfl hf0.o (fun w m => m.rd0 (List.Mem.tail _ (List.Mem.head _)) (fun e => nomatch e)) rfl (by intro u hu; simp at hu; rcases hu with rfl | rfl | rfl <;> rfl) (fun e => nomatch e) (by decide) (by decide) hg rfl ((f.items ++ [it]).length) (f.cells ++ [.bool it.list, .slice Ai it.data.length ci, .slice Bi it.items.length ei]) (by simp) rfl (fun w m => m.pick [2, 3] 4 rfl rfl) rfl (fun ob77 r77 c77 o77 => ?_)
     refine XW.rs 14 rfl (by kernel_rfl) rfl (RV.idx_os (F.length) rfl rfl (by omega) rfl rfl h0 (by omega)) rfl ?_
     refine XW.rs 15 rfl (by kernel_rfl) rfl (RV.field rfl rfl rfl rfl) rfl ?_
     refine XW.mem (M' := ((ob4, blk (stC (f :: F) ++ r4) 141) :: (ob77, blk ((f.cells ++ [.bool it.list, .slice Ai it.data.length ci, .slice Bi it.items.length ei]) ++ r77) 89) :: (some b5, blk [.bool it.list, .slice Ai it.data.length ci, .slice Bi it.items.length ei] 89) :: (some b2, blk Zc 89) :: (F.map (Frm.ent 89) ++ (B ++ N)))) (fun w m => m.pick [2, 0, 3, 4] 5 rfl rfl) (fun w m => m.pick [2, 3] 4 rfl rfl) ?_
     refine XW.sv 16 rfl (by kernel_rfl) (SV.store rfl h0 rfl rfl rfl hl4) (fun w m => m.pick [2, 3] 4 rfl rfl) ?_
     refine XW.cells (stC ((⟨ob77, c77, f.cells ++ [.bool it.list, .slice Ai it.data.length ci, .slice Bi it.items.length ei], r77, f.A, f.cb, f.items ++ [it], f.behind⟩ : Frm) :: F) ++ r4) (show (stC (f :: F) ++ r4).set (0 + F.length * 2 + 0) (sl ob77 0 (f.items ++ [it]).length c77) = stC ((⟨ob77, c77, f.cells ++ [.bool it.list, .slice Ai it.data.length ci, .slice Bi it.items.length ei], r77, f.A, f.cb, f.items ++ [it], f.behind⟩ : Frm) :: F) ++ r4 from stC_set0 F f ⟨ob77, c77, f.cells ++ [.bool it.list, .slice Ai it.data.length ci, .slice Bi it.items.length ei], r77, f.A, f.cb, f.items ++ [it], f.behind⟩ r4 rfl rfl rfl) ?_
     refine XW.nil (by kernel_rfl) ?_
     refine QW.join ⟨⟨ob77, c77, f.cells ++ [.bool it.list, .slice Ai it.data.length ci, .slice Bi it.items.length ei], r77, f.A, f.cb, f.items ++ [it], f.behind⟩, rfl, rfl, ⟨o77, hf0.h.app (Reps.one hit), hf0.v⟩, rfl, rfl⟩ ⟨rfl, rfl, rfl, rfl, trivial⟩ (fun w m => ?_)
     exact m.pick [0, 2, 3, 1] 4 rfl rfl
    ·refine CW.is_t rfl rfl ?_
     refine CW.seq ?_
     refine CW.drawsU 14 mixed (by kernel_rfl) rfl ?_
     refine UW.rv 0 rfl (by kernel_rfl) rfl (RV.move rfl) rfl ?_
     refine UW.rv 1 rfl (by kernel_rfl) rfl (RV.move rfl) rfl ?_
     refine UW.rv 2 rfl (by kernel_rfl) rfl (RV.len rfl rfl) rfl ?_
     refine UW.rv 3 rfl (by kernel_rfl) rfl (RV.sub rfl rfl (by omega)) rfl ?_
     refine UW.rv 4 rfl (by kernel_rfl) rfl (RV.move rfl) rfl ?_
     refine UW.rv 5 rfl (by kernel_rfl) rfl (RV.move rfl) rfl ?_
     refine UW.rv 6 rfl (by kernel_rfl) rfl (RV.len rfl rfl) rfl ?_
     refine UW.rv 7 rfl (by kernel_rfl) rfl (RV.sub rfl rfl (by omega)) rfl ?_
     refine UW.rv 8 rfl (by kernel_rfl) rfl (RV.idx_os (F.length) rfl rfl (by omega) rfl rfl h0 (by omega)) rfl ?_
     refine UW.rv 9 rfl (by kernel_rfl) rfl (RV.field rfl rfl rfl rfl) rfl ?_
     refine UW.rv 10 rfl (by kernel_rfl) rfl (RV.load rfl (List.Mem.head _) h0 rfl rfl (stC_at0 F f r4)) rfl ?_
     refine UW.rv 11 rfl (by kernel_rfl) rfl (RV.loadW rfl (List.Mem.tail _ (List.Mem.head _)) rfl rfl rfl rfl rfl) rfl ?_
     refine UW.rv 12 rfl (by kernel_rfl) rfl (RV.len rfl rfl) rfl ?_
     refine UW.new 13 rfl (by kernel_rfl) rfl (NV.bsA (cs := Zc) rfl rfl (by intro x hx; simp at hx; subst hx; rfl) rfl rfl rfl (by decide) (by decide) rfl) rfl (fun b59 => ?_)
     refine UW.nil (by kernel_rfl) ?_
     refine OW.mem (M' := ((f.ob, blk (f.cells ++ f.r) 89) :: (some b59, blk (Zc ++ []) 89) :: (ob4, blk (stC (f :: F) ++ r4) 141) :: (some b5, blk [.bool it.list, .slice Ai it.data.length ci, .slice Bi it.items.length ei] 89) :: (some b2, blk Zc 89) :: (F.map (Frm.ent 89) ++ (B ++ N)))) (fun w m => m.pick [4, 0, 1, 2, 3] 5 rfl rfl) ?_
     refine OW.appendOwn (s := 3) rfl rfl rfl rfl rfl rfl hf0.o (fun w m => m.rd0 (List.Mem.tail _ (List.Mem.head _)) (fun e => nomatch e)) rfl (by intro u hu; simp at hu; rcases hu with rfl | rfl | rfl <;> rfl) (fun e => nomatch e) (by decide) (by decide) hg rfl rfl ((f.items ++ [it]).length) (f.cells ++ Zc) (by simp) rfl (fun ob60 r60 c60 o60 => ?_)
     refine OW.rv (RV.idx_os (F.length) rfl rfl (by omega) rfl rfl h0 (by omega)) rfl ?_
     refine OW.rv (RV.field rfl rfl rfl rfl) rfl ?_
     refine OW.rot2 ?_
     refine OW.sv (SV.store rfl h0 rfl rfl rfl hl4) ?_
     refine OW.cells (stC ((⟨ob60, c60, f.cells ++ [.bool it.list, .slice Ai it.data.length ci, .slice Bi it.items.length ei], r60, f.A, f.cb, f.items ++ [it], f.behind⟩ : Frm) :: F) ++ r4) (show (stC (f :: F) ++ r4).set (0 + F.length * 2 + 0) (sl ob60 0 (f.items ++ [it]).length c60) = stC ((⟨ob60, c60, f.cells ++ [.bool it.list, .slice Ai it.data.length ci, .slice Bi it.items.length ei], r60, f.A, f.cb, f.items ++ [it], f.behind⟩ : Frm) :: F) ++ r4 from stC_set0 F f ⟨ob60, c60, f.cells ++ [.bool it.list, .slice Ai it.data.length ci, .slice Bi it.items.length ei], r60, f.A, f.cb, f.items ++ [it], f.behind⟩ r4 rfl rfl rfl) ?_
     refine OW.nil (QW.then_n (CW.region ?_))
     have hlen : (f.items ++ [it]).length = f.items.length + 1 := by simp
     have h60 : ob60.isSome = true := o60.isSome (i := f.items.length) (by decide) (by omega)
     refine OW.rv (RV.idx_os (f.items.length) rfl rfl rfl rfl rfl h60 (by omega)) rfl ?_
     refine OW.rot1 ?_
     have hc3 := hf0.o.n
     refine OW.sv (SV.storeAs rfl h60 rfl (by intro u hu; simp at hu; rcases hu with rfl | rfl | rfl <;> rfl) rfl rfl (show 0 + f.items.length * 3 + 3 ≤ _ by simp only [List.length_append, List.length_cons, List.length_nil]; omega)) ?_
     have esp : spl ((f.cells ++ Zc) ++ r60) (0 + f.items.length * 3) [.bool it.list, .slice Ai it.data.length ci, .slice Bi it.items.length ei] = (f.cells ++ [.bool it.list, .slice Ai it.data.length ci, .slice Bi it.items.length ei]) ++ r60 := spl_last f.cells Zc [.bool it.list, .slice Ai it.data.length ci, .slice Bi it.items.length ei] r60 (f.items.length * 3) (by omega) rfl
     refine OW.cells _ esp ?_
     refine OW.nil ?_
     refine QW.join ⟨⟨ob60, c60, f.cells ++ [.bool it.list, .slice Ai it.data.length ci, .slice Bi it.items.length ei], r60, f.A, f.cb, f.items ++ [it], f.behind⟩, rfl, rfl, ⟨o60.same (by simp) rfl, hf0.h.app (Reps.one hit), hf0.v⟩, rfl, rfl⟩ ⟨rfl, rfl, rfl, rfl, trivial⟩ (fun w m => ?_)
     exact m.pick [1, 3, 4, 0] 5 rfl rfl
   ·refine CW.drawsA mixed ?_
    refine AW.one 0 (by kernel_rfl) (AO.alloc (l := [.bool false]) rfl rfl rfl rfl (fun b44 => ?_))
    refine AW.two 1 2 (by kernel_rfl) ?_ ?_
    ·refine AO.sv rfl (SV.store rfl rfl rfl rfl rfl (by simp)) ?_
     refine AW.one 2 (by kernel_rfl) (AO.sv rfl (SV.store rfl rfl rfl rfl rfl (by simp)) ?_)
     refine AW.one 3 (by kernel_rfl) (AO.rv rfl (RV.load (v := .bool false) rfl (List.Mem.head _) rfl rfl rfl rfl) rfl ?_)
     refine AW.nil (by kernel_rfl) ?_
     exact QW.join ⟨false, rfl, rfl⟩ ⟨rfl, rfl, rfl, rfl, rfl, trivial⟩ (fun w m => m.tail)
    ·refine AO.sv rfl (SV.store rfl rfl rfl rfl rfl (by simp)) ?_
     refine AW.one 1 (by kernel_rfl) (AO.sv rfl (SV.store rfl rfl rfl rfl rfl (by simp)) ?_)
     refine AW.one 3 (by kernel_rfl) (AO.rv rfl (RV.load (v := .bool true) rfl (List.Mem.head _) rfl rfl rfl rfl) rfl ?_)
     refine AW.nil (by kernel_rfl) ?_
     exact QW.join ⟨true, rfl, rfl⟩ ⟨rfl, rfl, rfl, rfl, rfl, trivial⟩ (fun w m => m.tail)
theorem dec_w1 (w0 : World) (Φ : Ctx) (N : List Ent) (hΦ : ∀ w, Mem w0 w N → Φ w) (res0 : It) (res1 : Nat) (k m : Nat) (hkm : k ≤ m) (L : Slots) (M : List Ent) (h : JD w0 Φ N res0 res1 1 k L M) :
  CW Tryd.prog 105 (JumpJ 105 w0 (JD w0 Φ N res0 res1) m (DecQ w0 Φ N res0 res1)) w0 (afterL (scopeOf Tryd.f66.body) 1) L M := by
 obtain ⟨b, A, c, F, B, ob4, c4, r4, b5, cs5, b2, it, hf, -, vb, hF, o4, h5, rfl, rfl⟩ := h
 rcases k with _ | k
 ·rw [dec] at hf; cases hf
 replace hf : dec (k + 1) 1 b it _ = _ := hf
 rw [dec_1] at hf
 have m1 := vb.mx
 have m2 := o4.mx
 obtain ⟨⟨x1, x2, x3, x4⟩, hx, hf⟩ := some_bind hf
 dsimp only at hf
 refine CW.seq (CW.seq (CW.region ?_))
 refine OW.rv (RV.move rfl) rfl ?_
 refine OW.callG Tryd.call92 rfl (rlp_cut_does w0 (More w0 Φ B) _ (fun w m => More.low hΦ [_, _, _] _ m) A c b x1 x2 x3 x4 vb hx) rfl rfl ?_
 rintro L3 M3 ⟨B3, Ar1, kr1, Ar2, kr2, v1, v2, bx, e1, e2⟩
 rw [e1, e2]
 clear e1 e2 L3 M3
 refine OW.mem (M' := ((ob4, blk (stC F ++ r4) 141) :: (some b5, blk cs5 89) :: (some b2, blk Zc 89) :: (F.map (Frm.ent 89) ++ ((B3 ++ B) ++ N)))) (fun w m => Mem.deep [_, _, _] _ m) ?_
 replace v1 := v1.mono (Ψ := More w0 Φ (B3 ++ B)) (fun w q => More.flat q)
 replace v2 := v2.mono (Ψ := More w0 Φ (B3 ++ B)) (fun w q => More.flat q)
 replace hF : ∀ f ∈ F, f.Ok (More w0 Φ (B3 ++ B)) := fun f hf => (hF f hf).mono (fun w q => More.mono (fun w m => m.appR) q)
 have m3 := v1.mx
 have m4 := v2.mx
 refine OW.rv (RV.move rfl) rfl ?_
 refine OW.rv (RV.extract rfl rfl) rfl ?_
 refine OW.rv (RV.extract rfl rfl) rfl ?_
 refine OW.rv (RV.extract rfl rfl) rfl ?_
 refine OW.rv (RV.extract rfl rfl) rfl ?_
 refine OW.rv (RV.assign rfl) rfl ?_
 refine OW.rv (RV.assign rfl) rfl ?_
 refine OW.rv (RV.assign rfl) rfl ?_
 refine OW.rv (RV.assign rfl) rfl ?_
 refine OW.nil (QW.then_n (CW.seq (CW.region ?_)))
 refine OW.rv (RV.move rfl) rfl ?_
 refine OW.rv (RV.neq rfl rfl) rfl ?_
 refine OW.slot (.bool (!decide (x4 = 0))) (congrArg (fun b => Value.bool (!b)) (decide_eq_decide.2 (by omega))) ?_
 refine OW.nil (QW.then_n ?_)
 by_cases h4 : x4 = 0
 ·replace hf := if_t hf h4
  refine CW.is_f rfl (congrArg (fun b => !b) (decide_eq_true h4)) ?_
  refine CW.skip (QW.then_n (CW.seq (CW.seq (CW.region ?_))))
  refine OW.rv (RV.move rfl) rfl ?_
  refine OW.rv (RV.not rfl) rfl ?_
  refine OW.nil (QW.then_n ?_)
  by_cases h1 : x1 = true
  ·replace hf := if_t hf h1
   refine CW.is_f rfl (congrArg (fun b => !b) h1) ?_
   refine CW.skip (QW.then_n (CW.seq (CW.seq (CW.region ?_))))
   refine OW.rv (RV.move rfl) rfl ?_
   refine OW.rv (RV.len rfl rfl) rfl ?_
   refine OW.rv (RV.eql rfl rfl) rfl ?_
   refine OW.slot (.bool (decide ((F.map Frm.pure).length = 1024))) (congrArg Value.bool (decide_eq_decide.2 (by rw [List.length_map]; omega))) ?_
   refine OW.nil (QW.then_n ?_)
   by_cases h2 : (F.map Frm.pure).length = 1024
   ·replace hf := if_t hf h2
    refine CW.is_t rfl (decide_eq_true h2) ?_
    refine CW.seq (CW.region ?_)
    refine OW.rv (RV.assign rfl) rfl ?_
    refine OW.nil (QW.then_n ?_)
    refine CW.goto ?_
    refine QW.then_g ?_
    obtain ⟨e0, e1⟩ := Prod.mk.inj (Option.some.inj hf)
    subst e1
    exact QW.jump (k := 0) (l := 0) (by omega) ⟨b2, e0.symm, (by omega), rfl, rfl⟩ ⟨rfl, rfl, trivial⟩ (fun w m => toBroken m)
   ·replace hf := if_f hf h2
    refine CW.is_f rfl (decide_eq_false h2) ?_
    refine CW.skip (QW.then_n ?_)
    obtain ⟨hg, hf⟩ := some_if hf
    rw [List.length_map] at hg
    refine CW.seq (CW.region ?_)
    refine OW.rv (RV.move rfl) rfl ?_
    refine OW.rv (RV.move rfl) rfl ?_
    refine OW.rv (RV.buildSt (l := [.slice none 0 0, .slice none 0 0]) (cs := [.slice none 0 0, .slice Ar2 x3.length kr2]) [(1, [.slice Ar2 x3.length kr2])] rfl rfl rfl rfl rfl rfl rfl) rfl ?_
    refine OW.ofN (NV.bsA rfl rfl (by intro x hx; simp at hx; subst hx; rfl) rfl rfl rfl (by decide) (by decide) rfl) rfl (fun b33 => ?_)
    refine OW.mem (M' := ((ob4, blk (stC F ++ r4) 141) :: (some b33, blk ([.slice none 0 0, .slice Ar2 x3.length kr2] ++ []) 141) :: (some b5, blk cs5 89) :: (some b2, blk Zc 89) :: (F.map (Frm.ent 89) ++ ((B3 ++ B) ++ N)))) (fun w m => m.pick [1, 0, 2, 3] 4 rfl rfl) ?_
    refine OW.appendOwn (s := 2) rfl rfl rfl rfl rfl rfl o4 (fun w m => m.rd0 (List.Mem.tail _ (List.Mem.head _)) (fun e => nomatch e)) rfl (by intro u hu; simp at hu; rcases hu with rfl | rfl <;> rfl) (fun e => nomatch e) (by decide) (by decide) hg rfl rfl (((⟨none, 0, [], [], Ar2, kr2, [], x3⟩ : Frm) :: F).length) (stC ((⟨none, 0, [], [], Ar2, kr2, [], x3⟩ : Frm) :: F)) (by simp) rfl (fun ob34 r34 c34 o34 => ?_)
    refine OW.rv (RV.assign rfl) rfl ?_
    refine OW.nil (QW.then_n (CW.seq (CW.region ?_)))
    refine OW.rv (RV.move rfl) rfl ?_
    refine OW.rv (RV.assign rfl) rfl ?_
    refine OW.nil (QW.then_n (CW.seq (CW.region ?_)))
    refine OW.rv (RV.buildSt (l := Zc) (cs := [.bool true, .slice none 0 0, .slice none 0 0]) [(0, [.bool true])] rfl rfl rfl rfl rfl rfl rfl) rfl ?_
    refine OW.rot2 ?_
    refine OW.sv (SV.storeW rfl rfl rfl (by intro u hu; simp at hu; rcases hu with rfl | rfl | rfl <;> rfl) rfl h5 rfl) ?_
    refine OW.nil (QW.then_n (CW.seq ?_))
    refine CW.goto ?_
    refine QW.then_g ?_
    refine QW.jump (k := k) (l := 3) (by omega) ⟨x2, Ar1, kr1, ⟨none, 0, [], [], Ar2, kr2, [], x3⟩ :: F, B3 ++ B, ob34, c34, r34, b5, [.bool true, .slice none 0 0, .slice none 0 0], b2, It.zero, hf, (fun e => absurd e (by decide)), v1, ?_, o34, rfl, rfl, rfl⟩ ⟨rfl, rfl, rfl, rfl, trivial⟩ (fun w m => ?_)
    ·intro x hx
     rcases List.mem_cons.1 hx with rfl | hx
     ·exact ⟨OwnS.nil, Reps.nil, v2⟩
     ·exact hF x hx
    ·have m := m.nil_ent (blk ([] ++ []) 89)
     exact m.pick [2, 1, 4, 0] 5 rfl rfl
  ·replace hf := if_f hf h1
   refine CW.is_t rfl (congrArg (fun b => !b) (Bool.eq_false_iff.2 h1)) ?_
   obtain ⟨x, hx5, hf⟩ := some_bind hf
   refine CW.seq (CW.region ?_)
   refine OW.rv (RV.move rfl) rfl ?_
   refine OW.callG Tryd.call60 rfl (rlp_Text_does w0 (More w0 Φ (B3 ++ B)) _ (fun w m => More.low hΦ [_, _, _] _ m) Ar1 kr1 x2 x v1 hx5) rfl rfl ?_
   rintro L3 M3 ⟨B4, cr, hr, e1, e2⟩
   rw [e1, e2]
   clear e1 e2 L3 M3
   refine OW.mem (M' := ((ob4, blk (stC F ++ r4) 141) :: (some b5, blk cs5 89) :: (some b2, blk Zc 89) :: (F.map (Frm.ent 89) ++ ((B4 ++ (B3 ++ B)) ++ N)))) (fun w m => Mem.deep [_, _, _] _ m) ?_
   replace hr := ItRd.mono (Ψ := More w0 Φ (B4 ++ (B3 ++ B))) (fun w q => More.flat q) _ _ hr
   replace v2 := v2.mono (Ψ := More w0 Φ (B4 ++ (B3 ++ B))) (fun w q => More.mono (fun w m => m.appR) q)
   replace hF : ∀ f ∈ F, f.Ok (More w0 Φ (B4 ++ (B3 ++ B))) := fun f hf => (hF f hf).mono (fun w q => More.mono (fun w m => m.appR) q)
   have hl := ItRd.len _ _ hr
   have h1c := ItRd.one _ _ hr
   refine OW.rot1 ?_
   refine OW.sv (SV.storeW rfl rfl rfl h1c rfl h5 hl) ?_
   refine OW.nil (QW.then_n (CW.seq (CW.region ?_)))
   refine OW.rv (RV.move rfl) rfl ?_
   refine OW.rv (RV.assign rfl) rfl ?_
   refine OW.nil (QW.then_n ?_)
   refine CW.goto ?_
   refine QW.then_g ?_
   exact QW.jump (k := k) (l := 2) (by omega) ⟨x3, Ar2, kr2, F, B4 ++ (B3 ++ B), ob4, c4, r4, b5, cr, b2, x, hf, (fun _ => hr), v2, hF, o4, hl, rfl, rfl⟩ ⟨rfl, rfl, rfl, rfl, trivial⟩ (fun w m => m.pick [1, 0] 2 rfl rfl)
 ·replace hf := if_f hf h4
  refine CW.is_t rfl (congrArg (fun b => !b) (decide_eq_false h4)) ?_
  refine CW.goto ?_
  refine QW.then_g ?_
  obtain ⟨e0, e1⟩ := Prod.mk.inj (Option.some.inj hf)
  subst e1
  exact QW.jump (k := 0) (l := 0) (by omega) ⟨b2, e0.symm, bx, rfl, rfl⟩ ⟨rfl, rfl, trivial⟩ (fun w m => toBroken m)
theorem rlp_Decode_does (w0 : World) (Φ : Ctx) (N : List Ent) (hΦ : ∀ w, Mem w0 w N → Φ w) (A0_ : Option Addr) (c0_ : Nat) (a0 : List (BitVec 8)) (res0 : It) (res1 : Nat) (va0 : View Φ A0_ a0.length c0_ 1 (u8s a0)) (hf : rlp_Decode a0 = some (res0, res1)) : DoesG Tryd.prog 66 [.slice A0_ a0.length c0_] w0 [] N (fun v G => ∃ B : List Ent, ∃ cr0 : List Value, (ItRd (More w0 Φ B) cr0 res0) ∧ (res1 ≤ 9223372036854775807) ∧ v = .tuple #[.agg cr0.toArray, .int .i64 ((res1 : Nat) : Int)] ∧ G = B) := by
 unfold rlp_Decode at hf
 have m1 := va0.mx
 refine DoesG.enter Tryd.func66 rfl Tryd.ntmps66 rfl (M := N) rfl ?_
 refine CW.seq (CW.region ?_)
 refine OW.alloc (l := Zc) rfl rfl rfl (fun b2 => ?_)
 refine OW.rv (RV.assign rfl) rfl ?_
 refine OW.nil (QW.then_n ?_)
 refine CW.scopeJ (JD w0 Φ N res0 res1) (4 * a0.length + 9) ?_ ?_
 ·refine CW.seq (CW.region ?_)
  refine OW.rv (RV.assign rfl) rfl ?_
  refine OW.nil (QW.then_n (CW.seq (CW.region ?_)))
  refine OW.alloc (l := Zc) rfl rfl rfl (fun b5 => ?_)
  refine OW.nil (QW.then_n (CW.seq (CW.region ?_)))
  refine OW.rv (RV.assign rfl) rfl ?_
  refine OW.nil (QW.then_n (CW.seq (CW.region ?_)))
  refine OW.rv (RV.assign rfl) rfl ?_
  refine OW.rv (RV.assign rfl) rfl ?_
  refine OW.nil (QW.then_n (CW.seq (CW.region ?_)))
  refine OW.rv (RV.assign rfl) rfl ?_
  refine OW.nil (QW.then_n (CW.seq (CW.seq (CW.region ?_))))
  refine OW.rv (RV.move rfl) rfl ?_
  refine OW.rv (RV.len rfl rfl) rfl ?_
  refine OW.rv (RV.gtr rfl rfl) rfl ?_
  refine OW.slot (.bool (decide (16777216 < a0.length))) (congrArg Value.bool (decide_eq_decide.2 (by omega))) ?_
  refine OW.nil (QW.then_n ?_)
  by_cases h1 : 16777216 < a0.length
  ·replace hf := if_t hf h1
   refine CW.is_t rfl (decide_eq_true h1) ?_
   refine CW.goto ?_
   refine QW.then_g ?_
   obtain ⟨e0, e1⟩ := Prod.mk.inj (Option.some.inj hf)
   subst e1
   exact QW.jump (k := 0) (l := 0) (by omega) ⟨b2, e0.symm, (by omega), rfl, rfl⟩ ⟨rfl, rfl, trivial⟩ (fun w m => m.tail)
  ·replace hf := if_f hf h1
   refine CW.is_f rfl (decide_eq_false h1) ?_
   refine CW.skip (QW.then_n (CW.seq ?_))
   refine CW.label ?_
   refine QW.then_n ?_
   refine CW.mem (M' := ((none, blk ([] ++ []) 141) :: (some b5, blk Zc 89) :: (some b2, blk Zc 89) :: N)) (fun w m => m.nil_ent _) ?_
   refine CW.sub (L' := [(0, .slice A0_ a0.length c0_), (2, ptr (some b2) 0), (4, sl none 0 0 0), (5, ptr (some b5) 0)]) ⟨rfl, rfl, rfl, rfl, trivial⟩ ?_
   exact dec_w1 w0 Φ N hΦ res0 res1 (4 * a0.length + 8) _ (by omega) _ _ ⟨a0, A0_, c0_, [], [], none, 0, [], b5, Zc, b2, It.zero, hf, (fun e => absurd e (by decide)), va0.mono (fun w q => q.1), (fun f hf => nomatch hf), OwnS.nil, rfl, rfl, rfl⟩
 ·intro l k L M h
  match l, h with
  | 0, ⟨b2, e0, hb, e1, e2⟩ =>
   subst e0
   subst e1
   subst e2
   refine ⟨_, rfl, ?_⟩
   refine CW.seq (CW.skip (QW.then_n (CW.seq (CW.region ?_))))
   refine OW.rv (RV.buildSt (l := Zc) (cs := Zc) [] rfl rfl rfl rfl rfl rfl rfl) rfl ?_
   refine OW.rv (RV.move rfl) rfl ?_
   refine OW.sv (SV.storeW rfl rfl rfl (by intro u hu; simp at hu; rcases hu with rfl | rfl | rfl <;> rfl) rfl rfl rfl) ?_
   refine OW.rv (RV.assign rfl) rfl ?_
   refine OW.nil (QW.then_n (CW.ret ?_))
   refine QW.jump_r ?_
   have v0 : View (More w0 Φ []) none ([] : List (BitVec 8)).length 0 1 (u8s []) := View.nil
   have v1 : View (More w0 Φ []) none ([] : List (It)).length 0 3 [] := View.nil
   refine QW.retG (rs := [.cell 2 89, .tmp 3]) ([.agg Zc.toArray, .int .i64 ((res1 : Nat) : Int)]) [] rfl ?_ rfl ?_ ?_ _ (.inl rfl)
   ·exact ⟨⟨_, _, _, _, rfl, (List.Mem.head _), rfl, rfl, rfl, rfl⟩, rfl, trivial⟩
   ·exact ⟨[], Zc, (ItRd.mk v0 v1 (Reps.nil)), hb, rfl, rfl⟩
   ·exact (fun w m => m.tail)
  | 1, h =>
   refine ⟨_, rfl, ?_⟩
   refine CW.seq (CW.skip (QW.then_n ?_))
   exact dec_w1 w0 Φ N hΦ res0 res1 k k (Nat.le_refl _) L M h
  | 2, h =>
   refine ⟨_, rfl, ?_⟩
   refine CW.seq (CW.skip (QW.then_n ?_))
   exact dec_w2 w0 Φ N hΦ res0 res1 k k (Nat.le_refl _) L M h
  | 3, h =>
   refine ⟨_, rfl, ?_⟩
   refine CW.seq (CW.skip (QW.then_n ?_))
   exact dec_w3 w0 Φ N hΦ res0 res1 k k (Nat.le_refl _) L M h
  | l + 4, ⟨b, A, c, F, B, ob4, c4, r4, b5, cs5, b2, it, hf, _⟩ =>
   rcases k with _ | k
   ·rw [dec] at hf; cases hf
   ·exact absurd hf (by simp [dec])
theorem rsmall_does (w0 : World) (Φ : Ctx) (N : List Ent) (hΦ : ∀ w, Mem w0 w N → Φ w) (br b off : Nat) (l : List Value) (te : TypeId) (rd r2 : Rdr) (cs : List Value) (it : It) (old v : BitVec 64) (hit : ItRd Φ cs it) (hold : l[off]? = some (U64 old)) (hf : rsmall rd old it = some (v, r2)) :
  DoesG Tryd.prog 69 [ptr (some br) 0, ptr (some b) off, .agg cs.toArray] w0 [(some br, blk rd.C 109), (some b, blk l te)] N (fun u G => ∃ B, u = .tuple #[] ∧ G = (some br, blk r2.C 109) :: (some b, blk (l.set off (U64 v)) te) :: B) := by
 have hlt : off < l.length := (List.getElem?_eq_some_iff.1 hold).1
 have hcl : cs.length = 3 := ItRd.len _ _ hit
 unfold rsmall at hf
 refine DoesG.enter Tryd.func69 rfl Tryd.ntmps69 rfl (M := (some br, blk rd.C 109) :: (some b, blk l te) :: N) rfl ?_
 refine CW.seq (CW.region ?_)
 refine OW.boxA rfl rfl (fun b5 => ?_)
 refine OW.nil ?_
 (refine QW.then_n ?_; refine CW.seq ?_; refine CW.seq ?_)
 refine CW.region ?_
 refine OW.rv (RV.move rfl) rfl ?_
 refine OW.rv (RV.nilCheck rfl) rfl ?_
 refine OW.rv (RV.field rfl rfl rfl rfl) rfl ?_
 refine OW.rv (RV.load rfl (by (refine List.Mem.tail _ ?_; exact List.Mem.head _); done) rfl rfl rfl rfl) rfl ?_
 refine OW.rv (RV.neq rfl rfl) rfl ?_
 refine OW.nil (QW.then_n ?_)
 refine CW.cond_np rfl (fun he => ?_) (fun he => ?_)
 ·rw [if_neg he] at hf
  obtain ⟨rfl, rfl⟩ := Prod.mk.inj (Option.some.inj hf)
  (refine CW.ret ?_; refine QW.then_r ?_)
  refine QW.retG (rs := []) [] ((some br, blk rd.C 109) :: (some b, blk (l.set off (U64 old)) te) :: [(some b5, blk cs 89)]) rfl trivial rfl ⟨_, rfl, rfl⟩ (fun w m => ?_) _ (.inl rfl)
  rw [set_here hold]
  exact m.pick [1, 2, 0] 3 rfl rfl
 ·rw [if_pos he] at hf
  obtain ⟨⟨p1, p2⟩, hp, hf⟩ := Option.bind_eq_some_iff.1 hf
  dsimp only at hf
  (refine CW.skip ?_; refine QW.then_n ?_; refine CW.seq ?_)
  refine CW.region ?_
  refine OW.rv (RV.loadW rfl (List.Mem.head _) rfl rfl rfl rfl hcl) rfl ?_
  refine OW.callG Tryd.call96 rfl (rlp_GetSmall_does w0 Φ ((some b5, blk cs 89) :: (some br, blk rd.C 109) :: (some b, blk l te) :: N) (fun w m => hΦ w (m.drop 3)) cs it p1 p2 hit hp) rfl rfl ?_; rintro _ G1 ⟨hb, rfl⟩; refine OW.mem (M' := (some br, blk rd.C 109) :: (some b, blk l te) :: N) (fun w m => (m.appR).tail) ?_
  refine OW.rv (RV.move rfl) rfl ?_
  refine OW.rv (RV.extract rfl rfl) rfl ?_
  refine OW.rv (RV.extract rfl rfl) rfl ?_
  refine OW.rv (RV.assign rfl) rfl ?_
  refine OW.rv (RV.assign rfl) rfl ?_
  refine OW.nil ?_
  (refine QW.then_n ?_; refine CW.seq ?_; refine CW.seq ?_)
  refine CW.region ?_
  refine OW.rv (RV.move rfl) rfl ?_
  refine OW.rv (RV.neq rfl rfl) rfl ?_
  refine OW.nil (QW.then_n ?_)
  refine CW.cond_np rfl (fun h2 => ?_) (fun h2 => ?_)
  ·rw [if_neg (by omega)] at hf
   obtain ⟨q, hq, hf⟩ := Option.bind_eq_some_iff.1 hf
   obtain ⟨rfl, rfl⟩ := Prod.mk.inj (Option.some.inj hf)
   refine CW.region ?_
   refine OW.rv (RV.move rfl) rfl ?_
   refine OW.callG Tryd.call95 rfl (waybill_receipt_reader_refuse_does w0 Φ ((some b, blk l te) :: N) (fun w m => hΦ w (m.drop 1)) br rd 172 q (by omega) hq) rfl rfl ?_; rintro _ _ ⟨B, rfl, rfl⟩; refine OW.mem (M' := (some b, blk l te) :: (some br, blk q.C 109) :: (B ++ N)) (fun w m => m.sk1.rot1) ?_
   refine OW.nil (QW.then_n (CW.region ?_))
   refine OW.rv (RV.move rfl) rfl ?_
   refine OW.rv (RV.move rfl) rfl ?_
   refine OW.rv (RV.nilCheck rfl) rfl ?_
   refine OW.sv (SV.store rfl rfl rfl rfl rfl (by assumption)) ?_
   refine OW.nil ?_
   refine QW.retG (rs := []) [] ((some br, blk q.C 109) :: (some b, blk (l.set off (U64 p1)) te) :: B) rfl trivial rfl ⟨_, rfl, rfl⟩ (fun w m => m.rot1) _ (.inr rfl)
  ·rw [if_pos (by omega)] at hf
   obtain ⟨rfl, rfl⟩ := Prod.mk.inj (Option.some.inj hf)
   (refine CW.skip ?_; refine QW.then_n ?_)
   refine CW.mem (M' := (some b, blk l te) :: (some br, blk rd.C 109) :: N) (fun w m => m.rot1) ?_
   refine CW.region ?_
   refine OW.rv (RV.move rfl) rfl ?_
   refine OW.rv (RV.move rfl) rfl ?_
   refine OW.rv (RV.nilCheck rfl) rfl ?_
   refine OW.sv (SV.store rfl rfl rfl rfl rfl (by assumption)) ?_
   refine OW.nil ?_
   refine QW.retG (rs := []) [] ((some br, blk rd.C 109) :: (some b, blk (l.set off (U64 p1)) te) :: []) rfl trivial rfl ⟨_, rfl, rfl⟩ (fun w m => m.rot1) _ (.inr rfl)
theorem rbloom_does (w0 : World) (Φ : Ctx) (N : List Ent) (hΦ : ∀ w, Mem w0 w N → Φ w) (br b off : Nat) (l : List Value) (te : TypeId) (rd r2 : Rdr) (cs : List Value) (it : It) (old v : Vector (BitVec 8) 256) (hit : ItRd Φ cs it) (hold : ∀ k u, (u8s old.toList)[k]? = some u → l[off + k]? = some u) (hlen : off + 256 ≤ l.length) (hf : rbloom rd old it = some (v, r2)) :
  DoesG Tryd.prog 70 [ptr (some br) 0, ptr (some b) off, .agg cs.toArray] w0 [(some br, blk rd.C 109), (some b, blk l te)] N (fun u G => ∃ B, u = .tuple #[] ∧ G = (some br, blk r2.C 109) :: (some b, blk (spl l off (u8s v.toList)) te) :: B) := by
 have hcl : cs.length = 3 := ItRd.len _ _ hit
 unfold rbloom at hf
 obtain ⟨⟨p1, p2⟩, hp, hf⟩ := Option.bind_eq_some_iff.1 hf
 dsimp only at hf
 refine DoesG.enter Tryd.func70 rfl Tryd.ntmps70 rfl (M := (some br, blk rd.C 109) :: (some b, blk l te) :: N) rfl ?_
 refine CW.seq (CW.region ?_)
 refine OW.boxA rfl rfl (fun b5 => ?_)
 refine OW.nil ?_
 (refine QW.then_n ?_; refine CW.seq ?_)
 refine CW.region ?_
 refine OW.rv (RV.move rfl) rfl ?_
 refine OW.rv (RV.loadW rfl (List.Mem.head _) rfl rfl rfl rfl hcl) rfl ?_
 refine OW.rot1 ?_; refine OW.callG Tryd.call94 rfl (waybill_receipt_reader_text_does w0 Φ ((some b5, blk cs 89) :: (some b, blk l te) :: N) (fun w m => hΦ w (m.drop 2)) br rd cs it 256 p1 p2 hit (by omega) hp) rfl rfl ?_; rintro _ _ ⟨B, ob, c, r, o, rfl, rfl⟩; refine OW.mem (M' := (some b, blk l te) :: (ob, blk (u8s p1 ++ r) 5) :: (some br, blk p2.C 109) :: (B ++ N)) (fun w m => (m.sk2.sk3).pick [3, 0, 1] 4 rfl rfl) ?_
 refine OW.rv (RV.assign rfl) rfl ?_
 refine OW.nil ?_
 (refine QW.then_n ?_; refine CW.seq ?_)
 have hv := o.view (te := 5) (w0 := w0) (Ψ := fun w => Mem w0 w [(ob, blk (u8s p1 ++ r) 5)]) (by decide) (fun w q => q)
 refine CW.region ?_
 refine OW.rv (RV.move rfl) rfl ?_
 refine OW.rv (RV.nilCheck rfl) rfl ?_
 refine OW.rv (RV.field rfl rfl rfl rfl) rfl ?_
 refine OW.rv (RV.load rfl (by (refine List.Mem.tail _ ?_; refine List.Mem.tail _ ?_; exact List.Mem.head _); done) rfl rfl rfl rfl) rfl ?_
 refine OW.rv (RV.eql rfl rfl) rfl ?_
 refine OW.nil (QW.then_n ?_)
 refine CW.cond_p rfl (fun he => ?_) (fun he => ?_)
 ·rw [if_pos he] at hf
  obtain ⟨x, hx, hf⟩ := Option.bind_eq_some_iff.1 hf
  obtain ⟨rfl, rfl⟩ := Prod.mk.inj (Option.some.inj hf)
  have hxl := (toVec_list hx).2
  refine CW.region ?_
  refine OW.rv (RV.move rfl) rfl ?_
  refine OW.rv (RV.move rfl) rfl ?_
  refine OW.rv (RV.s2a (k := 256) rfl rfl (hv.isSome (by decide) (i := 0) (by omega)) (by omega)) rfl ?_
  refine OW.rv (RV.loadAs rfl rfl rfl rfl (fun w m => hv.vec8 hx (m.pick [1] 2 rfl rfl).appL) ((u8s_length _).trans Vector.length_toList)) rfl ?_
  refine OW.rv (RV.nilCheck rfl) rfl ?_
  refine OW.sv (SV.storeAs rfl rfl rfl (u8s_one _) rfl ((u8s_length _).trans Vector.length_toList) hlen) ?_
  refine OW.nil ?_
  refine QW.retG (rs := []) [] ((some br, blk p2.C 109) :: (some b, blk (spl l off (u8s x.toList)) te) :: B) rfl trivial rfl ⟨_, rfl, rfl⟩ (fun w m => m.pick [2, 0] 3 rfl rfl) _ (.inr rfl)
 ·rw [if_neg he] at hf
  obtain ⟨rfl, rfl⟩ := Prod.mk.inj (Option.some.inj hf)
  refine CW.skip ?_
  refine QW.retG (rs := []) [] ((some br, blk p2.C 109) :: (some b, blk (spl l off (u8s old.toList)) te) :: B) rfl trivial rfl ⟨_, rfl, rfl⟩ (fun w m => ?_) _ (.inr rfl)
  rw [spl_here hold (by rw [u8s_length, Vector.length_toList]; exact hlen)]
  exact m.pick [2, 0] 3 rfl rfl
theorem routcome_does (w0 : World) (Φ : Ctx) (N : List Ent) (hΦ : ∀ w, Mem w0 w N → Φ w) (br b : Nat) (o o2 : RcptC) (rd r2 : Rdr) (cs : List Value) (it : It) (hit : ItRd Φ cs it) (hk : -9223372036854775808 ≤ o.kind ∧ o.kind ≤ 9223372036854775807) (hf : routcome rd o it = some (o2, r2)) :
  DoesG Tryd.prog 68 [ptr (some br) 0, ptr (some b) 0, .agg cs.toArray] w0 [(some br, blk rd.C 109), (some b, blk o.C 30)] N (fun u G => ∃ B, u = .tuple #[] ∧ G = (some br, blk r2.C 109) :: (some b, blk o2.C 30) :: B) := by
 have hcl : cs.length = 3 := ItRd.len _ _ hit
 unfold routcome at hf
 obtain ⟨⟨p1, p2⟩, hp, hf⟩ := Option.bind_eq_some_iff.1 hf
 dsimp only at hf
 refine DoesG.enter Tryd.func68 rfl Tryd.ntmps68 rfl (M := (some br, blk rd.C 109) :: (some b, blk o.C 30) :: N) rfl ?_
 refine CW.seq (CW.region ?_)
 refine OW.boxA rfl rfl (fun b5 => ?_)
 refine OW.nil ?_
 (refine QW.then_n ?_; refine CW.seq ?_)
 refine CW.region ?_
 refine OW.rv (RV.move rfl) rfl ?_
 refine OW.rv (RV.loadW rfl (List.Mem.head _) rfl rfl rfl rfl hcl) rfl ?_
 refine OW.rot1 ?_; refine OW.callG Tryd.call94 rfl (waybill_receipt_reader_text_does w0 Φ ((some b5, blk cs 89) :: (some b, blk o.C 30) :: N) (fun w m => hΦ w (m.drop 2)) br rd cs it (-1) p1 p2 hit (by omega) hp) rfl rfl ?_; rintro _ _ ⟨B, ob, c, r, ow, rfl, rfl⟩; refine OW.mem (M' := (some b, blk o.C 30) :: (ob, blk (u8s p1 ++ r) 5) :: (some br, blk p2.C 109) :: (B ++ N)) (fun w m => (m.sk2.sk3).pick [3, 0, 1] 4 rfl rfl) ?_
 refine OW.rv (RV.assign rfl) rfl ?_
 refine OW.nil ?_
 (refine QW.then_n ?_; refine CW.block ?_; refine CW.seq ?_)
 have hv := ow.view (te := 5) (w0 := w0) (Ψ := fun w => Mem w0 w [(ob, blk (u8s p1 ++ r) 5)]) (by decide) (fun w q => q)
 have hm := ow.mx
 refine CW.region ?_
 refine OW.rv (RV.move rfl) rfl ?_
 refine OW.rv (RV.nilCheck rfl) rfl ?_
 refine OW.rv (RV.field rfl rfl rfl rfl) rfl ?_
 refine OW.rv (RV.load rfl (by (refine List.Mem.tail _ ?_; refine List.Mem.tail _ ?_; exact List.Mem.head _); done) rfl rfl rfl rfl) rfl ?_
 refine OW.rv (RV.neq rfl rfl) rfl ?_
 refine OW.rv (RV.assign rfl) rfl ?_
 refine OW.nil (QW.then_n ?_)
 refine CW.cond_np rfl (fun he => ?_) (fun he => ?_)
 ·rw [if_neg he] at hf
  obtain ⟨rfl, rfl⟩ := Prod.mk.inj (Option.some.inj hf)
  (refine CW.skip ?_; refine QW.block_n ?_)
  refine QW.retG (rs := []) [] ((some br, blk p2.C 109) :: (some b, blk o.C 30) :: B) rfl trivial rfl ⟨_, rfl, rfl⟩ (fun w m => m.pick [2, 0] 3 rfl rfl) _ (.inr rfl)
 ·rw [if_pos he] at hf
  refine CW.seq (CW.region ?_)
  refine OW.rv (RV.move rfl) rfl ?_
  refine OW.rv (RV.len rfl rfl) rfl ?_
  refine OW.rv (RV.eql rfl rfl) rfl ?_
  refine OW.rv (RV.assign rfl) rfl ?_
  refine OW.nil (QW.then_n ?_)
  refine CW.cond_p rfl (fun h0 => ?_) (fun h0 => ?_)
  ·rw [if_pos (by omega)] at hf
   obtain ⟨rfl, rfl⟩ := Prod.mk.inj (Option.some.inj hf)
   (refine CW.skip ?_; refine QW.block_n ?_)
   refine QW.retG (rs := []) [] ((some br, blk p2.C 109) :: (some b, blk o.C 30) :: B) rfl trivial rfl ⟨_, rfl, rfl⟩ (fun w m => m.pick [2, 0] 3 rfl rfl) _ (.inr rfl)
  ·rw [if_neg (by omega)] at hf
   by_cases h1 : p1.length = 1
   ·rw [if_pos h1] at hf
    obtain ⟨x, hx, hf⟩ := Option.bind_eq_some_iff.1 hf
    refine CW.seq (CW.region ?_)
    refine OW.rv (RV.move rfl) rfl ?_
    refine OW.rv (RV.len rfl rfl) rfl ?_
    refine OW.rv (RV.eql_t rfl rfl (by omega)) rfl ?_
    refine OW.rv (RV.move rfl) rfl ?_
    refine OW.want rfl ?_; refine OW.rv (RV.move rfl) rfl ?_
    refine OW.want rfl ?_; refine OW.rv (RV.idx_r (0) rfl rfl rfl rfl rfl (hv.isSome (by decide) (i := 0) (by omega)) (by omega)) rfl ?_
    refine OW.want rfl ?_; refine OW.rv (RV.load_at rfl rfl rfl (fun w m => hv.cell (m.pick [1] 2 rfl rfl).appL (u8s_at hx))) rfl ?_
    refine OW.want rfl ?_; refine OW.rv (RV.eql8 rfl rfl rfl (lit8 _ rfl)) rfl ?_
    refine OW.rv (RV.pick_t rfl rfl rfl) rfl ?_
    refine OW.rv (RV.assign rfl) rfl ?_
    refine OW.nil (QW.then_n ?_)
    refine CW.cond_p rfl (fun h2 => ?_) (fun h2 => ?_)
    ·rw [if_pos h2] at hf
     obtain ⟨rfl, rfl⟩ := Prod.mk.inj (Option.some.inj hf)
     refine CW.region ?_
     refine OW.rv (RV.move rfl) rfl ?_
     refine OW.rv (RV.nilCheck rfl) rfl ?_
     refine OW.rv (RV.field rfl rfl rfl rfl) rfl ?_
     refine OW.sv (SV.store rfl rfl rfl rfl rfl (by rw [RcptC.C_length]; exact Nat.le_of_ble_eq_true rfl)) ?_; refine OW.cells ({ o with status := 1#64 } : RcptC).C (RcptC.C_status_set _ (1#64)) ?_
     refine OW.nil (QW.block_n ?_)
     refine QW.retG (rs := []) [] ((some br, blk p2.C 109) :: (some b, blk ({ o with status := 1#64 } : RcptC).C 30) :: B) rfl trivial rfl ⟨_, rfl, rfl⟩ (fun w m => m.pick [2, 0] 3 rfl rfl) _ (.inr rfl)
    ·rw [if_neg h2] at hf
     unfold rroot at hf
     rw [if_neg (by omega)] at hf
     refine CW.seq (CW.region ?_)
     refine OW.rv (RV.move rfl) rfl ?_
     refine OW.rv (RV.len rfl rfl) rfl ?_
     refine OW.rv (RV.eql_f rfl rfl (by omega)) rfl ?_
     refine OW.rv (RV.move rfl) rfl ?_
     refine OW.skip rfl rfl rfl ?_
     refine OW.skip rfl rfl rfl ?_
     refine OW.skip rfl rfl rfl ?_
     refine OW.skip rfl rfl rfl ?_
     refine OW.skip rfl rfl rfl ?_
     refine OW.rv (RV.pick_f rfl rfl rfl) rfl ?_
     refine OW.rv (RV.assign rfl) rfl ?_
     refine OW.nil (QW.then_n ?_)
     refine CW.cond_f rfl ?_
     obtain ⟨q, hq, hf⟩ := Option.bind_eq_some_iff.1 hf
     obtain ⟨rfl, rfl⟩ := Prod.mk.inj (Option.some.inj hf)
     refine CW.region ?_
     refine OW.rv (RV.move rfl) rfl ?_
     refine OW.mem (M' := (some br, blk p2.C 109) :: (some b, blk o.C 30) :: (B ++ N)) (fun w m => m.pick [2, 0] 3 rfl rfl) ?_; refine OW.callG Tryd.call95 rfl (waybill_receipt_reader_refuse_does w0 Φ ((some b, blk o.C 30) :: (B ++ N)) (fun w m => hΦ w (m.drop 1).appR) br p2 172 q (by omega) hq) rfl rfl ?_; rintro _ _ ⟨B2, rfl, rfl⟩
     refine OW.nil (QW.block_n ?_)
     refine QW.retG (rs := []) [] ((some br, blk q.C 109) :: (some b, blk o.C 30) :: (B2 ++ B)) rfl trivial rfl ⟨_, rfl, rfl⟩ (fun w m => by simpa only [List.append_assoc, List.cons_append] using m.sk1) _ (.inr rfl)
   ·rw [if_neg h1] at hf
    unfold rroot at hf
    refine CW.seq (CW.region ?_)
    refine OW.rv (RV.move rfl) rfl ?_
    refine OW.rv (RV.len rfl rfl) rfl ?_
    refine OW.rv (RV.eql_f rfl rfl (by omega)) rfl ?_
    refine OW.rv (RV.move rfl) rfl ?_
    refine OW.skip rfl rfl rfl ?_
    refine OW.skip rfl rfl rfl ?_
    refine OW.skip rfl rfl rfl ?_
    refine OW.skip rfl rfl rfl ?_
    refine OW.rv (RV.pick_f rfl rfl rfl) rfl ?_
    refine OW.rv (RV.assign rfl) rfl ?_
    refine OW.nil (QW.then_n ?_)
    refine CW.cond_f rfl ?_
    by_cases h3 : p1.length = 32
    ·refine CW.seq (CW.region ?_)
     refine OW.rv (RV.move rfl) rfl ?_
     refine OW.rv (RV.len rfl rfl) rfl ?_
     refine OW.rv (RV.eql_t rfl rfl (by omega)) rfl ?_
     refine OW.rv (RV.move rfl) rfl ?_
     refine OW.want rfl ?_; refine OW.rv (RV.move rfl) rfl ?_
     refine OW.want rfl ?_; refine OW.rv (RV.nilCheck rfl) rfl ?_
     refine OW.want rfl ?_; refine OW.rv (RV.field rfl rfl rfl rfl) rfl ?_
     refine OW.want rfl ?_; refine OW.rv (RV.load rfl (List.Mem.head _) rfl rfl rfl (RcptC.C_kind _)) rfl ?_
     refine OW.want rfl ?_; refine OW.rv (RV.eql rfl rfl) rfl ?_
     refine OW.rv (RV.pick_t rfl rfl rfl) rfl ?_
     refine OW.rv (RV.assign rfl) rfl ?_
     refine OW.nil (QW.then_n ?_)
     refine CW.cond_p rfl (fun h4 => ?_) (fun h4 => ?_)
     ·rw [if_pos ⟨h3, h4⟩] at hf
      obtain ⟨x, hx, hf⟩ := Option.bind_eq_some_iff.1 hf
      obtain ⟨rfl, rfl⟩ := Prod.mk.inj (Option.some.inj hf)
      have hxl := (toVec_list hx).2
      refine CW.region ?_
      refine OW.rv (RV.move rfl) rfl ?_
      refine OW.rv (RV.move rfl) rfl ?_
      refine OW.rv (RV.move rfl) rfl ?_
      refine OW.rv (RV.s2a (k := 32) rfl rfl (hv.isSome (by decide) (i := 0) (by omega)) (by omega)) rfl ?_
      refine OW.rv (RV.loadAs rfl rfl rfl rfl (fun w m => hv.vec8 hx (m.pick [1] 2 rfl rfl).appL) ((u8s_length _).trans Vector.length_toList)) rfl ?_
      refine OW.rv (RV.nilCheck rfl) rfl ?_
      refine OW.rv (RV.field rfl rfl rfl rfl) rfl ?_
      refine OW.sv (SV.store rfl rfl rfl rfl rfl (by rw [RcptC.C_length]; exact Nat.le_of_ble_eq_true rfl)) ?_; refine OW.cells ({ o with rooted := true } : RcptC).C (RcptC.C_rooted_set _ true) ?_
      refine OW.rv (RV.nilCheck rfl) rfl ?_
      refine OW.rv (RV.field rfl rfl rfl rfl) rfl ?_
      refine OW.sv (SV.storeAs rfl rfl rfl (u8s_one _) rfl ((u8s_length _).trans Vector.length_toList) (by rw [RcptC.C_length]; exact Nat.le_of_ble_eq_true rfl)) ?_; refine OW.cells ({ { o with rooted := true } with root := x } : RcptC).C (RcptC.C_root_spl _ _) ?_
      refine OW.nil (QW.block_n ?_)
      refine QW.retG (rs := []) [] ((some br, blk p2.C 109) :: (some b, blk ({ { o with rooted := true } with root := x } : RcptC).C 30) :: B) rfl trivial rfl ⟨_, rfl, rfl⟩ (fun w m => m.pick [2, 0] 3 rfl rfl) _ (.inr rfl)
     ·rw [if_neg (fun h => h4 h.2)] at hf
      obtain ⟨q, hq, hf⟩ := Option.bind_eq_some_iff.1 hf
      obtain ⟨rfl, rfl⟩ := Prod.mk.inj (Option.some.inj hf)
      refine CW.region ?_
      refine OW.rv (RV.move rfl) rfl ?_
      refine OW.mem (M' := (some br, blk p2.C 109) :: (some b, blk o.C 30) :: (B ++ N)) (fun w m => m.pick [2, 0] 3 rfl rfl) ?_; refine OW.callG Tryd.call95 rfl (waybill_receipt_reader_refuse_does w0 Φ ((some b, blk o.C 30) :: (B ++ N)) (fun w m => hΦ w (m.drop 1).appR) br p2 172 q (by omega) hq) rfl rfl ?_; rintro _ _ ⟨B2, rfl, rfl⟩
      refine OW.nil (QW.block_n ?_)
      refine QW.retG (rs := []) [] ((some br, blk q.C 109) :: (some b, blk o.C 30) :: (B2 ++ B)) rfl trivial rfl ⟨_, rfl, rfl⟩ (fun w m => by simpa only [List.append_assoc, List.cons_append] using m.sk1) _ (.inr rfl)
    ·rw [if_neg (fun h => h3 h.1)] at hf
     refine CW.seq (CW.region ?_)
     refine OW.rv (RV.move rfl) rfl ?_
     refine OW.rv (RV.len rfl rfl) rfl ?_
     refine OW.rv (RV.eql_f rfl rfl (by omega)) rfl ?_
     refine OW.rv (RV.move rfl) rfl ?_
     refine OW.skip rfl rfl rfl ?_
     refine OW.skip rfl rfl rfl ?_
     refine OW.skip rfl rfl rfl ?_
     refine OW.skip rfl rfl rfl ?_
     refine OW.skip rfl rfl rfl ?_
     refine OW.rv (RV.pick_f rfl rfl rfl) rfl ?_
     refine OW.rv (RV.assign rfl) rfl ?_
     refine OW.nil (QW.then_n ?_)
     refine CW.cond_f rfl ?_
     obtain ⟨q, hq, hf⟩ := Option.bind_eq_some_iff.1 hf
     obtain ⟨rfl, rfl⟩ := Prod.mk.inj (Option.some.inj hf)
     refine CW.region ?_
     refine OW.rv (RV.move rfl) rfl ?_
     refine OW.mem (M' := (some br, blk p2.C 109) :: (some b, blk o.C 30) :: (B ++ N)) (fun w m => m.pick [2, 0] 3 rfl rfl) ?_; refine OW.callG Tryd.call95 rfl (waybill_receipt_reader_refuse_does w0 Φ ((some b, blk o.C 30) :: (B ++ N)) (fun w m => hΦ w (m.drop 1).appR) br p2 172 q (by omega) hq) rfl rfl ?_; rintro _ _ ⟨B2, rfl, rfl⟩
     refine OW.nil (QW.block_n ?_)
     refine QW.retG (rs := []) [] ((some br, blk q.C 109) :: (some b, blk o.C 30) :: (B2 ++ B)) rfl trivial rfl ⟨_, rfl, rfl⟩ (fun w m => by simpa only [List.append_assoc, List.cons_append] using m.sk1) _ (.inr rfl)
theorem rtopics_does (w0 : World) (Φ : Ctx) (N : List Ent) (hΦ : ∀ w, Mem w0 w N → Φ w) (br b off : Nat) (l : List Value) (te : TypeId) (rd r2 : Rdr) (cs : List Value) (it : It) (ob : Option Nat) (c : Nat) (r : List Value) (ts ts2 : List (Vector (BitVec 8) 32)) (hit : ItRd Φ cs it) (ho : OwnS ob ts.length c 32 (hs32 ts) r) (hold : l[off]? = some (sl ob 0 ts.length c)) (hf : rtopics rd ts it = some (ts2, r2)) :
  DoesG Tryd.prog 123 [ptr (some br) 0, ptr (some b) off, .agg cs.toArray] w0 [(some br, blk rd.C 109), (ob, blk (hs32 ts ++ r) 24), (some b, blk l te)] N (fun u G => ∃ (B : List Ent) (ob' : Option Nat) (c' : Nat) (r' : List Value), OwnS ob' ts2.length c' 32 (hs32 ts2) r' ∧ u = .tuple #[] ∧ G = (some br, blk r2.C 109) :: (ob', blk (hs32 ts2 ++ r') 24) :: (some b, blk (l.set off (sl ob' 0 ts2.length c')) te) :: B) := by
 have hcl : cs.length = 3 := ItRd.len _ _ hit
 have hlt : off < l.length := (List.getElem?_eq_some_iff.1 hold).1
 unfold rtopics at hf
 obtain ⟨⟨p1, p2⟩, hp, hf⟩ := Option.bind_eq_some_iff.1 hf
 dsimp only at hf
 refine DoesG.enter Tryd.func123 rfl Tryd.ntmps123 rfl (M := (some br, blk rd.C 109) :: (ob, blk (hs32 ts ++ r) 24) :: (some b, blk l te) :: N) rfl ?_
 refine CW.seq (CW.region ?_)
 refine OW.boxA rfl rfl (fun b5 => ?_)
 refine OW.nil ?_
 (refine QW.then_n ?_; refine CW.seq ?_)
 refine CW.region ?_
 refine OW.rv (RV.move rfl) rfl ?_
 refine OW.rv (RV.loadW rfl (List.Mem.head _) rfl rfl rfl rfl hcl) rfl ?_
 refine OW.rot1 ?_; refine OW.callG Tryd.call97 rfl (waybill_receipt_reader_list_does w0 Φ ((some b5, blk cs 89) :: (ob, blk (hs32 ts ++ r) 24) :: (some b, blk l te) :: N) (fun w m => hΦ w (m.drop 3)) br rd cs it p1 p2 hit hp) rfl rfl ?_; rintro _ _ ⟨B0, cr, oi, ci, ri, hri, oo, rfl, rfl⟩; refine OW.mem (M' := (some br, blk p2.C 109) :: (ob, blk (hs32 ts ++ r) 24) :: (some b, blk l te) :: ((oi, blk (cr ++ ri) 89) :: (B0 ++ N))) (fun w m => (m.sk2.sk3.sk4).pick [1, 3, 4, 0] 5 rfl rfl) ?_
 refine OW.rv (RV.len rfl rfl) rfl ?_
 refine OW.rv (RV.move rfl) rfl ?_
 refine OW.nil ?_
 (refine QW.then_n ?_; refine CW.block ?_)
 have hvi := oo.view (te := 89) (w0 := w0) (Ψ := fun w => Mem w0 w ((oi, blk (cr ++ ri) 89) :: (B0 ++ N))) (by decide) (fun w q => q.sublist (List.singleton_sublist.2 (List.mem_cons_self ..)))
 replace hri := hri.mono (ItRd.mono (Ψ := fun w => Mem w0 w ((oi, blk (cr ++ ri) 89) :: (B0 ++ N))) (fun w q => ⟨hΦ w q.tail.appR, q.tail.appL⟩))
 have hmi := oo.mx
 refine CW.loopJ (fun k L' M' => ∃ (i : Nat) (q : Rdr) (tsi : List (Vector (BitVec 8) 32)) (ob' : Option Nat) (c' : Nat) (r' : List Value), k = p1.length - i ∧ i ≤ p1.length ∧ rtopicsF q tsi (p1.drop i) = some (ts2, r2) ∧ OwnS ob' tsi.length c' 32 (hs32 tsi) r' ∧ L' = [(0, ptr (some br) 0), (1, ptr (some b) off), (11, sl oi 0 p1.length ci), (12, .int .i64 (p1.length : Int)), (13, .int .i64 (i : Int))] ∧
  M' = (some br, blk q.C 109) :: (ob', blk (hs32 tsi ++ r') 24) :: (some b, blk (l.set off (sl ob' 0 tsi.length c')) te) :: ((oi, blk (cr ++ ri) 89) :: (B0 ++ N))) (k0 := p1.length) ⟨0, p2, ts, ob, c, r, rfl, by omega, hf, ho, rfl, rfl⟩ ⟨rfl, rfl, rfl, rfl, rfl, trivial⟩ (fun w m => by rw [set_here hold]; exact m) ?_
 rintro k L' M' ⟨i, q, tsi, ob', c', r', rfl, hi, hfi, hoi, rfl, rfl⟩
 refine CW.seq (CW.region ?_)
 refine OW.rv (RV.lss rfl rfl) rfl ?_
 refine OW.nil ?_
 (refine QW.then_n ?_; refine CW.seq ?_)
 refine CW.cond_p rfl (fun hlt2 => ?_) (fun hlt2 => ?_)
 ·have h1 : i < p1.length := by omega
  have hx : p1[i]? = some p1[i] := List.getElem?_eq_getElem h1
  rw [List.drop_eq_getElem_cons h1, rtopicsF] at hfi
  obtain ⟨⟨t1, t2⟩, ht, hfi⟩ := Option.bind_eq_some_iff.1 hfi
  dsimp only at hfi
  obtain ⟨ci2, hci, hcc⟩ := hri.get ItRd.len hx
  have hcl2 : ci2.length = 3 := ItRd.len _ _ hci
  (refine CW.skip ?_; refine QW.then_n ?_; refine CW.seq ?_; refine CW.block ?_; refine CW.seq ?_)
  refine CW.region ?_
  refine OW.rv (RV.idx_rs (i) rfl rfl rfl rfl rfl (hvi.isSome (by decide) h1) (by omega)) rfl ?_
  refine OW.rv (RV.loadAs rfl rfl rfl rfl (fun w m => hvi.load (m.drop 3) hcc) hcl2) rfl ?_
  refine OW.alloc rfl rfl rfl (fun b7 => ?_)
  refine OW.sv (SV.storeW rfl rfl rfl (ItRd.one _ _ hci) rfl rfl hcl2) ?_
  refine OW.nil ?_
  (refine QW.then_n ?_; refine CW.seq ?_)
  refine CW.region ?_
  refine OW.rv (RV.move rfl) rfl ?_
  refine OW.rv (RV.loadW rfl (List.Mem.head _) rfl rfl rfl rfl hcl2) rfl ?_
  refine OW.rot1 ?_; refine OW.callG Tryd.call94 rfl (waybill_receipt_reader_text_does w0 _ ((some b7, blk ci2 89) :: (ob', blk (hs32 tsi ++ r') 24) :: (some b, blk (l.set off (sl ob' 0 tsi.length c')) te) :: ((oi, blk (cr ++ ri) 89) :: (B0 ++ N))) (fun w m => m.drop 3) br q ci2 p1[i] 32 t1 t2 hci (by omega) ht) rfl rfl ?_; rintro _ _ ⟨Bt, ot, ct, rt, oto, rfl, rfl⟩; refine OW.mem (M' := (ot, blk (u8s t1 ++ rt) 5) :: (some br, blk t2.C 109) :: (ob', blk (hs32 tsi ++ r') 24) :: (some b, blk (l.set off (sl ob' 0 tsi.length c')) te) :: ((oi, blk (cr ++ ri) 89) :: (B0 ++ N))) (fun w m => by have m2 := (m.sk2.sk3.sk4).pick [0, 1, 3, 4] 5 rfl rfl; exact m2.sublist (List.Sublist.cons_cons _ (List.Sublist.cons_cons _ (List.Sublist.cons_cons _ (List.Sublist.cons_cons _ (List.sublist_append_right _ _)))))) ?_
  refine OW.rv (RV.assign rfl) rfl ?_
  refine OW.nil ?_
  (refine QW.then_n ?_; refine CW.seq ?_)
  have hv := oto.view (te := 5) (w0 := w0) (Ψ := fun w => Mem w0 w [(ot, blk (u8s t1 ++ rt) 5)]) (by decide) (fun w q => q)
  have hmt := oto.mx
  refine CW.region ?_
  refine OW.rv (RV.move rfl) rfl ?_
  refine OW.rv (RV.nilCheck rfl) rfl ?_
  refine OW.rv (RV.field rfl rfl rfl rfl) rfl ?_
  refine OW.rv (RV.load rfl (by (refine List.Mem.tail _ ?_; exact List.Mem.head _); done) rfl rfl rfl rfl) rfl ?_
  refine OW.rv (RV.eql rfl rfl) rfl ?_
  refine OW.nil (QW.then_n ?_)
  refine CW.cond_p rfl (fun he => ?_) (fun he => ?_)
  ·rw [if_pos he] at hfi
   obtain ⟨hb, hfi⟩ := some_if hfi
   obtain ⟨x, hx2, hfi⟩ := Option.bind_eq_some_iff.1 hfi
   have hxl := (toVec_list hx2).2
   refine CW.drawsX ((ot, blk (u8s t1 ++ rt) 5) :: (some br, blk t2.C 109) :: ((oi, blk (cr ++ ri) 89) :: (B0 ++ N))) [8, 10] (fun w m => m.pick [0, 1] 4 rfl rfl) mixed (by kernel_rfl) ?_
   refine XW.rs 0 rfl (by kernel_rfl) rfl (RV.move rfl) rfl ?_
   refine XW.rs 1 rfl (by kernel_rfl) rfl (RV.move rfl) rfl ?_
   refine XW.rs 2 rfl (by kernel_rfl) rfl (RV.nilCheck rfl) rfl ?_
   refine XW.rv 3 rfl (by kernel_rfl) rfl (by kernel_rfl) (RV.load rfl (List.Mem.tail _ (List.Mem.tail _ (List.Mem.tail _ (List.Mem.head _)))) rfl rfl rfl (List.getElem?_set_self hlt)) rfl ?_
   refine XW.rs 4 rfl (by kernel_rfl) rfl (RV.move rfl) rfl ?_
   refine XW.rs 5 rfl (by kernel_rfl) rfl (RV.s2a (k := 32) rfl rfl (hv.isSome (by decide) (i := 0) (by omega)) (by omega)) rfl ?_
   refine XW.rs 6 rfl (by kernel_rfl) rfl (RV.loadAs rfl rfl rfl rfl (fun w m => hv.vec8 hx2 (m.sublist (List.singleton_sublist.2 (List.mem_cons_self ..)))) ((u8s_length _).trans Vector.length_toList)) rfl ?_
   refine XW.new 7 rfl (by kernel_rfl) rfl (NV.bsA rfl rfl (by intro x hx; simp at hx; subst hx; exact (u8s_length _).trans Vector.length_toList) rfl rfl rfl (by decide) (by decide) rfl) rfl (fun bs => ?_)
   refine XW.mem (M' := (ob', blk (hs32 tsi ++ r') 24) :: (some bs, blk (u8s x.toList ++ []) 24) :: (ot, blk (u8s t1 ++ rt) 5) :: (some br, blk t2.C 109) :: (some b, blk (l.set off (sl ob' 0 tsi.length c')) te) :: ((oi, blk (cr ++ ri) 89) :: (B0 ++ N))) (fun w m => m.pick [3, 0, 1, 2, 4] 5 rfl rfl) (fun w m => m.pick [2, 3] 5 rfl rfl) ?_
   refine XW.appendOwn 8 (s := 32) rfl (by kernel_rfl) rfl rfl rfl rfl rfl rfl hoi (fun w m => m.rd0 (List.Mem.tail _ (List.Mem.head _)) (fun e => nomatch e)) ((u8s_length _).trans Vector.length_toList) (u8s_one _) (fun e => nomatch e) (by decide) (by decide) (by simp only [i24]; omega) rfl ((tsi ++ [x]).length) (hs32 (tsi ++ [x])) (by simp) (by rw [hs32_app]; simp [hs32]) (fun w m => m.pick [1, 2] 4 rfl rfl) rfl (fun ob2 rr2 c2 o2 => ?_)
   refine XW.rs 9 rfl (by kernel_rfl) rfl (RV.nilCheck rfl) rfl ?_
   refine XW.mem (M' := (some b, blk (l.set off (sl ob' 0 tsi.length c')) te) :: (ob2, blk (hs32 (tsi ++ [x]) ++ rr2) 24) :: (ot, blk (u8s t1 ++ rt) 5) :: (some br, blk t2.C 109) :: ((oi, blk (cr ++ ri) 89) :: (B0 ++ N))) (fun w m => m.pick [4, 0, 2, 3] 5 rfl rfl) (fun w m => m.pick [2, 3] 4 rfl rfl) ?_
   refine XW.sv 10 rfl (by kernel_rfl) (SV.store rfl rfl rfl rfl rfl (by rw [List.length_set]; exact hlt)) (fun w m => m.pick [2, 3] 4 rfl rfl) ?_
   refine XW.cells (l.set off (sl ob2 0 (tsi ++ [x]).length c2)) (List.set_set ..) ?_
   refine XW.nil (by kernel_rfl) ?_
   (refine QW.block_n ?_; refine QW.then_n ?_)
   refine CW.region ?_
   refine OW.rv (RV.add rfl rfl (by omega)) rfl ?_
   refine OW.rv (RV.move rfl) rfl ?_
   refine OW.nil ?_
   refine QW.againJ (k' := p1.length - (i + 1)) (by omega) ⟨i + 1, t2, tsi ++ [x], ob2, c2, rr2, rfl, by omega, hfi, o2, rfl, rfl⟩ ⟨rfl, rfl, rfl, rfl, rfl, trivial⟩ (fun w m => m.pick [3, 1, 0] 4 rfl rfl)
  ·rw [if_neg he] at hfi
   (refine CW.skip ?_; refine QW.block_n ?_; refine QW.then_n ?_)
   refine CW.region ?_
   refine OW.rv (RV.add rfl rfl (by omega)) rfl ?_
   refine OW.rv (RV.move rfl) rfl ?_
   refine OW.nil ?_
   refine QW.againJ (k' := p1.length - (i + 1)) (by omega) ⟨i + 1, t2, tsi, ob', c', r', rfl, by omega, hfi, hoi, rfl, rfl⟩ ⟨rfl, rfl, rfl, rfl, rfl, trivial⟩ (fun w m => m.tail)
 ·rw [List.drop_eq_nil_of_le (by omega), rtopicsF] at hfi
  obtain ⟨rfl, rfl⟩ := Prod.mk.inj (Option.some.inj hfi)
  (refine CW.exit ?_; refine QW.then_x ?_; refine QW.then_x ?_; refine QW.block_xe ?_)
  refine QW.retG (rs := []) [] ((some br, blk q.C 109) :: (ob', blk (hs32 tsi ++ r') 24) :: (some b, blk (l.set off (sl ob' 0 tsi.length c')) te) :: ((oi, blk (cr ++ ri) 89) :: B0)) rfl trivial rfl ⟨_, _, _, _, hoi, rfl, rfl⟩ (fun w m => m) _ (.inr rfl)
theorem receipt_ParseLog_own (w0 : World) (Φ : Ctx) (N : List Ent) (hΦ : ∀ w, Mem w0 w N → Φ w) (cs : List Value) (it : It) (x : Log) (e : Int) (hit : ItRd Φ cs it) (hf : receipt_ParseLog it = some (x, e)) :
  DoesG Tryd.prog 98 [.agg cs.toArray] w0 [] N (fun v G => ∃ (g : Lg) (B : List Ent), g.Ok ∧ g.val = x ∧ (0 ≤ e ∧ e ≤ 1000) ∧ v = .tuple #[.agg g.cells.toArray, .int .i64 e] ∧ G = g.ents 24 5 ++ B) := by
 have hcl : cs.length = 3 := ItRd.len _ _ hit
 unfold receipt_ParseLog at hf
 obtain ⟨⟨p1, p2⟩, hp, hf⟩ := Option.bind_eq_some_iff.1 hf
 dsimp only at hf
 have hbd := list_bd (r := ⟨0⟩) ⟨Int.le_refl _, by decide⟩ hp
 refine DoesG.enter Tryd.func98 rfl Tryd.ntmps98 rfl (M := N) rfl ?_
 refine CW.seq (CW.region ?_)
 refine OW.boxA rfl rfl (fun b1 => ?_)
 refine OW.alloc (l := LogZ.C) rfl (by kernel_rfl) rfl (fun b2 => ?_)
 refine OW.rv (RV.assign rfl) rfl ?_
 refine OW.nil ?_
 (refine QW.then_n ?_; refine CW.seq ?_)
 refine CW.region ?_
 refine OW.alloc (l := (⟨0⟩ : Rdr).C) rfl rfl rfl (fun b4 => ?_)
 refine OW.nil ?_
 (refine QW.then_n ?_; refine CW.seq ?_)
 refine CW.region ?_
 refine OW.alloc (l := LogZ.C) rfl (by kernel_rfl) rfl (fun b5 => ?_)
 refine OW.nil ?_
 (refine QW.then_n ?_; refine CW.seq ?_)
 refine CW.mem (M' := (some b4, blk (⟨0⟩ : Rdr).C 109) :: (some b1, blk cs 89) :: (some b5, blk LogZ.C 63) :: (some b2, blk LogZ.C 63) :: N) (fun w m => m.pick [1, 3, 0, 2] 4 rfl rfl) ?_
 refine CW.region ?_
 refine OW.rv (RV.loadW rfl (List.Mem.tail _ (List.Mem.head _)) rfl rfl rfl rfl hcl) rfl ?_
 refine OW.callG Tryd.call97 rfl (waybill_receipt_reader_list_does w0 Φ ((some b1, blk cs 89) :: (some b5, blk LogZ.C 63) :: (some b2, blk LogZ.C 63) :: N) (fun w m => hΦ w (m.drop 3)) b4 ⟨0⟩ cs it p1 p2 hit hp) rfl rfl ?_; rintro _ _ ⟨B0, cr, oi, ci, ri, hri, oo, rfl, rfl⟩; refine OW.mem (M' := (some b4, blk p2.C 109) :: (some b5, blk LogZ.C 63) :: (some b2, blk LogZ.C 63) :: ((oi, blk (cr ++ ri) 89) :: (B0 ++ N))) (fun w m => (m.sk2.sk3.sk4).pick [1, 3, 4, 0] 5 rfl rfl) ?_
 refine OW.rv (RV.assign rfl) rfl ?_
 refine OW.nil ?_
 (refine QW.then_n ?_; refine CW.seq ?_; refine CW.seq ?_)
 have hK : ∀ w, Mem w0 w ((oi, blk (cr ++ ri) 89) :: (B0 ++ N)) → Φ w := fun w q => hΦ w q.tail.appR
 have hvi := oo.view (te := 89) (w0 := w0) (Ψ := fun w => Mem w0 w ((oi, blk (cr ++ ri) 89) :: (B0 ++ N))) (by decide) (fun w q => q.sublist (List.singleton_sublist.2 (List.mem_cons_self ..)))
 replace hri := hri.mono (ItRd.mono (Ψ := fun w => Mem w0 w ((oi, blk (cr ++ ri) 89) :: (B0 ++ N))) (fun w q => ⟨hK w q, q.tail.appL⟩))
 have hmi := oo.mx
 generalize hKe : ((oi, blk (cr ++ ri) 89) :: (B0 ++ N)) = K at hK hvi hri ⊢
 have hKN : ∃ BK, K = BK ++ N := ⟨_, by rw [← hKe, ← List.cons_append]⟩
 obtain ⟨BK, rfl⟩ := hKN
 clear hKe
 have fin0 : ∀ {w : World} {X : List Ent}, Mem w0 w (X ++ (BK ++ N)) → Mem w0 w ((LgZ.ents 24 5 ++ BK) ++ N) := fun m => by
  have m2 := nil2 (o := blk (hs32 LgZ.t ++ LgZ.tr) 24) (o2 := blk (u8s LgZ.d ++ LgZ.dr) 5) m.appR
  exact m2
 by_cases hc : p2.err = 0 ∧ p1.length = 3
 ·rw [if_pos hc] at hf
  obtain ⟨he, h3⟩ := hc
  obtain ⟨x0, hx0, hf⟩ := Option.bind_eq_some_iff.1 hf
  obtain ⟨⟨a1, a2⟩, ha, hf⟩ := Option.bind_eq_some_iff.1 hf
  obtain ⟨ad, had, hf⟩ := Option.bind_eq_some_iff.1 hf
  obtain ⟨x1, hx1, hf⟩ := Option.bind_eq_some_iff.1 hf
  obtain ⟨⟨t1, t2⟩, ht, hf⟩ := Option.bind_eq_some_iff.1 hf
  obtain ⟨x2, hx2, hf⟩ := Option.bind_eq_some_iff.1 hf
  obtain ⟨⟨d1, d2⟩, hd, hf⟩ := Option.bind_eq_some_iff.1 hf
  dsimp only at had hf ht hd
  have hbd2 := text_bd hbd ha
  have hbd3 := topics_bd hbd2 ht
  have hbd4 := text_bd hbd3 hd
  obtain ⟨c0, hc0, hcc0⟩ := hri.get ItRd.len hx0
  obtain ⟨c1, hc1, hcc1⟩ := hri.get ItRd.len hx1
  obtain ⟨c2, hc2, hcc2⟩ := hri.get ItRd.len hx2
  refine CW.region ?_
  refine OW.rv (RV.field rfl rfl rfl rfl) rfl ?_
  refine OW.rv (RV.load rfl (by exact List.Mem.head _; done) rfl rfl rfl rfl) rfl ?_
  refine OW.rv (RV.neq_f rfl rfl (by omega)) rfl ?_
  refine OW.rv (RV.move rfl) rfl ?_
  refine OW.want rfl ?_; refine OW.rv (RV.move rfl) rfl ?_
  refine OW.want rfl ?_; refine OW.rv (RV.len rfl rfl) rfl ?_
  refine OW.want rfl ?_; refine OW.rv (RV.neq_f rfl rfl (by omega)) rfl ?_
  refine OW.rv (RV.pick_f rfl rfl rfl) rfl ?_
  refine OW.nil (QW.then_n ?_)
  refine CW.cond_f rfl ?_
  (refine CW.skip ?_; refine QW.then_n ?_; refine CW.seq ?_; refine CW.seq ?_)
  refine CW.region ?_
  refine OW.rv (RV.move rfl) rfl ?_
  refine OW.rv (RV.idx_rs (0) rfl rfl rfl rfl rfl (hvi.isSome (by decide) (i := 0) (by omega)) (by omega)) rfl ?_
  refine OW.rv (RV.loadAs rfl rfl rfl rfl (fun w m => hvi.load (m.drop 3) hcc0) (ItRd.len _ _ hc0)) rfl ?_
  refine OW.callG Tryd.call94 rfl (waybill_receipt_reader_text_does w0 _ ((some b5, blk LogZ.C 63) :: (some b2, blk LogZ.C 63) :: (BK ++ N)) (fun w m => m.drop 2) b4 p2 c0 x0 20 a1 a2 hc0 (by omega) ha) rfl rfl ?_; rintro _ _ ⟨Ba, oa, ca, ra, oa1, rfl, rfl⟩; refine OW.mem (M' := (oa, blk (u8s a1 ++ ra) 5) :: (some b5, blk LogZ.C 63) :: (some b4, blk a2.C 109) :: (some b2, blk LogZ.C 63) :: (BK ++ N)) (fun w m => by have m2 := (m.sk2.sk3).pick [0, 2, 1, 3] 4 rfl rfl; exact m2.sublist (List.Sublist.cons_cons _ (List.Sublist.cons_cons _ (List.Sublist.cons_cons _ (List.Sublist.cons_cons _ (List.sublist_append_right _ _)))))) ?_
  refine OW.rv (RV.assign rfl) rfl ?_
  refine OW.nil ?_
  (refine QW.then_n ?_; refine CW.seq ?_)
  have hva := oa1.view (te := 5) (w0 := w0) (Ψ := fun w => Mem w0 w [(oa, blk (u8s a1 ++ ra) 5)]) (by decide) (fun w q => q)
  have hma := oa1.mx
  refine CW.region ?_
  refine OW.rv (RV.field rfl rfl rfl rfl) rfl ?_
  refine OW.rv (RV.load rfl (by (refine List.Mem.tail _ ?_; refine List.Mem.tail _ ?_; exact List.Mem.head _); done) rfl rfl rfl rfl) rfl ?_
  refine OW.rv (RV.eql rfl rfl) rfl ?_
  refine OW.nil (QW.then_n ?_)
  refine CW.cutJ (fun L' M' => L' = [(2, ptr (some b2) 0), (4, ptr (some b4) 0), (5, ptr (some b5) 0), (6, sl oi 0 p1.length ci)] ∧ M' = (some b5, blk (⟨ad, .slice none 0 0, .slice none 0 0⟩ : LogC).C 63) :: (some b4, blk a2.C 109) :: (some b2, blk LogZ.C 63) :: (BK ++ N)) ?_ ?_
  ·rintro L' M' ⟨rfl, rfl⟩
   (refine QW.then_n ?_; refine CW.seq ?_)
   refine CW.region ?_
   refine OW.rv (RV.field rfl rfl rfl rfl) rfl ?_; refine OW.slot (ptr (some b5) 20) rfl ?_
   refine OW.rv (RV.move rfl) rfl ?_
   refine OW.rv (RV.idx_rs (1) rfl rfl rfl rfl rfl (hvi.isSome (by decide) (i := 0) (by omega)) (by omega)) rfl ?_
   refine OW.rv (RV.loadAs rfl rfl rfl rfl (fun w m => hvi.load (m.drop 3) hcc1) (ItRd.len _ _ hc1)) rfl ?_
   refine OW.mem (M' := (some b4, blk a2.C 109) :: (none, blk (hs32 [] ++ []) 24) :: (some b5, blk (⟨ad, .slice none 0 0, .slice none 0 0⟩ : LogC).C 63) :: ((some b2, blk LogZ.C 63) :: (BK ++ N))) (fun w m => (m.nil_ent (blk (hs32 [] ++ []) 24)).pick [2, 0, 1] 3 rfl rfl) ?_; refine OW.callG Tryd.call123 rfl (rtopics_does w0 _ ((some b2, blk LogZ.C 63) :: (BK ++ N)) (fun w m => m.drop 1) b4 b5 20 (⟨ad, .slice none 0 0, .slice none 0 0⟩ : LogC).C 63 a2 t2 c1 x1 none 0 [] [] t1 hc1 OwnS.nil (LogC.C_topics _) ht) rfl rfl ?_; rintro _ _ ⟨Bt, ot, ct, rt, oto, rfl, rfl⟩; refine OW.mem (M' := (some b5, blk ((⟨ad, .slice none 0 0, .slice none 0 0⟩ : LogC).C.set 20 (sl ot 0 t1.length ct)) 63) :: (some b4, blk t2.C 109) :: (ot, blk (hs32 t1 ++ rt) 24) :: (some b2, blk LogZ.C 63) :: (BK ++ N)) (fun w m => by have m2 := (m.sk3).pick [2, 0, 1, 3] 4 rfl rfl; exact m2.sublist (List.Sublist.cons_cons _ (List.Sublist.cons_cons _ (List.Sublist.cons_cons _ (List.Sublist.cons_cons _ (List.sublist_append_right _ _)))))) ?_; refine OW.cells (⟨ad, sl ot 0 t1.length ct, .slice none 0 0⟩ : LogC).C (LogC.C_topics_set _ _) ?_
   refine OW.nil ?_
   (refine QW.then_n ?_; refine CW.seq ?_)
   refine CW.region ?_
   refine OW.rv (RV.move rfl) rfl ?_
   refine OW.rv (RV.idx_rs (2) rfl rfl rfl rfl rfl (hvi.isSome (by decide) (i := 0) (by omega)) (by omega)) rfl ?_
   refine OW.rv (RV.loadAs rfl rfl rfl rfl (fun w m => hvi.load (m.drop 4) hcc2) (ItRd.len _ _ hc2)) rfl ?_
   refine OW.rot1 ?_; refine OW.callG Tryd.call94 rfl (waybill_receipt_reader_text_does w0 _ ((some b5, blk (⟨ad, sl ot 0 t1.length ct, .slice none 0 0⟩ : LogC).C 63) :: (ot, blk (hs32 t1 ++ rt) 24) :: (some b2, blk LogZ.C 63) :: (BK ++ N)) (fun w m => m.drop 3) b4 t2 c2 x2 (-1) d1 d2 hc2 (by omega) hd) rfl rfl ?_; rintro _ _ ⟨Bd, od, cd, rd, odo, rfl, rfl⟩; refine OW.mem (M' := (some b5, blk (⟨ad, sl ot 0 t1.length ct, .slice none 0 0⟩ : LogC).C 63) :: (some b4, blk d2.C 109) :: (ot, blk (hs32 t1 ++ rt) 24) :: (od, blk (u8s d1 ++ rd) 5) :: (some b2, blk LogZ.C 63) :: (BK ++ N)) (fun w m => by have m2 := (m.sk2.sk3.sk4).pick [2, 1, 3, 0, 4] 5 rfl rfl; exact m2.sublist (List.Sublist.cons_cons _ (List.Sublist.cons_cons _ (List.Sublist.cons_cons _ (List.Sublist.cons_cons _ (List.Sublist.cons_cons _ (List.sublist_append_right _ _))))))) ?_
   refine OW.rv (RV.field rfl rfl rfl rfl) rfl ?_
   refine OW.sv (SV.store rfl rfl rfl rfl rfl (by rw [LogC.C_length]; exact Nat.le_of_ble_eq_true rfl)) ?_; refine OW.cells (⟨ad, sl ot 0 t1.length ct, sl od 0 d1.length cd⟩ : LogC).C (LogC.C_data_set _ _) ?_
   refine OW.nil ?_
   (refine QW.then_n ?_; refine CW.seq ?_; refine CW.seq ?_)
   have hmt := oto.mx
   have hmd := odo.mx
   refine CW.region ?_
   refine OW.rv (RV.field rfl rfl rfl rfl) rfl ?_
   refine OW.rv (RV.load rfl (by (refine List.Mem.tail _ ?_; exact List.Mem.head _); done) rfl rfl rfl rfl) rfl ?_
   refine OW.rv (RV.neq rfl rfl) rfl ?_
   refine OW.nil (QW.then_n ?_)
   refine CW.mem (M' := (some b2, blk LogZ.C 63) :: (some b5, blk (⟨ad, sl ot 0 t1.length ct, sl od 0 d1.length cd⟩ : LogC).C 63) :: (some b4, blk d2.C 109) :: (ot, blk (hs32 t1 ++ rt) 24) :: (od, blk (u8s d1 ++ rd) 5) :: (BK ++ N)) (fun w m => m.pick [4, 0, 1, 2, 3] 5 rfl rfl) ?_
   refine CW.cond_np rfl (fun hde => ?_) (fun hde => ?_)
   ·rw [if_neg hde] at hf
    obtain ⟨rfl, rfl⟩ := Prod.mk.inj (Option.some.inj hf)
    refine CW.seq ?_
    refine CW.drawsX ((some b4, blk d2.C 109) :: (BK ++ N)) [3] (fun w m => m.pick [2] 5 rfl rfl) mixed (by kernel_rfl) ?_
    refine XW.rs 0 rfl (by kernel_rfl) rfl (RV.buildSt (l := LogZ.C) (cs := LogZ.C) [] rfl rfl rfl (by kernel_rfl) rfl rfl rfl) rfl ?_
    refine XW.rs 1 rfl (by kernel_rfl) rfl (RV.field rfl rfl rfl rfl) rfl ?_
    refine XW.rs 2 rfl (by kernel_rfl) rfl (RV.load rfl (List.Mem.head _) rfl rfl rfl (Rdr.C_err _)) rfl ?_
    refine XW.sv 3 rfl (by kernel_rfl) (SV.storeW rfl rfl rfl (LogC.C_one _ rfl rfl) rfl (LogC.C_length _) (LogC.C_length _)) (fun w m => m.pick [2] 5 rfl rfl) ?_
    refine XW.rs 4 rfl (by kernel_rfl) rfl (RV.assign rfl) rfl ?_
    refine XW.nil (by kernel_rfl) ?_
    (refine QW.then_n ?_; refine CW.ret ?_; refine QW.then_r ?_)
    refine QW.retG (rs := [.cell 2 63, .tmp 3]) [.agg LgZ.cells.toArray, .int .i64 d2.err] (LgZ.ents 24 5 ++ BK) rfl ?_ rfl ⟨LgZ, BK, LgZ_ok, rfl, hbd4, rfl, rfl⟩ (fun w m => fin0 (X := [_, _, _, _, _]) m) _ (.inl rfl)
    exact ⟨⟨_, _, _, _, rfl, List.Mem.head _, rfl, rfl, congrArg some (LogC.C_length _).symm, rfl⟩, rfl, trivial⟩
   ·rw [if_pos hde] at hf
    (refine CW.skip ?_; refine QW.then_n ?_; refine CW.seq ?_; refine CW.seq ?_)
    refine CW.region ?_
    refine OW.rv (RV.field rfl rfl rfl rfl) rfl ?_
    refine OW.rv (RV.load rfl (List.Mem.tail _ (List.Mem.head _)) rfl rfl rfl (LogC.C_topics _)) rfl ?_
    refine OW.rv (RV.len rfl rfl) rfl ?_
    refine OW.rv (RV.gtr rfl rfl) rfl ?_
    refine OW.nil (QW.then_n ?_)
    refine CW.cond_p rfl (fun h4 => ?_) (fun h4 => ?_)
    ·rw [if_pos (by omega)] at hf
     obtain ⟨rfl, rfl⟩ := Prod.mk.inj (Option.some.inj hf)
     refine CW.seq (CW.region ?_)
     refine OW.rv (RV.buildSt (l := LogZ.C) (cs := LogZ.C) [] rfl rfl rfl (by kernel_rfl) rfl rfl rfl) rfl ?_
     refine OW.sv (SV.storeW rfl rfl rfl (LogC.C_one _ rfl rfl) rfl (LogC.C_length _) (LogC.C_length _)) ?_
     refine OW.rv (RV.assign rfl) rfl ?_
     refine OW.nil ?_
     (refine QW.then_n ?_; refine CW.ret ?_; refine QW.then_r ?_)
     refine QW.retG (rs := [.cell 2 63, .tmp 3]) [.agg LgZ.cells.toArray, .int .i64 174] (LgZ.ents 24 5 ++ BK) rfl ?_ rfl ⟨LgZ, BK, LgZ_ok, rfl, by omega, rfl, rfl⟩ (fun w m => fin0 (X := [_, _, _, _, _]) m) _ (.inl rfl)
     exact ⟨⟨_, _, _, _, rfl, List.Mem.head _, rfl, rfl, congrArg some (LogC.C_length _).symm, rfl⟩, rfl, trivial⟩
    ·rw [if_neg (by omega)] at hf
     obtain ⟨rfl, rfl⟩ := Prod.mk.inj (Option.some.inj hf)
     (refine CW.skip ?_; refine QW.then_n ?_; refine CW.seq ?_)
     refine CW.region ?_
     refine OW.rv (RV.loadW rfl (List.Mem.tail _ (List.Mem.head _)) rfl rfl rfl rfl (LogC.C_length _)) rfl ?_
     refine OW.sv (SV.storeW rfl rfl rfl (LogC.C_one _ rfl rfl) rfl (LogC.C_length _) (LogC.C_length _)) ?_
     refine OW.rv (RV.assign rfl) rfl ?_
     refine OW.nil ?_
     (refine QW.then_n ?_; refine CW.ret ?_)
     refine QW.retG (rs := [.cell 2 63, .tmp 3]) [.agg (⟨ad, ot, t1, ct, rt, od, d1, cd, rd⟩ : Lg).cells.toArray, .int .i64 0] ((⟨ad, ot, t1, ct, rt, od, d1, cd, rd⟩ : Lg).ents 24 5 ++ BK) rfl ?_ rfl ⟨⟨ad, ot, t1, ct, rt, od, d1, cd, rd⟩, BK, ⟨oto, odo⟩, rfl, by omega, rfl, rfl⟩ (fun w m => m.drop 3) _ (.inl rfl)
     exact ⟨⟨_, _, _, _, rfl, List.Mem.head _, rfl, rfl, congrArg some (LogC.C_length _).symm, rfl⟩, rfl, trivial⟩
  ·refine CW.cond_p rfl (fun ha2 => ?_) (fun ha2 => ?_)
   ·rw [if_pos ha2] at had
    have hxl := (toVec_list had).2
    refine CW.region ?_
    refine OW.rv (RV.move rfl) rfl ?_
    refine OW.rv (RV.s2a (k := 20) rfl rfl (hva.isSome (by decide) (i := 0) (by omega)) (by omega)) rfl ?_
    refine OW.rv (RV.loadAs rfl rfl rfl rfl (fun w m => hva.vec8 had (m.sublist (List.singleton_sublist.2 (List.mem_cons_self ..)))) ((u8s_length _).trans Vector.length_toList)) rfl ?_
    refine OW.rv (RV.field rfl rfl rfl rfl) rfl ?_
    refine OW.rot1 ?_; refine OW.sv (SV.storeAs rfl rfl rfl (u8s_one _) rfl ((u8s_length _).trans Vector.length_toList) (by rw [LogC.C_length]; exact Nat.le_of_ble_eq_true rfl)) ?_; refine OW.cells (⟨ad, .slice none 0 0, .slice none 0 0⟩ : LogC).C (LogC.C_address_spl _ _) ?_
    refine OW.nil ?_
    refine QW.join ⟨rfl, rfl⟩ ⟨rfl, rfl, rfl, rfl, trivial⟩ (fun w m => m.pick [0, 2, 3] 4 rfl rfl)
   ·rw [if_neg ha2] at had
    obtain rfl := Option.some.inj had
    refine CW.skip ?_
    refine QW.join ⟨rfl, rfl⟩ ⟨rfl, rfl, rfl, rfl, trivial⟩ (fun w m => m.pick [1, 2, 3] 4 rfl rfl)
 ·rw [if_neg hc] at hf
  obtain ⟨rfl, rfl⟩ := Prod.mk.inj (Option.some.inj hf)
  by_cases he : p2.err = 0
  ·skip
   refine CW.region ?_
   refine OW.rv (RV.field rfl rfl rfl rfl) rfl ?_
   refine OW.rv (RV.load rfl (by exact List.Mem.head _; done) rfl rfl rfl rfl) rfl ?_
   refine OW.rv (RV.neq_f rfl rfl (by omega)) rfl ?_
   refine OW.rv (RV.move rfl) rfl ?_
   refine OW.want rfl ?_; refine OW.rv (RV.move rfl) rfl ?_
   refine OW.want rfl ?_; refine OW.rv (RV.len rfl rfl) rfl ?_
   refine OW.want rfl ?_; refine OW.rv (RV.neq_t rfl rfl (by omega)) rfl ?_
   refine OW.rv (RV.pick_f rfl rfl rfl) rfl ?_
   refine OW.nil (QW.then_n ?_)
   refine CW.cond_t rfl ?_
   refine CW.mem (M' := (some b2, blk LogZ.C 63) :: (BK ++ N)) (fun w m => m.drop 2) ?_
   refine CW.seq (CW.region ?_)
   refine OW.rv (RV.buildSt (l := LogZ.C) (cs := LogZ.C) [] rfl rfl rfl (by kernel_rfl) rfl rfl rfl) rfl ?_
   refine OW.sv (SV.storeW rfl rfl rfl (LogC.C_one _ rfl rfl) rfl (LogC.C_length _) (LogC.C_length _)) ?_
   refine OW.rv (RV.assign rfl) rfl ?_
   refine OW.nil ?_
   (refine QW.then_n ?_; refine CW.ret ?_; refine QW.then_r ?_)
   refine QW.retG (rs := [.cell 2 63, .tmp 3]) [.agg LgZ.cells.toArray, .int .i64 172] (LgZ.ents 24 5 ++ BK) rfl ?_ rfl ⟨LgZ, BK, LgZ_ok, rfl, by omega, rfl, rfl⟩ (fun w m => fin0 (X := [_]) m) _ (.inl rfl)
   exact ⟨⟨_, _, _, _, rfl, List.Mem.head _, rfl, rfl, congrArg some (LogC.C_length _).symm, rfl⟩, rfl, trivial⟩
  ·skip
   refine CW.region ?_
   refine OW.rv (RV.field rfl rfl rfl rfl) rfl ?_
   refine OW.rv (RV.load rfl (by exact List.Mem.head _; done) rfl rfl rfl rfl) rfl ?_
   refine OW.rv (RV.neq_t rfl rfl (by omega)) rfl ?_
   refine OW.rv (RV.move rfl) rfl ?_
   refine OW.skip rfl rfl rfl ?_
   refine OW.skip rfl rfl rfl ?_
   refine OW.skip rfl rfl rfl ?_
   refine OW.rv (RV.pick_t rfl rfl rfl) rfl ?_
   refine OW.nil (QW.then_n ?_)
   refine CW.cond_t rfl ?_
   refine CW.mem (M' := (some b2, blk LogZ.C 63) :: (BK ++ N)) (fun w m => m.drop 2) ?_
   refine CW.seq (CW.region ?_)
   refine OW.rv (RV.buildSt (l := LogZ.C) (cs := LogZ.C) [] rfl rfl rfl (by kernel_rfl) rfl rfl rfl) rfl ?_
   refine OW.sv (SV.storeW rfl rfl rfl (LogC.C_one _ rfl rfl) rfl (LogC.C_length _) (LogC.C_length _)) ?_
   refine OW.rv (RV.assign rfl) rfl ?_
   refine OW.nil ?_
   (refine QW.then_n ?_; refine CW.ret ?_; refine QW.then_r ?_)
   refine QW.retG (rs := [.cell 2 63, .tmp 3]) [.agg LgZ.cells.toArray, .int .i64 172] (LgZ.ents 24 5 ++ BK) rfl ?_ rfl ⟨LgZ, BK, LgZ_ok, rfl, by omega, rfl, rfl⟩ (fun w m => fin0 (X := [_]) m) _ (.inl rfl)
   exact ⟨⟨_, _, _, _, rfl, List.Mem.head _, rfl, rfl, congrArg some (LogC.C_length _).symm, rfl⟩, rfl, trivial⟩
theorem rlogs_does (w0 : World) (Φ : Ctx) (N : List Ent) (hΦ : ∀ w, Mem w0 w N → Φ w) (br b off : Nat) (l : List Value) (te : TypeId) (rd r2 : Rdr) (cs : List Value) (it : It) (out : List Log) (hit : ItRd Φ cs it) (hold : l[off]? = some (.slice none 0 0)) (hf : rlogs rd [] it = some (out, r2)) :
  DoesG Tryd.prog 71 [ptr (some br) 0, ptr (some b) off, .agg cs.toArray] w0 [(some br, blk rd.C 109), (some b, blk l te)] N (fun u G => ∃ (B : List Ent) (gs : List Lg) (ob' : Option Nat) (c' : Nat) (r' : List Value), (∀ g ∈ gs, g.Ok) ∧ OwnS ob' gs.length c' 22 (lgC gs) r' ∧ gs.map Lg.val = out ∧ u = .tuple #[] ∧ G = (some br, blk r2.C 109) :: (ob', blk (lgC gs ++ r') 63) :: (some b, blk (l.set off (sl ob' 0 gs.length c')) te) :: (lgs 24 5 gs ++ B)) := by
 have hcl : cs.length = 3 := ItRd.len _ _ hit
 have hlt : off < l.length := (List.getElem?_eq_some_iff.1 hold).1
 unfold rlogs at hf
 obtain ⟨⟨p1, p2⟩, hp, hf⟩ := Option.bind_eq_some_iff.1 hf
 dsimp only at hf
 refine DoesG.enter Tryd.func71 rfl Tryd.ntmps71 rfl (M := (some br, blk rd.C 109) :: (some b, blk l te) :: N) rfl ?_
 refine CW.seq (CW.region ?_)
 refine OW.boxA rfl rfl (fun b5 => ?_)
 refine OW.nil ?_
 (refine QW.then_n ?_; refine CW.seq ?_)
 refine CW.region ?_
 refine OW.rv (RV.move rfl) rfl ?_
 refine OW.rv (RV.loadW rfl (List.Mem.head _) rfl rfl rfl rfl hcl) rfl ?_
 refine OW.rot1 ?_; refine OW.callG Tryd.call97 rfl (waybill_receipt_reader_list_does w0 Φ ((some b5, blk cs 89) :: (some b, blk l te) :: N) (fun w m => hΦ w (m.drop 2)) br rd cs it p1 p2 hit hp) rfl rfl ?_; rintro _ _ ⟨B0, cr, oi, ci, ri, hri, oo, rfl, rfl⟩; refine OW.mem (M' := (some br, blk p2.C 109) :: (none, blk (lgC [] ++ []) 63) :: (some b, blk l te) :: ((oi, blk (cr ++ ri) 89) :: (B0 ++ N))) (fun w m => ((m.sk2.sk3).nil_ent (blk (lgC [] ++ []) 63)).pick [2, 0, 4, 1] 5 rfl rfl) ?_
 refine OW.rv (RV.len rfl rfl) rfl ?_
 refine OW.rv (RV.move rfl) rfl ?_
 refine OW.nil ?_
 (refine QW.then_n ?_; refine CW.block ?_)
 have hK : ∀ w, Mem w0 w ((oi, blk (cr ++ ri) 89) :: (B0 ++ N)) → Φ w := fun w q => hΦ w q.tail.appR
 have hvi := oo.view (te := 89) (w0 := w0) (Ψ := fun w => Mem w0 w ((oi, blk (cr ++ ri) 89) :: (B0 ++ N))) (by decide) (fun w q => q.sublist (List.singleton_sublist.2 (List.mem_cons_self ..)))
 replace hri := hri.mono (ItRd.mono (Ψ := fun w => Mem w0 w ((oi, blk (cr ++ ri) 89) :: (B0 ++ N))) (fun w q => ⟨hK w q, q.tail.appL⟩))
 have hmi := oo.mx
 generalize hKe : ((oi, blk (cr ++ ri) 89) :: (B0 ++ N)) = K at hK hvi hri ⊢
 have hKN : ∃ BK, K = BK ++ N := ⟨_, by rw [← hKe, ← List.cons_append]⟩
 obtain ⟨BK, rfl⟩ := hKN
 clear hKe
 refine CW.loopJ (fun k L' M' => ∃ (i : Nat) (q : Rdr) (gs : List Lg) (ob' : Option Nat) (c' : Nat) (r' : List Value), k = p1.length - i ∧ i ≤ p1.length ∧ rlogsF q (gs.map Lg.val) (p1.drop i) = some (out, r2) ∧ (∀ g ∈ gs, g.Ok) ∧ OwnS ob' gs.length c' 22 (lgC gs) r' ∧ L' = [(0, ptr (some br) 0), (1, ptr (some b) off), (12, sl oi 0 p1.length ci), (13, .int .i64 (p1.length : Int)), (14, .int .i64 (i : Int))] ∧
  M' = (some br, blk q.C 109) :: (ob', blk (lgC gs ++ r') 63) :: (some b, blk (l.set off (sl ob' 0 gs.length c')) te) :: (lgs 24 5 gs ++ (BK ++ N))) (k0 := p1.length) ⟨0, p2, [], none, 0, [], rfl, by omega, hf, (fun g hg => by cases hg), OwnS.nil, rfl, rfl⟩ ⟨rfl, rfl, rfl, rfl, rfl, trivial⟩ (fun w m => by show Mem w0 w (_ :: _ :: (some b, blk (l.set off (.slice none 0 0)) te) :: (BK ++ N)); rw [set_here hold]; exact m) ?_
 rintro k L' M' ⟨i, q, gs, ob', c', r', rfl, hi, hfi, hok, hoi, rfl, rfl⟩
 refine CW.seq (CW.region ?_)
 refine OW.rv (RV.lss rfl rfl) rfl ?_
 refine OW.nil ?_
 (refine QW.then_n ?_; refine CW.seq ?_)
 refine CW.cond_p rfl (fun hlt2 => ?_) (fun hlt2 => ?_)
 ·have h1 : i < p1.length := by omega
  have hx : p1[i]? = some p1[i] := List.getElem?_eq_getElem h1
  rw [List.drop_eq_getElem_cons h1, rlogsF] at hfi
  obtain ⟨⟨t1, t2⟩, ht, hfi⟩ := Option.bind_eq_some_iff.1 hfi
  dsimp only at hfi
  obtain ⟨ci2, hci, hcc⟩ := hri.get ItRd.len hx
  have hcl2 : ci2.length = 3 := ItRd.len _ _ hci
  (refine CW.skip ?_; refine QW.then_n ?_; refine CW.seq ?_; refine CW.block ?_; refine CW.seq ?_)
  refine CW.region ?_
  refine OW.rv (RV.idx_rs (i) rfl rfl rfl rfl rfl (hvi.isSome (by decide) h1) (by omega)) rfl ?_
  refine OW.rv (RV.loadAs rfl rfl rfl rfl (fun w m => hvi.load (m.drop 3).appR hcc) hcl2) rfl ?_
  refine OW.alloc rfl rfl rfl (fun b7 => ?_)
  refine OW.sv (SV.storeW rfl rfl rfl (ItRd.one _ _ hci) rfl rfl hcl2) ?_
  refine OW.nil ?_
  (refine QW.then_n ?_; refine CW.seq ?_)
  refine CW.region ?_
  refine OW.rv (RV.loadW rfl (List.Mem.head _) rfl rfl rfl rfl hcl2) rfl ?_
  refine OW.callG Tryd.call98 rfl (receipt_ParseLog_own w0 _ ((some b7, blk ci2 89) :: (some br, blk q.C 109) :: (ob', blk (lgC gs ++ r') 63) :: (some b, blk (l.set off (sl ob' 0 gs.length c')) te) :: (lgs 24 5 gs ++ (BK ++ N))) (fun w m => (m.drop 4).appR) ci2 p1[i] t1 t2 hci ht) rfl rfl ?_; rintro _ _ ⟨g, Bp, gok, gval, ebd, rfl, rfl⟩; refine OW.mem (M' := (some br, blk q.C 109) :: (ob', blk (lgC gs ++ r') 63) :: (some b, blk (l.set off (sl ob' 0 gs.length c')) te) :: (g.ents 24 5 ++ (lgs 24 5 gs ++ (BK ++ N)))) (fun w m => by have m2 : Mem w0 w ((g.tb, blk (hs32 g.t ++ g.tr) 24) :: (g.db, blk (u8s g.d ++ g.dr) 5) :: (Bp ++ _)) := m; have m3 := ((m2.sk2.sk3.sk4).sk5).pick [3, 4, 5, 0, 1] 6 rfl rfl; exact m3.sublist (List.Sublist.cons_cons _ (List.Sublist.cons_cons _ (List.Sublist.cons_cons _ (List.Sublist.cons_cons _ (List.Sublist.cons_cons _ (List.sublist_append_right _ _))))))) ?_
  refine OW.rv (RV.move rfl) rfl ?_
  refine OW.rv (RV.extract rfl rfl) rfl ?_
  refine OW.rv (RV.extract rfl rfl) rfl ?_
  refine OW.alloc (l := LogZ.C) rfl (by kernel_rfl) rfl (fun b8 => ?_)
  refine OW.sv (SV.storeW rfl rfl rfl g.cells_one rfl (LogC.C_length _) g.cells_length) ?_
  refine OW.rv (RV.assign rfl) rfl ?_
  refine OW.nil ?_
  (refine QW.then_n ?_; refine CW.seq ?_; refine CW.seq ?_)
  refine CW.region ?_
  refine OW.rv (RV.move rfl) rfl ?_
  refine OW.rv (RV.neq rfl rfl) rfl ?_
  refine OW.nil (QW.then_n ?_)
  refine CW.cond_np rfl (fun he => ?_) (fun he => ?_)
  ·rw [if_neg he] at hfi
   obtain ⟨q2, hq, hfi⟩ := Option.bind_eq_some_iff.1 hfi
   obtain ⟨rfl, rfl⟩ := Prod.mk.inj (Option.some.inj hfi)
   refine CW.seq (CW.region ?_)
   refine OW.rv (RV.move rfl) rfl ?_
   refine OW.rv (RV.move rfl) rfl ?_
   refine OW.rot1 ?_; refine OW.callG Tryd.call95 rfl (waybill_receipt_reader_refuse_does w0 (fun _ => True) ((some b8, blk g.cells 63) :: (ob', blk (lgC gs ++ r') 63) :: (some b, blk (l.set off (sl ob' 0 gs.length c')) te) :: (g.ents 24 5 ++ (lgs 24 5 gs ++ (BK ++ N)))) (fun _ _ => trivial) br q t2 q2 (by omega) hq) rfl rfl ?_; rintro _ _ ⟨Br, rfl, rfl⟩
   refine OW.nil ?_
   (repeat (first | refine CW.seq ?_ | refine QW.then_n ?_ | refine CW.block ?_ | refine CW.ret ?_ | refine CW.skip ?_ | refine CW.exit ?_ | refine QW.then_x ?_ | refine QW.then_r ?_ | refine QW.block_n ?_ | refine QW.block_xe ?_ | refine QW.block_xn rfl ?_ | refine QW.block_r ?_))
   refine QW.retG (rs := []) [] ((some br, blk q2.C 109) :: (ob', blk (lgC gs ++ r') 63) :: (some b, blk (l.set off (sl ob' 0 gs.length c')) te) :: (lgs 24 5 gs ++ BK)) rfl trivial rfl ⟨_, _, _, _, _, hok, hoi, rfl, rfl, rfl⟩ (fun w m => ?_) _ (.inl rfl)
   have m2 := ((m.sk1.sk2).sk3).pick [0, 2, 3] 4 rfl rfl
   have m3 : Mem w0 w ((some br, blk q2.C 109) :: (ob', blk (lgC gs ++ r') 63) :: (some b, blk (l.set off (sl ob' 0 gs.length c')) te) :: (lgs 24 5 gs ++ (BK ++ N))) := m2.sublist (List.Sublist.cons_cons _ (List.Sublist.cons_cons _ (List.Sublist.cons_cons _ ((List.sublist_append_right (g.ents 24 5) _).trans (List.sublist_append_right Br _)))))
   simpa only [List.append_assoc, List.cons_append] using m3
  ·rw [if_pos (by omega)] at hfi
   obtain ⟨hb, hfi⟩ := some_if hfi
   rw [List.length_map] at hb
   subst gval
   (refine CW.skip ?_; refine QW.then_n ?_)
   refine CW.drawsX ((some b8, blk g.cells 63) :: (some br, blk q.C 109) :: (g.ents 24 5 ++ (lgs 24 5 gs ++ (BK ++ N)))) [6, 8] (fun w m => m.pick [0, 1] 4 rfl rfl) mixed (by kernel_rfl) ?_
   refine XW.rs 0 rfl (by kernel_rfl) rfl (RV.move rfl) rfl ?_
   refine XW.rs 1 rfl (by kernel_rfl) rfl (RV.move rfl) rfl ?_
   refine XW.rs 2 rfl (by kernel_rfl) rfl (RV.nilCheck rfl) rfl ?_
   refine XW.rv 3 rfl (by kernel_rfl) rfl (by kernel_rfl) (RV.load rfl (List.Mem.tail _ (List.Mem.tail _ (List.Mem.tail _ (List.Mem.head _)))) rfl rfl rfl (List.getElem?_set_self hlt)) rfl ?_
   refine XW.rs 4 rfl (by kernel_rfl) rfl (RV.loadW rfl (List.Mem.head _) rfl rfl rfl rfl g.cells_length) rfl ?_
   refine XW.new 5 rfl (by kernel_rfl) rfl (NV.bsA rfl rfl (by intro x hx; simp at hx; subst hx; exact g.cells_length) rfl rfl rfl (by decide) (by decide) rfl) rfl (fun bs => ?_)
   refine XW.mem (M' := (ob', blk (lgC gs ++ r') 63) :: (some bs, blk (g.cells ++ []) 63) :: (some b8, blk g.cells 63) :: (some br, blk q.C 109) :: (some b, blk (l.set off (sl ob' 0 gs.length c')) te) :: (g.ents 24 5 ++ (lgs 24 5 gs ++ (BK ++ N)))) (fun w m => m.pick [3, 0, 1, 2, 4] 5 rfl rfl) (fun w m => m.pick [2, 3] 5 rfl rfl) ?_
   refine XW.appendOwn 6 (s := 22) rfl (by kernel_rfl) rfl rfl rfl rfl rfl rfl hoi (fun w m => m.rd0 (List.Mem.tail _ (List.Mem.head _)) (fun e => nomatch e)) g.cells_length g.cells_one (fun e => nomatch e) (by decide) (by decide) (by simp only [i63]; omega) rfl ((gs ++ [g]).length) (lgC (gs ++ [g])) (by simp) (by rw [lgC_app, lgC_one1]) (fun w m => m.pick [1, 2] 4 rfl rfl) rfl (fun ob2 rr2 c2 o2 => ?_)
   refine XW.rs 7 rfl (by kernel_rfl) rfl (RV.nilCheck rfl) rfl ?_
   refine XW.mem (M' := (some b, blk (l.set off (sl ob' 0 gs.length c')) te) :: (ob2, blk (lgC (gs ++ [g]) ++ rr2) 63) :: (some b8, blk g.cells 63) :: (some br, blk q.C 109) :: (g.ents 24 5 ++ (lgs 24 5 gs ++ (BK ++ N)))) (fun w m => m.pick [4, 0, 2, 3] 5 rfl rfl) (fun w m => m.pick [2, 3] 4 rfl rfl) ?_
   refine XW.sv 8 rfl (by kernel_rfl) (SV.store rfl rfl rfl rfl rfl (by rw [List.length_set]; exact hlt)) (fun w m => m.pick [2, 3] 4 rfl rfl) ?_
   refine XW.cells (l.set off (sl ob2 0 (gs ++ [g]).length c2)) (List.set_set ..) ?_
   refine XW.nil (by kernel_rfl) ?_
   (refine QW.block_n ?_; refine QW.then_n ?_)
   refine CW.region ?_
   refine OW.rv (RV.add rfl rfl (by omega)) rfl ?_
   refine OW.rv (RV.move rfl) rfl ?_
   refine OW.nil ?_
   refine QW.againJ (k' := p1.length - (i + 1)) (by omega) ⟨i + 1, q, gs ++ [g], ob2, c2, rr2, rfl, by omega, by rw [List.map_append]; exact hfi, ?_, o2, rfl, rfl⟩ ⟨rfl, rfl, rfl, rfl, rfl, trivial⟩ (fun w m => lgs_snoc (X := [_, _, _]) (m.pick [3, 1, 0] 4 rfl rfl))
   intro x hx
   rcases List.mem_append.1 hx with hx | hx
   ·exact hok x hx
   ·obtain rfl := List.mem_singleton.1 hx
    exact gok
 ·rw [List.drop_eq_nil_of_le (by omega), rlogsF] at hfi
  obtain ⟨rfl, rfl⟩ := Prod.mk.inj (Option.some.inj hfi)
  (refine CW.exit ?_; refine QW.then_x ?_; refine QW.then_x ?_; refine QW.block_xe ?_)
  refine QW.retG (rs := []) [] ((some br, blk q.C 109) :: (ob', blk (lgC gs ++ r') 63) :: (some b, blk (l.set off (sl ob' 0 gs.length c')) te) :: (lgs 24 5 gs ++ BK)) rfl trivial rfl ⟨_, _, _, _, _, hok, hoi, rfl, rfl, rfl⟩ (fun w m => by simpa only [List.append_assoc, List.cons_append] using m) _ (.inr rfl)
theorem receipt_Decode_own (w0 : World) (Φ : Ctx) (N : List Ent) (hΦ : ∀ w, Mem w0 w N → Φ w) (A : Option Addr) (c : Nat) (data : List (BitVec 8)) (x : Rcpt) (e : Int) (va : View Φ A data.length c 1 (u8s data)) (hg2 : View Φ (some ⟨2, 0, none⟩) 2 2 1 (u8s firstL)) (hf : receipt_Decode data = some (x, e)) :
  DoesG Tryd.prog 39 [.slice A data.length c] w0 [] N (DecO w0 x e) := by
 have hm := va.mx
 unfold receipt_Decode at hf
 refine DoesG.enter Tryd.func39 rfl Tryd.ntmps39 rfl (M := N) rfl ?_
 refine CW.seq (CW.region ?_)
 refine OW.alloc (l := RcptZ.C) rfl (by kernel_rfl) rfl (fun b2 => ?_)
 refine OW.rv (RV.assign rfl) rfl ?_
 refine OW.nil ?_
 (refine QW.then_n ?_; refine CW.seq ?_; refine CW.seq ?_)
 refine CW.region ?_
 refine OW.rv (RV.move rfl) rfl ?_
 refine OW.rv (RV.len rfl rfl) rfl ?_
 refine OW.rv (RV.gtr rfl rfl) rfl ?_
 refine OW.nil (QW.then_n ?_)
 refine CW.cond_p rfl (fun hl1 => ?_) (fun hl1 => ?_)
 ·rw [if_pos (by omega)] at hf
  obtain ⟨rfl, rfl⟩ := Prod.mk.inj (Option.some.inj hf)
  refine CW.seq (CW.region ?_)
  refine OW.rv (RV.buildSt (l := RcptZ.C) (cs := RcptZ.C) [] rfl rfl rfl (by kernel_rfl) rfl rfl rfl) rfl ?_
  refine OW.sv (SV.storeW rfl rfl rfl (RcptC.C_one _ rfl) rfl (RcptC.C_length _) (RcptC.C_length _)) ?_
  refine OW.rv (RV.assign rfl) rfl ?_
  refine OW.nil ?_
  (refine QW.then_n ?_; refine CW.ret ?_; refine QW.then_r ?_)
  refine QW.retG (rs := [.cell 2 30, .tmp 3]) [.agg RcptZ.C.toArray, .int .i64 2] ((none, blk [] 63) :: []) rfl ?_ rfl (DecO.zero (by omega) _) (fun w m => m.tail.nil_ent _) _ (.inl rfl)
  exact ⟨⟨_, _, _, _, rfl, List.Mem.head _, rfl, rfl, congrArg some (RcptC.C_length _).symm, rfl⟩, rfl, trivial⟩
 rw [if_neg (by omega)] at hf
 (refine CW.skip ?_; refine QW.then_n ?_; refine CW.seq ?_; refine CW.seq ?_)
 refine CW.region ?_
 refine OW.rv (RV.move rfl) rfl ?_
 refine OW.rv (RV.len rfl rfl) rfl ?_
 refine OW.rv (RV.eql rfl rfl) rfl ?_
 refine OW.nil (QW.then_n ?_)
 refine CW.cond_p rfl (fun hl0 => ?_) (fun hl0 => ?_)
 ·rw [if_pos (by omega)] at hf
  obtain ⟨rfl, rfl⟩ := Prod.mk.inj (Option.some.inj hf)
  refine CW.seq (CW.region ?_)
  refine OW.rv (RV.buildSt (l := RcptZ.C) (cs := RcptZ.C) [] rfl rfl rfl (by kernel_rfl) rfl rfl rfl) rfl ?_
  refine OW.sv (SV.storeW rfl rfl rfl (RcptC.C_one _ rfl) rfl (RcptC.C_length _) (RcptC.C_length _)) ?_
  refine OW.rv (RV.assign rfl) rfl ?_
  refine OW.nil ?_
  (refine QW.then_n ?_; refine CW.ret ?_; refine QW.then_r ?_)
  refine QW.retG (rs := [.cell 2 30, .tmp 3]) [.agg RcptZ.C.toArray, .int .i64 70] ((none, blk [] 63) :: []) rfl ?_ rfl (DecO.zero (by omega) _) (fun w m => m.tail.nil_ent _) _ (.inl rfl)
  exact ⟨⟨_, _, _, _, rfl, List.Mem.head _, rfl, rfl, congrArg some (RcptC.C_length _).symm, rfl⟩, rfl, trivial⟩
 rw [if_neg (by omega)] at hf
 obtain ⟨b, hb, hf⟩ := Option.bind_eq_some_iff.1 hf
 (refine CW.skip ?_; refine QW.then_n ?_; refine CW.seq ?_)
 refine CW.region ?_
 refine OW.alloc (l := RcptZ.C) rfl (by kernel_rfl) rfl (fun b4 => ?_)
 refine OW.nil ?_
 (refine QW.then_n ?_; refine CW.seq ?_; refine CW.seq ?_)
 refine CW.region ?_
 refine OW.rv (RV.move rfl) rfl ?_
 refine OW.rv (RV.idx_r (0) rfl rfl rfl rfl rfl (va.isSome (by decide) (i := 0) (by omega)) (by omega)) rfl ?_
 refine OW.rv (RV.load_at rfl rfl rfl (fun w m => va.cell (hΦ w m.tail.tail) (u8s_at hb))) rfl ?_
 refine OW.rv (RV.assign rfl) rfl ?_
 refine OW.nil (QW.then_n ?_)
 refine CW.cutJ (fun L' M' => ∃ (k : Int) (d : List (BitVec 8)) (A' : Option Addr) (c' : Nat), dkind data b = some (k, d) ∧ View Φ A' d.length c' 1 (u8s d) ∧ (0 ≤ k ∧ k ≤ 4) ∧ L' = [(0, .slice A' d.length c'), (2, ptr (some b2) 0), (4, ptr (some b4) 0)] ∧ M' = (some b4, blk ({ RcptZ with kind := k } : RcptC).C 30) :: (some b2, blk RcptZ.C 30) :: N) ?_ ?_
 ·rintro L' M' ⟨k, d, A', c', hk, vd, hkb, rfl, rfl⟩
  rw [hk] at hf
  replace hf : rdecode2 k d = some (x, e) := hf
  unfold rdecode2 at hf
  obtain ⟨⟨it, ee⟩, hp, hf⟩ := Option.bind_eq_some_iff.1 hf
  dsimp only at hf
  (refine QW.then_n ?_; refine CW.seq ?_)
  refine CW.region ?_
  refine OW.rv (RV.move rfl) rfl ?_
  refine OW.callG Tryd.call66 rfl (rlp_Decode_does w0 Φ ((some b4, blk ({ RcptZ with kind := k } : RcptC).C 30) :: (some b2, blk RcptZ.C 30) :: N) (fun w m => hΦ w (m.drop 2)) A' c' d it ee vd hp) rfl rfl ?_; rintro _ B1 ⟨_, cr1, hr1, hb1, rfl, rfl⟩; refine OW.mem (M' := (some b4, blk ({ RcptZ with kind := k } : RcptC).C 30) :: (some b2, blk RcptZ.C 30) :: (B1 ++ N)) (fun w m => m.sk0.sk1) ?_
  refine OW.rv (RV.move rfl) rfl ?_
  refine OW.rv (RV.extract rfl rfl) rfl ?_
  refine OW.rv (RV.extract rfl rfl) rfl ?_
  refine OW.alloc rfl rfl rfl (fun b6 => ?_)
  refine OW.sv (SV.storeW rfl rfl rfl (ItRd.one _ _ hr1) rfl rfl (ItRd.len _ _ hr1)) ?_
  refine OW.rv (RV.assign rfl) rfl ?_
  refine OW.nil ?_
  (refine QW.then_n ?_; refine CW.seq ?_; refine CW.seq ?_)
  refine CW.region ?_
  refine OW.rv (RV.move rfl) rfl ?_
  refine OW.rv (RV.neq rfl rfl) rfl ?_
  refine OW.nil (QW.then_n ?_)
  refine CW.cond_np rfl (fun hee => ?_) (fun hee => ?_)
  ·rw [if_neg (by omega)] at hf
   obtain ⟨rfl, rfl⟩ := Prod.mk.inj (Option.some.inj hf)
   refine CW.mem (M' := (some b2, blk RcptZ.C 30) :: N) (fun w m => (m.drop 2).sublist (List.Sublist.cons_cons _ (List.sublist_append_right _ _))) ?_
   refine CW.seq (CW.region ?_)
   refine OW.rv (RV.buildSt (l := RcptZ.C) (cs := RcptZ.C) [] rfl rfl rfl (by kernel_rfl) rfl rfl rfl) rfl ?_
   refine OW.rv (RV.move rfl) rfl ?_
   refine OW.sv (SV.storeW rfl rfl rfl (RcptC.C_one _ rfl) rfl (RcptC.C_length _) (RcptC.C_length _)) ?_
   refine OW.rv (RV.assign rfl) rfl ?_
   refine OW.nil ?_
   (refine QW.then_n ?_; refine CW.ret ?_; refine QW.then_r ?_)
   refine QW.retG (rs := [.cell 2 30, .tmp 3]) [.agg RcptZ.C.toArray, .int .i64 (ee : Int)] ((none, blk [] 63) :: []) rfl ?_ rfl (DecO.zero (by omega) _) (fun w m => m.tail.nil_ent _) _ (.inl rfl)
   exact ⟨⟨_, _, _, _, rfl, List.Mem.head _, rfl, rfl, congrArg some (RcptC.C_length _).symm, rfl⟩, rfl, trivial⟩
  rw [if_pos (by omega)] at hf
  obtain ⟨⟨f, e2⟩, hgl, hf⟩ := Option.bind_eq_some_iff.1 hf
  dsimp only at hf
  (refine CW.skip ?_; refine QW.then_n ?_; refine CW.seq ?_)
  refine CW.region ?_
  refine OW.rv (RV.loadW rfl (List.Mem.head _) rfl rfl rfl rfl (ItRd.len _ _ hr1)) rfl ?_
  refine OW.callG Tryd.call67 rfl (rlp_GetList_does w0 (More w0 Φ B1) ((some b6, blk cr1 89) :: (some b4, blk ({ RcptZ with kind := k } : RcptC).C 30) :: (some b2, blk RcptZ.C 30) :: (B1 ++ N)) (fun w m => ⟨hΦ w (m.drop 3).appR, (m.drop 3).appL⟩) cr1 it f e2 hr1 hgl) rfl rfl ?_; rintro _ _ ⟨B2, cr, oi, ci, ri, hri, oo, hb2, rfl, rfl⟩; refine OW.mem (M' := (some b4, blk ({ RcptZ with kind := k } : RcptC).C 30) :: (some b2, blk RcptZ.C 30) :: ((oi, blk (cr ++ ri) 89) :: (B2 ++ (B1 ++ N)))) (fun w m => (m.sk1.sk2.sk3).pick [2, 3, 0] 4 rfl rfl) ?_
  refine OW.rv (RV.move rfl) rfl ?_
  refine OW.rv (RV.extract rfl rfl) rfl ?_
  refine OW.rv (RV.extract rfl rfl) rfl ?_
  refine OW.rv (RV.assign rfl) rfl ?_
  refine OW.rv (RV.assign rfl) rfl ?_
  refine OW.nil ?_
  (refine QW.then_n ?_; refine CW.seq ?_; refine CW.seq ?_)
  have hK : ∀ w, Mem w0 w ((oi, blk (cr ++ ri) 89) :: (B2 ++ (B1 ++ N))) → Φ w := fun w q => hΦ w q.tail.appR.appR
  have hvi := oo.view (te := 89) (w0 := w0) (Ψ := fun w => Mem w0 w ((oi, blk (cr ++ ri) 89) :: (B2 ++ (B1 ++ N)))) (by decide) (fun w q => q.sublist (List.singleton_sublist.2 (List.mem_cons_self ..)))
  replace hri := hri.mono (ItRd.mono (Ψ := fun w => Mem w0 w ((oi, blk (cr ++ ri) 89) :: (B2 ++ (B1 ++ N)))) (fun w q => ⟨⟨hK w q, q.tail.appR.appL⟩, q.tail.appL⟩))
  have hmi := oo.mx
  generalize hKe : ((oi, blk (cr ++ ri) 89) :: (B2 ++ (B1 ++ N))) = K at hK hvi hri ⊢
  have hKN : ∃ BK, K = BK ++ N := ⟨(oi, blk (cr ++ ri) 89) :: (B2 ++ B1), by rw [← hKe]; simp⟩
  obtain ⟨BK, rfl⟩ := hKN
  clear hKe
  by_cases hc : e2 = 0 ∧ f.length = 4
  ·rw [if_pos hc] at hf
   obtain ⟨he, h4⟩ := hc
   unfold rfields at hf
   obtain ⟨x0, hx0, hf⟩ := Option.bind_eq_some_iff.1 hf
   obtain ⟨⟨o, r1⟩, ho, hf⟩ := Option.bind_eq_some_iff.1 hf
   obtain ⟨x1, hx1, hf⟩ := Option.bind_eq_some_iff.1 hf
   obtain ⟨⟨u, r2⟩, hu, hf⟩ := Option.bind_eq_some_iff.1 hf
   obtain ⟨x2, hx2, hf⟩ := Option.bind_eq_some_iff.1 hf
   obtain ⟨⟨bl, r3⟩, hbl, hf⟩ := Option.bind_eq_some_iff.1 hf
   obtain ⟨x3, hx3, hf⟩ := Option.bind_eq_some_iff.1 hf
   obtain ⟨⟨lg, r4⟩, hlg, hf⟩ := Option.bind_eq_some_iff.1 hf
   dsimp only at hu hbl hlg hf
   have hbd4 := logs_bd (rbloom_bd (rsmall_bd (routcome_bd (r := ⟨0⟩) ⟨Int.le_refl _, by decide⟩ ho) hu) hbl) hlg
   obtain ⟨hkk, -, -, hlogs⟩ := routcome_keep ho
   replace hkk : o.kind = k := hkk
   replace hlogs : o.logs = .slice none 0 0 := hlogs
   obtain ⟨c0, hc0, hcc0⟩ := hri.get ItRd.len hx0
   obtain ⟨c1, hc1, hcc1⟩ := hri.get ItRd.len hx1
   obtain ⟨c2, hc2, hcc2⟩ := hri.get ItRd.len hx2
   obtain ⟨c3, hc3, hcc3⟩ := hri.get ItRd.len hx3
   refine CW.region ?_
   refine OW.rv (RV.move rfl) rfl ?_
   refine OW.rv (RV.neq_f rfl rfl (by omega)) rfl ?_
   refine OW.rv (RV.move rfl) rfl ?_
   refine OW.want rfl ?_; refine OW.rv (RV.move rfl) rfl ?_
   refine OW.want rfl ?_; refine OW.rv (RV.len rfl rfl) rfl ?_
   refine OW.want rfl ?_; refine OW.rv (RV.neq_f rfl rfl (by omega)) rfl ?_
   refine OW.rv (RV.pick_f rfl rfl rfl) rfl ?_
   refine OW.nil (QW.then_n ?_)
   refine CW.cond_f rfl ?_
   (refine CW.skip ?_; refine QW.then_n ?_; refine CW.seq ?_)
   refine CW.region ?_
   refine OW.alloc (l := (⟨0⟩ : Rdr).C) rfl rfl rfl (fun b9 => ?_)
   refine OW.nil ?_
   (refine QW.then_n ?_; refine CW.seq ?_)
   refine CW.region ?_
   refine OW.rv (RV.move rfl) rfl ?_
   refine OW.rv (RV.idx_rs (0) rfl rfl rfl rfl rfl (hvi.isSome (by decide) (i := 0) (by omega)) (by omega)) rfl ?_
   refine OW.rv (RV.loadAs rfl rfl rfl rfl (fun w m => hvi.load (m.drop 3) hcc0) (ItRd.len _ _ hc0)) rfl ?_
   refine OW.callG Tryd.call68 rfl (routcome_does w0 _ ((some b2, blk RcptZ.C 30) :: (BK ++ N)) (fun w m => m.drop 1) b9 b4 ({ RcptZ with kind := k } : RcptC) o ⟨0⟩ r1 c0 x0 hc0 (by dsimp only; omega) ho) rfl rfl ?_; rintro _ _ ⟨B3, rfl, rfl⟩; refine OW.mem (M' := (some b9, blk r1.C 109) :: (some b4, blk o.C 30) :: (some b2, blk RcptZ.C 30) :: (BK ++ N)) (fun w m => m.sk2.sublist (List.Sublist.cons_cons _ (List.Sublist.cons_cons _ (List.Sublist.cons_cons _ (List.sublist_append_right _ _))))) ?_
   refine OW.nil ?_
   (refine QW.then_n ?_; refine CW.seq ?_)
   refine CW.region ?_
   refine OW.rv (RV.field rfl rfl rfl rfl) rfl ?_; refine OW.slot (ptr (some b4) 35) rfl ?_
   refine OW.rv (RV.move rfl) rfl ?_
   refine OW.rv (RV.idx_rs (1) rfl rfl rfl rfl rfl (hvi.isSome (by decide) (i := 0) (by omega)) (by omega)) rfl ?_
   refine OW.rv (RV.loadAs rfl rfl rfl rfl (fun w m => hvi.load (m.drop 3) hcc1) (ItRd.len _ _ hc1)) rfl ?_
   refine OW.callG Tryd.call69 rfl (rsmall_does w0 _ ((some b2, blk RcptZ.C 30) :: (BK ++ N)) (fun w m => m.drop 1) b9 b4 35 o.C 30 r1 r2 c1 x1 o.used u hc1 (RcptC.C_used _) hu) rfl rfl ?_; rintro _ _ ⟨B4, rfl, rfl⟩; refine OW.mem (M' := (some b4, blk (o.C.set 35 (U64 u)) 30) :: (some b9, blk r2.C 109) :: (some b2, blk RcptZ.C 30) :: (BK ++ N)) (fun w m => (m.sk2.sublist (List.Sublist.cons_cons _ (List.Sublist.cons_cons _ (List.Sublist.cons_cons _ (List.sublist_append_right _ _))))).rot1) ?_; refine OW.cells ({ o with used := u } : RcptC).C (RcptC.C_used_set _ _) ?_
   refine OW.nil ?_
   (refine QW.then_n ?_; refine CW.seq ?_)
   refine CW.region ?_
   refine OW.rv (RV.field rfl rfl rfl rfl) rfl ?_; refine OW.slot (ptr (some b4) 36) rfl ?_
   refine OW.rv (RV.move rfl) rfl ?_
   refine OW.rv (RV.idx_rs (2) rfl rfl rfl rfl rfl (hvi.isSome (by decide) (i := 0) (by omega)) (by omega)) rfl ?_
   refine OW.rv (RV.loadAs rfl rfl rfl rfl (fun w m => hvi.load (m.drop 3) hcc2) (ItRd.len _ _ hc2)) rfl ?_
   refine OW.rot1 ?_; refine OW.callG Tryd.call70 rfl (rbloom_does w0 _ ((some b2, blk RcptZ.C 30) :: (BK ++ N)) (fun w m => m.drop 1) b9 b4 36 ({ o with used := u } : RcptC).C 30 r2 r3 c2 x2 o.bloom bl hc2 (RcptC.C_bloom_all ({ o with used := u } : RcptC)) (by rw [RcptC.C_length]; exact Nat.le_of_ble_eq_true rfl) hbl) rfl rfl ?_; rintro _ _ ⟨B5, rfl, rfl⟩; refine OW.mem (M' := (some b4, blk (spl ({ o with used := u } : RcptC).C 36 (u8s bl.toList)) 30) :: (some b9, blk r3.C 109) :: (some b2, blk RcptZ.C 30) :: (BK ++ N)) (fun w m => (m.sk2.sublist (List.Sublist.cons_cons _ (List.Sublist.cons_cons _ (List.Sublist.cons_cons _ (List.sublist_append_right _ _))))).rot1) ?_; refine OW.cells ({ { o with used := u } with bloom := bl } : RcptC).C (RcptC.C_bloom_spl _ _) ?_
   refine OW.nil ?_
   (refine QW.then_n ?_; refine CW.seq ?_)
   refine CW.region ?_
   refine OW.rv (RV.field rfl rfl rfl rfl) rfl ?_; refine OW.slot (ptr (some b4) 292) rfl ?_
   refine OW.rv (RV.move rfl) rfl ?_
   refine OW.rv (RV.idx_rs (3) rfl rfl rfl rfl rfl (hvi.isSome (by decide) (i := 0) (by omega)) (by omega)) rfl ?_
   refine OW.rv (RV.loadAs rfl rfl rfl rfl (fun w m => hvi.load (m.drop 3) hcc3) (ItRd.len _ _ hc3)) rfl ?_
   refine OW.rot1 ?_; refine OW.callG Tryd.call71 rfl (rlogs_does w0 _ ((some b2, blk RcptZ.C 30) :: (BK ++ N)) (fun w m => m.drop 1) b9 b4 292 ({ { o with used := u } with bloom := bl } : RcptC).C 30 r3 r4 c3 x3 lg hc3 ((RcptC.C_logs _).trans (congrArg some hlogs)) hlg) rfl rfl ?_; rintro _ _ ⟨B6, gs, ob, cg, rg, gok, og, gval, rfl, rfl⟩; refine OW.mem (M' := (some b4, blk (({ { o with used := u } with bloom := bl } : RcptC).C.set 292 (sl ob 0 gs.length cg)) 30) :: (some b9, blk r4.C 109) :: (ob, blk (lgC gs ++ rg) 63) :: (some b2, blk RcptZ.C 30) :: (lgs 24 5 gs ++ (BK ++ N))) (fun w m => by have m1 : Mem w0 w ((some b9, blk r4.C 109) :: (ob, blk (lgC gs ++ rg) 63) :: (some b4, blk (({ { o with used := u } with bloom := bl } : RcptC).C.set 292 (sl ob 0 gs.length cg)) 30) :: ((lgs 24 5 gs ++ B6) ++ ((some b2, blk RcptZ.C 30) :: (BK ++ N)))) := m; have m2 := m1.sk3.pick [2, 0, 1, 3] 4 rfl rfl; rw [List.append_assoc] at m2; exact m2.sublist (List.Sublist.cons_cons _ (List.Sublist.cons_cons _ (List.Sublist.cons_cons _ (List.Sublist.cons_cons _ (List.Sublist.append_left (List.sublist_append_right _ _) _)))))) ?_; refine OW.cells ({ { { o with used := u } with bloom := bl } with logs := sl ob 0 gs.length cg } : RcptC).C (RcptC.C_logs_set _ _) ?_
   refine OW.nil ?_
   (refine QW.then_n ?_; refine CW.seq ?_; refine CW.seq ?_)
   have hmg := og.mx
   have hvl := og.view (te := 63) (w0 := w0) (Ψ := fun w => Mem w0 w ((some b4, blk ({ { { o with used := u } with bloom := bl } with logs := sl ob 0 gs.length cg } : RcptC).C 30) :: (some b9, blk r4.C 109) :: (ob, blk (lgC gs ++ rg) 63) :: (some b2, blk RcptZ.C 30) :: (lgs 24 5 gs ++ (BK ++ N)))) (by decide) (fun w q => (q.drop 2).sublist (List.singleton_sublist.2 (List.mem_cons_self ..)))
   have hrl := lgs_reps (w0 := w0) (Φ := fun w => Mem w0 w ((some b4, blk ({ { { o with used := u } with bloom := bl } with logs := sl ob 0 gs.length cg } : RcptC).C 30) :: (some b9, blk r4.C 109) :: (ob, blk (lgC gs ++ rg) 63) :: (some b2, blk RcptZ.C 30) :: (lgs 24 5 gs ++ (BK ++ N)))) (tH := 24) (tB := 5) gok (fun w q => (q.drop 4).appL)
   have hvl2 : View (fun w => Mem w0 w ((some b4, blk ({ { { o with used := u } with bloom := bl } with logs := sl ob 0 gs.length cg } : RcptC).C 30) :: (some b9, blk r4.C 109) :: (ob, blk (lgC gs ++ rg) 63) :: (some b2, blk RcptZ.C 30) :: (lgs 24 5 gs ++ (BK ++ N)))) (ob.map fun k => ⟨k, 0, none⟩) (gs.map Lg.val).length cg 22 (lgC gs) := by rw [List.length_map]; exact hvl
   by_cases he4 : r4.err = 0
   ·rw [if_pos he4] at hf
    obtain ⟨y, hy, hf⟩ := Option.bind_eq_some_iff.1 hf
    rw [← gval] at hy
    refine CW.drawsU 11 mixed (by kernel_rfl) rfl ?_
    refine UW.rv 0 rfl (by kernel_rfl) rfl (RV.field rfl rfl rfl rfl) rfl ?_
    refine UW.rv 1 rfl (by kernel_rfl) rfl (RV.load rfl (List.Mem.tail _ (List.Mem.head _)) rfl rfl rfl (Rdr.C_err _)) rfl ?_
    refine UW.rv 2 rfl (by kernel_rfl) rfl (RV.eql_t rfl rfl he4) rfl ?_
    refine UW.rv 3 rfl (by kernel_rfl) rfl (RV.move rfl) rfl ?_
    refine UW.rv 4 rfl (by kernel_rfl) rfl (RV.field rfl rfl rfl rfl) rfl ?_
    refine UW.rv 5 rfl (by kernel_rfl) rfl (RV.loadAo rfl (List.Mem.head _) rfl rfl rfl rfl (RcptC.C_bloom_all _) ((u8s_length _).trans Vector.length_toList)) rfl ?_
    refine UW.rv 6 rfl (by kernel_rfl) rfl (RV.field rfl rfl rfl rfl) rfl ?_
    refine UW.rv 7 rfl (by kernel_rfl) rfl (RV.load rfl (List.Mem.head _) rfl rfl rfl (RcptC.C_logs _)) rfl ?_
    refine UW.slot (.slice (ob.map fun k => ⟨k, 0, none⟩) (gs.map Lg.val).length cg) (by rw [List.length_map]; rfl) ?_
    refine UW.callG 8 rfl (by kernel_rfl) rfl Tryd.call28 rfl (fun N' hN' => receipt_BloomOf_does w0 (fun w => Mem w0 w ((some b4, blk ({ { { o with used := u } with bloom := bl } with logs := sl ob 0 gs.length cg } : RcptC).C 30) :: (some b9, blk r4.C 109) :: (ob, blk (lgC gs ++ rg) 63) :: (some b2, blk RcptZ.C 30) :: (lgs 24 5 gs ++ (BK ++ N)))) N' (fun w m => hN' w m) (ob.map fun k => ⟨k, 0, none⟩) cg (lgC gs) (gs.map Lg.val) y hvl2 hrl (hg2.mono fun w q => hK w (q.drop 4).appR) hy) rfl ?_
    rintro _ G8 rfl
    refine UW.mem (M' := ((some b4, blk ({ { { o with used := u } with bloom := bl } with logs := sl ob 0 gs.length cg } : RcptC).C 30) :: (some b9, blk r4.C 109) :: (ob, blk (lgC gs ++ rg) 63) :: (some b2, blk RcptZ.C 30) :: (lgs 24 5 gs ++ (BK ++ N)))) (fun w m => m.appR) ?_
    refine UW.rv 9 rfl (by kernel_rfl) rfl (RV.neA8 rfl rfl rfl rfl rfl rfl Vector.length_toList Vector.length_toList) rfl ?_
    refine UW.slot (.bool (!decide (bl = y))) (congrArg (fun b => Value.bool (!b)) (decide_eq_decide.2 Vector.toList_inj)) ?_
    refine UW.rv 10 rfl (by kernel_rfl) rfl (RV.pick_t rfl rfl rfl) rfl ?_
    refine UW.nil (by kernel_rfl) ?_
    refine OW.nil (QW.then_n ?_)
    refine CW.cond_np rfl (fun hby => ?_) (fun hby => ?_)
    ·rw [if_neg hby] at hf
     obtain ⟨rfl, rfl⟩ := Prod.mk.inj (Option.some.inj hf)
     refine CW.mem (M' := (some b9, blk r4.C 109) :: (some b2, blk RcptZ.C 30) :: N) (fun w m => (m.pick [1, 3] 4 rfl rfl).sublist (List.Sublist.cons_cons _ (List.Sublist.cons_cons _ ((List.sublist_append_right _ _).trans (List.sublist_append_right _ _))))) ?_
     refine CW.region ?_
     refine OW.rv (RV.field rfl rfl rfl rfl) rfl ?_
     refine OW.sv (SV.store rfl rfl rfl rfl rfl (by rw [Rdr.C_length]; decide)) ?_; refine OW.cells (⟨173⟩ : Rdr).C (Rdr.C_err_set _ 173) ?_
     refine OW.nil ?_
     (refine QW.then_n ?_; refine CW.seq ?_; refine CW.seq ?_)
     refine CW.region ?_
     refine OW.rv (RV.field rfl rfl rfl rfl) rfl ?_
     refine OW.rv (RV.load rfl (by exact List.Mem.head _; done) rfl rfl rfl rfl) rfl ?_
     refine OW.rv (RV.neq_t rfl rfl (by decide)) rfl ?_
     refine OW.nil (QW.then_n ?_)
     refine CW.cond_t rfl ?_
     refine CW.seq ?_
     refine CW.drawsX ((some b9, blk (⟨173⟩ : Rdr).C 109) :: N) [3] (fun w m => m.pick [0] 2 rfl rfl) mixed (by kernel_rfl) ?_
     refine XW.rs 0 rfl (by kernel_rfl) rfl (RV.buildSt (l := RcptZ.C) (cs := RcptZ.C) [] rfl rfl rfl (by kernel_rfl) rfl rfl rfl) rfl ?_
     refine XW.rs 1 rfl (by kernel_rfl) rfl (RV.field rfl rfl rfl rfl) rfl ?_
     refine XW.rs 2 rfl (by kernel_rfl) rfl (RV.load rfl (List.Mem.head _) rfl rfl rfl (Rdr.C_err _)) rfl ?_
     refine XW.mem (M' := (some b2, blk RcptZ.C 30) :: (some b9, blk (⟨173⟩ : Rdr).C 109) :: N) (fun w m => m.rot1) (fun w m => m.tail) ?_
     refine XW.sv 3 rfl (by kernel_rfl) (SV.storeW rfl rfl rfl (RcptC.C_one _ rfl) rfl (RcptC.C_length _) (RcptC.C_length _)) (fun w m => m.tail) ?_
     refine XW.rs 4 rfl (by kernel_rfl) rfl (RV.assign rfl) rfl ?_
     refine XW.nil (by kernel_rfl) ?_
     (refine QW.then_n ?_; refine CW.ret ?_; refine QW.then_r ?_)
     refine QW.retG (rs := [.cell 2 30, .tmp 3]) [.agg RcptZ.C.toArray, .int .i64 173] ((none, blk [] 63) :: []) rfl ?_ rfl (DecO.zero (by omega) _) (fun w m => m.tail.tail.nil_ent _) _ (.inl rfl)
     exact ⟨⟨_, _, _, _, rfl, List.Mem.head _, rfl, rfl, congrArg some (RcptC.C_length _).symm, rfl⟩, rfl, trivial⟩
    ·rw [if_pos hby] at hf
     obtain ⟨rfl, rfl⟩ := Prod.mk.inj (Option.some.inj hf)
     (refine CW.skip ?_; refine QW.then_n ?_; refine CW.seq ?_; refine CW.seq ?_)
     refine CW.mem (M' := (some b2, blk RcptZ.C 30) :: (some b4, blk ({ { { o with used := u } with bloom := bl } with logs := sl ob 0 gs.length cg } : RcptC).C 30) :: (some b9, blk r4.C 109) :: (ob, blk (lgC gs ++ rg) 63) :: (lgs 24 5 gs ++ (BK ++ N))) (fun w m => m.pick [3, 0, 1, 2] 4 rfl rfl) ?_
     refine CW.region ?_
     refine OW.rv (RV.field rfl rfl rfl rfl) rfl ?_
     refine OW.rv (RV.load rfl (List.Mem.tail _ (List.Mem.tail _ (List.Mem.head _))) rfl rfl rfl (Rdr.C_err _)) rfl ?_
     refine OW.rv (RV.neq_f rfl rfl he4) rfl ?_
     refine OW.nil (QW.then_n ?_)
     refine CW.cond_f rfl ?_
     (refine CW.skip ?_; refine QW.then_n ?_; refine CW.seq ?_)
     refine CW.region ?_
     refine OW.rv (RV.loadW rfl (List.Mem.tail _ (List.Mem.head _)) rfl rfl rfl rfl (RcptC.C_length _)) rfl ?_
     refine OW.sv (SV.storeW rfl rfl rfl (RcptC.C_one _ rfl) rfl (RcptC.C_length _) (RcptC.C_length _)) ?_
     refine OW.rv (RV.assign rfl) rfl ?_
     refine OW.nil ?_
     (refine QW.then_n ?_; refine CW.ret ?_)
     refine QW.retG (rs := [.cell 2 30, .tmp 3]) [.agg ({ { { o with used := u } with bloom := bl } with logs := sl ob 0 gs.length cg } : RcptC).C.toArray, .int .i64 0] ((ob, blk (lgC gs ++ rg) 63) :: (lgs 24 5 gs ++ BK)) rfl ?_ rfl ⟨gs, ob, cg, rg, BK, gok, og, gval, by omega, by dsimp only; omega, rfl, rfl⟩ (fun w m => ?_) _ (.inl rfl)
     ·exact ⟨⟨_, _, _, _, rfl, List.Mem.head _, rfl, rfl, congrArg some (RcptC.C_length _).symm, rfl⟩, rfl, trivial⟩
     ·have m2 := m.tail.tail.tail
      simpa only [List.append_assoc, List.cons_append] using m2
   ·rw [if_neg he4] at hf
    obtain ⟨rfl, rfl⟩ := Prod.mk.inj (Option.some.inj hf)
    refine CW.drawsU 11 mixed (by kernel_rfl) rfl ?_
    refine UW.rv 0 rfl (by kernel_rfl) rfl (RV.field rfl rfl rfl rfl) rfl ?_
    refine UW.rv 1 rfl (by kernel_rfl) rfl (RV.load rfl (List.Mem.tail _ (List.Mem.head _)) rfl rfl rfl (Rdr.C_err _)) rfl ?_
    refine UW.rv 2 rfl (by kernel_rfl) rfl (RV.eql_f rfl rfl he4) rfl ?_
    refine UW.rv 3 rfl (by kernel_rfl) rfl (RV.move rfl) rfl ?_
    refine UW.skip 4 rfl (by kernel_rfl) rfl rfl ?_
    refine UW.skip 5 rfl (by kernel_rfl) rfl rfl ?_
    refine UW.skip 6 rfl (by kernel_rfl) rfl rfl ?_
    refine UW.skip 7 rfl (by kernel_rfl) rfl rfl ?_
    refine UW.skip 8 rfl (by kernel_rfl) rfl rfl ?_
    refine UW.skip 9 rfl (by kernel_rfl) rfl rfl ?_
    refine UW.rv 10 rfl (by kernel_rfl) rfl (RV.pick_f rfl rfl rfl) rfl ?_
    refine UW.nil (by kernel_rfl) ?_
    refine OW.nil (QW.then_n ?_)
    refine CW.cond_f rfl ?_
    (refine CW.skip ?_; refine QW.then_n ?_; refine CW.seq ?_; refine CW.seq ?_)
    refine CW.mem (M' := (some b9, blk r4.C 109) :: (some b2, blk RcptZ.C 30) :: N) (fun w m => (m.pick [1, 3] 4 rfl rfl).sublist (List.Sublist.cons_cons _ (List.Sublist.cons_cons _ ((List.sublist_append_right _ _).trans (List.sublist_append_right _ _))))) ?_
    refine CW.region ?_
    refine OW.rv (RV.field rfl rfl rfl rfl) rfl ?_
    refine OW.rv (RV.load rfl (by exact List.Mem.head _; done) rfl rfl rfl rfl) rfl ?_
    refine OW.rv (RV.neq_t rfl rfl he4) rfl ?_
    refine OW.nil (QW.then_n ?_)
    refine CW.cond_t rfl ?_
    refine CW.seq ?_
    refine CW.drawsX ((some b9, blk r4.C 109) :: N) [3] (fun w m => m.pick [0] 2 rfl rfl) mixed (by kernel_rfl) ?_
    refine XW.rs 0 rfl (by kernel_rfl) rfl (RV.buildSt (l := RcptZ.C) (cs := RcptZ.C) [] rfl rfl rfl (by kernel_rfl) rfl rfl rfl) rfl ?_
    refine XW.rs 1 rfl (by kernel_rfl) rfl (RV.field rfl rfl rfl rfl) rfl ?_
    refine XW.rs 2 rfl (by kernel_rfl) rfl (RV.load rfl (List.Mem.head _) rfl rfl rfl (Rdr.C_err _)) rfl ?_
    refine XW.mem (M' := (some b2, blk RcptZ.C 30) :: (some b9, blk r4.C 109) :: N) (fun w m => m.rot1) (fun w m => m.tail) ?_
    refine XW.sv 3 rfl (by kernel_rfl) (SV.storeW rfl rfl rfl (RcptC.C_one _ rfl) rfl (RcptC.C_length _) (RcptC.C_length _)) (fun w m => m.tail) ?_
    refine XW.rs 4 rfl (by kernel_rfl) rfl (RV.assign rfl) rfl ?_
    refine XW.nil (by kernel_rfl) ?_
    (refine QW.then_n ?_; refine CW.ret ?_; refine QW.then_r ?_)
    refine QW.retG (rs := [.cell 2 30, .tmp 3]) [.agg RcptZ.C.toArray, .int .i64 r4.err] ((none, blk [] 63) :: []) rfl ?_ rfl (DecO.zero (by have := hbd4.1; have := hbd4.2; omega) _) (fun w m => m.tail.tail.nil_ent _) _ (.inl rfl)
    exact ⟨⟨_, _, _, _, rfl, List.Mem.head _, rfl, rfl, congrArg some (RcptC.C_length _).symm, rfl⟩, rfl, trivial⟩
  ·rw [if_neg hc] at hf
   obtain ⟨rfl, rfl⟩ := Prod.mk.inj (Option.some.inj hf)
   by_cases he : e2 = 0
   ·skip
    refine CW.region ?_
    refine OW.rv (RV.move rfl) rfl ?_
    refine OW.rv (RV.neq_f rfl rfl (by omega)) rfl ?_
    refine OW.rv (RV.move rfl) rfl ?_
    refine OW.want rfl ?_; refine OW.rv (RV.move rfl) rfl ?_
    refine OW.want rfl ?_; refine OW.rv (RV.len rfl rfl) rfl ?_
    refine OW.want rfl ?_; refine OW.rv (RV.neq_t rfl rfl (by omega)) rfl ?_
    refine OW.rv (RV.pick_f rfl rfl rfl) rfl ?_
    refine OW.nil (QW.then_n ?_)
    refine CW.cond_t rfl ?_
    refine CW.mem (M' := (some b2, blk RcptZ.C 30) :: N) (fun w m => (m.drop 1).sublist (List.Sublist.cons_cons _ (List.sublist_append_right _ _))) ?_
    refine CW.seq (CW.region ?_)
    refine OW.rv (RV.buildSt (l := RcptZ.C) (cs := RcptZ.C) [] rfl rfl rfl (by kernel_rfl) rfl rfl rfl) rfl ?_
    refine OW.sv (SV.storeW rfl rfl rfl (RcptC.C_one _ rfl) rfl (RcptC.C_length _) (RcptC.C_length _)) ?_
    refine OW.rv (RV.assign rfl) rfl ?_
    refine OW.nil ?_
    (refine QW.then_n ?_; refine CW.ret ?_; refine QW.then_r ?_)
    refine QW.retG (rs := [.cell 2 30, .tmp 3]) [.agg RcptZ.C.toArray, .int .i64 171] ((none, blk [] 63) :: []) rfl ?_ rfl (DecO.zero (by omega) _) (fun w m => m.tail.nil_ent _) _ (.inl rfl)
    exact ⟨⟨_, _, _, _, rfl, List.Mem.head _, rfl, rfl, congrArg some (RcptC.C_length _).symm, rfl⟩, rfl, trivial⟩
   ·skip
    refine CW.region ?_
    refine OW.rv (RV.move rfl) rfl ?_
    refine OW.rv (RV.neq_t rfl rfl (by omega)) rfl ?_
    refine OW.rv (RV.move rfl) rfl ?_
    refine OW.skip rfl rfl rfl ?_
    refine OW.skip rfl rfl rfl ?_
    refine OW.skip rfl rfl rfl ?_
    refine OW.rv (RV.pick_t rfl rfl rfl) rfl ?_
    refine OW.nil (QW.then_n ?_)
    refine CW.cond_t rfl ?_
    refine CW.mem (M' := (some b2, blk RcptZ.C 30) :: N) (fun w m => (m.drop 1).sublist (List.Sublist.cons_cons _ (List.sublist_append_right _ _))) ?_
    refine CW.seq (CW.region ?_)
    refine OW.rv (RV.buildSt (l := RcptZ.C) (cs := RcptZ.C) [] rfl rfl rfl (by kernel_rfl) rfl rfl rfl) rfl ?_
    refine OW.sv (SV.storeW rfl rfl rfl (RcptC.C_one _ rfl) rfl (RcptC.C_length _) (RcptC.C_length _)) ?_
    refine OW.rv (RV.assign rfl) rfl ?_
    refine OW.nil ?_
    (refine QW.then_n ?_; refine CW.ret ?_; refine QW.then_r ?_)
    refine QW.retG (rs := [.cell 2 30, .tmp 3]) [.agg RcptZ.C.toArray, .int .i64 171] ((none, blk [] 63) :: []) rfl ?_ rfl (DecO.zero (by omega) _) (fun w m => m.tail.nil_ent _) _ (.inl rfl)
    exact ⟨⟨_, _, _, _, rfl, List.Mem.head _, rfl, rfl, congrArg some (RcptC.C_length _).symm, rfl⟩, rfl, trivial⟩
 ·have hbm := b.isLt
  by_cases h192 : 192 ≤ b.toNat
  ·(refine CW.block ?_; refine CW.seq ?_)
   refine CW.region ?_
   refine OW.rv (RV.move rfl) rfl ?_
   refine OW.rv (RV.geq rfl rfl) rfl ?_; refine OW.slot (.bool true) (congrArg Value.bool (decide_eq_true (by omega))) ?_
   refine OW.rv (RV.assign rfl) rfl ?_
   refine OW.nil (QW.then_n ?_)
   refine CW.cond_t rfl ?_
   (refine CW.skip ?_; refine QW.block_n ?_)
   refine QW.join ⟨0, data, A, c, by unfold dkind; rw [if_pos h192], va, by omega, rfl, rfl⟩ ⟨rfl, rfl, rfl, trivial⟩ (fun w m => m)
  ·(refine CW.block ?_; refine CW.seq ?_)
   refine CW.region ?_
   refine OW.rv (RV.move rfl) rfl ?_
   refine OW.rv (RV.geq rfl rfl) rfl ?_; refine OW.slot (.bool false) (congrArg Value.bool (decide_eq_false (by omega))) ?_
   refine OW.rv (RV.assign rfl) rfl ?_
   refine OW.nil (QW.then_n ?_)
   refine CW.cond_f rfl ?_
   refine CW.seq ?_
   by_cases h1 : 1 ≤ b.toNat
   ·by_cases h4 : b.toNat ≤ 4
    ·skip
     refine CW.region ?_
     refine OW.rv (RV.move rfl) rfl ?_
     refine OW.rv (RV.geq rfl rfl) rfl ?_; refine OW.slot (.bool true) (congrArg Value.bool (decide_eq_true (by omega))) ?_
     refine OW.rv (RV.move rfl) rfl ?_
     refine OW.want rfl ?_; refine OW.rv (RV.move rfl) rfl ?_
     refine OW.want rfl ?_; refine OW.rv (RV.leq rfl rfl) rfl ?_; refine OW.slot (.bool true) (congrArg Value.bool (decide_eq_true (by omega))) ?_
     refine OW.rv (RV.pick_t rfl rfl rfl) rfl ?_
     refine OW.rv (RV.assign rfl) rfl ?_
     refine OW.nil (QW.then_n ?_)
     refine CW.cond_t rfl ?_
     refine CW.seq (CW.region ?_)
     refine OW.rv (RV.move rfl) rfl ?_
     refine OW.rv (RV.conv8_i rfl rfl rfl rfl) rfl ?_
     refine OW.rv (RV.field rfl rfl rfl rfl) rfl ?_
     refine OW.sv (SV.store rfl rfl rfl rfl rfl (by rw [RcptC.C_length]; exact Nat.le_of_ble_eq_true rfl)) ?_; refine OW.cells ({ RcptZ with kind := (b.toNat : Int) } : RcptC).C (RcptC.C_kind_set _ (b.toNat : Int)) ?_
     refine OW.nil (QW.then_n (CW.region ?_))
     refine OW.rv (RV.move rfl) rfl ?_
     refine OW.rv (RV.cut_lo (s := 1) (1) rfl rfl (by omega) rfl rfl (by omega)) rfl ?_; refine OW.slot (.slice (subA A c 1 1) (data.drop 1).length (c - 1)) (by rw [List.length_drop]) ?_
     refine OW.rv (RV.assign rfl) rfl ?_
     refine OW.nil (QW.block_n ?_)
     refine QW.join ⟨(b.toNat : Int), data.drop 1, subA A c 1 1, c - 1, by unfold dkind; rw [if_neg h192, if_pos ⟨h1, h4⟩], va.lo8 (by omega), by omega, rfl, rfl⟩ ⟨rfl, rfl, rfl, trivial⟩ (fun w m => m)
    ·have hk0 : dkind data b = none := by unfold dkind; rw [if_neg h192, if_neg (fun h => h4 h.2)]
     rw [hk0] at hf
     obtain ⟨rfl, rfl⟩ := Prod.mk.inj (Option.some.inj hf)
     refine CW.region ?_
     refine OW.rv (RV.move rfl) rfl ?_
     refine OW.rv (RV.geq rfl rfl) rfl ?_; refine OW.slot (.bool true) (congrArg Value.bool (decide_eq_true (by omega))) ?_
     refine OW.rv (RV.move rfl) rfl ?_
     refine OW.want rfl ?_; refine OW.rv (RV.move rfl) rfl ?_
     refine OW.want rfl ?_; refine OW.rv (RV.leq rfl rfl) rfl ?_; refine OW.slot (.bool false) (congrArg Value.bool (decide_eq_false (by omega))) ?_
     refine OW.rv (RV.pick_t rfl rfl rfl) rfl ?_
     refine OW.rv (RV.assign rfl) rfl ?_
     refine OW.nil (QW.then_n ?_)
     refine CW.cond_f rfl ?_
     refine CW.mem (M' := (some b2, blk RcptZ.C 30) :: N) (fun w m => m.drop 1) ?_
     refine CW.seq (CW.region ?_)
     refine OW.rv (RV.buildSt (l := RcptZ.C) (cs := RcptZ.C) [] rfl rfl rfl (by kernel_rfl) rfl rfl rfl) rfl ?_
     refine OW.sv (SV.storeW rfl rfl rfl (RcptC.C_one _ rfl) rfl (RcptC.C_length _) (RcptC.C_length _)) ?_
     refine OW.rv (RV.assign rfl) rfl ?_
     refine OW.nil ?_
     (refine QW.then_n ?_; refine CW.ret ?_; refine QW.block_r ?_; refine QW.then_r ?_; refine QW.then_r ?_)
     refine QW.retG (rs := [.cell 2 30, .tmp 3]) [.agg RcptZ.C.toArray, .int .i64 170] ((none, blk [] 63) :: []) rfl ?_ rfl (DecO.zero (by omega) _) (fun w m => m.tail.nil_ent _) _ (.inl rfl)
     exact ⟨⟨_, _, _, _, rfl, List.Mem.head _, rfl, rfl, congrArg some (RcptC.C_length _).symm, rfl⟩, rfl, trivial⟩
   ·have hk0 : dkind data b = none := by unfold dkind; rw [if_neg h192, if_neg (fun h => h1 h.1)]
    rw [hk0] at hf
    obtain ⟨rfl, rfl⟩ := Prod.mk.inj (Option.some.inj hf)
    refine CW.region ?_
    refine OW.rv (RV.move rfl) rfl ?_
    refine OW.rv (RV.geq rfl rfl) rfl ?_; refine OW.slot (.bool false) (congrArg Value.bool (decide_eq_false (by omega))) ?_
    refine OW.rv (RV.move rfl) rfl ?_
    refine OW.skip rfl rfl rfl ?_
    refine OW.skip rfl rfl rfl ?_
    refine OW.rv (RV.pick_f rfl rfl rfl) rfl ?_
    refine OW.rv (RV.assign rfl) rfl ?_
    refine OW.nil (QW.then_n ?_)
    refine CW.cond_f rfl ?_
    refine CW.mem (M' := (some b2, blk RcptZ.C 30) :: N) (fun w m => m.drop 1) ?_
    refine CW.seq (CW.region ?_)
    refine OW.rv (RV.buildSt (l := RcptZ.C) (cs := RcptZ.C) [] rfl rfl rfl (by kernel_rfl) rfl rfl rfl) rfl ?_
    refine OW.sv (SV.storeW rfl rfl rfl (RcptC.C_one _ rfl) rfl (RcptC.C_length _) (RcptC.C_length _)) ?_
    refine OW.rv (RV.assign rfl) rfl ?_
    refine OW.nil ?_
    (refine QW.then_n ?_; refine CW.ret ?_; refine QW.block_r ?_; refine QW.then_r ?_; refine QW.then_r ?_)
    refine QW.retG (rs := [.cell 2 30, .tmp 3]) [.agg RcptZ.C.toArray, .int .i64 170] ((none, blk [] 63) :: []) rfl ?_ rfl (DecO.zero (by omega) _) (fun w m => m.tail.nil_ent _) _ (.inl rfl)
    exact ⟨⟨_, _, _, _, rfl, List.Mem.head _, rfl, rfl, congrArg some (RcptC.C_length _).symm, rfl⟩, rfl, trivial⟩
theorem receipt_Decode_does (w0 : World) (Φ : Ctx) (N : List Ent) (hΦ : ∀ w, Mem w0 w N → Φ w) (A : Option Addr) (c : Nat) (data : List (BitVec 8)) (x : Rcpt) (e : Int) (va : View Φ A data.length c 1 (u8s data)) (hg2 : View Φ (some ⟨2, 0, none⟩) 2 2 1 (u8s firstL)) (hf : receipt_Decode data = some (x, e)) :
  DoesG Tryd.prog 39 [.slice A data.length c] w0 [] N (fun v G => ∃ B : List Ent, ∃ cr0 : List Value, RcptRd (More w0 Φ B) cr0 x ∧ (-9223372036854775808 ≤ e ∧ e ≤ 9223372036854775807) ∧ v = .tuple #[.agg cr0.toArray, .int .i64 e] ∧ G = B) :=
 (receipt_Decode_own w0 Φ N hΦ A c data x e va hg2 hf).mono fun v G h => h.rd
theorem receipt_Make_own (w0 : World) (Φ : Ctx) (N : List Ent) (hΦ : ∀ w, Mem w0 w N → Φ w) (kind : Int) (status used : BitVec 64) (A : Option Addr) (c : Nat) (cs : List Value) (logs : List Log) (x : Rcpt) (e : Int) (hkb : -9223372036854775808 ≤ kind ∧ kind ≤ 9223372036854775807) (va : View Φ A logs.length c 22 cs) (ha : Reps (LogRd Φ) cs logs) (hg2 : View Φ (some ⟨2, 0, none⟩) 2 2 1 (u8s firstL)) (hf : receipt_Make kind status used logs = some (x, e)) :
  DoesG Tryd.prog 26 [.int .i64 kind, U64 status, U64 used, .slice A logs.length c] w0 [] N (DecO w0 x e) := by
 have hm := va.mx
 unfold receipt_Make at hf
 obtain ⟨bl, hbl, hf⟩ := Option.bind_eq_some_iff.1 hf
 obtain ⟨hfit, hf⟩ := some_if hf
 obtain ⟨ce, hce, hf⟩ := Option.bind_eq_some_iff.1 hf
 simp only [mkfit, Bool.and_eq_true, List.all_eq_true, decide_eq_true_eq] at hfit
 obtain ⟨hfit1, hfit2⟩ := hfit
 refine DoesG.enter Tryd.func26 rfl Tryd.ntmps26 rfl (M := N) rfl ?_
 refine CW.seq (CW.region ?_)
 refine OW.alloc (l := RcptZ.C) rfl (by kernel_rfl) rfl (fun b8 => ?_)
 refine OW.rv (RV.assign rfl) rfl ?_
 refine OW.nil ?_
 (refine QW.then_n ?_; refine CW.seq ?_)
 refine CW.region ?_
 refine OW.rv (RV.move rfl) rfl ?_
 refine OW.rv (RV.move rfl) rfl ?_
 refine OW.rv (RV.move rfl) rfl ?_
 refine OW.rv (RV.move rfl) rfl ?_
 refine OW.callG Tryd.call28 rfl (receipt_BloomOf_does w0 Φ ((some b8, blk RcptZ.C 30) :: N) (fun w m => hΦ w (m.drop 1)) A c cs logs bl va ha hg2 hbl) rfl rfl ?_; rintro _ G1 rfl; refine OW.mem (M' := (some b8, blk RcptZ.C 30) :: N) (fun w m => m.appR) ?_
 refine OW.rv (RV.buildSt (l := RcptZ.C) (cs := (⟨kind, false, Vector.replicate 32 0#8, status, used, bl, .slice none 0 0⟩ : RcptC).C) [(0, [.int .i64 kind]), (3, [U64 status]), (4, [U64 used]), (5, u8s bl.toList)] rfl rfl rfl (by kernel_rfl) rfl rfl (by refine (fillL_cons rfl rfl (by rw [RcptC.C_length]; exact Nat.le_of_ble_eq_true rfl)).trans ?_; rw [spl_one (by rw [RcptC.C_length]; exact Nat.le_of_ble_eq_true rfl), RcptC.C_kind_set]; refine (fillL_cons rfl rfl (by rw [RcptC.C_length]; exact Nat.le_of_ble_eq_true rfl)).trans ?_; rw [spl_one (by rw [RcptC.C_length]; exact Nat.le_of_ble_eq_true rfl), RcptC.C_status_set]; refine (fillL_cons rfl rfl (by rw [RcptC.C_length]; exact Nat.le_of_ble_eq_true rfl)).trans ?_; rw [spl_one (by rw [RcptC.C_length]; exact Nat.le_of_ble_eq_true rfl), RcptC.C_used_set]; refine (fillL_cons rfl ((u8s_length _).trans Vector.length_toList) (by rw [RcptC.C_length]; exact Nat.le_of_ble_eq_true rfl)).trans ?_; rw [RcptC.C_bloom_spl]; rfl)) rfl ?_
 refine OW.alloc (l := RcptZ.C) rfl (by kernel_rfl) rfl (fun b10 => ?_)
 refine OW.sv (SV.storeW rfl rfl rfl (RcptC.C_one _ rfl) rfl (RcptC.C_length _) (RcptC.C_length _)) ?_
 refine OW.nil ?_
 (refine QW.then_n ?_; refine CW.seq ?_; refine CW.seq ?_)
 refine CW.region ?_
 refine OW.rv (RV.move rfl) rfl ?_
 refine OW.rv (RV.len rfl rfl) rfl ?_
 refine OW.rv (RV.move rfl) rfl ?_
 refine OW.nil ?_
 (refine QW.then_n ?_; refine CW.block ?_)
 refine CW.loopJ (fun k L' M' => ∃ (i : Nat) (gs : List Lg) (ob : Option Nat) (c1 : Nat) (r1 : List Value), k = logs.length - i ∧ i ≤ logs.length ∧ gs.map Lg.val = logs.take i ∧ (∀ g ∈ gs, g.Ok) ∧ OwnS ob gs.length c1 22 (lgC gs) r1 ∧ L' = [(8, ptr (some b8) 0), (10, ptr (some b10) 0), (20, .slice A logs.length c), (21, .int .i64 (logs.length : Int)), (22, .int .i64 (i : Int))] ∧
  M' = (some b10, blk (⟨kind, false, Vector.replicate 32 0#8, status, used, bl, sl ob 0 gs.length c1⟩ : RcptC).C 30) :: (ob, blk (lgC gs ++ r1) 63) :: (some b8, blk RcptZ.C 30) :: (lgs 24 5 gs ++ N)) (k0 := logs.length) ⟨0, [], none, 0, [], rfl, by omega, rfl, (fun g hg => by cases hg), OwnS.nil, rfl, rfl⟩ ⟨rfl, rfl, rfl, rfl, rfl, trivial⟩ (fun w m => (m.nil_ent (blk (lgC [] ++ []) 63)).rot1) ?_
 rintro k L' M' ⟨i, gs, ob, c1, r1, rfl, hi, hgv, hok, hoi, rfl, rfl⟩
 have hgl : gs.length = i := by have := congrArg List.length hgv; rw [List.length_map, List.length_take] at this; omega
 refine CW.seq (CW.region ?_)
 refine OW.rv (RV.lss rfl rfl) rfl ?_
 refine OW.nil ?_
 (refine QW.then_n ?_; refine CW.seq ?_)
 refine CW.cond_p rfl (fun hlt2 => ?_) (fun hlt2 => ?_)
 ·have h1 : i < logs.length := by omega
  have hx : logs[i]? = some logs[i] := List.getElem?_eq_getElem h1
  obtain ⟨ci, hci, hcc⟩ := ha.get LogRd.len hx
  obtain ⟨At, ct, cst, Ad, cd, rfl, vt, ht, vd⟩ := LogRd.opn hci
  have hst := hs32_of ht
  subst hst
  have hfx := hfit1 _ (List.getElem_mem h1)
  have hmt := vt.mx
  have hmd := vd.mx
  (refine CW.skip ?_; refine QW.then_n ?_; refine CW.seq ?_; refine CW.block ?_; refine CW.seq ?_)
  refine CW.region ?_
  refine OW.rv (RV.idx_rs (i) rfl rfl rfl rfl rfl (va.isSome (by decide) h1) (by omega)) rfl ?_
  refine OW.rv (RV.loadAs rfl rfl rfl rfl (fun w m => va.load (hΦ w (m.drop 3).appR) hcc) (LogC.C_length _)) rfl ?_
  refine OW.alloc (l := LogZ.C) rfl (by kernel_rfl) rfl (fun b12 => ?_)
  refine OW.sv (SV.storeW rfl rfl rfl (LogC.C_one _ rfl rfl) rfl (LogC.C_length _) (LogC.C_length _)) ?_
  refine OW.nil ?_
  (refine QW.then_n ?_; refine CW.seq ?_)
  refine CW.region ?_
  refine OW.rv (RV.field rfl rfl rfl rfl) rfl ?_
  refine OW.rv (RV.load rfl (List.Mem.head _) rfl rfl rfl (LogC.C_topics _)) rfl ?_
  refine OW.mem (M' := (none, blk (hs32 [] ++ []) 24) :: (some b12, blk (⟨logs[i].address, .slice At logs[i].topics.length ct, .slice Ad logs[i].data.length cd⟩ : LogC).C 63) :: (some b10, blk (⟨kind, false, Vector.replicate 32 0#8, status, used, bl, sl ob 0 gs.length c1⟩ : RcptC).C 30) :: (ob, blk (lgC gs ++ r1) 63) :: (some b8, blk RcptZ.C 30) :: (lgs 24 5 gs ++ N)) (fun w m => m.nil_ent _) ?_; refine OW.appendOwn (s := 32) rfl rfl rfl rfl rfl rfl OwnS.nil (fun w m => vt.rd w (hΦ w (m.drop 5).appR)) vt.n (hs32_one _) (vt.zero (by decide)) (by decide) (by decide) (by simp only [i24]; omega) rfl rfl (logs[i].topics.length) (hs32 logs[i].topics) (Nat.zero_add _) rfl (fun ot rt c5 o5 => ?_); refine OW.rot1 ?_
  refine OW.rv (RV.field rfl rfl rfl rfl) rfl ?_
  refine OW.sv (SV.store rfl rfl rfl rfl rfl (by rw [LogC.C_length]; exact Nat.le_of_ble_eq_true rfl)) ?_; refine OW.cells (⟨logs[i].address, sl ot 0 logs[i].topics.length c5, .slice Ad logs[i].data.length cd⟩ : LogC).C (LogC.C_topics_set _ _) ?_
  refine OW.nil ?_
  (refine QW.then_n ?_; refine CW.seq ?_)
  refine CW.region ?_
  refine OW.rv (RV.field rfl rfl rfl rfl) rfl ?_
  refine OW.rv (RV.load rfl (List.Mem.head _) rfl rfl rfl (LogC.C_data _)) rfl ?_
  refine OW.mem (M' := (none, blk (u8s [] ++ []) 5) :: (some b12, blk (⟨logs[i].address, sl ot 0 logs[i].topics.length c5, .slice Ad logs[i].data.length cd⟩ : LogC).C 63) :: (ot, blk (hs32 logs[i].topics ++ rt) 24) :: (some b10, blk (⟨kind, false, Vector.replicate 32 0#8, status, used, bl, sl ob 0 gs.length c1⟩ : RcptC).C 30) :: (ob, blk (lgC gs ++ r1) 63) :: (some b8, blk RcptZ.C 30) :: (lgs 24 5 gs ++ N)) (fun w m => m.nil_ent _) ?_; refine OW.appendOwn (s := 1) rfl rfl rfl rfl rfl rfl OwnS.nil (fun w m => vd.rd w (hΦ w (m.drop 6).appR)) vd.n (u8s_one _) (vd.zero (by decide)) (by decide) (by decide) (by simp only [i5]; omega) rfl rfl (logs[i].data.length) (u8s logs[i].data) (Nat.zero_add _) rfl (fun od rd c6 o6 => ?_); refine OW.rot1 ?_
  refine OW.rv (RV.field rfl rfl rfl rfl) rfl ?_
  refine OW.sv (SV.store rfl rfl rfl rfl rfl (by rw [LogC.C_length]; exact Nat.le_of_ble_eq_true rfl)) ?_; refine OW.cells (⟨logs[i].address, ot, logs[i].topics, c5, rt, od, logs[i].data, c6, rd⟩ : Lg).cells (LogC.C_data_set _ _) ?_
  refine OW.nil (QW.then_n ?_)
  generalize hg : (⟨logs[i].address, ot, logs[i].topics, c5, rt, od, logs[i].data, c6, rd⟩ : Lg) = g
  have gok : g.Ok := by rw [← hg]; exact ⟨o5, o6⟩
  have gval : g.val = logs[i] := by rw [← hg]; rfl
  refine CW.mem (M' := (ob, blk (lgC gs ++ r1) 63) :: (some b12, blk g.cells 63) :: (some b10, blk (⟨kind, false, Vector.replicate 32 0#8, status, used, bl, sl ob 0 gs.length c1⟩ : RcptC).C 30) :: (some b8, blk RcptZ.C 30) :: (g.ents 24 5 ++ (lgs 24 5 gs ++ N))) (fun w m => by rw [← hg] at m ⊢; exact m.pick [4, 0, 3, 5, 2, 1] 6 rfl rfl) ?_
  refine CW.region ?_
  refine OW.rv (RV.field rfl rfl rfl rfl) rfl ?_
  refine OW.rv (RV.load rfl (List.Mem.tail _ (List.Mem.tail _ (List.Mem.head _))) rfl rfl rfl (RcptC.C_logs _)) rfl ?_
  refine OW.rv (RV.loadW rfl (List.Mem.tail _ (List.Mem.head _)) rfl rfl rfl rfl g.cells_length) rfl ?_
  refine OW.ofN (NV.bsA rfl rfl (by intro x hx; simp at hx; subst hx; exact g.cells_length) rfl rfl rfl (by decide) (by decide) rfl) rfl (fun bs => ?_)
  refine OW.rot1 ?_; refine OW.appendOwn (s := 22) rfl rfl rfl rfl rfl rfl hoi (fun w m => m.rd0 (List.Mem.tail _ (List.Mem.head _)) (fun e => nomatch e)) g.cells_length g.cells_one (fun e => nomatch e) (by decide) (by decide) (by simp only [i63]; omega) rfl rfl ((gs ++ [g]).length) (lgC (gs ++ [g])) (by simp) (by rw [lgC_app, lgC_one1]) (fun ob2 r2 c2 o2 => ?_); refine OW.mem (M' := (some b10, blk (⟨kind, false, Vector.replicate 32 0#8, status, used, bl, sl ob 0 gs.length c1⟩ : RcptC).C 30) :: (ob2, blk (lgC (gs ++ [g]) ++ r2) 63) :: (some b8, blk RcptZ.C 30) :: (g.ents 24 5 ++ (lgs 24 5 gs ++ N))) (fun w m => m.pick [3, 0, 4] 5 rfl rfl) ?_
  refine OW.rv (RV.field rfl rfl rfl rfl) rfl ?_
  refine OW.sv (SV.store rfl rfl rfl rfl rfl (by rw [RcptC.C_length]; exact Nat.le_of_ble_eq_true rfl)) ?_; refine OW.cells (⟨kind, false, Vector.replicate 32 0#8, status, used, bl, sl ob2 0 (gs ++ [g]).length c2⟩ : RcptC).C (RcptC.C_logs_set _ _) ?_
  refine OW.nil ?_
  (refine QW.block_n ?_; refine QW.then_n ?_)
  refine CW.region ?_
  refine OW.rv (RV.add rfl rfl (by omega)) rfl ?_
  refine OW.rv (RV.move rfl) rfl ?_
  refine OW.nil ?_
  refine QW.againJ (k' := logs.length - (i + 1)) (by omega) ⟨i + 1, gs ++ [g], ob2, c2, r2, rfl, by omega, by rw [List.map_append, hgv, List.take_add_one, hx, List.map_cons, gval]; rfl, ?_, o2, rfl, rfl⟩ ⟨rfl, rfl, rfl, rfl, rfl, trivial⟩ (fun w m => lgs_snoc (X := [_, _, _]) m)
  intro x hx
  rcases List.mem_append.1 hx with hx | hx
  ·exact hok x hx
  ·obtain rfl := List.mem_singleton.1 hx
   exact gok
 ·have hie : i = logs.length := by omega
  subst hie
  rw [List.take_length] at hgv
  have hmg := hoi.mx
  have hvl := hoi.view (te := 63) (w0 := w0) (Ψ := fun w => Mem w0 w ((some b10, blk (⟨kind, false, Vector.replicate 32 0#8, status, used, bl, sl ob 0 gs.length c1⟩ : RcptC).C 30) :: (ob, blk (lgC gs ++ r1) 63) :: (some b8, blk RcptZ.C 30) :: (lgs 24 5 gs ++ N))) (by decide) (fun w q => (q.drop 1).sublist (List.singleton_sublist.2 (List.mem_cons_self ..)))
  have hrl := lgs_reps (w0 := w0) (Φ := fun w => Mem w0 w ((some b10, blk (⟨kind, false, Vector.replicate 32 0#8, status, used, bl, sl ob 0 gs.length c1⟩ : RcptC).C 30) :: (ob, blk (lgC gs ++ r1) 63) :: (some b8, blk RcptZ.C 30) :: (lgs 24 5 gs ++ N))) (tH := 24) (tB := 5) hok (fun w q => (q.drop 3).appL)
  rw [hgv] at hrl
  have hrc : RcptRd (fun w => Mem w0 w ((some b10, blk (⟨kind, false, Vector.replicate 32 0#8, status, used, bl, sl ob 0 gs.length c1⟩ : RcptC).C 30) :: (ob, blk (lgC gs ++ r1) 63) :: (some b8, blk RcptZ.C 30) :: (lgs 24 5 gs ++ N))) (⟨kind, false, Vector.replicate 32 0#8, status, used, bl, sl ob 0 gs.length c1⟩ : RcptC).C ⟨kind, false, Vector.replicate 32 0#8, status, used, bl, logs⟩ := by
   have hvl2 : View (fun w => Mem w0 w ((some b10, blk (⟨kind, false, Vector.replicate 32 0#8, status, used, bl, sl ob 0 gs.length c1⟩ : RcptC).C 30) :: (ob, blk (lgC gs ++ r1) 63) :: (some b8, blk RcptZ.C 30) :: (lgs 24 5 gs ++ N))) (ob.map fun k => ⟨k, 0, none⟩) logs.length c1 22 (lgC gs) := by rw [← hgl]; exact hvl
   have := RcptRd.mk (kind := kind) (rooted := false) (root := Vector.replicate 32 0#8) (status := status) (used := used) (bloom := bl) (logs := logs) hkb hvl2 hrl
   rw [← hgl] at this
   exact this
  (repeat (first | refine CW.seq ?_ | refine QW.then_n ?_ | refine CW.block ?_ | refine CW.ret ?_ | refine CW.skip ?_ | refine CW.exit ?_ | refine QW.then_x ?_ | refine QW.then_r ?_ | refine QW.block_n ?_ | refine QW.block_xe ?_ | refine QW.block_xn rfl ?_ | refine QW.block_r ?_))
  refine CW.region ?_
  refine OW.rv (RV.loadW rfl (List.Mem.head _) rfl rfl rfl rfl (RcptC.C_length _)) rfl ?_
  refine OW.callG Tryd.call36 rfl (receipt_Check_does w0 (fun w => Mem w0 w ((some b10, blk (⟨kind, false, Vector.replicate 32 0#8, status, used, bl, sl ob 0 gs.length c1⟩ : RcptC).C 30) :: (ob, blk (lgC gs ++ r1) 63) :: (some b8, blk RcptZ.C 30) :: (lgs 24 5 gs ++ N))) ((some b10, blk (⟨kind, false, Vector.replicate 32 0#8, status, used, bl, sl ob 0 gs.length c1⟩ : RcptC).C 30) :: (ob, blk (lgC gs ++ r1) 63) :: (some b8, blk RcptZ.C 30) :: (lgs 24 5 gs ++ N)) (fun w m => m) (⟨kind, false, Vector.replicate 32 0#8, status, used, bl, sl ob 0 gs.length c1⟩ : RcptC).C ⟨kind, false, Vector.replicate 32 0#8, status, used, bl, logs⟩ ce hrc (hg2.mono fun w q => hΦ w (q.drop 3).appR) hce) rfl rfl ?_; rintro _ G9 ⟨hcb, rfl⟩; refine OW.mem (M' := (some b8, blk RcptZ.C 30) :: (some b10, blk (⟨kind, false, Vector.replicate 32 0#8, status, used, bl, sl ob 0 gs.length c1⟩ : RcptC).C 30) :: (ob, blk (lgC gs ++ r1) 63) :: (lgs 24 5 gs ++ N)) (fun w m => (m.appR).pick [2, 0, 1] 3 rfl rfl) ?_
  refine OW.rv (RV.assign rfl) rfl ?_
  refine OW.nil ?_
  (refine QW.then_n ?_; refine CW.seq ?_)
  refine CW.region ?_
  refine OW.rv (RV.move rfl) rfl ?_
  refine OW.rv (RV.neq rfl rfl) rfl ?_
  refine OW.nil (QW.then_n ?_)
  refine CW.cond_np rfl (fun hne => ?_) (fun hne => ?_)
  ·rw [if_neg (by omega)] at hf
   obtain ⟨rfl, rfl⟩ := Prod.mk.inj (Option.some.inj hf)
   refine CW.seq (CW.region ?_)
   refine OW.rv (RV.buildSt (l := RcptZ.C) (cs := RcptZ.C) [] rfl rfl rfl (by kernel_rfl) rfl rfl rfl) rfl ?_
   refine OW.rv (RV.move rfl) rfl ?_
   refine OW.sv (SV.storeW rfl rfl rfl (RcptC.C_one _ rfl) rfl (RcptC.C_length _) (RcptC.C_length _)) ?_
   refine OW.rv (RV.assign rfl) rfl ?_
   refine OW.nil ?_
   (refine QW.then_n ?_; refine CW.ret ?_; refine QW.then_r ?_)
   refine QW.retG (rs := [.cell 8 30, .tmp 9]) [.agg RcptZ.C.toArray, .int .i64 (ce : Int)] ((none, blk [] 63) :: []) rfl ?_ rfl (DecO.zero (by omega) _) (fun w m => (m.tail.tail.tail.appR).nil_ent _) _ (.inl rfl)
   exact ⟨⟨_, _, _, _, rfl, List.Mem.head _, rfl, rfl, congrArg some (RcptC.C_length _).symm, rfl⟩, rfl, trivial⟩
  ·rw [if_pos (by omega)] at hf
   obtain ⟨rfl, rfl⟩ := Prod.mk.inj (Option.some.inj hf)
   (refine CW.skip ?_; refine QW.then_n ?_; refine CW.seq ?_)
   refine CW.region ?_
   refine OW.rv (RV.loadW rfl (List.Mem.tail _ (List.Mem.head _)) rfl rfl rfl rfl (RcptC.C_length _)) rfl ?_
   refine OW.sv (SV.storeW rfl rfl rfl (RcptC.C_one _ rfl) rfl (RcptC.C_length _) (RcptC.C_length _)) ?_
   refine OW.rv (RV.assign rfl) rfl ?_
   refine OW.nil ?_
   (refine QW.then_n ?_; refine CW.ret ?_)
   refine QW.retG (rs := [.cell 8 30, .tmp 9]) [.agg (⟨kind, false, Vector.replicate 32 0#8, status, used, bl, sl ob 0 gs.length c1⟩ : RcptC).C.toArray, .int .i64 0] ((ob, blk (lgC gs ++ r1) 63) :: (lgs 24 5 gs ++ [])) rfl ?_ rfl ⟨gs, ob, c1, r1, [], hok, hoi, hgv, by omega, hkb, rfl, rfl⟩ (fun w m => ?_) _ (.inl rfl)
   ·exact ⟨⟨_, _, _, _, rfl, List.Mem.head _, rfl, rfl, congrArg some (RcptC.C_length _).symm, rfl⟩, rfl, trivial⟩
   ·have m2 := m.tail.tail
    simpa only [List.append_assoc, List.cons_append, List.append_nil] using m2
theorem receipt_Make_does (w0 : World) (Φ : Ctx) (N : List Ent) (hΦ : ∀ w, Mem w0 w N → Φ w) (kind : Int) (status used : BitVec 64) (A : Option Addr) (c : Nat) (cs : List Value) (logs : List Log) (x : Rcpt) (e : Int) (hkb : -9223372036854775808 ≤ kind ∧ kind ≤ 9223372036854775807) (va : View Φ A logs.length c 22 cs) (ha : Reps (LogRd Φ) cs logs) (hg2 : View Φ (some ⟨2, 0, none⟩) 2 2 1 (u8s firstL)) (hf : receipt_Make kind status used logs = some (x, e)) :
  DoesG Tryd.prog 26 [.int .i64 kind, U64 status, U64 used, .slice A logs.length c] w0 [] N (fun v G => ∃ B : List Ent, ∃ cr0 : List Value, RcptRd (More w0 Φ B) cr0 x ∧ (-9223372036854775808 ≤ e ∧ e ≤ 9223372036854775807) ∧ v = .tuple #[.agg cr0.toArray, .int .i64 e] ∧ G = B) :=
 (receipt_Make_own w0 Φ N hΦ kind status used A c cs logs x e hkb va ha hg2 hf).mono fun v G h => h.rd
theorem waybilllaw17_little_does (w0 : World) (Φ : Ctx) (N : List Ent) (hΦ : ∀ w, Mem w0 w N → Φ w) (res0 : Bool) (hg2 : View Φ (some ⟨2, 0, none⟩) 2 2 1 (u8s firstL)) (hf : waybilllaw17_little = some res0) : DoesG Tryd.prog 43 [] w0 [] N (fun v G => v = .bool res0) := by
 unfold waybilllaw17_little at hf
 replace hg2 := hg2.mono (Ψ := More w0 Φ []) (fun w q => q.1)
 refine DoesG.enter Tryd.func43 rfl Tryd.ntmps43 rfl (M := (([] ++ N))) rfl ?_
 refine CW.seq (CW.region ?_)
 refine OW.rv (RV.assign rfl) rfl ?_
 refine OW.nil (QW.then_n (CW.seq (CW.region ?_)))
 obtain ⟨⟨x2, x3⟩, hx1, hf⟩ := some_bind hf
 try dsimp only at hf
 refine OW.callG Tryd.call26 rfl (receipt_Make_does w0 (More w0 Φ []) (([] ++ N)) (fun w m => More.of hΦ 0 m rfl) (0 : Int) (1#64) (21000#64) none 0 [] [] x2 x3 (by omega) View.nil .nil hg2 hx1) rfl rfl ?_
 rintro L8 M9 ⟨B4, cs5, h6, b7, e10, e11⟩
 rw [e10, e11]
 clear e10 e11 L8 M9
 refine OW.mem (M' := (((B4 ++ []) ++ N))) (fun w m => by have h := Mem.sinkAt (A := B4) m 0 0 rfl rfl; exact h) ?_
 have gq1 : ∀ w, More w0 Φ (B4 ++ []) w → More w0 Φ [] w := fun w q => More.mono (fun w m => (m).appR) q
 replace hg2 := hg2.mono gq1
 replace h6 := RcptRd.mono (Ψ := (More w0 Φ (B4 ++ []))) (fun w q => More.flat q) _ _ h6
 have h19 := h6
 obtain ⟨A13, c14, cs16, e18, b12, v15, h17⟩ := RcptRd.opn h6
 subst e18
 have m20 := v15.mx
 have m21 := v15.mx
 refine OW.rv (RV.move rfl) rfl ?_
 refine OW.rv (RV.extract rfl rfl) rfl ?_
 refine OW.slot (.agg (⟨x2.kind, (x2.rooted), x2.root, x2.status, x2.used, x2.bloom, .slice A13 x2.logs.length c14⟩ : RcptC).C.toArray) (rfl) ?_
 refine OW.rv (RV.extract rfl rfl) rfl ?_
 refine OW.slot (.int .i64 x3) (rfl) ?_
 refine OW.alloc (l := (⟨(0 : Int), false, (Vector.replicate 32 0#8), 0#64, 0#64, (Vector.replicate 256 0#8), .slice none 0 0⟩ : RcptC).C) rfl (by kernel_rfl) rfl (fun b22 => ?_)
 refine OW.sv (SV.storeW rfl rfl rfl (RcptC.C_one _ rfl) rfl (RcptC.C_length _) (RcptC.C_length _)) ?_
 refine OW.rv (RV.assign rfl) rfl ?_
 refine OW.nil (QW.then_n (CW.seq (CW.region ?_)))
 refine OW.rv (RV.loadW rfl (List.Mem.head _) rfl rfl rfl rfl (RcptC.C_length _)) rfl ?_
 obtain ⟨⟨x24, x25⟩, hx23, hf⟩ := some_bind hf
 try dsimp only at hf
 refine OW.callG Tryd.call33 rfl (receipt_Encode_does w0 (More w0 Φ (B4 ++ [])) ((some b22, blk (⟨x2.kind, (x2.rooted), x2.root, x2.status, x2.used, x2.bloom, .slice A13 x2.logs.length c14⟩ : RcptC).C 30) :: ((B4 ++ []) ++ N)) (fun w m => More.of hΦ 1 m rfl) (⟨x2.kind, (x2.rooted), x2.root, x2.status, x2.used, x2.bloom, .slice A13 x2.logs.length c14⟩ : RcptC).C x2 x24 x25 h19 hg2 hx23) rfl rfl ?_
 rintro L32 M33 ⟨B26, ob27, c28, r29, o30, b31, e34, e35⟩
 rw [e34, e35]
 clear e34 e35 L32 M33
 refine OW.mem (M' := ((ob27, blk ((u8s x24) ++ r29) 5) :: (some b22, blk (⟨x2.kind, (x2.rooted), x2.root, x2.status, x2.used, x2.bloom, .slice A13 x2.logs.length c14⟩ : RcptC).C 30) :: ((B26 ++ (B4 ++ [])) ++ N))) (fun w m => by have h := Mem.sinkAt (A := B26) m 1 1 rfl rfl; exact h) ?_
 have gq2 : ∀ w, More w0 Φ (B26 ++ (B4 ++ [])) w → More w0 Φ (B4 ++ []) w := fun w q => More.mono (fun w m => (m).appR) q
 replace h19 := RcptRd.mono gq2 _ _ h19
 replace v15 := v15.mono gq2
 replace h17 := h17.mono (LogRd.mono gq2)
 replace hg2 := hg2.mono gq2
 have m36 := o30.mx
 refine OW.rv (RV.move rfl) rfl ?_
 refine OW.rv (RV.extract rfl rfl) rfl ?_
 refine OW.slot (sl ob27 0 x24.length c28) (rfl) ?_
 refine OW.rv (RV.extract rfl rfl) rfl ?_
 refine OW.slot (.int .i64 ((x25 : Nat) : Int)) (rfl) ?_
 refine OW.rv (RV.assign rfl) rfl ?_
 refine OW.rv (RV.assign rfl) rfl ?_
 refine OW.nil (QW.then_n (CW.seq (CW.region ?_)))
 refine OW.rv (RV.move rfl) rfl ?_
 refine OW.mem (M' := (some b22, blk (⟨x2.kind, (x2.rooted), x2.root, x2.status, x2.used, x2.bloom, .slice A13 x2.logs.length c14⟩ : RcptC).C 30) :: (((ob27, blk ((u8s x24) ++ r29) 5) :: (B26 ++ (B4 ++ []))) ++ N)) (fun w m => m.pick [1, 0] 2 rfl rfl) ?_
 have gq3 : ∀ w, More w0 Φ ((ob27, blk ((u8s x24) ++ r29) 5) :: (B26 ++ (B4 ++ []))) w → More w0 Φ (B26 ++ (B4 ++ [])) w := fun w q => More.mono (fun w m => (m).tail) q
 replace h19 := RcptRd.mono gq3 _ _ h19
 replace v15 := v15.mono gq3
 replace h17 := h17.mono (LogRd.mono gq3)
 replace hg2 := hg2.mono gq3
 have v37 : View (More w0 Φ ((ob27, blk ((u8s x24) ++ r29) 5) :: (B26 ++ (B4 ++ [])))) ((ob27).map fun k => ⟨k, 0, none⟩) x24.length c28 1 (u8s x24) := o30.view (by decide) (fun w q => q.2.sublist (List.singleton_sublist.2 (List.mem_cons_self ..)))
 obtain ⟨⟨x39, x40⟩, hx38, hf⟩ := some_bind hf
 try dsimp only at hf
 refine OW.callG Tryd.call39 rfl (receipt_Decode_does w0 (More w0 Φ ((ob27, blk ((u8s x24) ++ r29) 5) :: (B26 ++ (B4 ++ [])))) ((some b22, blk (⟨x2.kind, (x2.rooted), x2.root, x2.status, x2.used, x2.bloom, .slice A13 x2.logs.length c14⟩ : RcptC).C 30) :: (((ob27, blk ((u8s x24) ++ r29) 5) :: (B26 ++ (B4 ++ []))) ++ N)) (fun w m => More.of hΦ 1 m rfl) ((ob27).map fun k => ⟨k, 0, none⟩) c28 x24 x39 x40 v37 hg2 hx38) rfl rfl ?_
 rintro L45 M46 ⟨B41, cs42, h43, b44, e47, e48⟩
 rw [e47, e48]
 clear e47 e48 L45 M46
 refine OW.mem (M' := ((some b22, blk (⟨x2.kind, (x2.rooted), x2.root, x2.status, x2.used, x2.bloom, .slice A13 x2.logs.length c14⟩ : RcptC).C 30) :: ((B41 ++ ((ob27, blk ((u8s x24) ++ r29) 5) :: (B26 ++ (B4 ++ [])))) ++ N))) (fun w m => by have h := Mem.sinkAt (A := B41) m 0 1 rfl rfl; exact h) ?_
 have gq4 : ∀ w, More w0 Φ (B41 ++ ((ob27, blk ((u8s x24) ++ r29) 5) :: (B26 ++ (B4 ++ [])))) w → More w0 Φ ((ob27, blk ((u8s x24) ++ r29) 5) :: (B26 ++ (B4 ++ []))) w := fun w q => More.mono (fun w m => (m).appR) q
 replace h19 := RcptRd.mono gq4 _ _ h19
 replace v15 := v15.mono gq4
 replace h17 := h17.mono (LogRd.mono gq4)
 replace v37 := v37.mono gq4
 replace hg2 := hg2.mono gq4
 replace h43 := RcptRd.mono (Ψ := (More w0 Φ (B41 ++ ((ob27, blk ((u8s x24) ++ r29) 5) :: (B26 ++ (B4 ++ [])))))) (fun w q => More.flat q) _ _ h43
 have h56 := h43
 obtain ⟨A50, c51, cs53, e55, b49, v52, h54⟩ := RcptRd.opn h43
 subst e55
 have m57 := v52.mx
 have m58 := v52.mx
 refine OW.rv (RV.move rfl) rfl ?_
 refine OW.rv (RV.extract rfl rfl) rfl ?_
 refine OW.slot (.agg (⟨x39.kind, (x39.rooted), x39.root, x39.status, x39.used, x39.bloom, .slice A50 x39.logs.length c51⟩ : RcptC).C.toArray) (rfl) ?_
 refine OW.rv (RV.extract rfl rfl) rfl ?_
 refine OW.slot (.int .i64 x40) (rfl) ?_
 refine OW.alloc (l := (⟨(0 : Int), false, (Vector.replicate 32 0#8), 0#64, 0#64, (Vector.replicate 256 0#8), .slice none 0 0⟩ : RcptC).C) rfl (by kernel_rfl) rfl (fun b59 => ?_)
 refine OW.sv (SV.storeW rfl rfl rfl (RcptC.C_one _ rfl) rfl (RcptC.C_length _) (RcptC.C_length _)) ?_
 refine OW.rv (RV.assign rfl) rfl ?_
 refine OW.nil (QW.then_n (CW.seq ?_))
 obtain ⟨q60, hq61, hf⟩ := some_bind hf
 refine CW.cutJ (fun L' M' => ∃ p62 : Bool, q60 = p62 ∧ L' = [(0, .bool (p62))] ∧ M' = (((B41 ++ ((ob27, blk ((u8s x24) ++ r29) 5) :: (B26 ++ (B4 ++ [])))) ++ N))) ?_ ?_
 ·rintro L64 M65 ⟨p62, e63, e66, e67⟩
  rw [e66, e67]
  clear e66 e67 L64 M65
  clear hq61
  rw [e63] at hf
  clear e63
  try dsimp only at hf
  refine QW.then_n (CW.ret ?_)
  have e0 := Option.some.inj hf
  subst e0
  refine QW.retG (rs := [.tmp 0]) ([.bool (p62)]) ((B41 ++ ((ob27, blk ((u8s x24) ++ r29) 5) :: (B26 ++ (B4 ++ []))))) rfl ?_ rfl ?_ ?_ _ (.inl rfl)
  ·exact ⟨rfl, trivial⟩
  ·exact rfl
  ·exact (fun w m => m)
 ·skip
  refine CW.region ?_
  refine OW.rv (RV.move rfl) rfl ?_
  obtain ⟨x69, hx68, hq61⟩ := some_bind hq61
  refine OW.callG Tryd.call15 rfl (waybilllaw17_num_does w0 (More w0 Φ (B41 ++ ((ob27, blk ((u8s x24) ++ r29) 5) :: (B26 ++ (B4 ++ []))))) ((some b59, blk (⟨x39.kind, (x39.rooted), x39.root, x39.status, x39.used, x39.bloom, .slice A50 x39.logs.length c51⟩ : RcptC).C 30) :: (some b22, blk (⟨x2.kind, (x2.rooted), x2.root, x2.status, x2.used, x2.bloom, .slice A13 x2.logs.length c14⟩ : RcptC).C 30) :: ((B41 ++ ((ob27, blk ((u8s x24) ++ r29) 5) :: (B26 ++ (B4 ++ [])))) ++ N)) (fun w m => More.of hΦ 2 m rfl) x3 x69 (by omega) hx68) rfl rfl ?_
  rintro _ G71 ⟨b70, rfl⟩
  refine OW.mem (M' := ((some b59, blk (⟨x39.kind, (x39.rooted), x39.root, x39.status, x39.used, x39.bloom, .slice A50 x39.logs.length c51⟩ : RcptC).C 30) :: (some b22, blk (⟨x2.kind, (x2.rooted), x2.root, x2.status, x2.used, x2.bloom, .slice A13 x2.logs.length c14⟩ : RcptC).C 30) :: ((B41 ++ ((ob27, blk ((u8s x24) ++ r29) 5) :: (B26 ++ (B4 ++ [])))) ++ N))) (fun w m => m.appR) ?_
  refine OW.rv (RV.eql rfl rfl) rfl ?_
  refine OW.rv (RV.move rfl) rfl ?_
  by_cases h73 : x69 = (0 : Int)
  ·replace hq61 := if_t hq61 h73
   refine OW.slot (.bool true) (congrArg Value.bool (decide_eq_true h73)) ?_
   refine OW.want rfl ?_
   refine OW.rv (RV.move rfl) rfl ?_
   refine OW.want rfl ?_
   obtain ⟨x75, hx74, hq61⟩ := some_bind hq61
   refine OW.callG Tryd.call15 rfl (waybilllaw17_num_does w0 (More w0 Φ (B41 ++ ((ob27, blk ((u8s x24) ++ r29) 5) :: (B26 ++ (B4 ++ []))))) ((some b59, blk (⟨x39.kind, (x39.rooted), x39.root, x39.status, x39.used, x39.bloom, .slice A50 x39.logs.length c51⟩ : RcptC).C 30) :: (some b22, blk (⟨x2.kind, (x2.rooted), x2.root, x2.status, x2.used, x2.bloom, .slice A13 x2.logs.length c14⟩ : RcptC).C 30) :: ((B41 ++ ((ob27, blk ((u8s x24) ++ r29) 5) :: (B26 ++ (B4 ++ [])))) ++ N)) (fun w m => More.of hΦ 2 m rfl) ((x25 : Nat) : Int) x75 (by omega) hx74) rfl rfl ?_
   rintro _ G77 ⟨b76, rfl⟩
   refine OW.mem (M' := ((some b59, blk (⟨x39.kind, (x39.rooted), x39.root, x39.status, x39.used, x39.bloom, .slice A50 x39.logs.length c51⟩ : RcptC).C 30) :: (some b22, blk (⟨x2.kind, (x2.rooted), x2.root, x2.status, x2.used, x2.bloom, .slice A13 x2.logs.length c14⟩ : RcptC).C 30) :: ((B41 ++ ((ob27, blk ((u8s x24) ++ r29) 5) :: (B26 ++ (B4 ++ [])))) ++ N))) (fun w m => m.appR) ?_
   refine OW.want rfl ?_
   refine OW.rv (RV.eql rfl rfl) rfl ?_
   refine OW.rv (RV.pick_t rfl rfl rfl) rfl ?_
   refine OW.rv (RV.move rfl) rfl ?_
   by_cases h79 : x75 = (0 : Int)
   ·replace hq61 := if_t hq61 h79
    refine OW.slot (.bool true) (congrArg Value.bool (decide_eq_true h79)) ?_
    refine OW.want rfl ?_
    refine OW.rv (RV.move rfl) rfl ?_
    refine OW.want rfl ?_
    obtain ⟨x81, hx80, hq61⟩ := some_bind hq61
    refine OW.callG Tryd.call15 rfl (waybilllaw17_num_does w0 (More w0 Φ (B41 ++ ((ob27, blk ((u8s x24) ++ r29) 5) :: (B26 ++ (B4 ++ []))))) ((some b59, blk (⟨x39.kind, (x39.rooted), x39.root, x39.status, x39.used, x39.bloom, .slice A50 x39.logs.length c51⟩ : RcptC).C 30) :: (some b22, blk (⟨x2.kind, (x2.rooted), x2.root, x2.status, x2.used, x2.bloom, .slice A13 x2.logs.length c14⟩ : RcptC).C 30) :: ((B41 ++ ((ob27, blk ((u8s x24) ++ r29) 5) :: (B26 ++ (B4 ++ [])))) ++ N)) (fun w m => More.of hΦ 2 m rfl) x40 x81 (by omega) hx80) rfl rfl ?_
    rintro _ G83 ⟨b82, rfl⟩
    refine OW.mem (M' := ((some b59, blk (⟨x39.kind, (x39.rooted), x39.root, x39.status, x39.used, x39.bloom, .slice A50 x39.logs.length c51⟩ : RcptC).C 30) :: (some b22, blk (⟨x2.kind, (x2.rooted), x2.root, x2.status, x2.used, x2.bloom, .slice A13 x2.logs.length c14⟩ : RcptC).C 30) :: ((B41 ++ ((ob27, blk ((u8s x24) ++ r29) 5) :: (B26 ++ (B4 ++ [])))) ++ N))) (fun w m => m.appR) ?_
    refine OW.want rfl ?_
    refine OW.rv (RV.eql rfl rfl) rfl ?_
    refine OW.rv (RV.pick_t rfl rfl rfl) rfl ?_
    refine OW.rv (RV.move rfl) rfl ?_
    by_cases h85 : x81 = (0 : Int)
    ·replace hq61 := if_t hq61 h85
     refine OW.slot (.bool true) (congrArg Value.bool (decide_eq_true h85)) ?_
     refine OW.want rfl ?_
     refine OW.rv (RV.field rfl rfl rfl rfl) rfl ?_
     refine OW.slot (ptr (some b22) 34) rfl ?_
     refine OW.want rfl ?_
     refine OW.rv (RV.load rfl (List.Mem.tail _ (List.Mem.head _)) rfl rfl rfl (RcptC.C_status (⟨x2.kind, (x2.rooted), x2.root, x2.status, x2.used, x2.bloom, .slice A13 x2.logs.length c14⟩ : RcptC))) rfl ?_
     refine OW.want rfl ?_
     refine OW.rv (RV.eql64 rfl (by first | rfl | exact lit64 _ rfl) rfl (by first | rfl | exact lit64 _ rfl)) rfl ?_
     refine OW.rv (RV.pick_t rfl rfl rfl) rfl ?_
     refine OW.rv (RV.move rfl) rfl ?_
     by_cases h86 : x2.status = 1#64
     ·replace hq61 := if_t hq61 h86
      refine OW.slot (.bool true) (congrArg Value.bool (decide_eq_true h86)) ?_
      refine OW.want rfl ?_
      refine OW.rv (RV.move rfl) rfl ?_
      refine OW.want rfl ?_
      refine OW.rv (RV.len rfl rfl) rfl ?_
      refine OW.want rfl ?_
      refine OW.rv (RV.eql rfl rfl) rfl ?_
      refine OW.slot (.bool (decide (x24.length = 267))) (congrArg Value.bool (decide_eq_decide.2 (by omega))) ?_
      refine OW.rv (RV.pick_t rfl rfl rfl) rfl ?_
      refine OW.rv (RV.move rfl) rfl ?_
      by_cases h87 : x24.length = 267
      ·replace hq61 := if_t hq61 h87
       refine OW.slot (.bool true) (congrArg Value.bool (decide_eq_true h87)) ?_
       refine OW.want rfl ?_
       refine OW.rv (RV.loadW rfl (List.Mem.tail _ (List.Mem.head _)) rfl rfl rfl rfl (RcptC.C_length _)) rfl ?_
       refine OW.want rfl ?_
       refine OW.rv (RV.loadW rfl (List.Mem.head _) rfl rfl rfl rfl (RcptC.C_length _)) rfl ?_
       refine OW.want rfl ?_
       obtain ⟨x89, hx88, hq61⟩ := some_bind hq61
       refine OW.callG Tryd.call16 rfl (waybilllaw17_sameReceipt_does w0 (More w0 Φ (B41 ++ ((ob27, blk ((u8s x24) ++ r29) 5) :: (B26 ++ (B4 ++ []))))) ((some b59, blk (⟨x39.kind, (x39.rooted), x39.root, x39.status, x39.used, x39.bloom, .slice A50 x39.logs.length c51⟩ : RcptC).C 30) :: (some b22, blk (⟨x2.kind, (x2.rooted), x2.root, x2.status, x2.used, x2.bloom, .slice A13 x2.logs.length c14⟩ : RcptC).C 30) :: ((B41 ++ ((ob27, blk ((u8s x24) ++ r29) 5) :: (B26 ++ (B4 ++ [])))) ++ N)) (fun w m => More.of hΦ 2 m rfl) (⟨x2.kind, (x2.rooted), x2.root, x2.status, x2.used, x2.bloom, .slice A13 x2.logs.length c14⟩ : RcptC).C x2 (⟨x39.kind, (x39.rooted), x39.root, x39.status, x39.used, x39.bloom, .slice A50 x39.logs.length c51⟩ : RcptC).C x39 x89 h19 h56 hx88) rfl rfl ?_
       rintro _ G90 rfl
       refine OW.mem (M' := ((some b59, blk (⟨x39.kind, (x39.rooted), x39.root, x39.status, x39.used, x39.bloom, .slice A50 x39.logs.length c51⟩ : RcptC).C 30) :: (some b22, blk (⟨x2.kind, (x2.rooted), x2.root, x2.status, x2.used, x2.bloom, .slice A13 x2.logs.length c14⟩ : RcptC).C 30) :: ((B41 ++ ((ob27, blk ((u8s x24) ++ r29) 5) :: (B26 ++ (B4 ++ [])))) ++ N))) (fun w m => m.appR) ?_
       refine OW.rv (RV.pick_t rfl rfl rfl) rfl ?_
       refine OW.rv (RV.assign rfl) rfl ?_
       refine OW.nil ?_
       exact QW.join ⟨(x89), (Option.some.inj hq61).symm, rfl, rfl⟩ ⟨rfl, trivial⟩ (fun w m => m.pick [] 2 rfl rfl)
      ·replace hq61 := if_f hq61 h87
       refine OW.slot (.bool false) (congrArg Value.bool (decide_eq_false h87)) ?_
       refine OW.skip rfl rfl rfl ?_
       refine OW.skip rfl rfl rfl ?_
       refine OW.skip rfl rfl rfl ?_
       refine OW.rv (RV.pick_f rfl rfl rfl) rfl ?_
       refine OW.rv (RV.assign rfl) rfl ?_
       refine OW.nil ?_
       exact QW.join ⟨false, (Option.some.inj hq61).symm, rfl, rfl⟩ ⟨rfl, trivial⟩ (fun w m => m.pick [] 2 rfl rfl)
     ·replace hq61 := if_f hq61 h86
      refine OW.slot (.bool false) (congrArg Value.bool (decide_eq_false h86)) ?_
      refine OW.skip rfl rfl rfl ?_
      refine OW.skip rfl rfl rfl ?_
      refine OW.skip rfl rfl rfl ?_
      refine OW.rv (RV.pick_f rfl rfl rfl) rfl ?_
      refine OW.rv (RV.move rfl) rfl ?_
      refine OW.skip rfl rfl rfl ?_
      refine OW.skip rfl rfl rfl ?_
      refine OW.skip rfl rfl rfl ?_
      refine OW.rv (RV.pick_f rfl rfl rfl) rfl ?_
      refine OW.rv (RV.assign rfl) rfl ?_
      refine OW.nil ?_
      exact QW.join ⟨false, (Option.some.inj hq61).symm, rfl, rfl⟩ ⟨rfl, trivial⟩ (fun w m => m.pick [] 2 rfl rfl)
    ·replace hq61 := if_f hq61 h85
     refine OW.slot (.bool false) (congrArg Value.bool (decide_eq_false h85)) ?_
     refine OW.skip rfl rfl rfl ?_
     refine OW.skip rfl rfl rfl ?_
     refine OW.skip rfl rfl rfl ?_
     refine OW.rv (RV.pick_f rfl rfl rfl) rfl ?_
     refine OW.rv (RV.move rfl) rfl ?_
     refine OW.skip rfl rfl rfl ?_
     refine OW.skip rfl rfl rfl ?_
     refine OW.skip rfl rfl rfl ?_
     refine OW.rv (RV.pick_f rfl rfl rfl) rfl ?_
     refine OW.rv (RV.move rfl) rfl ?_
     refine OW.skip rfl rfl rfl ?_
     refine OW.skip rfl rfl rfl ?_
     refine OW.skip rfl rfl rfl ?_
     refine OW.rv (RV.pick_f rfl rfl rfl) rfl ?_
     refine OW.rv (RV.assign rfl) rfl ?_
     refine OW.nil ?_
     exact QW.join ⟨false, (Option.some.inj hq61).symm, rfl, rfl⟩ ⟨rfl, trivial⟩ (fun w m => m.pick [] 2 rfl rfl)
   ·replace hq61 := if_f hq61 h79
    refine OW.slot (.bool false) (congrArg Value.bool (decide_eq_false h79)) ?_
    refine OW.skip rfl rfl rfl ?_
    refine OW.skip rfl rfl rfl ?_
    refine OW.skip rfl rfl rfl ?_
    refine OW.rv (RV.pick_f rfl rfl rfl) rfl ?_
    refine OW.rv (RV.move rfl) rfl ?_
    refine OW.skip rfl rfl rfl ?_
    refine OW.skip rfl rfl rfl ?_
    refine OW.skip rfl rfl rfl ?_
    refine OW.rv (RV.pick_f rfl rfl rfl) rfl ?_
    refine OW.rv (RV.move rfl) rfl ?_
    refine OW.skip rfl rfl rfl ?_
    refine OW.skip rfl rfl rfl ?_
    refine OW.skip rfl rfl rfl ?_
    refine OW.rv (RV.pick_f rfl rfl rfl) rfl ?_
    refine OW.rv (RV.move rfl) rfl ?_
    refine OW.skip rfl rfl rfl ?_
    refine OW.skip rfl rfl rfl ?_
    refine OW.skip rfl rfl rfl ?_
    refine OW.rv (RV.pick_f rfl rfl rfl) rfl ?_
    refine OW.rv (RV.assign rfl) rfl ?_
    refine OW.nil ?_
    exact QW.join ⟨false, (Option.some.inj hq61).symm, rfl, rfl⟩ ⟨rfl, trivial⟩ (fun w m => m.pick [] 2 rfl rfl)
  ·replace hq61 := if_f hq61 h73
   refine OW.slot (.bool false) (congrArg Value.bool (decide_eq_false h73)) ?_
   refine OW.skip rfl rfl rfl ?_
   refine OW.skip rfl rfl rfl ?_
   refine OW.skip rfl rfl rfl ?_
   refine OW.rv (RV.pick_f rfl rfl rfl) rfl ?_
   refine OW.rv (RV.move rfl) rfl ?_
   refine OW.skip rfl rfl rfl ?_
   refine OW.skip rfl rfl rfl ?_
   refine OW.skip rfl rfl rfl ?_
   refine OW.rv (RV.pick_f rfl rfl rfl) rfl ?_
   refine OW.rv (RV.move rfl) rfl ?_
   refine OW.skip rfl rfl rfl ?_
   refine OW.skip rfl rfl rfl ?_
   refine OW.skip rfl rfl rfl ?_
   refine OW.rv (RV.pick_f rfl rfl rfl) rfl ?_
   refine OW.rv (RV.move rfl) rfl ?_
   refine OW.skip rfl rfl rfl ?_
   refine OW.skip rfl rfl rfl ?_
   refine OW.skip rfl rfl rfl ?_
   refine OW.rv (RV.pick_f rfl rfl rfl) rfl ?_
   refine OW.rv (RV.move rfl) rfl ?_
   refine OW.skip rfl rfl rfl ?_
   refine OW.skip rfl rfl rfl ?_
   refine OW.skip rfl rfl rfl ?_
   refine OW.rv (RV.pick_f rfl rfl rfl) rfl ?_
   refine OW.rv (RV.assign rfl) rfl ?_
   refine OW.nil ?_
   exact QW.join ⟨false, (Option.some.inj hq61).symm, rfl, rfl⟩ ⟨rfl, trivial⟩ (fun w m => m.pick [] 2 rfl rfl)
end Go.Fw.Tryd
