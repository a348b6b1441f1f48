/- Part of a proof: rules that its law uses. -/
import Derived.Test.YtpkcehpoohmbfaaDoorTy
import Derived.Test.YtpkcehpoohmbfaaDoorExt
import Derived.Test.YtpkcehpoohmbfaaDoorKecW0
import Derived.Test.YtpkcehpoohmbfaaDoorKecWR
import Derived.Test.YtpkcehpoohmbfaaDoorFwD
import Derived.Test.YtpkcehpoohmbfaaDoorAddP1
import Derived.Test.YtpkcehpoohmbfaaDoorKecP2
import Derived.Test.YtpkcehpoohmbfaaDoorKecP3
import Derived.Test.YtpkcehpoohmbfaaDoorRlpP1
import Derived.Test.YtpkcehpoohmbfaaDoorRlpP2
import Derived.Test.YtpkcehpoohmbfaaDoorRlpP3
import Derived.Test.YtpkcehpoohmbfaaDoorAddressCreatesW2
namespace Go.Fw.Tryd
open Go Go.Proofs Go.Fw
set_option maxRecDepth 100000
set_option linter.unusedVariables false
set_option linter.unusedSimpArgs false
set_option maxHeartbeats 1000000
theorem waybilllaw09_still_does (w0 : World) (Φ : Ctx) (N : List Ent) (hΦ : ∀ w, Mem w0 w N → Φ w) (A0_ : Option Addr) (c0_ : Nat) (a0 : List (BitVec 8)) (A1_ : Option Addr) (c1_ : Nat) (a1 : List (BitVec 8)) (res0 : Bool) (va0 : View Φ A0_ (a0 ++ List.replicate 70 165#8).length c0_ 1 (u8s (a0 ++ List.replicate 70 165#8))) (va1 : View Φ A1_ a1.length c1_ 1 (u8s a1)) (hf : waybilllaw09_still a0 a1 = some res0) : DoesG Tryd.prog 13 [.slice A0_ a0.length c0_, .slice A1_ a1.length c1_] w0 [] N (fun v G => v = .bool res0) := by
 unfold waybilllaw09_still at hf
 replace va0 := va0.mono (Ψ := More w0 Φ []) (fun w q => q.1)
 replace va1 := va1.mono (Ψ := More w0 Φ []) (fun w q => q.1)
 have hle := va0.mx
 have hle2 : (a0 ++ List.replicate 70 165#8).length = a0.length + 70 := by rw [List.length_append, List.length_replicate]
 have v1 : View (More w0 Φ []) A0_ a0.length c0_ 1 (u8s a0) := MRoom.view va0
 have m2 := v1.mx
 have m3 := va1.mx
 refine DoesG.enter Tryd.func13 rfl Tryd.ntmps13 rfl (M := (([] ++ N))) rfl ?_
 refine CW.seq (CW.region ?_)
 refine OW.rv (RV.assign rfl) rfl ?_
 refine OW.nil (QW.then_n (CW.seq (CW.seq (CW.region ?_))))
 refine OW.rv (RV.move rfl) rfl ?_
 refine OW.rv (RV.len rfl rfl) rfl ?_
 refine OW.rv (RV.move rfl) rfl ?_
 refine OW.rv (RV.len rfl rfl) rfl ?_
 refine OW.rv (RV.neq rfl rfl) rfl ?_
 refine OW.slot (.bool (!decide (a0.length = a1.length))) (congrArg (fun b => Value.bool (!b)) (decide_eq_decide.2 (by omega))) ?_
 refine OW.nil (QW.then_n ?_)
 by_cases h4 : a0.length = a1.length
 ·replace hf := if_t hf h4
  refine CW.is_f rfl (congrArg (fun b => !b) (decide_eq_true h4)) ?_
  refine CW.skip (QW.then_n (CW.seq (CW.region ?_)))
  refine OW.rv (RV.move rfl) rfl ?_
  refine OW.rv (RV.move rfl) rfl ?_
  refine OW.rv (RV.len rfl rfl) rfl ?_
  refine OW.rv (RV.add rfl rfl (by omega)) rfl ?_
  refine OW.slot (.int .i64 (((a1.length + 70) : Nat) : Int)) (by first | rfl | (congr 1) | (congr 1; omega)) ?_
  obtain ⟨g6, hf⟩ := some_if hf
  have hle := va0.le
  have hlen_ : (a0 ++ List.replicate 70 165#8).length = (a0 ++ List.replicate 70 165#8).length := rfl
  refine OW.rv (RV.cut_hi ((a1.length + 70)) rfl rfl (by omega) rfl rfl (by omega)) rfl ?_
  refine OW.slot (.slice A0_ ((a0 ++ List.replicate 70 165#8).take (a1.length + 70)).length c0_) (by rw [show (((a0 ++ List.replicate 70 165#8).take (a1.length + 70))).length = (a1.length + 70) from List.length_take.trans (Nat.min_eq_left (by omega))]) ?_
  have v5 : View (More w0 Φ []) A0_ ((a0 ++ List.replicate 70 165#8).take (a1.length + 70)).length c0_ 1 (u8s ((a0 ++ List.replicate 70 165#8).take (a1.length + 70))) := va0.hi8 (by omega)
  have m7 := v5.mx
  refine OW.rv (RV.assign rfl) rfl ?_
  refine OW.nil (QW.then_n (CW.seq (CW.seq (CW.region ?_))))
  refine OW.rv (RV.assign rfl) rfl ?_
  refine OW.nil (QW.then_n ?_)
  obtain ⟨q8, hq9, hf⟩ := some_bind hf
  refine CW.cutJ (fun L' M' => q8 = Lp.go () ∧ L' = [] ∧ M' = (([] ++ N))) ?_ ?_
  ·rintro L11 M12 ⟨e10, e13, e14⟩
   rw [e13, e14]
   clear e13 e14 L11 M12
   clear hq9
   rw [e10] at hf
   clear e10
   try dsimp only at hf
   refine QW.then_n (CW.seq (CW.region ?_))
   refine OW.rv (RV.assign rfl) rfl ?_
   refine OW.nil (QW.then_n (CW.ret ?_))
   have e0 := Option.some.inj hf
   subst e0
   refine QW.retG (rs := [.tmp 4]) ([.bool true]) ([]) rfl ?_ rfl ?_ ?_ _ (.inl rfl)
   ·exact ⟨rfl, trivial⟩
   ·exact rfl
   ·exact (fun w m => m)
  ·skip
   refine CW.block ?_
   refine CW.loopJ (fun k L' M' => ∃ n15 : Nat, (waybilllaw09_still.l1 a0 a1 k n15) = some q8 ∧ (n15 ≤ 9223372036854775807) ∧ L' = [(1, .slice A1_ a1.length c1_), (5, .slice A0_ ((a0 ++ List.replicate 70 165#8).take (a1.length + 70)).length c0_), (6, .int .i64 ((n15 : Nat) : Int))] ∧ M' = (([] ++ N))) (k0 := ((((a0 ++ List.replicate 70 165#8).take (a1.length + 70)).length) - 0 + 2)) ⟨0, hq9, (by omega), rfl, rfl⟩ ⟨rfl, rfl, rfl, trivial⟩ (fun w m => m.pick [] 0 rfl rfl) ?_
   clear hq9
   rintro k17 L20 M21 ⟨n15, hl18, b16, e22, e23⟩
   rw [e22, e23]
   clear e22 e23 L20 M21
   rcases k17 with _ | k17
   ·rw [waybilllaw09_still.l1] at hl18; cases hl18
   rw [waybilllaw09_still.l1] at hl18
   refine CW.seq (CW.seq (CW.region ?_))
   refine OW.rv (RV.move rfl) rfl ?_
   refine OW.rv (RV.move rfl) rfl ?_
   refine OW.rv (RV.len rfl rfl) rfl ?_
   refine OW.rv (RV.lss rfl rfl) rfl ?_
   refine OW.slot (.bool (decide (n15 < ((a0 ++ List.replicate 70 165#8).take (a1.length + 70)).length))) (congrArg Value.bool (decide_eq_decide.2 (by omega))) ?_
   refine OW.nil (QW.then_n ?_)
   by_cases h24 : n15 < ((a0 ++ List.replicate 70 165#8).take (a1.length + 70)).length
   ·replace hl18 := if_t hl18 h24
    refine CW.is_t rfl (decide_eq_true h24) ?_
    refine CW.skip (QW.then_n (CW.seq (CW.block (CW.seq ?_))))
    obtain ⟨q25, hq26, hl18⟩ := some_bind hl18
    refine CW.cutJ (fun L' M' => ∃ p27 : Bool, q25 = p27 ∧ L' = [(1, .slice A1_ a1.length c1_), (5, .slice A0_ ((a0 ++ List.replicate 70 165#8).take (a1.length + 70)).length c0_), (6, .int .i64 ((n15 : Nat) : Int)), (50, .bool (p27))] ∧ M' = (([] ++ N))) ?_ ?_
    ·rintro L29 M30 ⟨p27, e28, e31, e32⟩
     rw [e31, e32]
     clear e31 e32 L29 M30
     clear hq26
     rw [e28] at hl18
     clear e28
     try dsimp only at hl18
     refine QW.then_n ?_
     by_cases h33 : p27 = true
     ·replace hl18 := if_t hl18 h33
      refine CW.is_t rfl (h33) ?_
      refine CW.seq (CW.region ?_)
      refine OW.rv (RV.assign rfl) rfl ?_
      refine OW.nil (QW.then_n (CW.ret (QW.block_r (QW.then_r (QW.then_r (QW.block_r (QW.then_r ?_)))))))
      have hc := Option.some.inj hl18
      subst hc
      try dsimp only at hf
      refine QW.then_r ?_
      have e0 := Option.some.inj hf
      subst e0
      refine QW.retG (rs := [.tmp 4]) ([.bool false]) ([]) rfl ?_ rfl ?_ ?_ _ (.inl rfl)
      ·exact ⟨rfl, trivial⟩
      ·exact rfl
      ·exact (fun w m => m)
     ·replace hl18 := if_f hl18 h33
      refine CW.is_f rfl (Bool.eq_false_iff.2 h33) ?_
      refine CW.skip (QW.block_n (QW.then_n (CW.region ?_)))
      refine OW.rv (RV.move rfl) rfl ?_
      refine OW.rv (RV.add rfl rfl (by omega)) rfl ?_
      refine OW.slot (.int .i64 (((n15 + 1) : Nat) : Int)) (by first | rfl | (congr 1) | (congr 1; omega)) ?_
      refine OW.rv (RV.assign rfl) rfl ?_
      refine OW.nil ?_
      exact QW.againJ (k' := k17) (Nat.lt_succ_self _) ⟨(n15 + 1), hl18, (by omega), rfl, rfl⟩ ⟨rfl, rfl, rfl, trivial⟩ (fun w m => m.pick [] 0 rfl rfl)
    ·skip
     refine CW.drawsU 28 mixed (by kernel_rfl) rfl ?_
     refine UW.rv 0 rfl (by kernel_rfl) rfl (RV.move rfl) rfl ?_
     refine UW.rv 1 rfl (by kernel_rfl) rfl (RV.move rfl) rfl ?_
     refine UW.rv 2 rfl (by kernel_rfl) rfl (RV.len rfl rfl) rfl ?_
     refine UW.rv 3 rfl (by kernel_rfl) rfl (RV.lss rfl rfl) rfl ?_
     refine UW.slot (.bool (decide (n15 < a1.length))) (congrArg Value.bool (decide_eq_decide.2 (by omega))) ?_
     refine UW.rv 4 rfl (by kernel_rfl) rfl (RV.move rfl) rfl ?_
     by_cases h34 : n15 < a1.length
     ·replace hq26 := if_t hq26 h34
      refine UW.slot (.bool true) (congrArg Value.bool (decide_eq_true h34)) ?_
      refine UW.rv 5 rfl (by kernel_rfl) rfl (RV.move rfl) rfl ?_
      refine UW.rv 6 rfl (by kernel_rfl) rfl (RV.move rfl) rfl ?_
      obtain ⟨x35, hx36, hq26⟩ := some_bind hq26
      have hl37 := lt_of_at hx36
      refine UW.rv 7 rfl (by kernel_rfl) rfl (RV.idx_r (n15) rfl rfl rfl rfl rfl (v5.isSome (by decide) hl37) (by omega)) rfl ?_
      refine UW.rv 8 rfl (by kernel_rfl) rfl (RV.load_at rfl rfl rfl (fun w m => v5.cell (More.of hΦ 0 m rfl) (u8s_at hx36))) rfl ?_
      refine UW.rv 9 rfl (by kernel_rfl) rfl (RV.move rfl) rfl ?_
      refine UW.rv 10 rfl (by kernel_rfl) rfl (RV.move rfl) rfl ?_
      obtain ⟨x38, hx39, hq26⟩ := some_bind hq26
      have hl40 := lt_of_at hx39
      refine UW.rv 11 rfl (by kernel_rfl) rfl (RV.idx_r (n15) rfl rfl rfl rfl rfl (va1.isSome (by decide) hl40) (by omega)) rfl ?_
      refine UW.rv 12 rfl (by kernel_rfl) rfl (RV.load_at rfl rfl rfl (fun w m => va1.cell (More.of hΦ 0 m rfl) (u8s_at hx39))) rfl ?_
      refine UW.rv 13 rfl (by kernel_rfl) rfl (RV.neq8 rfl (by first | rfl | exact lit8 _ rfl) rfl (by first | rfl | exact lit8 _ rfl)) rfl ?_
      refine UW.rv 14 rfl (by kernel_rfl) rfl (RV.pick_t rfl rfl rfl) rfl ?_
      refine UW.rv 15 rfl (by kernel_rfl) rfl (RV.move rfl) rfl ?_
      by_cases h41 : x35 = x38
      ·replace hq26 := if_t hq26 h41
       refine UW.slot (.bool false) (congrArg Value.bool (congrArg (fun b => !b) (decide_eq_true h41))) ?_
       refine UW.rv 16 rfl (by kernel_rfl) rfl (RV.move rfl) rfl ?_
       refine UW.rv 17 rfl (by kernel_rfl) rfl (RV.move rfl) rfl ?_
       refine UW.rv 18 rfl (by kernel_rfl) rfl (RV.len rfl rfl) rfl ?_
       refine UW.rv 19 rfl (by kernel_rfl) rfl (RV.geq rfl rfl) rfl ?_
       refine UW.slot (.bool (decide (a1.length ≤ n15))) (congrArg Value.bool (decide_eq_decide.2 (by omega))) ?_
       refine UW.rv 20 rfl (by kernel_rfl) rfl (RV.move rfl) rfl ?_
       by_cases h42 : a1.length ≤ n15
       ·replace hq26 := if_t hq26 h42
        refine UW.slot (.bool true) (congrArg Value.bool (decide_eq_true h42)) ?_
        refine UW.rv 21 rfl (by kernel_rfl) rfl (RV.move rfl) rfl ?_
        refine UW.rv 22 rfl (by kernel_rfl) rfl (RV.move rfl) rfl ?_
        obtain ⟨x43, hx44, hq26⟩ := some_bind hq26
        have hl45 := lt_of_at hx44
        refine UW.rv 23 rfl (by kernel_rfl) rfl (RV.idx_r (n15) rfl rfl rfl rfl rfl (v5.isSome (by decide) hl45) (by omega)) rfl ?_
        refine UW.rv 24 rfl (by kernel_rfl) rfl (RV.load_at rfl rfl rfl (fun w m => v5.cell (More.of hΦ 0 m rfl) (u8s_at hx44))) rfl ?_
        refine UW.rv 25 rfl (by kernel_rfl) rfl (RV.neq8 rfl (by first | rfl | exact lit8 _ rfl) rfl (by first | rfl | exact lit8 _ rfl)) rfl ?_
        refine UW.rv 26 rfl (by kernel_rfl) rfl (RV.pick_t rfl rfl rfl) rfl ?_
        refine UW.rv 27 rfl (by kernel_rfl) rfl (RV.pick_f rfl rfl rfl) rfl ?_
        refine UW.nil (by kernel_rfl) ?_
        refine OW.nil ?_
        exact QW.join ⟨(!decide (x43 = 165#8)), (Option.some.inj hq26).symm, rfl, rfl⟩ ⟨rfl, rfl, rfl, rfl, trivial⟩ (fun w m => m.pick [] 0 rfl rfl)
       ·replace hq26 := if_f hq26 h42
        refine UW.slot (.bool false) (congrArg Value.bool (decide_eq_false h42)) ?_
        refine UW.skip 21 rfl (by kernel_rfl) rfl rfl ?_
        refine UW.skip 22 rfl (by kernel_rfl) rfl rfl ?_
        refine UW.skip 23 rfl (by kernel_rfl) rfl rfl ?_
        refine UW.skip 24 rfl (by kernel_rfl) rfl rfl ?_
        refine UW.skip 25 rfl (by kernel_rfl) rfl rfl ?_
        refine UW.rv 26 rfl (by kernel_rfl) rfl (RV.pick_f rfl rfl rfl) rfl ?_
        refine UW.rv 27 rfl (by kernel_rfl) rfl (RV.pick_f rfl rfl rfl) rfl ?_
        refine UW.nil (by kernel_rfl) ?_
        refine OW.nil ?_
        exact QW.join ⟨false, (Option.some.inj hq26).symm, rfl, rfl⟩ ⟨rfl, rfl, rfl, rfl, trivial⟩ (fun w m => m.pick [] 0 rfl rfl)
      ·replace hq26 := if_f hq26 h41
       refine UW.slot (.bool true) (congrArg Value.bool (congrArg (fun b => !b) (decide_eq_false h41))) ?_
       refine UW.skip 16 rfl (by kernel_rfl) rfl rfl ?_
       refine UW.skip 17 rfl (by kernel_rfl) rfl rfl ?_
       refine UW.skip 18 rfl (by kernel_rfl) rfl rfl ?_
       refine UW.skip 19 rfl (by kernel_rfl) rfl rfl ?_
       refine UW.skip 20 rfl (by kernel_rfl) rfl rfl ?_
       refine UW.skip 21 rfl (by kernel_rfl) rfl rfl ?_
       refine UW.skip 22 rfl (by kernel_rfl) rfl rfl ?_
       refine UW.skip 23 rfl (by kernel_rfl) rfl rfl ?_
       refine UW.skip 24 rfl (by kernel_rfl) rfl rfl ?_
       refine UW.skip 25 rfl (by kernel_rfl) rfl rfl ?_
       refine UW.skip 26 rfl (by kernel_rfl) rfl rfl ?_
       refine UW.rv 27 rfl (by kernel_rfl) rfl (RV.pick_t rfl rfl rfl) rfl ?_
       refine UW.nil (by kernel_rfl) ?_
       refine OW.nil ?_
       exact QW.join ⟨true, (Option.some.inj hq26).symm, rfl, rfl⟩ ⟨rfl, rfl, rfl, rfl, trivial⟩ (fun w m => m.pick [] 0 rfl rfl)
     ·replace hq26 := if_f hq26 h34
      refine UW.slot (.bool false) (congrArg Value.bool (decide_eq_false h34)) ?_
      refine UW.skip 5 rfl (by kernel_rfl) rfl rfl ?_
      refine UW.skip 6 rfl (by kernel_rfl) rfl rfl ?_
      refine UW.skip 7 rfl (by kernel_rfl) rfl rfl ?_
      refine UW.skip 8 rfl (by kernel_rfl) rfl rfl ?_
      refine UW.skip 9 rfl (by kernel_rfl) rfl rfl ?_
      refine UW.skip 10 rfl (by kernel_rfl) rfl rfl ?_
      refine UW.skip 11 rfl (by kernel_rfl) rfl rfl ?_
      refine UW.skip 12 rfl (by kernel_rfl) rfl rfl ?_
      refine UW.skip 13 rfl (by kernel_rfl) rfl rfl ?_
      refine UW.rv 14 rfl (by kernel_rfl) rfl (RV.pick_f rfl rfl rfl) rfl ?_
      refine UW.rv 15 rfl (by kernel_rfl) rfl (RV.move rfl) rfl ?_
      refine UW.rv 16 rfl (by kernel_rfl) rfl (RV.move rfl) rfl ?_
      refine UW.rv 17 rfl (by kernel_rfl) rfl (RV.move rfl) rfl ?_
      refine UW.rv 18 rfl (by kernel_rfl) rfl (RV.len rfl rfl) rfl ?_
      refine UW.rv 19 rfl (by kernel_rfl) rfl (RV.geq rfl rfl) rfl ?_
      refine UW.slot (.bool (decide (a1.length ≤ n15))) (congrArg Value.bool (decide_eq_decide.2 (by omega))) ?_
      refine UW.rv 20 rfl (by kernel_rfl) rfl (RV.move rfl) rfl ?_
      by_cases h46 : a1.length ≤ n15
      ·replace hq26 := if_t hq26 h46
       refine UW.slot (.bool true) (congrArg Value.bool (decide_eq_true h46)) ?_
       refine UW.rv 21 rfl (by kernel_rfl) rfl (RV.move rfl) rfl ?_
       refine UW.rv 22 rfl (by kernel_rfl) rfl (RV.move rfl) rfl ?_
       obtain ⟨x47, hx48, hq26⟩ := some_bind hq26
       have hl49 := lt_of_at hx48
       refine UW.rv 23 rfl (by kernel_rfl) rfl (RV.idx_r (n15) rfl rfl rfl rfl rfl (v5.isSome (by decide) hl49) (by omega)) rfl ?_
       refine UW.rv 24 rfl (by kernel_rfl) rfl (RV.load_at rfl rfl rfl (fun w m => v5.cell (More.of hΦ 0 m rfl) (u8s_at hx48))) rfl ?_
       refine UW.rv 25 rfl (by kernel_rfl) rfl (RV.neq8 rfl (by first | rfl | exact lit8 _ rfl) rfl (by first | rfl | exact lit8 _ rfl)) rfl ?_
       refine UW.rv 26 rfl (by kernel_rfl) rfl (RV.pick_t rfl rfl rfl) rfl ?_
       refine UW.rv 27 rfl (by kernel_rfl) rfl (RV.pick_f rfl rfl rfl) rfl ?_
       refine UW.nil (by kernel_rfl) ?_
       refine OW.nil ?_
       exact QW.join ⟨(!decide (x47 = 165#8)), (Option.some.inj hq26).symm, rfl, rfl⟩ ⟨rfl, rfl, rfl, rfl, trivial⟩ (fun w m => m.pick [] 0 rfl rfl)
      ·replace hq26 := if_f hq26 h46
       refine UW.slot (.bool false) (congrArg Value.bool (decide_eq_false h46)) ?_
       refine UW.skip 21 rfl (by kernel_rfl) rfl rfl ?_
       refine UW.skip 22 rfl (by kernel_rfl) rfl rfl ?_
       refine UW.skip 23 rfl (by kernel_rfl) rfl rfl ?_
       refine UW.skip 24 rfl (by kernel_rfl) rfl rfl ?_
       refine UW.skip 25 rfl (by kernel_rfl) rfl rfl ?_
       refine UW.rv 26 rfl (by kernel_rfl) rfl (RV.pick_f rfl rfl rfl) rfl ?_
       refine UW.rv 27 rfl (by kernel_rfl) rfl (RV.pick_f rfl rfl rfl) rfl ?_
       refine UW.nil (by kernel_rfl) ?_
       refine OW.nil ?_
       exact QW.join ⟨false, (Option.some.inj hq26).symm, rfl, rfl⟩ ⟨rfl, rfl, rfl, rfl, trivial⟩ (fun w m => m.pick [] 0 rfl rfl)
   ·replace hl18 := if_f hl18 h24
    refine CW.is_f rfl (decide_eq_false h24) ?_
    refine CW.exit (QW.then_x (QW.then_x (QW.block_xe ?_)))
    exact QW.join ⟨(Option.some.inj hl18).symm, rfl, rfl⟩ trivial (fun w m => m.pick [] 0 rfl rfl)
 ·replace hf := if_f hf h4
  refine CW.is_t rfl (congrArg (fun b => !b) (decide_eq_false h4)) ?_
  refine CW.seq (CW.region ?_)
  refine OW.rv (RV.assign rfl) rfl ?_
  refine OW.nil (QW.then_n (CW.ret (QW.then_r ?_)))
  have e0 := Option.some.inj hf
  subst e0
  refine QW.retG (rs := [.tmp 4]) ([.bool false]) ([]) rfl ?_ rfl ?_ ?_ _ (.inl rfl)
  ·exact ⟨rfl, trivial⟩
  ·exact rfl
  ·exact (fun w m => m)
theorem waybilllaw09_AddressCreates_does (w0 : World) (Φ : Ctx) (N : List Ent) (hΦ : ∀ w, Mem w0 w N → Φ w) (a0 : Vector (BitVec 8) 20) (a1 : BitVec 64) (a2 : Vector (BitVec 8) 32) (A3_ : Option Addr) (c3_ : Nat) (a3 : List (BitVec 8)) (res0 : Bool) (va3 : View Φ A3_ a3.length c3_ 1 (u8s a3)) (hTn : ∀ i, i < 25 → w0.cell? ⟨4, i, none⟩ = some (.int .i64 (turnsL.getD i 0))) (hRn : ∀ i, i < 24 → w0.cell? ⟨3, i, none⟩ = some (U64 (g64 roundsL i))) (hg0 : View Φ (some ⟨0, 0, none⟩) 2 2 1 (u8s firstL)) (hf : waybilllaw09_AddressCreates a0 a1 a2 a3 = some res0) : DoesG Tryd.prog 3 [.agg (u8s a0.toList).toArray, U64 a1, .agg (u8s a2.toList).toArray, .slice A3_ a3.length c3_] w0 [] N (fun v G => v = .bool res0) := by
 unfold waybilllaw09_AddressCreates at hf
 replace va3 := va3.mono (Ψ := More w0 Φ []) (fun w q => q.1)
 replace hg0 := hg0.mono (Ψ := More w0 Φ []) (fun w q => q.1)
 have m1 := va3.mx
 refine DoesG.enter Tryd.func3 rfl Tryd.ntmps3 rfl (M := (([] ++ N))) rfl ?_
 refine CW.seq (CW.region ?_)
 refine OW.boxA rfl rfl (fun b2 => ?_)
 refine OW.boxA rfl rfl (fun b3 => ?_)
 refine OW.rv (RV.assign rfl) rfl ?_
 refine OW.nil (QW.then_n (CW.seq (CW.region ?_)))
 refine OW.rv (RV.move rfl) rfl ?_
 obtain ⟨x5, hx4, hf⟩ := some_bind hf
 refine OW.callG Tryd.call8 rfl (waybilllaw09_lent_does w0 (More w0 Φ []) ((some b3, blk (u8s a2.toList) 26) :: (some b2, blk (u8s a0.toList) 23) :: ([] ++ N)) (fun w m => More.of hΦ 2 m rfl) A3_ c3_ a3 x5 va3 hx4) rfl rfl ?_
 rintro L12 M13 ⟨B6, ob7, c8, r9, o10, b11, e14, e15⟩
 rw [e14, e15]
 clear e14 e15 L12 M13
 refine OW.mem (M' := ((ob7, blk ((u8s x5) ++ (u8s (List.replicate 70 165#8) ++ r9)) 5) :: (some b3, blk (u8s a2.toList) 26) :: (some b2, blk (u8s a0.toList) 23) :: ((B6 ++ []) ++ N))) (fun w m => by have h := Mem.sinkAt (A := B6) m 1 2 rfl rfl; exact h) ?_
 have gq1 : ∀ w, More w0 Φ (B6 ++ []) w → More w0 Φ [] w := fun w q => More.mono (fun w m => (m).appR) q
 replace va3 := va3.mono gq1
 replace hg0 := hg0.mono gq1
 have m16 := o10.mx
 refine OW.rv (RV.assign rfl) rfl ?_
 refine OW.nil (QW.then_n (CW.seq (CW.region ?_)))
 refine OW.rv (RV.loadW rfl (List.Mem.tail _ (List.Mem.tail _ (List.Mem.head _))) rfl rfl rfl rfl ((u8s_length _).trans Vector.length_toList)) rfl ?_
 refine OW.rv (RV.loadW rfl (List.Mem.tail _ (List.Mem.head _)) rfl rfl rfl rfl ((u8s_length _).trans Vector.length_toList)) rfl ?_
 refine OW.rv (RV.move rfl) rfl ?_
 obtain ⟨x18, hx17, hf⟩ := some_bind hf
 refine OW.callG Tryd.call9 rfl (address_Create2_does w0 (More w0 Φ ((ob7, blk ((u8s x5) ++ (u8s (List.replicate 70 165#8) ++ r9)) 5) :: (B6 ++ []))) ((ob7, blk ((u8s x5) ++ (u8s (List.replicate 70 165#8) ++ r9)) 5) :: (some b3, blk (u8s a2.toList) 26) :: (some b2, blk (u8s a0.toList) 23) :: ((B6 ++ []) ++ N)) (fun w m => More.of hΦ 2 (m.pick [1, 2, 0] 3 rfl rfl) rfl) a0 a2 ((ob7).map fun k => ⟨k, 0, none⟩) c8 x5 x18 (o10.view (by decide) (fun w q => q.2.sublist (List.singleton_sublist.2 (List.mem_cons_self ..)))) (hg0.mono (fun w q => More.mono (fun w m => m.drop 1) q)) hx17) rfl rfl ?_
 rintro _ G19 rfl
 refine OW.mem (M' := ((ob7, blk ((u8s x5) ++ (u8s (List.replicate 70 165#8) ++ r9)) 5) :: (some b3, blk (u8s a2.toList) 26) :: (some b2, blk (u8s a0.toList) 23) :: ((B6 ++ []) ++ N))) (fun w m => m.appR) ?_
 refine OW.alloc (l := (u8s (Vector.replicate 20 0#8).toList)) rfl (by rw [Vector.toList_replicate, ← u8s_rep']; rfl) rfl (fun b21 => ?_)
 refine OW.sv (SV.storeW rfl rfl rfl (u8s_one _) rfl ((u8s_length _).trans Vector.length_toList) ((u8s_length _).trans Vector.length_toList)) ?_
 refine OW.nil (QW.then_n (CW.seq (CW.seq ?_)))
 obtain ⟨q22, hq23, hf⟩ := some_bind hf
 refine CW.cutJ (fun L' M' => ∃ p24 : Bool, q22 = p24 ∧ L' = [(4, ptr (some b2) 0), (6, ptr (some b3) 0), (9, sl ob7 0 x5.length c8), (39, .bool (p24))] ∧ M' = ((ob7, blk ((u8s x5) ++ (u8s (List.replicate 70 165#8) ++ r9)) 5) :: (some b3, blk (u8s a2.toList) 26) :: (some b2, blk (u8s a0.toList) 23) :: ((B6 ++ []) ++ N))) ?_ ?_
 ·rintro L26 M27 ⟨p24, e25, e28, e29⟩
  rw [e28, e29]
  clear e28 e29 L26 M27
  clear hq23
  rw [e25] at hf
  clear e25
  try dsimp only at hf
  have m30 := o10.mx
  refine QW.then_n ?_
  by_cases h31 : p24 = true
  ·replace hf := if_t hf h31
   refine CW.is_t rfl (h31) ?_
   refine CW.seq (CW.region ?_)
   refine OW.rv (RV.assign rfl) rfl ?_
   refine OW.nil (QW.then_n (CW.ret (QW.then_r ?_)))
   have e0 := Option.some.inj hf
   subst e0
   refine QW.retG (rs := [.tmp 8]) ([.bool false]) ((ob7, blk ((u8s x5) ++ (u8s (List.replicate 70 165#8) ++ r9)) 5) :: (some b3, blk (u8s a2.toList) 26) :: (some b2, blk (u8s a0.toList) 23) :: (B6 ++ [])) rfl ?_ rfl ?_ ?_ _ (.inl rfl)
   ·exact ⟨rfl, trivial⟩
   ·exact rfl
   ·exact (fun w m => m)
  ·replace hf := if_f hf h31
   refine CW.is_f rfl (Bool.eq_false_iff.2 h31) ?_
   refine CW.skip (QW.then_n (CW.seq (CW.seq (CW.region ?_))))
   refine OW.rv (RV.assign rfl) rfl ?_
   refine OW.nil (QW.then_n ?_)
   obtain ⟨q32, hq33, hf⟩ := some_bind hf
   refine CW.cutJ (fun L' M' => ∃ l34 : List (BitVec 8), ∃ ob35 : Option Nat, ∃ c36 : Nat, ∃ r37 : List Value, q32 = l34 ∧ (OwnS ob35 l34.length c36 1 (u8s l34) r37) ∧ L' = [(4, ptr (some b2) 0), (6, ptr (some b3) 0), (9, sl ob35 0 l34.length c36)] ∧ M' = ((ob35, blk ((u8s l34) ++ r37) 5) :: (some b3, blk (u8s a2.toList) 26) :: (some b2, blk (u8s a0.toList) 23) :: ((B6 ++ []) ++ N))) ?_ ?_
   ·rintro L40 M41 ⟨l34, ob35, c36, r37, e39, o38, e42, e43⟩
    rw [e42, e43]
    clear e42 e43 L40 M41
    clear hq33
    rw [e39] at hf
    clear e39
    try dsimp only at hf
    have m44 := o38.mx
    refine QW.then_n (CW.seq (CW.region ?_))
    refine OW.rv (RV.loadW rfl (List.Mem.tail _ (List.Mem.tail _ (List.Mem.head _))) rfl rfl rfl rfl ((u8s_length _).trans Vector.length_toList)) rfl ?_
    refine OW.rv (RV.loadW rfl (List.Mem.tail _ (List.Mem.head _)) rfl rfl rfl rfl ((u8s_length _).trans Vector.length_toList)) rfl ?_
    refine OW.rv (RV.move rfl) rfl ?_
    obtain ⟨x46, hx45, hf⟩ := some_bind hf
    refine OW.callG Tryd.call9 rfl (address_Create2_does w0 (More w0 Φ ((ob35, blk ((u8s l34) ++ r37) 5) :: (B6 ++ []))) ((ob35, blk ((u8s l34) ++ r37) 5) :: (some b3, blk (u8s a2.toList) 26) :: (some b2, blk (u8s a0.toList) 23) :: ((B6 ++ []) ++ N)) (fun w m => More.of hΦ 2 (m.pick [1, 2, 0] 3 rfl rfl) rfl) a0 a2 ((ob35).map fun k => ⟨k, 0, none⟩) c36 l34 x46 (o38.view (by decide) (fun w q => q.2.sublist (List.singleton_sublist.2 (List.mem_cons_self ..)))) (hg0.mono (fun w q => More.mono (fun w m => m.drop 1) q)) hx45) rfl rfl ?_
    rintro _ G47 rfl
    refine OW.mem (M' := ((ob35, blk ((u8s l34) ++ r37) 5) :: (some b3, blk (u8s a2.toList) 26) :: (some b2, blk (u8s a0.toList) 23) :: ((B6 ++ []) ++ N))) (fun w m => m.appR) ?_
    refine OW.alloc (l := (u8s (Vector.replicate 20 0#8).toList)) rfl (by rw [Vector.toList_replicate, ← u8s_rep']; rfl) rfl (fun b49 => ?_)
    refine OW.sv (SV.storeW rfl rfl rfl (u8s_one _) rfl ((u8s_length _).trans Vector.length_toList) ((u8s_length _).trans Vector.length_toList)) ?_
    refine OW.nil (QW.then_n (CW.seq ?_))
    refine CW.drawsU 8 mixed (by kernel_rfl) rfl ?_
    refine UW.rv 0 rfl (by kernel_rfl) rfl (RV.loadW rfl (List.Mem.head _) rfl rfl rfl rfl ((u8s_length _).trans Vector.length_toList)) rfl ?_
    refine UW.rv 1 rfl (by kernel_rfl) rfl (RV.loadW rfl (List.Mem.tail _ (List.Mem.tail _ (List.Mem.tail _ (List.Mem.head _)))) rfl rfl rfl rfl ((u8s_length _).trans Vector.length_toList)) rfl ?_
    refine UW.rv 2 rfl (by kernel_rfl) rfl (RV.loadW rfl (List.Mem.tail _ (List.Mem.tail _ (List.Mem.head _))) rfl rfl rfl rfl ((u8s_length _).trans Vector.length_toList)) rfl ?_
    refine UW.rv 3 rfl (by kernel_rfl) rfl (RV.move rfl) rfl ?_
    obtain ⟨x51, hx50, hf⟩ := some_bind hf
    refine UW.callG 4 rfl (by kernel_rfl) rfl Tryd.call14 rfl (fun N' hN' => waybilllaw09_copied_does w0 (More w0 Φ ((ob35, blk ((u8s l34) ++ r37) 5) :: (B6 ++ []))) N' (fun w m => More.of hΦ 3 ((hN' w m).pick [0, 2, 3, 1] 4 rfl rfl) rfl) ((ob35).map fun k => ⟨k, 0, none⟩) c36 l34 x51 (o38.view (by decide) (fun w q => q.2.sublist (List.singleton_sublist.2 (List.mem_cons_self ..)))) hx50) rfl ?_
    rintro L57 M58 ⟨B52, ob53, c54, r55, o56, e59, e60⟩
    rw [e59, e60]
    clear e59 e60 L57 M58
    refine UW.mem (M' := ((ob53, blk ((u8s x51) ++ r55) 5) :: (some b49, blk (u8s x46.toList) 23) :: (ob35, blk ((u8s l34) ++ r37) 5) :: (some b3, blk (u8s a2.toList) 26) :: (some b2, blk (u8s a0.toList) 23) :: ((B52 ++ (B6 ++ [])) ++ N))) (fun w m => by have h := Mem.sinkAt (A := B52) m 1 4 rfl rfl; exact h) ?_
    have gq2 : ∀ w, More w0 Φ (B52 ++ (B6 ++ [])) w → More w0 Φ (B6 ++ []) w := fun w q => More.mono (fun w m => (m).appR) q
    replace hg0 := hg0.mono gq2
    have m61 := o56.mx
    obtain ⟨x63, hx62, hf⟩ := some_bind hf
    refine UW.callG 5 rfl (by kernel_rfl) rfl Tryd.call12 rfl (fun N' hN' => waybillref09_Create2_does w0 (More w0 Φ ((ob53, blk ((u8s x51) ++ r55) 5) :: (B52 ++ (B6 ++ [])))) N' (fun w m => More.of hΦ 4 ((hN' w m).pick [1, 2, 3, 4, 0] 5 rfl rfl) rfl) a0 a2 ((ob53).map fun k => ⟨k, 0, none⟩) c54 x51 x63 (o56.view (by decide) (fun w q => q.2.sublist (List.singleton_sublist.2 (List.mem_cons_self ..)))) hTn hRn hx62) rfl ?_
    rintro _ G64 rfl
    refine UW.mem (M' := ((ob53, blk ((u8s x51) ++ r55) 5) :: (some b49, blk (u8s x46.toList) 23) :: (ob35, blk ((u8s l34) ++ r37) 5) :: (some b3, blk (u8s a2.toList) 26) :: (some b2, blk (u8s a0.toList) 23) :: ((B52 ++ (B6 ++ [])) ++ N))) (fun w m => m.appR) ?_
    refine UW.rv 6 rfl (by kernel_rfl) rfl (RV.eqA8 rfl rfl rfl rfl rfl rfl (Vector.length_toList) (Vector.length_toList)) rfl ?_
    refine UW.slot (.bool (decide (x46 = x63))) (congrArg Value.bool (decide_eq_decide.2 Vector.toList_inj)) ?_
    refine UW.rv 7 rfl (by kernel_rfl) rfl (RV.assign rfl) rfl ?_
    refine UW.nil (by kernel_rfl) ?_
    refine OW.nil (QW.then_n (CW.ret ?_))
    have e0 := Option.some.inj hf
    subst e0
    refine QW.retG (rs := [.tmp 8]) ([.bool (decide (x46 = x63))]) ((ob53, blk ((u8s x51) ++ r55) 5) :: (some b49, blk (u8s x46.toList) 23) :: (ob35, blk ((u8s l34) ++ r37) 5) :: (some b3, blk (u8s a2.toList) 26) :: (some b2, blk (u8s a0.toList) 23) :: (B52 ++ (B6 ++ []))) rfl ?_ rfl ?_ ?_ _ (.inl rfl)
    ·exact ⟨rfl, trivial⟩
    ·exact rfl
    ·exact (fun w m => m)
   ·skip
    refine CW.block ?_
    refine CW.loopJ (fun k L' M' => ∃ l66 : List (BitVec 8), ∃ n71 : Nat, ∃ ob67 : Option Nat, ∃ c68 : Nat, ∃ r69 : List Value, (waybilllaw09_AddressCreates.l1 k l66 n71) = some q32 ∧ (OwnS ob67 l66.length c68 1 (u8s l66) r69) ∧ (n71 ≤ 9223372036854775807) ∧ L' = [(4, ptr (some b2) 0), (6, ptr (some b3) 0), (9, sl ob67 0 l66.length c68), (11, .int .i64 ((n71 : Nat) : Int))] ∧ M' = ((ob67, blk ((u8s l66) ++ r69) 5) :: (some b3, blk (u8s a2.toList) 26) :: (some b2, blk (u8s a0.toList) 23) :: ((B6 ++ []) ++ N))) (k0 := (x5.length - 0 + 2)) ⟨x5, 0, ob7, c8, (u8s (List.replicate 70 165#8) ++ r9), hq33, o10, (by omega), rfl, rfl⟩ ⟨rfl, rfl, rfl, rfl, trivial⟩ (fun w m => m.pick [0, 1, 2] 3 rfl rfl) ?_
    clear hq33
    rintro k73 L76 M77 ⟨l66, n71, ob67, c68, r69, hl74, o70, b72, e78, e79⟩
    rw [e78, e79]
    clear e78 e79 L76 M77
    rcases k73 with _ | k73
    ·rw [waybilllaw09_AddressCreates.l1] at hl74; cases hl74
    rw [waybilllaw09_AddressCreates.l1] at hl74
    have m80 := o70.mx
    refine CW.seq (CW.seq (CW.region ?_))
    refine OW.rv (RV.move rfl) rfl ?_
    refine OW.rv (RV.move rfl) rfl ?_
    refine OW.rv (RV.len rfl rfl) rfl ?_
    refine OW.rv (RV.lss rfl rfl) rfl ?_
    refine OW.slot (.bool (decide (n71 < l66.length))) (congrArg Value.bool (decide_eq_decide.2 (by omega))) ?_
    refine OW.nil (QW.then_n ?_)
    by_cases h81 : n71 < l66.length
    ·replace hl74 := if_t hl74 h81
     refine CW.is_t rfl (decide_eq_true h81) ?_
     refine CW.skip (QW.then_n (CW.seq (CW.block (CW.region ?_))))
     refine OW.rv (RV.move rfl) rfl ?_
     refine OW.rv (RV.move rfl) rfl ?_
     refine OW.rv (RV.move rfl) rfl ?_
     refine OW.rv (RV.move rfl) rfl ?_
     obtain ⟨x82, hx83, hl74⟩ := some_bind hl74
     have hl84 := lt_of_at hx83
     refine OW.rv (RV.idx_o (n71) rfl rfl rfl rfl rfl (o70.isSome (by decide) hl84) (by omega)) rfl ?_
     refine OW.rv (RV.load rfl (List.Mem.head _) (o70.isSome (by decide) hl84) rfl rfl (own_at0 (u8s_at hx83))) rfl ?_
     refine OW.rv (RV.xor8 rfl (by first | rfl | exact lit8 _ rfl) rfl (by first | rfl | exact lit8 _ rfl)) rfl ?_
     obtain ⟨x85, hx86, hl74⟩ := some_bind hl74
     have hl87 := lt_of_at hx86
     refine OW.rv (RV.idx_o (n71) rfl rfl rfl rfl rfl (o70.isSome (by decide) hl87) (by omega)) rfl ?_
     refine OW.sv (SV.store rfl (o70.isSome (by decide) hl87) rfl rfl rfl (by rw [List.length_append, u8s_length]; omega)) ?_
     refine OW.cells ((u8s (l66.set n71 (x82 ^^^ 255#8))) ++ r69) (by rw [Nat.zero_add, List.set_append_left _ _ (by rw [u8s_length]; omega), u8s_set']) ?_
     have o88 : OwnS ob67 (l66.set n71 (x82 ^^^ 255#8)).length c68 1 (u8s (l66.set n71 (x82 ^^^ 255#8))) r69 := OwnS.same o70 (by simp) (by simp)
     refine OW.frame (L' := [(4, ptr (some b2) 0), (6, ptr (some b3) 0), (9, sl ob67 0 (l66.set n71 (x82 ^^^ 255#8)).length c68), (11, .int .i64 ((n71 : Nat) : Int)), (40, .int .i64 ((n71 : Nat) : Int)), (41, sl ob67 0 (l66.set n71 (x82 ^^^ 255#8)).length c68), (42, .int .i64 ((l66.length : Nat) : Int)), (43, .bool (decide (n71 < l66.length))), (46, sl ob67 0 (l66.set n71 (x82 ^^^ 255#8)).length c68), (47, .int .i64 ((n71 : Nat) : Int)), (48, sl ob67 0 (l66.set n71 (x82 ^^^ 255#8)).length c68), (49, .int .i64 ((n71 : Nat) : Int)), (51, U8 x82), (52, U8 (x82 ^^^ 255#8))]) (fun k v h => Sub.get (L' := [(4, ptr (some b2) 0), (6, ptr (some b3) 0), (9, sl ob67 0 (l66.set n71 (x82 ^^^ 255#8)).length c68), (11, .int .i64 ((n71 : Nat) : Int)), (40, .int .i64 ((n71 : Nat) : Int)), (41, sl ob67 0 (l66.set n71 (x82 ^^^ 255#8)).length c68), (42, .int .i64 ((l66.length : Nat) : Int)), (43, .bool (decide (n71 < l66.length))), (46, sl ob67 0 (l66.set n71 (x82 ^^^ 255#8)).length c68), (47, .int .i64 ((n71 : Nat) : Int)), (48, sl ob67 0 (l66.set n71 (x82 ^^^ 255#8)).length c68), (49, .int .i64 ((n71 : Nat) : Int)), (51, U8 x82), (52, U8 (x82 ^^^ 255#8))]) ?_ k v h) ?_
     ·exact ⟨rfl, rfl, (congrArg (fun k => some (sl ob67 0 k c68)) (List.length_set ..).symm), rfl, rfl, (congrArg (fun k => some (sl ob67 0 k c68)) (List.length_set ..).symm), rfl, rfl, (congrArg (fun k => some (sl ob67 0 k c68)) (List.length_set ..).symm), rfl, (congrArg (fun k => some (sl ob67 0 k c68)) (List.length_set ..).symm), rfl, rfl, rfl, trivial⟩
     refine OW.nil (QW.block_n (QW.then_n (CW.region ?_)))
     refine OW.rv (RV.move rfl) rfl ?_
     refine OW.rv (RV.add rfl rfl (by omega)) rfl ?_
     refine OW.slot (.int .i64 (((n71 + 1) : Nat) : Int)) (by first | rfl | (congr 1) | (congr 1; omega)) ?_
     refine OW.rv (RV.assign rfl) rfl ?_
     refine OW.nil ?_
     exact QW.againJ (k' := k73) (Nat.lt_succ_self _) ⟨(l66.set n71 (x82 ^^^ 255#8)), (n71 + 1), ob67, c68, r69, hl74, o88, (by omega), rfl, rfl⟩ ⟨rfl, rfl, rfl, rfl, trivial⟩ (fun w m => m.pick [0, 1, 2] 3 rfl rfl)
    ·replace hl74 := if_f hl74 h81
     refine CW.is_f rfl (decide_eq_false h81) ?_
     refine CW.exit (QW.then_x (QW.then_x (QW.block_xe ?_)))
     exact QW.join ⟨l66, ob67, c68, r69, (Option.some.inj hl74).symm, o70, rfl, rfl⟩ ⟨rfl, rfl, rfl, trivial⟩ (fun w m => m.pick [0, 1, 2] 3 rfl rfl)
 ·skip
  refine CW.drawsU 21 mixed (by kernel_rfl) rfl ?_
  refine UW.rv 0 rfl (by kernel_rfl) rfl (RV.loadW rfl (List.Mem.tail _ (List.Mem.tail _ (List.Mem.tail _ (List.Mem.head _)))) rfl rfl rfl rfl ((u8s_length _).trans Vector.length_toList)) rfl ?_
  refine UW.rv 1 rfl (by kernel_rfl) rfl (RV.move rfl) rfl ?_
  refine UW.rv 3 rfl (by kernel_rfl) rfl (RV.loadW rfl (List.Mem.tail _ (List.Mem.tail _ (List.Mem.tail _ (List.Mem.head _)))) rfl rfl rfl rfl ((u8s_length _).trans Vector.length_toList)) rfl ?_
  refine UW.rv 4 rfl (by kernel_rfl) rfl (RV.move rfl) rfl ?_
  obtain ⟨x90, hx89, hq23⟩ := some_bind hq23
  refine UW.callG 2 rfl (by kernel_rfl) rfl Tryd.call10 rfl (fun N' hN' => address_Create_does w0 (More w0 Φ (B6 ++ [])) N' (fun w m => More.of hΦ 4 (hN' w m) rfl) a0 a1 x90 hg0 hx89) rfl ?_
  rintro _ G91 rfl
  refine UW.mem (M' := ((some b21, blk (u8s x18.toList) 23) :: (ob7, blk ((u8s x5) ++ (u8s (List.replicate 70 165#8) ++ r9)) 5) :: (some b3, blk (u8s a2.toList) 26) :: (some b2, blk (u8s a0.toList) 23) :: ((B6 ++ []) ++ N))) (fun w m => m.appR) ?_
  obtain ⟨x94, hx93, hq23⟩ := some_bind hq23
  refine UW.callG 5 rfl (by kernel_rfl) rfl Tryd.call11 rfl (fun N' hN' => waybillref09_Create_does w0 (More w0 Φ (B6 ++ [])) N' (fun w m => More.of hΦ 4 (hN' w m) rfl) a0 a1 x94 hTn hRn hx93) rfl ?_
  rintro _ G95 rfl
  refine UW.mem (M' := ((some b21, blk (u8s x18.toList) 23) :: (ob7, blk ((u8s x5) ++ (u8s (List.replicate 70 165#8) ++ r9)) 5) :: (some b3, blk (u8s a2.toList) 26) :: (some b2, blk (u8s a0.toList) 23) :: ((B6 ++ []) ++ N))) (fun w m => m.appR) ?_
  refine UW.rv 6 rfl (by kernel_rfl) rfl (RV.neA8 rfl rfl rfl rfl rfl rfl (Vector.length_toList) (Vector.length_toList)) rfl ?_
  refine UW.slot (.bool (!decide (x90 = x94))) (congrArg (fun b => Value.bool (!b)) (decide_eq_decide.2 Vector.toList_inj)) ?_
  refine UW.rv 7 rfl (by kernel_rfl) rfl (RV.move rfl) rfl ?_
  by_cases h97 : x90 = x94
  ·replace hq23 := if_t hq23 h97
   refine UW.slot (.bool false) (congrArg Value.bool (congrArg (fun b => !b) (decide_eq_true h97))) ?_
   refine UW.rv 8 rfl (by kernel_rfl) rfl (RV.loadW rfl (List.Mem.head _) rfl rfl rfl rfl ((u8s_length _).trans Vector.length_toList)) rfl ?_
   refine UW.rv 9 rfl (by kernel_rfl) rfl (RV.loadW rfl (List.Mem.tail _ (List.Mem.tail _ (List.Mem.tail _ (List.Mem.head _)))) rfl rfl rfl rfl ((u8s_length _).trans Vector.length_toList)) rfl ?_
   refine UW.rv 10 rfl (by kernel_rfl) rfl (RV.loadW rfl (List.Mem.tail _ (List.Mem.tail _ (List.Mem.head _))) rfl rfl rfl rfl ((u8s_length _).trans Vector.length_toList)) rfl ?_
   refine UW.rv 11 rfl (by kernel_rfl) rfl (RV.move rfl) rfl ?_
   obtain ⟨x99, hx98, hq23⟩ := some_bind hq23
   refine UW.callG 12 rfl (by kernel_rfl) rfl Tryd.call12 rfl (fun N' hN' => waybillref09_Create2_does w0 (More w0 Φ (B6 ++ [])) N' (fun w m => More.of hΦ 4 (hN' w m) rfl) a0 a2 A3_ c3_ a3 x99 va3 hTn hRn hx98) rfl ?_
   rintro _ G100 rfl
   refine UW.mem (M' := ((some b21, blk (u8s x18.toList) 23) :: (ob7, blk ((u8s x5) ++ (u8s (List.replicate 70 165#8) ++ r9)) 5) :: (some b3, blk (u8s a2.toList) 26) :: (some b2, blk (u8s a0.toList) 23) :: ((B6 ++ []) ++ N))) (fun w m => m.appR) ?_
   refine UW.rv 13 rfl (by kernel_rfl) rfl (RV.neA8 rfl rfl rfl rfl rfl rfl (Vector.length_toList) (Vector.length_toList)) rfl ?_
   refine UW.slot (.bool (!decide (x18 = x99))) (congrArg (fun b => Value.bool (!b)) (decide_eq_decide.2 Vector.toList_inj)) ?_
   refine UW.rv 14 rfl (by kernel_rfl) rfl (RV.pick_f rfl rfl rfl) rfl ?_
   refine UW.rv 15 rfl (by kernel_rfl) rfl (RV.move rfl) rfl ?_
   by_cases h102 : x18 = x99
   ·replace hq23 := if_t hq23 h102
    refine UW.slot (.bool false) (congrArg Value.bool (congrArg (fun b => !b) (decide_eq_true h102))) ?_
    refine UW.rv 16 rfl (by kernel_rfl) rfl (RV.move rfl) rfl ?_
    refine UW.rv 17 rfl (by kernel_rfl) rfl (RV.move rfl) rfl ?_
    obtain ⟨x104, hx103, hq23⟩ := some_bind hq23
    refine UW.callG 18 rfl (by kernel_rfl) rfl Tryd.call13 rfl (fun N' hN' => waybilllaw09_still_does w0 (More w0 Φ ((ob7, blk ((u8s x5) ++ (u8s (List.replicate 70 165#8) ++ r9)) 5) :: (B6 ++ []))) N' (fun w m => More.of hΦ 3 ((hN' w m).pick [0, 2, 3, 1] 4 rfl rfl) rfl) ((ob7).map fun k => ⟨k, 0, none⟩) c8 x5 A3_ c3_ a3 x104 (OwnS.mroom o10 (fun w q => q.2.sublist (List.singleton_sublist.2 (List.mem_cons_self ..))) (by first | omega | (simp only [List.length_set, List.length_replicate]; omega) | (simp only [List.length_replicate]; omega))) (va3.mono (fun w q => More.mono (fun w m => m.drop 1) q)) hx103) rfl ?_
    rintro _ G105 rfl
    refine UW.mem (M' := ((some b21, blk (u8s x18.toList) 23) :: (ob7, blk ((u8s x5) ++ (u8s (List.replicate 70 165#8) ++ r9)) 5) :: (some b3, blk (u8s a2.toList) 26) :: (some b2, blk (u8s a0.toList) 23) :: ((B6 ++ []) ++ N))) (fun w m => m.appR) ?_
    refine UW.rv 19 rfl (by kernel_rfl) rfl (RV.not rfl) rfl ?_
    refine UW.rv 20 rfl (by kernel_rfl) rfl (RV.pick_f rfl rfl rfl) rfl ?_
    refine UW.nil (by kernel_rfl) ?_
    refine OW.nil ?_
    exact QW.join ⟨(!x104), (Option.some.inj hq23).symm, rfl, rfl⟩ ⟨rfl, rfl, rfl, rfl, trivial⟩ (fun w m => m.pick [1, 2, 3] 4 rfl rfl)
   ·replace hq23 := if_f hq23 h102
    refine UW.slot (.bool true) (congrArg Value.bool (congrArg (fun b => !b) (decide_eq_false h102))) ?_
    refine UW.skip 16 rfl (by kernel_rfl) rfl rfl ?_
    refine UW.skip 17 rfl (by kernel_rfl) rfl rfl ?_
    refine UW.skip 18 rfl (by kernel_rfl) rfl rfl ?_
    refine UW.skip 19 rfl (by kernel_rfl) rfl rfl ?_
    refine UW.rv 20 rfl (by kernel_rfl) rfl (RV.pick_t rfl rfl rfl) rfl ?_
    refine UW.nil (by kernel_rfl) ?_
    refine OW.nil ?_
    exact QW.join ⟨true, (Option.some.inj hq23).symm, rfl, rfl⟩ ⟨rfl, rfl, rfl, rfl, trivial⟩ (fun w m => m.pick [1, 2, 3] 4 rfl rfl)
  ·replace hq23 := if_f hq23 h97
   refine UW.slot (.bool true) (congrArg Value.bool (congrArg (fun b => !b) (decide_eq_false h97))) ?_
   refine UW.skip 8 rfl (by kernel_rfl) rfl rfl ?_
   refine UW.skip 9 rfl (by kernel_rfl) rfl rfl ?_
   refine UW.skip 10 rfl (by kernel_rfl) rfl rfl ?_
   refine UW.skip 11 rfl (by kernel_rfl) rfl rfl ?_
   refine UW.skip 12 rfl (by kernel_rfl) rfl rfl ?_
   refine UW.skip 13 rfl (by kernel_rfl) rfl rfl ?_
   refine UW.rv 14 rfl (by kernel_rfl) rfl (RV.pick_t rfl rfl rfl) rfl ?_
   refine UW.rv 15 rfl (by kernel_rfl) rfl (RV.move rfl) rfl ?_
   refine UW.skip 16 rfl (by kernel_rfl) rfl rfl ?_
   refine UW.skip 17 rfl (by kernel_rfl) rfl rfl ?_
   refine UW.skip 18 rfl (by kernel_rfl) rfl rfl ?_
   refine UW.skip 19 rfl (by kernel_rfl) rfl rfl ?_
   refine UW.rv 20 rfl (by kernel_rfl) rfl (RV.pick_t rfl rfl rfl) rfl ?_
   refine UW.nil (by kernel_rfl) ?_
   refine OW.nil ?_
   exact QW.join ⟨true, (Option.some.inj hq23).symm, rfl, rfl⟩ ⟨rfl, rfl, rfl, rfl, trivial⟩ (fun w m => m.pick [1, 2, 3] 4 rfl rfl)
end Go.Fw.Tryd
