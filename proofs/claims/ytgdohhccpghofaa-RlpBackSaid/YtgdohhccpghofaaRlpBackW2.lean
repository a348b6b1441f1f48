/- Part of a proof over Ytgdohhccpghofaa: rules and contracts that the law's text uses. No condition. -/
import Derived.Test.YtgdohhccpghofaaTy
import Derived.Test.YtgdohhccpghofaaExt
import Derived.Test.YtgdohhccpghofaaRlpRoom
import Derived.Test.YtgdohhccpghofaaRtL
import Derived.Test.YtgdohhccpghofaaFwD
import Derived.Test.YtgdohhccpghofaaRlpD
import Derived.Test.YtgdohhccpghofaaRlpP1
import Derived.Test.YtgdohhccpghofaaRlpP2
import Derived.Test.YtgdohhccpghofaaRlpP3
import Derived.Test.YtgdohhccpghofaaRlpP4
import Derived.Test.YtgdohhccpghofaaRlpP6
import Derived.Test.YtgdohhccpghofaaRlpBackW1
namespace Go.Fw.Try
open Go Go.Proofs Go.Fw
set_option maxRecDepth 100000
set_option linter.unusedVariables false
set_option linter.unusedSimpArgs false
set_option maxHeartbeats 1000000

theorem waybilllaw07_sound_rec (w0 : World) : ∀ (kf : Nat) (Φ : Ctx) (N : List Ent) (hΦ : ∀ w, Mem w0 w N → Φ w) (cs0_ : List Value) (a0 : It) (a1 : Nat) (res0 : Nat) (res1 : Bool) (ha0 : ItRd Φ cs0_ a0) (ba1 : a1 ≤ 9223372036854775807) (hf : waybilllaw07_sound.r kf a0 a1 = some (res0, res1)), DoesG Try.prog 58 [.agg cs0_.toArray, .int .i64 ((a1 : Nat) : Int)] w0 [] N (fun v G => (res0 ≤ 9223372036854775807) ∧ v = .tuple #[.int .i64 ((res0 : Nat) : Int), .bool res1]) := by
  intro kf
  induction kf with
  | zero => intro Φ N hΦ cs0_ a0 a1 res0 res1 ha0 ba1 hf; rw [waybilllaw07_sound.r] at hf; cases hf
  | succ kf ih =>
    intro Φ N hΦ cs0_ a0 a1 res0 res1 ha0 ba1 hf
    rw [waybilllaw07_sound.r] at hf
    replace ha0 := ItRd.mono (Ψ := More w0 Φ []) (fun w q => q.1) _ _ ha0
    have h10 := ha0
    obtain ⟨A1, c2, A4, c5, cs7, e9, v3, v6, h8⟩ := ItRd.opn ha0
    subst e9
    have m11 := v3.mx
    have m12 := v6.mx
    refine DoesG.enter Try.func58 rfl Try.ntmps58 rfl (M := (([] ++ N))) rfl ?_
    refine CW.seq ?_
    refine CW.region ?_
    refine OW.boxA rfl rfl (fun b13 => ?_)
    refine OW.rv (RV.assign rfl) rfl ?_
    refine OW.rv (RV.assign rfl) rfl ?_
    refine OW.nil ?_
    refine QW.then_n ?_
    refine CW.seq ?_
    refine CW.seq ?_
    obtain ⟨q14, hq15, hf⟩ := some_bind hf
    refine CW.cutJ (fun L' M' => ∃ p16 : Bool, q14 = p16 ∧ L' = [(1, .int .i64 ((a1 : Nat) : Int)), (2, ptr (some b13) 0), (32, .bool (p16))] ∧ M' = ((some b13, blk [.bool (a0.list), .slice A1 a0.data.length c2, .slice A4 a0.items.length c5] 29) :: ([] ++ N))) ?_ ?_
    · rintro L18 M19 ⟨p16, e17, e20, e21⟩
      rw [e20, e21]
      clear e20 e21 L18 M19
      clear hq15
      rw [e17] at hf
      clear e17
      try dsimp only at hf
      refine QW.then_n ?_
      by_cases h22 : p16 = true
      · replace hf := if_t hf h22
        refine CW.is_t rfl (h22) ?_
        refine CW.seq ?_
        refine CW.region ?_
        refine OW.rv (RV.assign rfl) rfl ?_
        refine OW.rv (RV.assign rfl) rfl ?_
        refine OW.nil ?_
        refine QW.then_n ?_
        refine CW.ret ?_
        refine QW.then_r ?_
        have er0 := Option.some.inj hf
        obtain ⟨e0, er1⟩ := Prod.mk.inj er0
        clear er0
        subst e0
        subst er1
        refine QW.retG (rs := [.tmp 4, .tmp 5]) ([.int .i64 (0 : Int), .bool false]) ((some b13, blk [.bool (a0.list), .slice A1 a0.data.length c2, .slice A4 a0.items.length c5] 29) :: []) rfl ?_ rfl ?_ ?_ _ (.inl rfl)
        · exact ⟨rfl, rfl, trivial⟩
        · exact ⟨(by omega), rfl⟩
        · exact (fun w m => m)
      · replace hf := if_f hf h22
        refine CW.is_f rfl (Bool.eq_false_iff.2 h22) ?_
        refine CW.skip ?_
        refine QW.then_n ?_
        refine CW.seq ?_
        refine CW.region ?_
        refine OW.rv (RV.field rfl rfl rfl rfl) rfl ?_
        refine OW.rv (RV.load rfl (List.Mem.head _) rfl rfl rfl rfl) rfl ?_
        refine OW.rv (RV.len rfl rfl) rfl ?_
        refine OW.rv (RV.add rfl rfl (by omega)) rfl ?_
        refine OW.slot (.int .i64 (((9 + a0.data.length) : Nat) : Int)) (by first | rfl | (congr 1) | (congr 1; omega)) ?_
        refine OW.rv (RV.assign rfl) rfl ?_
        refine OW.nil ?_
        refine QW.then_n ?_
        refine CW.seq ?_
        refine CW.seq ?_
        refine CW.region ?_
        refine OW.rv (RV.assign rfl) rfl ?_
        refine OW.nil ?_
        refine QW.then_n ?_
        obtain ⟨q23, hq24, hf⟩ := some_bind hf
        refine CW.cutJ (fun L' M' => ∃ n25 : Nat, q23 = Lp.go n25 ∧ (n25 ≤ 9223372036854775807) ∧ L' = [(6, .int .i64 ((n25 : Nat) : Int))] ∧ M' = (([] ++ N))) ?_ ?_
        · rintro L28 M29 ⟨n25, e27, b26, e30, e31⟩
          rw [e30, e31]
          clear e30 e31 L28 M29
          clear hq24
          rw [e27] at hf
          clear e27
          try dsimp only at hf
          refine QW.then_n ?_
          refine CW.seq ?_
          refine CW.region ?_
          refine OW.rv (RV.move rfl) rfl ?_
          refine OW.rv (RV.assign rfl) rfl ?_
          refine OW.rv (RV.assign rfl) rfl ?_
          refine OW.nil ?_
          refine QW.then_n ?_
          refine CW.ret ?_
          have er0 := Option.some.inj hf
          obtain ⟨e0, er1⟩ := Prod.mk.inj er0
          clear er0
          subst e0
          subst er1
          refine QW.retG (rs := [.tmp 4, .tmp 5]) ([.int .i64 ((n25 : Nat) : Int), .bool true]) ([]) rfl ?_ rfl ?_ ?_ _ (.inl rfl)
          · exact ⟨rfl, rfl, trivial⟩
          · exact ⟨(by omega), rfl⟩
          · exact (fun w m => m)
        · skip
          refine CW.block ?_
          refine CW.loopJ (fun k L' M' => ∃ n32 : Nat, ∃ n34 : Nat, (waybilllaw07_sound.l1 a0 a1 (waybilllaw07_sound.r kf) k n32 n34) = some q23 ∧ (n32 ≤ 9223372036854775807) ∧ (n34 ≤ 9223372036854775807) ∧ L' = [(1, .int .i64 ((a1 : Nat) : Int)), (2, ptr (some b13) 0), (6, .int .i64 ((n32 : Nat) : Int)), (7, .int .i64 ((n34 : Nat) : Int))] ∧ M' = ((some b13, blk [.bool (a0.list), .slice A1 a0.data.length c2, .slice A4 a0.items.length c5] 29) :: ([] ++ N))) (k0 := (a0.items.length - 0 + 2)) ⟨(9 + a0.data.length), 0, hq24, (by omega), (by omega), rfl, rfl⟩ ⟨rfl, rfl, rfl, rfl, trivial⟩ (fun w m => m.pick [0] 1 rfl rfl) ?_
          clear hq24
          rintro k36 L39 M40 ⟨n32, n34, hl37, b33, b35, e41, e42⟩
          rw [e41, e42]
          clear e41 e42 L39 M40
          rcases k36 with _ | k36
          · rw [waybilllaw07_sound.l1] at hl37; cases hl37
          rw [waybilllaw07_sound.l1] at hl37
          refine CW.seq ?_
          refine CW.seq ?_
          refine CW.region ?_
          refine OW.rv (RV.move rfl) rfl ?_
          refine OW.rv (RV.field rfl rfl rfl rfl) rfl ?_
          refine OW.rv (RV.load rfl (List.Mem.head _) rfl rfl rfl rfl) rfl ?_
          refine OW.rv (RV.len rfl rfl) rfl ?_
          refine OW.rv (RV.lss rfl rfl) rfl ?_
          refine OW.slot (.bool (decide (n34 < a0.items.length))) (congrArg Value.bool (decide_eq_decide.2 (by omega))) ?_
          refine OW.nil ?_
          refine QW.then_n ?_
          by_cases h43 : n34 < a0.items.length
          · replace hl37 := if_t hl37 h43
            refine CW.is_t rfl (decide_eq_true h43) ?_
            refine CW.skip ?_
            refine QW.then_n ?_
            refine CW.seq ?_
            refine CW.block ?_
            refine CW.seq ?_
            refine CW.region ?_
            refine OW.rv (RV.field rfl rfl rfl rfl) rfl ?_
            refine OW.rv (RV.load rfl (List.Mem.head _) rfl rfl rfl rfl) rfl ?_
            refine OW.rv (RV.move rfl) rfl ?_
            obtain ⟨x44, hx45, hl37⟩ := some_bind hl37
            have hl46 := lt_of_at hx45
            refine OW.rv (RV.idx_rs (n34) rfl rfl rfl rfl rfl (v6.isSome (by decide) hl46) (by omega)) rfl ?_
            obtain ⟨cs47, h48, h49⟩ := h8.get ItRd.len hx45
            have h59 := h48
            obtain ⟨A50, c51, A53, c54, cs56, e58, v52, v55, h57⟩ := ItRd.opn h48
            subst e58
            have m60 := v52.mx
            have m61 := v55.mx
            refine OW.rv (RV.loadAs rfl rfl rfl rfl (fun w m => v6.load (More.of hΦ 1 m rfl) h49) rfl) rfl ?_
            refine OW.rv (RV.move rfl) rfl ?_
            obtain ⟨g62, hl37⟩ := some_if hl37
            refine OW.rv (RV.add rfl rfl (by omega)) rfl ?_
            refine OW.slot (.int .i64 (((a1 + 1) : Nat) : Int)) (by first | rfl | (congr 1) | (congr 1; omega)) ?_
            obtain ⟨⟨x64, x65⟩, hx63, hl37⟩ := some_bind hl37
            try dsimp only at hl37
            refine OW.callG Try.call58 rfl (ih (More w0 Φ []) ((some b13, blk [.bool (a0.list), .slice A1 a0.data.length c2, .slice A4 a0.items.length c5] 29) :: ([] ++ N)) (fun w m => More.of hΦ 1 m rfl) [.bool (x44.list), .slice A50 x44.data.length c51, .slice A53 x44.items.length c54] x44 (a1 + 1) x64 x65 h59 (by omega) hx63) rfl rfl ?_
            rintro _ G67 ⟨b66, rfl⟩
            refine OW.mem (M' := ((some b13, blk [.bool (a0.list), .slice A1 a0.data.length c2, .slice A4 a0.items.length c5] 29) :: ([] ++ N))) (fun w m => m.appR) ?_
            refine OW.rv (RV.move rfl) rfl ?_
            refine OW.rv (RV.extract rfl rfl) rfl ?_
            refine OW.slot (.int .i64 ((x64 : Nat) : Int)) (rfl) ?_
            refine OW.rv (RV.extract rfl rfl) rfl ?_
            refine OW.slot (.bool (x65)) (rfl) ?_
            refine OW.rv (RV.assign rfl) rfl ?_
            refine OW.rv (RV.assign rfl) rfl ?_
            refine OW.nil ?_
            refine QW.then_n ?_
            refine CW.seq ?_
            refine CW.region ?_
            refine OW.rv (RV.move rfl) rfl ?_
            refine OW.rv (RV.move rfl) rfl ?_
            obtain ⟨g69, hl37⟩ := some_if hl37
            refine OW.rv (RV.add rfl rfl (by omega)) rfl ?_
            refine OW.slot (.int .i64 (((n32 + x64) : Nat) : Int)) (by first | rfl | (congr 1) | (congr 1; omega)) ?_
            refine OW.rv (RV.assign rfl) rfl ?_
            refine OW.nil ?_
            refine QW.then_n ?_
            refine CW.seq ?_
            obtain ⟨q70, hq71, hl37⟩ := some_bind hl37
            refine CW.cutJ (fun L' M' => ∃ p72 : Bool, q70 = p72 ∧ L' = [(1, .int .i64 ((a1 : Nat) : Int)), (2, ptr (some b13) 0), (6, .int .i64 (((n32 + x64) : Nat) : Int)), (7, .int .i64 ((n34 : Nat) : Int)), (63, .bool (p72))] ∧ M' = ((some b13, blk [.bool (a0.list), .slice A1 a0.data.length c2, .slice A4 a0.items.length c5] 29) :: ([] ++ N))) ?_ ?_
            · rintro L74 M75 ⟨p72, e73, e76, e77⟩
              rw [e76, e77]
              clear e76 e77 L74 M75
              clear hq71
              rw [e73] at hl37
              clear e73
              try dsimp only at hl37
              refine QW.then_n ?_
              by_cases h78 : p72 = true
              · replace hl37 := if_t hl37 h78
                refine CW.is_t rfl (h78) ?_
                refine CW.seq ?_
                refine CW.region ?_
                refine OW.rv (RV.assign rfl) rfl ?_
                refine OW.rv (RV.assign rfl) rfl ?_
                refine OW.nil ?_
                refine QW.then_n ?_
                refine CW.ret ?_
                refine QW.block_r ?_
                refine QW.then_r ?_
                refine QW.then_r ?_
                refine QW.block_r ?_
                refine QW.then_r ?_
                have hc := Option.some.inj hl37
                subst hc
                try dsimp only at hf
                refine QW.then_r ?_
                have er0 := Option.some.inj hf
                obtain ⟨e0, er1⟩ := Prod.mk.inj er0
                clear er0
                subst e0
                subst er1
                refine QW.retG (rs := [.tmp 4, .tmp 5]) ([.int .i64 (0 : Int), .bool false]) ((some b13, blk [.bool (a0.list), .slice A1 a0.data.length c2, .slice A4 a0.items.length c5] 29) :: []) rfl ?_ rfl ?_ ?_ _ (.inl rfl)
                · exact ⟨rfl, rfl, trivial⟩
                · exact ⟨(by omega), rfl⟩
                · exact (fun w m => m)
              · replace hl37 := if_f hl37 h78
                refine CW.is_f rfl (Bool.eq_false_iff.2 h78) ?_
                refine CW.skip ?_
                refine QW.block_n ?_
                refine QW.then_n ?_
                refine CW.region ?_
                refine OW.rv (RV.move rfl) rfl ?_
                refine OW.rv (RV.add rfl rfl (by omega)) rfl ?_
                refine OW.slot (.int .i64 (((n34 + 1) : Nat) : Int)) (by first | rfl | (congr 1) | (congr 1; omega)) ?_
                refine OW.rv (RV.assign rfl) rfl ?_
                refine OW.nil ?_
                exact QW.againJ (k' := k36) (Nat.lt_succ_self _) ⟨(n32 + x64), (n34 + 1), hl37, (by omega), (by omega), rfl, rfl⟩ ⟨rfl, rfl, rfl, rfl, trivial⟩ (fun w m => m.pick [0] 1 rfl rfl)
            · skip
              refine CW.region ?_
              refine OW.rv (RV.move rfl) rfl ?_
              refine OW.rv (RV.not rfl) rfl ?_
              refine OW.rv (RV.move rfl) rfl ?_
              by_cases h79 : x65 = true
              · replace hq71 := if_t hq71 h79
                refine OW.slot (.bool false) (congrArg Value.bool (congrArg (fun b => !b) (h79))) ?_
                refine OW.want rfl ?_
                refine OW.rv (RV.move rfl) rfl ?_
                refine OW.want rfl ?_
                refine OW.rv (RV.gtr rfl rfl) rfl ?_
                refine OW.slot (.bool (decide (1048576 < (n32 + x64)))) (congrArg Value.bool (decide_eq_decide.2 (by omega))) ?_
                refine OW.rv (RV.pick_f rfl rfl rfl) rfl ?_
                refine OW.nil ?_
                exact QW.join ⟨(decide (1048576 < (n32 + x64))), (Option.some.inj hq71).symm, rfl, rfl⟩ ⟨rfl, rfl, rfl, rfl, rfl, trivial⟩ (fun w m => m.pick [0] 1 rfl rfl)
              · replace hq71 := if_f hq71 h79
                refine OW.slot (.bool true) (congrArg Value.bool (congrArg (fun b => !b) (Bool.eq_false_iff.2 h79))) ?_
                refine OW.skip rfl rfl rfl ?_
                refine OW.skip rfl rfl rfl ?_
                refine OW.rv (RV.pick_t rfl rfl rfl) rfl ?_
                refine OW.nil ?_
                exact QW.join ⟨true, (Option.some.inj hq71).symm, rfl, rfl⟩ ⟨rfl, rfl, rfl, rfl, rfl, trivial⟩ (fun w m => m.pick [0] 1 rfl rfl)
          · replace hl37 := if_f hl37 h43
            refine CW.is_f rfl (decide_eq_false h43) ?_
            refine CW.exit ?_
            refine QW.then_x ?_
            refine QW.then_x ?_
            refine QW.block_xe ?_
            exact QW.join ⟨n32, (Option.some.inj hl37).symm, (by omega), rfl, rfl⟩ ⟨rfl, trivial⟩ (fun w m => m.pick [] 1 rfl rfl)
    · skip
      refine CW.region ?_
      refine OW.rv (RV.move rfl) rfl ?_
      refine OW.rv (RV.gtr rfl rfl) rfl ?_
      refine OW.slot (.bool (decide (200 < a1))) (congrArg Value.bool (decide_eq_decide.2 (by omega))) ?_
      refine OW.rv (RV.move rfl) rfl ?_
      by_cases h80 : 200 < a1
      · replace hq15 := if_t hq15 h80
        refine OW.slot (.bool true) (congrArg Value.bool (decide_eq_true h80)) ?_
        refine OW.skip rfl rfl rfl ?_
        refine OW.skip rfl rfl rfl ?_
        refine OW.skip rfl rfl rfl ?_
        refine OW.skip rfl rfl rfl ?_
        refine OW.skip rfl rfl rfl ?_
        refine OW.skip rfl rfl rfl ?_
        refine OW.skip rfl rfl rfl ?_
        refine OW.skip rfl rfl rfl ?_
        refine OW.rv (RV.pick_t rfl rfl rfl) rfl ?_
        refine OW.rv (RV.move rfl) rfl ?_
        refine OW.skip rfl rfl rfl ?_
        refine OW.skip rfl rfl rfl ?_
        refine OW.skip rfl rfl rfl ?_
        refine OW.skip rfl rfl rfl ?_
        refine OW.skip rfl rfl rfl ?_
        refine OW.skip rfl rfl rfl ?_
        refine OW.skip rfl rfl rfl ?_
        refine OW.skip rfl rfl rfl ?_
        refine OW.skip rfl rfl rfl ?_
        refine OW.rv (RV.pick_t rfl rfl rfl) rfl ?_
        refine OW.nil ?_
        exact QW.join ⟨true, (Option.some.inj hq15).symm, rfl, rfl⟩ ⟨rfl, rfl, rfl, trivial⟩ (fun w m => m.pick [0] 1 rfl rfl)
      · replace hq15 := if_f hq15 h80
        refine OW.slot (.bool false) (congrArg Value.bool (decide_eq_false h80)) ?_
        refine OW.want rfl ?_
        refine OW.rv (RV.field rfl rfl rfl rfl) rfl ?_
        refine OW.want rfl ?_
        refine OW.rv (RV.load rfl (List.Mem.head _) rfl rfl rfl rfl) rfl ?_
        refine OW.want rfl ?_
        refine OW.rv (RV.move rfl) rfl ?_
        by_cases h81 : a0.list = true
        · replace hq15 := if_t hq15 h81
          refine OW.slot (.bool true) (congrArg Value.bool (h81)) ?_
          refine OW.want rfl ?_
          refine OW.rv (RV.field rfl rfl rfl rfl) rfl ?_
          refine OW.want rfl ?_
          refine OW.rv (RV.load rfl (List.Mem.head _) rfl rfl rfl rfl) rfl ?_
          refine OW.want rfl ?_
          refine OW.rv (RV.len rfl rfl) rfl ?_
          refine OW.want rfl ?_
          refine OW.rv (RV.gtr rfl rfl) rfl ?_
          refine OW.slot (.bool (decide (0 < a0.data.length))) (congrArg Value.bool (decide_eq_decide.2 (by omega))) ?_
          refine OW.want rfl ?_
          refine OW.rv (RV.pick_t rfl rfl rfl) rfl ?_
          refine OW.rv (RV.pick_f rfl rfl rfl) rfl ?_
          refine OW.rv (RV.move rfl) rfl ?_
          by_cases h82 : 0 < a0.data.length
          · replace hq15 := if_t hq15 h82
            refine OW.slot (.bool true) (congrArg Value.bool (decide_eq_true h82)) ?_
            refine OW.skip rfl rfl rfl ?_
            refine OW.skip rfl rfl rfl ?_
            refine OW.skip rfl rfl rfl ?_
            refine OW.skip rfl rfl rfl ?_
            refine OW.skip rfl rfl rfl ?_
            refine OW.skip rfl rfl rfl ?_
            refine OW.skip rfl rfl rfl ?_
            refine OW.skip rfl rfl rfl ?_
            refine OW.skip rfl rfl rfl ?_
            refine OW.rv (RV.pick_t rfl rfl rfl) rfl ?_
            refine OW.nil ?_
            exact QW.join ⟨true, (Option.some.inj hq15).symm, rfl, rfl⟩ ⟨rfl, rfl, rfl, trivial⟩ (fun w m => m.pick [0] 1 rfl rfl)
          · replace hq15 := if_f hq15 h82
            refine OW.slot (.bool false) (congrArg Value.bool (decide_eq_false h82)) ?_
            refine OW.want rfl ?_
            refine OW.rv (RV.field rfl rfl rfl rfl) rfl ?_
            refine OW.want rfl ?_
            refine OW.rv (RV.load rfl (List.Mem.head _) rfl rfl rfl rfl) rfl ?_
            refine OW.want rfl ?_
            refine OW.rv (RV.not rfl) rfl ?_
            refine OW.want rfl ?_
            refine OW.rv (RV.move rfl) rfl ?_
            by_cases h83 : a0.list = true
            · replace hq15 := if_t hq15 h83
              refine OW.slot (.bool false) (congrArg Value.bool (congrArg (fun b => !b) (h83))) ?_
              refine OW.skip rfl rfl rfl ?_
              refine OW.skip rfl rfl rfl ?_
              refine OW.skip rfl rfl rfl ?_
              refine OW.skip rfl rfl rfl ?_
              refine OW.want rfl ?_
              refine OW.rv (RV.pick_f rfl rfl rfl) rfl ?_
              refine OW.rv (RV.pick_f rfl rfl rfl) rfl ?_
              refine OW.nil ?_
              exact QW.join ⟨false, (Option.some.inj hq15).symm, rfl, rfl⟩ ⟨rfl, rfl, rfl, trivial⟩ (fun w m => m.pick [0] 1 rfl rfl)
            · replace hq15 := if_f hq15 h83
              refine OW.slot (.bool true) (congrArg Value.bool (congrArg (fun b => !b) (Bool.eq_false_iff.2 h83))) ?_
              refine OW.want rfl ?_
              refine OW.rv (RV.field rfl rfl rfl rfl) rfl ?_
              refine OW.want rfl ?_
              refine OW.rv (RV.load rfl (List.Mem.head _) rfl rfl rfl rfl) rfl ?_
              refine OW.want rfl ?_
              refine OW.rv (RV.len rfl rfl) rfl ?_
              refine OW.want rfl ?_
              refine OW.rv (RV.gtr rfl rfl) rfl ?_
              refine OW.slot (.bool (decide (0 < a0.items.length))) (congrArg Value.bool (decide_eq_decide.2 (by omega))) ?_
              refine OW.want rfl ?_
              refine OW.rv (RV.pick_t rfl rfl rfl) rfl ?_
              refine OW.rv (RV.pick_f rfl rfl rfl) rfl ?_
              refine OW.nil ?_
              exact QW.join ⟨(decide (0 < a0.items.length)), (Option.some.inj hq15).symm, rfl, rfl⟩ ⟨rfl, rfl, rfl, trivial⟩ (fun w m => m.pick [0] 1 rfl rfl)
        · replace hq15 := if_f hq15 h81
          refine OW.slot (.bool false) (congrArg Value.bool (Bool.eq_false_iff.2 h81)) ?_
          refine OW.skip rfl rfl rfl ?_
          refine OW.skip rfl rfl rfl ?_
          refine OW.skip rfl rfl rfl ?_
          refine OW.skip rfl rfl rfl ?_
          refine OW.want rfl ?_
          refine OW.rv (RV.pick_f rfl rfl rfl) rfl ?_
          refine OW.rv (RV.pick_f rfl rfl rfl) rfl ?_
          refine OW.rv (RV.move rfl) rfl ?_
          refine OW.want rfl ?_
          refine OW.rv (RV.field rfl rfl rfl rfl) rfl ?_
          refine OW.want rfl ?_
          refine OW.rv (RV.load rfl (List.Mem.head _) rfl rfl rfl rfl) rfl ?_
          refine OW.want rfl ?_
          refine OW.rv (RV.not rfl) rfl ?_
          refine OW.want rfl ?_
          refine OW.rv (RV.move rfl) rfl ?_
          by_cases h84 : a0.list = true
          · replace hq15 := if_t hq15 h84
            refine OW.slot (.bool false) (congrArg Value.bool (congrArg (fun b => !b) (h84))) ?_
            refine OW.skip rfl rfl rfl ?_
            refine OW.skip rfl rfl rfl ?_
            refine OW.skip rfl rfl rfl ?_
            refine OW.skip rfl rfl rfl ?_
            refine OW.want rfl ?_
            refine OW.rv (RV.pick_f rfl rfl rfl) rfl ?_
            refine OW.rv (RV.pick_f rfl rfl rfl) rfl ?_
            refine OW.nil ?_
            exact QW.join ⟨false, (Option.some.inj hq15).symm, rfl, rfl⟩ ⟨rfl, rfl, rfl, trivial⟩ (fun w m => m.pick [0] 1 rfl rfl)
          · replace hq15 := if_f hq15 h84
            refine OW.slot (.bool true) (congrArg Value.bool (congrArg (fun b => !b) (Bool.eq_false_iff.2 h84))) ?_
            refine OW.want rfl ?_
            refine OW.rv (RV.field rfl rfl rfl rfl) rfl ?_
            refine OW.want rfl ?_
            refine OW.rv (RV.load rfl (List.Mem.head _) rfl rfl rfl rfl) rfl ?_
            refine OW.want rfl ?_
            refine OW.rv (RV.len rfl rfl) rfl ?_
            refine OW.want rfl ?_
            refine OW.rv (RV.gtr rfl rfl) rfl ?_
            refine OW.slot (.bool (decide (0 < a0.items.length))) (congrArg Value.bool (decide_eq_decide.2 (by omega))) ?_
            refine OW.want rfl ?_
            refine OW.rv (RV.pick_t rfl rfl rfl) rfl ?_
            refine OW.rv (RV.pick_f rfl rfl rfl) rfl ?_
            refine OW.nil ?_
            exact QW.join ⟨(decide (0 < a0.items.length)), (Option.some.inj hq15).symm, rfl, rfl⟩ ⟨rfl, rfl, rfl, trivial⟩ (fun w m => m.pick [0] 1 rfl rfl)
theorem waybilllaw07_sound_does (w0 : World) (Φ : Ctx) (N : List Ent) (hΦ : ∀ w, Mem w0 w N → Φ w) (cs0_ : List Value) (a0 : It) (a1 : Nat) (res0 : Nat) (res1 : Bool) (ha0 : ItRd Φ cs0_ a0) (ba1 : a1 ≤ 9223372036854775807) (hf : waybilllaw07_sound a0 a1 = some (res0, res1)) : DoesG Try.prog 58 [.agg cs0_.toArray, .int .i64 ((a1 : Nat) : Int)] w0 [] N (fun v G => (res0 ≤ 9223372036854775807) ∧ v = .tuple #[.int .i64 ((res0 : Nat) : Int), .bool res1]) := waybilllaw07_sound_rec w0 _ Φ N hΦ cs0_ a0 a1 res0 res1 ha0 ba1 hf

abbrev Zc : List Value := [.bool false, .slice none 0 0, .slice none 0 0]
abbrev DecR (w0 : World) (Φ : Ctx) (res0 : It) (res1 : Nat) : Value → List Ent → Prop := fun v G => ∃ B : List Ent, ∃ cr0 : List Value, (ItRd (More w0 Φ B) cr0 res0) ∧ (res1 ≤ 9223372036854775807) ∧ v = .tuple #[.agg cr0.toArray, .int .i64 ((res1 : Nat) : Int)] ∧ G = B
abbrev DecQ (w0 : World) (Φ : Ctx) (N : List Ent) (res0 : It) (res1 : Nat) := bodyPost Try.prog Try.f55 (EndsJ w0 (fun v M' => ∃ G, DecR w0 Φ res0 res1 v G ∧ M' = G ++ N))
def JD (w0 : World) (Φ : Ctx) (N : List Ent) (res0 : It) (res1 : Nat) : Nat → Nat → Slots → List Ent → Prop
  | 0, _, L, M => ∃ b2 : Nat, res0 = It.zero ∧ res1 ≤ 9223372036854775807 ∧ L = [(2, ptr (some b2) 0), (9, .int .i64 ((res1 : Nat) : Int))] ∧ M = (some b2, blk Zc 29) :: N
  | l + 1, k, L, M => ∃ (b : List (BitVec 8)) (A : Option Addr) (c : Nat) (F : List Frm) (B : List Ent) (ob4 : Option Nat) (c4 : Nat) (r4 : List Value) (b5 : Nat) (cs5 : List Value) (b2 : Nat) (it : It),
      dec k (l + 1) b it (F.map Frm.pure) = some (res0, res1) ∧ (l = 1 → ItRd (More w0 Φ B) cs5 it) ∧ View (More w0 Φ B) A b.length c 1 (u8s b) ∧ (∀ f ∈ F, f.Ok (More w0 Φ B)) ∧ OwnS ob4 F.length c4 2 (stC F) r4 ∧ cs5.length = 3 ∧
      L = [(0, .slice A b.length c), (2, ptr (some b2) 0), (4, sl ob4 0 F.length c4), (5, ptr (some b5) 0)] ∧
      M = (ob4, blk (stC F ++ r4) 112) :: (some b5, blk cs5 29) :: (some b2, blk Zc 29) :: (F.map (Frm.ent 29) ++ (B ++ N))
theorem toBroken {w0 w : World} {s c5 c2 : Ent} {X B N : List Ent} (m : Mem w0 w (s :: c5 :: c2 :: (X ++ (B ++ N)))) : Mem w0 w (c2 :: N) :=
  m.tail.tail.sublist (List.Sublist.cons_cons _ ((List.sublist_append_right _ _).trans (List.sublist_append_right _ _)))
theorem dec_w3 (w0 : World) (Φ : Ctx) (N : List Ent) (hΦ : ∀ w, Mem w0 w N → Φ w) (res0 : It) (res1 : Nat) (k m : Nat) (hkm : k ≤ m) (L : Slots) (M : List Ent) (h : JD w0 Φ N res0 res1 3 k L M) :
    CW Try.prog 105 (JumpJ 105 w0 (JD w0 Φ N res0 res1) m (DecQ w0 Φ N res0 res1)) w0 (afterL (scopeOf Try.f55.body) 3) L M := by
  obtain ⟨b, A, c, F, B, ob4, c4, r4, b5, cs5, b2, it, hf, -, vb, hF, o4, h5, rfl, rfl⟩ := h
  rcases k with _ | k
  · rw [dec] at hf; cases hf
  replace hf : dec (k + 1) 3 b it _ = _ := hf
  rw [dec_3] at hf
  have m1 := vb.mx
  have m2 := o4.mx
  refine CW.seq ?_
  refine CW.seq ?_
  refine CW.region ?_
  refine OW.rv (RV.move rfl) rfl ?_
  refine OW.rv (RV.len rfl rfl) rfl ?_
  refine OW.rv (RV.gtr rfl rfl) rfl ?_
  refine OW.slot (.bool (decide (0 < b.length))) (congrArg Value.bool (decide_eq_decide.2 (by omega))) ?_
  refine OW.nil ?_
  refine QW.then_n ?_
  by_cases h1 : 0 < b.length
  · replace hf := if_t hf h1
    refine CW.is_t rfl (decide_eq_true h1) ?_
    refine CW.goto ?_
    refine QW.then_g ?_
    exact QW.jump (k := k) (by omega) ⟨b, A, c, F, B, ob4, c4, r4, b5, cs5, b2, It.zero, hf, (fun e => absurd e (by decide)), vb, hF, o4, h5, rfl, rfl⟩ ⟨rfl, rfl, rfl, rfl, trivial⟩ (fun w m => m)
  · replace hf := if_f hf h1
    refine CW.is_f rfl (decide_eq_false h1) ?_
    refine CW.skip ?_
    refine QW.then_n ?_
    rcases F with _ | ⟨f, F⟩
    · cases hf
    replace hf : dec k 2 f.behind (It.mk true [] f.items) (F.map Frm.pure) = some (res0, res1) := hf
    have o4' : OwnS ob4 (F.length + 1) c4 2 (stC (f :: F)) r4 := o4
    have h0 : ob4.isSome = true := o4'.isSome (i := F.length) (by decide) (by omega)
    have hf0 := hF f (List.mem_cons_self ..)
    refine CW.seq ?_
    refine CW.region ?_
    refine OW.rv (RV.move rfl) rfl ?_
    refine OW.rv (RV.move rfl) rfl ?_
    refine OW.rv (RV.len rfl rfl) rfl ?_
    refine OW.rv (RV.sub rfl rfl (by simp only [List.length_cons] at *; omega)) rfl ?_
    refine OW.rv (RV.idx_os (F.length) rfl rfl (by simp) rfl rfl h0 (by simp only [List.length_cons]; omega)) rfl ?_
    refine OW.rv (RV.field rfl rfl rfl rfl) rfl ?_
    refine OW.rv (RV.load rfl (List.Mem.head _) h0 rfl rfl (stC_at0 F f r4)) rfl ?_
    refine OW.rv (RV.buildSt (l := Zc) (cs := [.bool true, .slice none 0 0, sl f.ob 0 f.items.length f.c]) [(0, [.bool true]), (2, [sl f.ob 0 f.items.length f.c])] rfl rfl rfl rfl rfl rfl rfl) rfl ?_
    refine OW.rot1 ?_
    refine OW.sv (SV.storeW rfl rfl rfl (by intro u hu; simp at hu; rcases hu with rfl | rfl | rfl <;> rfl) rfl h5 rfl) ?_
    refine OW.nil ?_
    refine QW.then_n ?_
    refine CW.seq ?_
    refine CW.region ?_
    refine OW.rv (RV.move rfl) rfl ?_
    refine OW.rv (RV.move rfl) rfl ?_
    refine OW.rv (RV.len rfl rfl) rfl ?_
    refine OW.rv (RV.sub rfl rfl (by simp only [List.length_cons] at *; omega)) rfl ?_
    refine OW.rv (RV.idx_os (F.length) rfl rfl (by simp) rfl rfl h0 (by simp only [List.length_cons]; omega)) rfl ?_
    refine OW.rv (RV.field rfl rfl rfl rfl) rfl ?_
    refine OW.rv (RV.load rfl (List.Mem.tail _ (List.Mem.head _)) h0 rfl rfl (stC_at1 F f r4)) rfl ?_
    refine OW.rv (RV.assign rfl) rfl ?_
    refine OW.nil ?_
    refine QW.then_n ?_
    refine CW.seq ?_
    refine CW.region ?_
    refine OW.rv (RV.move rfl) rfl ?_
    refine OW.rv (RV.move rfl) rfl ?_
    refine OW.rv (RV.len rfl rfl) rfl ?_
    refine OW.rv (RV.sub rfl rfl (by simp only [List.length_cons] at *; omega)) rfl ?_
    refine OW.rv (RV.cut_o (F.length) rfl rfl (by simp) rfl rfl (by have := o4'.le (by decide); simp only [List.length_cons]; omega)) rfl ?_
    refine OW.rv (RV.assign rfl) rfl ?_
    refine OW.nil ?_
    refine QW.then_n ?_
    refine CW.seq ?_
    refine CW.goto ?_
    refine QW.then_g ?_
    have hm : ∀ w, More w0 Φ (f.ent 29 :: B) w → More w0 Φ B w := fun w q => More.mono (fun w m => m.tail) q
    have v1 : View (More w0 Φ (f.ent 29 :: B)) ((f.ob).map fun k => ⟨k, 0, none⟩) f.items.length f.c 3 f.cells := hf0.o.view (by decide) (fun w q => q.2.sublist (List.singleton_sublist.2 (List.mem_cons_self ..)))
    have hit : ItRd (More w0 Φ (f.ent 29 :: B)) [.bool true, .slice none 0 0, sl f.ob 0 f.items.length f.c] (It.mk true [] f.items) := by
      have v0 : View (More w0 Φ (f.ent 29 :: B)) none ([] : List (BitVec 8)).length 0 1 (u8s []) := View.nil
      exact ItRd.mk v0 v1 (hf0.h.mono (ItRd.mono hm))
    refine QW.jump (k := k) (by omega) (l := 2) ⟨f.behind, f.A, f.cb, F, f.ent 29 :: B, ob4, c4, f.cs ++ r4, b5, _, b2, It.mk true [] f.items, hf, (fun _ => hit), hf0.v.mono hm, (fun g hg => (hF g (List.mem_cons_of_mem _ hg)).mono hm), o4'.pop rfl, rfl, rfl, rfl⟩ ⟨rfl, rfl, rfl, rfl, trivial⟩ (fun w m => ?_)
    have m := m.pick [1, 0] 2 rfl rfl
    rw [stC_pop] at m
    exact m.under [_, _, _] _
theorem dec_w2 (w0 : World) (Φ : Ctx) (N : List Ent) (hΦ : ∀ w, Mem w0 w N → Φ w) (res0 : It) (res1 : Nat) (k m : Nat) (hkm : k ≤ m) (L : Slots) (M : List Ent) (h : JD w0 Φ N res0 res1 2 k L M) :
    CW Try.prog 105 (JumpJ 105 w0 (JD w0 Φ N res0 res1) m (DecQ w0 Φ N res0 res1)) w0 (afterL (scopeOf Try.f55.body) 2) L M := by
  obtain ⟨b, A, c, F, B, ob4, c4, r4, b5, cs5, b2, it, hf, hit, vb, hF, o4, h5, rfl, rfl⟩ := h
  replace hit := hit rfl
  rcases k with _ | k
  · rw [dec] at hf; cases hf
  replace hf : dec (k + 1) 2 b it _ = _ := hf
  have m1 := vb.mx
  have m2 := o4.mx
  obtain ⟨Ai, ci, Bi, ei, cells, hcs, vi, wi, ri⟩ := ItRd.opn hit
  subst hcs
  refine CW.seq ?_
  refine CW.seq ?_
  refine CW.region ?_
  refine OW.rv (RV.move rfl) rfl ?_
  refine OW.rv (RV.len rfl rfl) rfl ?_
  refine OW.rv (RV.eql rfl rfl) rfl ?_
  refine OW.slot (.bool (decide (F.length = 0))) (congrArg Value.bool (decide_eq_decide.2 (by omega))) ?_
  refine OW.nil ?_
  refine QW.then_n ?_
  rcases F with _ | ⟨f, F⟩
  · rw [List.map_nil, dec_2n] at hf
    refine CW.is_t rfl rfl ?_
    refine CW.seq ?_
    refine CW.seq ?_
    refine CW.region ?_
    refine OW.rv (RV.move rfl) rfl ?_
    refine OW.rv (RV.len rfl rfl) rfl ?_
    refine OW.rv (RV.gtr rfl rfl) rfl ?_
    refine OW.slot (.bool (decide (0 < b.length))) (congrArg Value.bool (decide_eq_decide.2 (by omega))) ?_
    refine OW.nil ?_
    refine QW.then_n ?_
    by_cases h1 : 0 < b.length
    · replace hf := if_t hf h1
      refine CW.is_t rfl (decide_eq_true h1) ?_
      refine CW.seq ?_
      refine CW.region ?_
      refine OW.rv (RV.assign rfl) rfl ?_
      refine OW.nil ?_
      refine QW.then_n ?_
      refine CW.goto ?_
      refine QW.then_g ?_
      refine QW.then_g ?_
      obtain ⟨e0, e1⟩ := Prod.mk.inj (Option.some.inj hf)
      subst e1
      exact QW.jump (k := 0) (l := 0) (by omega) ⟨b2, e0.symm, (by omega), rfl, rfl⟩ ⟨rfl, rfl, trivial⟩ (fun w m => toBroken m)
    · replace hf := if_f hf h1
      refine CW.is_f rfl (decide_eq_false h1) ?_
      refine CW.skip ?_
      refine QW.then_n ?_
      refine CW.seq ?_
      refine CW.region ?_
      refine OW.rv (RV.loadW rfl (List.Mem.tail _ (List.Mem.head _)) rfl rfl rfl rfl rfl) rfl ?_
      refine OW.rot2 ?_
      refine OW.sv (SV.storeW rfl rfl rfl (by intro u hu; simp at hu; rcases hu with rfl | rfl | rfl <;> rfl) rfl rfl rfl) ?_
      refine OW.rv (RV.assign rfl) rfl ?_
      refine OW.nil ?_
      refine QW.then_n ?_
      refine CW.ret ?_
      refine QW.then_r ?_
      obtain ⟨e0, e1⟩ := Prod.mk.inj (Option.some.inj hf)
      subst e0
      subst e1
      refine QW.jump_r ?_
      refine QW.retG (rs := [.cell 2 29, .tmp 3]) ([.agg [.bool it.list, .slice Ai it.data.length ci, .slice Bi it.items.length ei].toArray, .int .i64 (0 : Int)]) B rfl ?_ rfl ?_ ?_ _ (.inl rfl)
      · exact ⟨⟨_, _, _, _, rfl, (List.Mem.head _), rfl, rfl, rfl, rfl⟩, rfl, trivial⟩
      · exact ⟨B, _, hit, (by omega), rfl, rfl⟩
      · exact (fun w m => m.drop 3)
  · replace hf : dec (k + 1) 2 b it ((f.items, f.behind) :: F.map Frm.pure) = some (res0, res1) := hf
    rw [dec_2c] at hf
    obtain ⟨hg, hf⟩ := some_if hf
    refine CW.is_f rfl rfl ?_
    refine CW.skip ?_
    refine QW.then_n ?_
    have o4' : OwnS ob4 (F.length + 1) c4 2 (stC (f :: F)) r4 := o4
    have h0 : ob4.isSome = true := o4'.isSome (i := F.length) (by decide) (by omega)
    have hf0 := hF f (List.mem_cons_self ..)
    have hl4 : 0 + F.length * 2 + 0 < (stC (f :: F) ++ r4).length := by rw [List.length_append, stC_len, List.length_cons]; omega
    have m3 : F.length + 1 ≤ 140737488355328 := m2
    refine CW.seq ?_
    refine CW.cutJ (fun L' M' => ∃ g : Frm, g.items = f.items ++ [it] ∧ g.behind = f.behind ∧ g.Ok (More w0 Φ B) ∧ L' = [(0, .slice A b.length c), (2, ptr (some b2) 0), (4, sl ob4 0 (F.length + 1) c4), (5, ptr (some b5) 0)] ∧
      M' = (ob4, blk (stC (g :: F) ++ r4) 112) :: (some b5, blk [.bool it.list, .slice Ai it.data.length ci, .slice Bi it.items.length ei] 29) :: (some b2, blk Zc 29) :: ((g :: F).map (Frm.ent 29) ++ (B ++ N))) ?_ ?_
    · rintro L' M' ⟨g, gi, gb, gok, e1, e2⟩
      refine QW.then_n ?_
      refine CW.seq ?_
      refine CW.label ?_
      refine QW.then_n ?_
      refine dec_w3 w0 Φ N hΦ res0 res1 k m (by omega) L' M' ⟨b, A, c, g :: F, B, ob4, c4, r4, b5, _, b2, It.zero, ?_, (fun e => absurd e (by decide)), vb, ?_, o4.swap, rfl, e1, e2⟩
      · show dec k 3 b It.zero ((g.items, g.behind) :: F.map Frm.pure) = some (res0, res1)
        rw [gi, gb]; exact hf
      · intro x hx
        rcases List.mem_cons.1 hx with rfl | hx
        · exact gok
        · exact hF x (List.mem_cons_of_mem _ hx)
    · refine CW.seqJ (fun L' M' => ∃ v : Bool, L' = [(45, .bool v), (0, .slice A b.length c), (2, ptr (some b2) 0), (4, sl ob4 0 (F.length + 1) c4), (5, ptr (some b5) 0)] ∧ M' = (ob4, blk (stC (f :: F) ++ r4) 112) :: (some b5, blk [.bool it.list, .slice Ai it.data.length ci, .slice Bi it.items.length ei] 29) :: (some b2, blk Zc 29) :: (f.ent 29 :: (F.map (Frm.ent 29) ++ (B ++ N)))) ?_ ?_
      · rintro L' M' ⟨v, rfl, rfl⟩
        cases v
        · refine CW.is_f rfl rfl ?_
          refine CW.drawsX ((some b5, blk [.bool it.list, .slice Ai it.data.length ci, .slice Bi it.items.length ei] 29) :: (some b2, blk Zc 29) :: (F.map (Frm.ent 29) ++ (B ++ N))) [13, 16] (fun w m => m.pick [1, 2] 4 rfl rfl) mixed (by kernel_rfl) ?_
          refine XW.rs 0 rfl (by kernel_rfl) rfl (RV.move rfl) rfl ?_
          refine XW.rs 1 rfl (by kernel_rfl) rfl (RV.move rfl) rfl ?_
          refine XW.rs 2 rfl (by kernel_rfl) rfl (RV.len rfl rfl) rfl ?_
          refine XW.rs 3 rfl (by kernel_rfl) rfl (RV.sub rfl rfl (by omega)) rfl ?_
          refine XW.rs 4 rfl (by kernel_rfl) rfl (RV.move rfl) rfl ?_
          refine XW.rs 5 rfl (by kernel_rfl) rfl (RV.move rfl) rfl ?_
          refine XW.rs 6 rfl (by kernel_rfl) rfl (RV.len rfl rfl) rfl ?_
          refine XW.rs 7 rfl (by kernel_rfl) rfl (RV.sub rfl rfl (by omega)) rfl ?_
          refine XW.rs 8 rfl (by kernel_rfl) rfl (RV.idx_os (F.length) rfl rfl (by omega) rfl rfl h0 (by omega)) rfl ?_
          refine XW.rs 9 rfl (by kernel_rfl) rfl (RV.field rfl rfl rfl rfl) rfl ?_
          refine XW.rv 10 rfl (by kernel_rfl) rfl (by kernel_rfl) (RV.load rfl (List.Mem.head _) h0 rfl rfl (stC_at0 F f r4)) rfl ?_
          refine XW.rs 11 rfl (by kernel_rfl) rfl (RV.loadW rfl (List.Mem.head _) rfl rfl rfl rfl rfl) rfl ?_
          refine XW.new 12 rfl (by kernel_rfl) rfl (NV.bsA rfl rfl (by intro x hx; simp at hx; subst hx; rfl) rfl rfl rfl (by decide) (by decide) rfl) rfl (fun b76 => ?_)
          refine XW.mem (M' := ((f.ob, blk (f.cells ++ f.r) 29) :: (some b76, blk ([.bool it.list, .slice Ai it.data.length ci, .slice Bi it.items.length ei] ++ []) 29) :: (ob4, blk (stC (f :: F) ++ r4) 112) :: (some b5, blk [.bool it.list, .slice Ai it.data.length ci, .slice Bi it.items.length ei] 29) :: (some b2, blk Zc 29) :: (F.map (Frm.ent 29) ++ (B ++ N)))) (fun w m => m.pick [4, 0, 1, 2, 3] 5 rfl rfl) (fun w m => m.pick [3, 4] 5 rfl rfl) ?_
          refine XW.appendOwn 13 (s := 3) rfl (by kernel_rfl) rfl rfl rfl rfl rfl rfl hf0.o (fun w m => m.rd0 (List.Mem.tail _ (List.Mem.head _)) (fun e => nomatch e)) rfl (by intro u hu; simp at hu; rcases hu with rfl | rfl | rfl <;> rfl) (fun e => nomatch e) (by decide) (by decide) hg rfl ((f.items ++ [it]).length) (f.cells ++ [.bool it.list, .slice Ai it.data.length ci, .slice Bi it.items.length ei]) (by simp) rfl (fun w m => m.pick [2, 3] 4 rfl rfl) rfl (fun ob77 r77 c77 o77 => ?_)
          refine XW.rs 14 rfl (by kernel_rfl) rfl (RV.idx_os (F.length) rfl rfl (by omega) rfl rfl h0 (by omega)) rfl ?_
          refine XW.rs 15 rfl (by kernel_rfl) rfl (RV.field rfl rfl rfl rfl) rfl ?_
          refine XW.mem (M' := ((ob4, blk (stC (f :: F) ++ r4) 112) :: (ob77, blk ((f.cells ++ [.bool it.list, .slice Ai it.data.length ci, .slice Bi it.items.length ei]) ++ r77) 29) :: (some b5, blk [.bool it.list, .slice Ai it.data.length ci, .slice Bi it.items.length ei] 29) :: (some b2, blk Zc 29) :: (F.map (Frm.ent 29) ++ (B ++ N)))) (fun w m => m.pick [2, 0, 3, 4] 5 rfl rfl) (fun w m => m.pick [2, 3] 4 rfl rfl) ?_
          refine XW.sv 16 rfl (by kernel_rfl) (SV.store rfl h0 rfl rfl rfl hl4) (fun w m => m.pick [2, 3] 4 rfl rfl) ?_
          refine XW.cells (stC ((⟨ob77, c77, f.cells ++ [.bool it.list, .slice Ai it.data.length ci, .slice Bi it.items.length ei], r77, f.A, f.cb, f.items ++ [it], f.behind⟩ : Frm) :: F) ++ r4) (show (stC (f :: F) ++ r4).set (0 + F.length * 2 + 0) (sl ob77 0 (f.items ++ [it]).length c77) = stC ((⟨ob77, c77, f.cells ++ [.bool it.list, .slice Ai it.data.length ci, .slice Bi it.items.length ei], r77, f.A, f.cb, f.items ++ [it], f.behind⟩ : Frm) :: F) ++ r4 from stC_set0 F f ⟨ob77, c77, f.cells ++ [.bool it.list, .slice Ai it.data.length ci, .slice Bi it.items.length ei], r77, f.A, f.cb, f.items ++ [it], f.behind⟩ r4 rfl rfl rfl) ?_
          refine XW.nil (by kernel_rfl) ?_
          refine QW.join ⟨⟨ob77, c77, f.cells ++ [.bool it.list, .slice Ai it.data.length ci, .slice Bi it.items.length ei], r77, f.A, f.cb, f.items ++ [it], f.behind⟩, rfl, rfl, ⟨o77, hf0.h.app (Reps.one hit), hf0.v⟩, rfl, rfl⟩ ⟨rfl, rfl, rfl, rfl, trivial⟩ (fun w m => ?_)
          exact m.pick [0, 2, 3, 1] 4 rfl rfl
        · refine CW.is_t rfl rfl ?_
          refine CW.seq ?_
          refine CW.drawsU 14 mixed (by kernel_rfl) rfl ?_
          refine UW.rv 0 rfl (by kernel_rfl) rfl (RV.move rfl) rfl ?_
          refine UW.rv 1 rfl (by kernel_rfl) rfl (RV.move rfl) rfl ?_
          refine UW.rv 2 rfl (by kernel_rfl) rfl (RV.len rfl rfl) rfl ?_
          refine UW.rv 3 rfl (by kernel_rfl) rfl (RV.sub rfl rfl (by omega)) rfl ?_
          refine UW.rv 4 rfl (by kernel_rfl) rfl (RV.move rfl) rfl ?_
          refine UW.rv 5 rfl (by kernel_rfl) rfl (RV.move rfl) rfl ?_
          refine UW.rv 6 rfl (by kernel_rfl) rfl (RV.len rfl rfl) rfl ?_
          refine UW.rv 7 rfl (by kernel_rfl) rfl (RV.sub rfl rfl (by omega)) rfl ?_
          refine UW.rv 8 rfl (by kernel_rfl) rfl (RV.idx_os (F.length) rfl rfl (by omega) rfl rfl h0 (by omega)) rfl ?_
          refine UW.rv 9 rfl (by kernel_rfl) rfl (RV.field rfl rfl rfl rfl) rfl ?_
          refine UW.rv 10 rfl (by kernel_rfl) rfl (RV.load rfl (List.Mem.head _) h0 rfl rfl (stC_at0 F f r4)) rfl ?_
          refine UW.rv 11 rfl (by kernel_rfl) rfl (RV.loadW rfl (List.Mem.tail _ (List.Mem.head _)) rfl rfl rfl rfl rfl) rfl ?_
          refine UW.rv 12 rfl (by kernel_rfl) rfl (RV.len rfl rfl) rfl ?_
          refine UW.new 13 rfl (by kernel_rfl) rfl (NV.bsA (cs := Zc) rfl rfl (by intro x hx; simp at hx; subst hx; rfl) rfl rfl rfl (by decide) (by decide) rfl) rfl (fun b59 => ?_)
          refine UW.nil (by kernel_rfl) ?_
          refine OW.mem (M' := ((f.ob, blk (f.cells ++ f.r) 29) :: (some b59, blk (Zc ++ []) 29) :: (ob4, blk (stC (f :: F) ++ r4) 112) :: (some b5, blk [.bool it.list, .slice Ai it.data.length ci, .slice Bi it.items.length ei] 29) :: (some b2, blk Zc 29) :: (F.map (Frm.ent 29) ++ (B ++ N)))) (fun w m => m.pick [4, 0, 1, 2, 3] 5 rfl rfl) ?_
          refine OW.appendOwn (s := 3) rfl rfl rfl rfl rfl rfl hf0.o (fun w m => m.rd0 (List.Mem.tail _ (List.Mem.head _)) (fun e => nomatch e)) rfl (by intro u hu; simp at hu; rcases hu with rfl | rfl | rfl <;> rfl) (fun e => nomatch e) (by decide) (by decide) hg rfl rfl ((f.items ++ [it]).length) (f.cells ++ Zc) (by simp) rfl (fun ob60 r60 c60 o60 => ?_)
          refine OW.rv (RV.idx_os (F.length) rfl rfl (by omega) rfl rfl h0 (by omega)) rfl ?_
          refine OW.rv (RV.field rfl rfl rfl rfl) rfl ?_
          refine OW.rot2 ?_
          refine OW.sv (SV.store rfl h0 rfl rfl rfl hl4) ?_
          refine OW.cells (stC ((⟨ob60, c60, f.cells ++ [.bool it.list, .slice Ai it.data.length ci, .slice Bi it.items.length ei], r60, f.A, f.cb, f.items ++ [it], f.behind⟩ : Frm) :: F) ++ r4) (show (stC (f :: F) ++ r4).set (0 + F.length * 2 + 0) (sl ob60 0 (f.items ++ [it]).length c60) = stC ((⟨ob60, c60, f.cells ++ [.bool it.list, .slice Ai it.data.length ci, .slice Bi it.items.length ei], r60, f.A, f.cb, f.items ++ [it], f.behind⟩ : Frm) :: F) ++ r4 from stC_set0 F f ⟨ob60, c60, f.cells ++ [.bool it.list, .slice Ai it.data.length ci, .slice Bi it.items.length ei], r60, f.A, f.cb, f.items ++ [it], f.behind⟩ r4 rfl rfl rfl) ?_
          refine OW.nil ?_
          refine QW.then_n ?_
          refine CW.region ?_
          have hlen : (f.items ++ [it]).length = f.items.length + 1 := by simp
          have h60 : ob60.isSome = true := o60.isSome (i := f.items.length) (by decide) (by omega)
          refine OW.rv (RV.idx_os (f.items.length) rfl rfl rfl rfl rfl h60 (by omega)) rfl ?_
          refine OW.rot1 ?_
          have hc3 := hf0.o.n
          refine OW.sv (SV.storeAs rfl h60 rfl (by intro u hu; simp at hu; rcases hu with rfl | rfl | rfl <;> rfl) rfl rfl (show 0 + f.items.length * 3 + 3 ≤ _ by simp only [List.length_append, List.length_cons, List.length_nil]; omega)) ?_
          have esp : spl ((f.cells ++ Zc) ++ r60) (0 + f.items.length * 3) [.bool it.list, .slice Ai it.data.length ci, .slice Bi it.items.length ei] = (f.cells ++ [.bool it.list, .slice Ai it.data.length ci, .slice Bi it.items.length ei]) ++ r60 := spl_last f.cells Zc [.bool it.list, .slice Ai it.data.length ci, .slice Bi it.items.length ei] r60 (f.items.length * 3) (by omega) rfl
          refine OW.cells _ esp ?_
          refine OW.nil ?_
          refine QW.join ⟨⟨ob60, c60, f.cells ++ [.bool it.list, .slice Ai it.data.length ci, .slice Bi it.items.length ei], r60, f.A, f.cb, f.items ++ [it], f.behind⟩, rfl, rfl, ⟨o60.same (by simp) rfl, hf0.h.app (Reps.one hit), hf0.v⟩, rfl, rfl⟩ ⟨rfl, rfl, rfl, rfl, trivial⟩ (fun w m => ?_)
          exact m.pick [1, 3, 4, 0] 5 rfl rfl
      · refine CW.drawsA mixed ?_
        refine AW.one 0 (by kernel_rfl) (AO.alloc (l := [.bool false]) rfl rfl rfl rfl (fun b44 => ?_))
        refine AW.two 1 2 (by kernel_rfl) ?_ ?_
        · refine AO.sv rfl (SV.store rfl rfl rfl rfl rfl (by simp)) ?_
          refine AW.one 2 (by kernel_rfl) (AO.sv rfl (SV.store rfl rfl rfl rfl rfl (by simp)) ?_)
          refine AW.one 3 (by kernel_rfl) (AO.rv rfl (RV.load (v := .bool false) rfl (List.Mem.head _) rfl rfl rfl rfl) rfl ?_)
          refine AW.nil (by kernel_rfl) ?_
          exact QW.join ⟨false, rfl, rfl⟩ ⟨rfl, rfl, rfl, rfl, rfl, trivial⟩ (fun w m => m.tail)
        · refine AO.sv rfl (SV.store rfl rfl rfl rfl rfl (by simp)) ?_
          refine AW.one 1 (by kernel_rfl) (AO.sv rfl (SV.store rfl rfl rfl rfl rfl (by simp)) ?_)
          refine AW.one 3 (by kernel_rfl) (AO.rv rfl (RV.load (v := .bool true) rfl (List.Mem.head _) rfl rfl rfl rfl) rfl ?_)
          refine AW.nil (by kernel_rfl) ?_
          exact QW.join ⟨true, rfl, rfl⟩ ⟨rfl, rfl, rfl, rfl, rfl, trivial⟩ (fun w m => m.tail)
theorem dec_w1 (w0 : World) (Φ : Ctx) (N : List Ent) (hΦ : ∀ w, Mem w0 w N → Φ w) (res0 : It) (res1 : Nat) (k m : Nat) (hkm : k ≤ m) (L : Slots) (M : List Ent) (h : JD w0 Φ N res0 res1 1 k L M) :
    CW Try.prog 105 (JumpJ 105 w0 (JD w0 Φ N res0 res1) m (DecQ w0 Φ N res0 res1)) w0 (afterL (scopeOf Try.f55.body) 1) L M := by
  obtain ⟨b, A, c, F, B, ob4, c4, r4, b5, cs5, b2, it, hf, -, vb, hF, o4, h5, rfl, rfl⟩ := h
  rcases k with _ | k
  · rw [dec] at hf; cases hf
  replace hf : dec (k + 1) 1 b it _ = _ := hf
  rw [dec_1] at hf
  have m1 := vb.mx
  have m2 := o4.mx
  obtain ⟨⟨x1, x2, x3, x4⟩, hx, hf⟩ := some_bind hf
  dsimp only at hf
  refine CW.seq ?_
  refine CW.seq ?_
  refine CW.region ?_
  refine OW.rv (RV.move rfl) rfl ?_
  refine OW.callG Try.call75 rfl (rlp_cut_does w0 (More w0 Φ B) _ (fun w m => More.low hΦ [_, _, _] _ m) A c b x1 x2 x3 x4 vb hx) rfl rfl ?_
  rintro L3 M3 ⟨B3, Ar1, kr1, Ar2, kr2, v1, v2, bx, e1, e2⟩
  rw [e1, e2]
  clear e1 e2 L3 M3
  refine OW.mem (M' := ((ob4, blk (stC F ++ r4) 112) :: (some b5, blk cs5 29) :: (some b2, blk Zc 29) :: (F.map (Frm.ent 29) ++ ((B3 ++ B) ++ N)))) (fun w m => Mem.deep [_, _, _] _ m) ?_
  replace v1 := v1.mono (Ψ := More w0 Φ (B3 ++ B)) (fun w q => More.flat q)
  replace v2 := v2.mono (Ψ := More w0 Φ (B3 ++ B)) (fun w q => More.flat q)
  replace hF : ∀ f ∈ F, f.Ok (More w0 Φ (B3 ++ B)) := fun f hf => (hF f hf).mono (fun w q => More.mono (fun w m => m.appR) q)
  have m3 := v1.mx
  have m4 := v2.mx
  refine OW.rv (RV.move rfl) rfl ?_
  refine OW.rv (RV.extract rfl rfl) rfl ?_
  refine OW.rv (RV.extract rfl rfl) rfl ?_
  refine OW.rv (RV.extract rfl rfl) rfl ?_
  refine OW.rv (RV.extract rfl rfl) rfl ?_
  refine OW.rv (RV.assign rfl) rfl ?_
  refine OW.rv (RV.assign rfl) rfl ?_
  refine OW.rv (RV.assign rfl) rfl ?_
  refine OW.rv (RV.assign rfl) rfl ?_
  refine OW.nil ?_
  refine QW.then_n ?_
  refine CW.seq ?_
  refine CW.region ?_
  refine OW.rv (RV.move rfl) rfl ?_
  refine OW.rv (RV.neq rfl rfl) rfl ?_
  refine OW.slot (.bool (!decide (x4 = 0))) (congrArg (fun b => Value.bool (!b)) (decide_eq_decide.2 (by omega))) ?_
  refine OW.nil ?_
  refine QW.then_n ?_
  by_cases h4 : x4 = 0
  · replace hf := if_t hf h4
    refine CW.is_f rfl (congrArg (fun b => !b) (decide_eq_true h4)) ?_
    refine CW.skip ?_
    refine QW.then_n ?_
    refine CW.seq ?_
    refine CW.seq ?_
    refine CW.region ?_
    refine OW.rv (RV.move rfl) rfl ?_
    refine OW.rv (RV.not rfl) rfl ?_
    refine OW.nil ?_
    refine QW.then_n ?_
    by_cases h1 : x1 = true
    · replace hf := if_t hf h1
      refine CW.is_f rfl (congrArg (fun b => !b) h1) ?_
      refine CW.skip ?_
      refine QW.then_n ?_
      refine CW.seq ?_
      refine CW.seq ?_
      refine CW.region ?_
      refine OW.rv (RV.move rfl) rfl ?_
      refine OW.rv (RV.len rfl rfl) rfl ?_
      refine OW.rv (RV.eql rfl rfl) rfl ?_
      refine OW.slot (.bool (decide ((F.map Frm.pure).length = 1024))) (congrArg Value.bool (decide_eq_decide.2 (by rw [List.length_map]; omega))) ?_
      refine OW.nil ?_
      refine QW.then_n ?_
      by_cases h2 : (F.map Frm.pure).length = 1024
      · replace hf := if_t hf h2
        refine CW.is_t rfl (decide_eq_true h2) ?_
        refine CW.seq ?_
        refine CW.region ?_
        refine OW.rv (RV.assign rfl) rfl ?_
        refine OW.nil ?_
        refine QW.then_n ?_
        refine CW.goto ?_
        refine QW.then_g ?_
        obtain ⟨e0, e1⟩ := Prod.mk.inj (Option.some.inj hf)
        subst e1
        exact QW.jump (k := 0) (l := 0) (by omega) ⟨b2, e0.symm, (by omega), rfl, rfl⟩ ⟨rfl, rfl, trivial⟩ (fun w m => toBroken m)
      · replace hf := if_f hf h2
        refine CW.is_f rfl (decide_eq_false h2) ?_
        refine CW.skip ?_
        refine QW.then_n ?_
        obtain ⟨hg, hf⟩ := some_if hf
        rw [List.length_map] at hg
        refine CW.seq ?_
        refine CW.region ?_
        refine OW.rv (RV.move rfl) rfl ?_
        refine OW.rv (RV.move rfl) rfl ?_
        refine OW.rv (RV.buildSt (l := [.slice none 0 0, .slice none 0 0]) (cs := [.slice none 0 0, .slice Ar2 x3.length kr2]) [(1, [.slice Ar2 x3.length kr2])] rfl rfl rfl rfl rfl rfl rfl) rfl ?_
        refine OW.ofN (NV.bsA rfl rfl (by intro x hx; simp at hx; subst hx; rfl) rfl rfl rfl (by decide) (by decide) rfl) rfl (fun b33 => ?_)
        refine OW.mem (M' := ((ob4, blk (stC F ++ r4) 112) :: (some b33, blk ([.slice none 0 0, .slice Ar2 x3.length kr2] ++ []) 112) :: (some b5, blk cs5 29) :: (some b2, blk Zc 29) :: (F.map (Frm.ent 29) ++ ((B3 ++ B) ++ N)))) (fun w m => m.pick [1, 0, 2, 3] 4 rfl rfl) ?_
        refine OW.appendOwn (s := 2) rfl rfl rfl rfl rfl rfl o4 (fun w m => m.rd0 (List.Mem.tail _ (List.Mem.head _)) (fun e => nomatch e)) rfl (by intro u hu; simp at hu; rcases hu with rfl | rfl <;> rfl) (fun e => nomatch e) (by decide) (by decide) hg rfl rfl (((⟨none, 0, [], [], Ar2, kr2, [], x3⟩ : Frm) :: F).length) (stC ((⟨none, 0, [], [], Ar2, kr2, [], x3⟩ : Frm) :: F)) (by simp) rfl (fun ob34 r34 c34 o34 => ?_)
        refine OW.rv (RV.assign rfl) rfl ?_
        refine OW.nil ?_
        refine QW.then_n ?_
        refine CW.seq ?_
        refine CW.region ?_
        refine OW.rv (RV.move rfl) rfl ?_
        refine OW.rv (RV.assign rfl) rfl ?_
        refine OW.nil ?_
        refine QW.then_n ?_
        refine CW.seq ?_
        refine CW.region ?_
        refine OW.rv (RV.buildSt (l := Zc) (cs := [.bool true, .slice none 0 0, .slice none 0 0]) [(0, [.bool true])] rfl rfl rfl rfl rfl rfl rfl) rfl ?_
        refine OW.rot2 ?_
        refine OW.sv (SV.storeW rfl rfl rfl (by intro u hu; simp at hu; rcases hu with rfl | rfl | rfl <;> rfl) rfl h5 rfl) ?_
        refine OW.nil ?_
        refine QW.then_n ?_
        refine CW.seq ?_
        refine CW.goto ?_
        refine QW.then_g ?_
        refine QW.jump (k := k) (l := 3) (by omega) ⟨x2, Ar1, kr1, ⟨none, 0, [], [], Ar2, kr2, [], x3⟩ :: F, B3 ++ B, ob34, c34, r34, b5, [.bool true, .slice none 0 0, .slice none 0 0], b2, It.zero, hf, (fun e => absurd e (by decide)), v1, ?_, o34, rfl, rfl, rfl⟩ ⟨rfl, rfl, rfl, rfl, trivial⟩ (fun w m => ?_)
        · intro x hx
          rcases List.mem_cons.1 hx with rfl | hx
          · exact ⟨OwnS.nil, Reps.nil, v2⟩
          · exact hF x hx
        · have m := m.nil_ent (blk ([] ++ []) 29)
          exact m.pick [2, 1, 4, 0] 5 rfl rfl
    · replace hf := if_f hf h1
      refine CW.is_t rfl (congrArg (fun b => !b) (Bool.eq_false_iff.2 h1)) ?_
      obtain ⟨x, hx5, hf⟩ := some_bind hf
      refine CW.seq ?_
      refine CW.region ?_
      refine OW.rv (RV.move rfl) rfl ?_
      refine OW.callG Try.call18 rfl (rlp_Text_does w0 (More w0 Φ (B3 ++ B)) _ (fun w m => More.low hΦ [_, _, _] _ m) Ar1 kr1 x2 x v1 hx5) rfl rfl ?_
      rintro L3 M3 ⟨B4, cr, hr, e1, e2⟩
      rw [e1, e2]
      clear e1 e2 L3 M3
      refine OW.mem (M' := ((ob4, blk (stC F ++ r4) 112) :: (some b5, blk cs5 29) :: (some b2, blk Zc 29) :: (F.map (Frm.ent 29) ++ ((B4 ++ (B3 ++ B)) ++ N)))) (fun w m => Mem.deep [_, _, _] _ m) ?_
      replace hr := ItRd.mono (Ψ := More w0 Φ (B4 ++ (B3 ++ B))) (fun w q => More.flat q) _ _ hr
      replace v2 := v2.mono (Ψ := More w0 Φ (B4 ++ (B3 ++ B))) (fun w q => More.mono (fun w m => m.appR) q)
      replace hF : ∀ f ∈ F, f.Ok (More w0 Φ (B4 ++ (B3 ++ B))) := fun f hf => (hF f hf).mono (fun w q => More.mono (fun w m => m.appR) q)
      have hl := ItRd.len _ _ hr
      have h1c := ItRd.one _ _ hr
      refine OW.rot1 ?_
      refine OW.sv (SV.storeW rfl rfl rfl h1c rfl h5 hl) ?_
      refine OW.nil ?_
      refine QW.then_n ?_
      refine CW.seq ?_
      refine CW.region ?_
      refine OW.rv (RV.move rfl) rfl ?_
      refine OW.rv (RV.assign rfl) rfl ?_
      refine OW.nil ?_
      refine QW.then_n ?_
      refine CW.goto ?_
      refine QW.then_g ?_
      exact QW.jump (k := k) (l := 2) (by omega) ⟨x3, Ar2, kr2, F, B4 ++ (B3 ++ B), ob4, c4, r4, b5, cr, b2, x, hf, (fun _ => hr), v2, hF, o4, hl, rfl, rfl⟩ ⟨rfl, rfl, rfl, rfl, trivial⟩ (fun w m => m.pick [1, 0] 2 rfl rfl)
  · replace hf := if_f hf h4
    refine CW.is_t rfl (congrArg (fun b => !b) (decide_eq_false h4)) ?_
    refine CW.goto ?_
    refine QW.then_g ?_
    obtain ⟨e0, e1⟩ := Prod.mk.inj (Option.some.inj hf)
    subst e1
    exact QW.jump (k := 0) (l := 0) (by omega) ⟨b2, e0.symm, bx, rfl, rfl⟩ ⟨rfl, rfl, trivial⟩ (fun w m => toBroken m)
theorem rlp_Decode_does (w0 : World) (Φ : Ctx) (N : List Ent) (hΦ : ∀ w, Mem w0 w N → Φ w) (A0_ : Option Addr) (c0_ : Nat) (a0 : List (BitVec 8)) (res0 : It) (res1 : Nat) (va0 : View Φ A0_ a0.length c0_ 1 (u8s a0)) (hf : rlp_Decode a0 = some (res0, res1)) : DoesG Try.prog 55 [.slice A0_ a0.length c0_] w0 [] N (fun v G => ∃ B : List Ent, ∃ cr0 : List Value, (ItRd (More w0 Φ B) cr0 res0) ∧ (res1 ≤ 9223372036854775807) ∧ v = .tuple #[.agg cr0.toArray, .int .i64 ((res1 : Nat) : Int)] ∧ G = B) := by
  unfold rlp_Decode at hf
  have m1 := va0.mx
  refine DoesG.enter Try.func55 rfl Try.ntmps55 rfl (M := N) rfl ?_
  refine CW.seq ?_
  refine CW.region ?_
  refine OW.alloc (l := Zc) rfl rfl rfl (fun b2 => ?_)
  refine OW.rv (RV.assign rfl) rfl ?_
  refine OW.nil ?_
  refine QW.then_n ?_
  refine CW.scopeJ (JD w0 Φ N res0 res1) (4 * a0.length + 9) ?_ ?_
  · refine CW.seq ?_
    refine CW.region ?_
    refine OW.rv (RV.assign rfl) rfl ?_
    refine OW.nil ?_
    refine QW.then_n ?_
    refine CW.seq ?_
    refine CW.region ?_
    refine OW.alloc (l := Zc) rfl rfl rfl (fun b5 => ?_)
    refine OW.nil ?_
    refine QW.then_n ?_
    refine CW.seq ?_
    refine CW.region ?_
    refine OW.rv (RV.assign rfl) rfl ?_
    refine OW.nil ?_
    refine QW.then_n ?_
    refine CW.seq ?_
    refine CW.region ?_
    refine OW.rv (RV.assign rfl) rfl ?_
    refine OW.rv (RV.assign rfl) rfl ?_
    refine OW.nil ?_
    refine QW.then_n ?_
    refine CW.seq ?_
    refine CW.region ?_
    refine OW.rv (RV.assign rfl) rfl ?_
    refine OW.nil ?_
    refine QW.then_n ?_
    refine CW.seq ?_
    refine CW.seq ?_
    refine CW.region ?_
    refine OW.rv (RV.move rfl) rfl ?_
    refine OW.rv (RV.len rfl rfl) rfl ?_
    refine OW.rv (RV.gtr rfl rfl) rfl ?_
    refine OW.slot (.bool (decide (16777216 < a0.length))) (congrArg Value.bool (decide_eq_decide.2 (by omega))) ?_
    refine OW.nil ?_
    refine QW.then_n ?_
    by_cases h1 : 16777216 < a0.length
    · replace hf := if_t hf h1
      refine CW.is_t rfl (decide_eq_true h1) ?_
      refine CW.goto ?_
      refine QW.then_g ?_
      obtain ⟨e0, e1⟩ := Prod.mk.inj (Option.some.inj hf)
      subst e1
      exact QW.jump (k := 0) (l := 0) (by omega) ⟨b2, e0.symm, (by omega), rfl, rfl⟩ ⟨rfl, rfl, trivial⟩ (fun w m => m.tail)
    · replace hf := if_f hf h1
      refine CW.is_f rfl (decide_eq_false h1) ?_
      refine CW.skip ?_
      refine QW.then_n ?_
      refine CW.seq ?_
      refine CW.label ?_
      refine QW.then_n ?_
      refine CW.mem (M' := ((none, blk ([] ++ []) 112) :: (some b5, blk Zc 29) :: (some b2, blk Zc 29) :: N)) (fun w m => m.nil_ent _) ?_
      refine CW.sub (L' := [(0, .slice A0_ a0.length c0_), (2, ptr (some b2) 0), (4, sl none 0 0 0), (5, ptr (some b5) 0)]) ⟨rfl, rfl, rfl, rfl, trivial⟩ ?_
      exact dec_w1 w0 Φ N hΦ res0 res1 (4 * a0.length + 8) _ (by omega) _ _ ⟨a0, A0_, c0_, [], [], none, 0, [], b5, Zc, b2, It.zero, hf, (fun e => absurd e (by decide)), va0.mono (fun w q => q.1), (fun f hf => nomatch hf), OwnS.nil, rfl, rfl, rfl⟩
  · intro l k L M h
    match l, h with
    | 0, ⟨b2, e0, hb, e1, e2⟩ =>
      subst e0
      subst e1
      subst e2
      refine ⟨_, rfl, ?_⟩
      refine CW.seq ?_
      refine CW.skip ?_
      refine QW.then_n ?_
      refine CW.seq ?_
      refine CW.region ?_
      refine OW.rv (RV.buildSt (l := Zc) (cs := Zc) [] rfl rfl rfl rfl rfl rfl rfl) rfl ?_
      refine OW.rv (RV.move rfl) rfl ?_
      refine OW.sv (SV.storeW rfl rfl rfl (by intro u hu; simp at hu; rcases hu with rfl | rfl | rfl <;> rfl) rfl rfl rfl) ?_
      refine OW.rv (RV.assign rfl) rfl ?_
      refine OW.nil ?_
      refine QW.then_n ?_
      refine CW.ret ?_
      refine QW.jump_r ?_
      have v0 : View (More w0 Φ []) none ([] : List (BitVec 8)).length 0 1 (u8s []) := View.nil
      have v1 : View (More w0 Φ []) none ([] : List (It)).length 0 3 [] := View.nil
      refine QW.retG (rs := [.cell 2 29, .tmp 3]) ([.agg Zc.toArray, .int .i64 ((res1 : Nat) : Int)]) [] rfl ?_ rfl ?_ ?_ _ (.inl rfl)
      · exact ⟨⟨_, _, _, _, rfl, (List.Mem.head _), rfl, rfl, rfl, rfl⟩, rfl, trivial⟩
      · exact ⟨[], Zc, (ItRd.mk v0 v1 (Reps.nil)), hb, rfl, rfl⟩
      · exact (fun w m => m.tail)
    | 1, h =>
      refine ⟨_, rfl, ?_⟩
      refine CW.seq ?_
      refine CW.skip ?_
      refine QW.then_n ?_
      exact dec_w1 w0 Φ N hΦ res0 res1 k k (Nat.le_refl _) L M h
    | 2, h =>
      refine ⟨_, rfl, ?_⟩
      refine CW.seq ?_
      refine CW.skip ?_
      refine QW.then_n ?_
      exact dec_w2 w0 Φ N hΦ res0 res1 k k (Nat.le_refl _) L M h
    | 3, h =>
      refine ⟨_, rfl, ?_⟩
      refine CW.seq ?_
      refine CW.skip ?_
      refine QW.then_n ?_
      exact dec_w3 w0 Φ N hΦ res0 res1 k k (Nat.le_refl _) L M h
    | l + 4, ⟨b, A, c, F, B, ob4, c4, r4, b5, cs5, b2, it, hf, _⟩ =>
      rcases k with _ | k
      · rw [dec] at hf; cases hf
      · exact absurd hf (by simp [dec])

theorem waybilllaw07_RlpBack_does (w0 : World) (Φ : Ctx) (N : List Ent) (hΦ : ∀ w, Mem w0 w N → Φ w) (cs0_ : List Value) (a0 : It) (A1_ : Option Addr) (c1_ : Nat) (a1 : List (BitVec 8)) (a2 : Int) (res0 : Bool) (ha0 : ItRd Φ cs0_ a0) (va1 : View Φ A1_ a1.length c1_ 1 (u8s a1)) (ba2 : -9223372036854775808 ≤ a2 ∧ a2 ≤ 9223372036854775807) (hf : waybilllaw07_RlpBack a0 a1 a2 = some res0) : DoesG Try.prog 11 [.agg cs0_.toArray, .slice A1_ a1.length c1_, .int .i64 a2] w0 [] N (fun v G => v = .bool res0) := by
  unfold waybilllaw07_RlpBack at hf
  replace va1 := va1.mono (Ψ := More w0 Φ []) (fun w q => q.1)
  replace ha0 := ItRd.mono (Ψ := More w0 Φ []) (fun w q => q.1) _ _ ha0
  have h10 := ha0
  obtain ⟨A1, c2, A4, c5, cs7, e9, v3, v6, h8⟩ := ItRd.opn ha0
  subst e9
  have m11 := v3.mx
  have m12 := v6.mx
  have m13 := va1.mx
  refine DoesG.enter Try.func11 rfl Try.ntmps11 rfl (M := (([] ++ N))) rfl ?_
  refine CW.seq ?_
  refine CW.region ?_
  refine OW.boxA rfl rfl (fun b14 => ?_)
  refine OW.rv (RV.assign rfl) rfl ?_
  refine OW.nil ?_
  refine QW.then_n ?_
  refine CW.seq ?_
  refine CW.region ?_
  refine OW.rv (RV.loadW rfl (List.Mem.head _) rfl rfl rfl rfl rfl) rfl ?_
  obtain ⟨⟨x16, x17⟩, hx15, hf⟩ := some_bind hf
  try dsimp only at hf
  refine OW.callG Try.call58 rfl (waybilllaw07_sound_does w0 (More w0 Φ []) ((some b14, blk [.bool (a0.list), .slice A1 a0.data.length c2, .slice A4 a0.items.length c5] 29) :: ([] ++ N)) (fun w m => More.of hΦ 1 m rfl) [.bool (a0.list), .slice A1 a0.data.length c2, .slice A4 a0.items.length c5] a0 0 x16 x17 h10 (by omega) hx15) rfl rfl ?_
  rintro _ G19 ⟨b18, rfl⟩
  refine OW.mem (M' := ((some b14, blk [.bool (a0.list), .slice A1 a0.data.length c2, .slice A4 a0.items.length c5] 29) :: ([] ++ N))) (fun w m => m.appR) ?_
  refine OW.rv (RV.move rfl) rfl ?_
  refine OW.rv (RV.extract rfl rfl) rfl ?_
  refine OW.slot (.int .i64 ((x16 : Nat) : Int)) (rfl) ?_
  refine OW.rv (RV.extract rfl rfl) rfl ?_
  refine OW.slot (.bool (x17)) (rfl) ?_
  refine OW.rv (RV.assign rfl) rfl ?_
  refine OW.rv (RV.assign rfl) rfl ?_
  refine OW.nil ?_
  refine QW.then_n ?_
  refine CW.seq ?_
  refine CW.seq ?_
  obtain ⟨q21, hq22, hf⟩ := some_bind hf
  refine CW.cutJ (fun L' M' => ∃ p23 : Bool, q21 = p23 ∧ L' = [(1, .slice A1_ a1.length c1_), (2, .int .i64 a2), (3, ptr (some b14) 0), (37, .bool (p23))] ∧ M' = ((some b14, blk [.bool (a0.list), .slice A1 a0.data.length c2, .slice A4 a0.items.length c5] 29) :: ([] ++ N))) ?_ ?_
  · rintro L25 M26 ⟨p23, e24, e27, e28⟩
    rw [e27, e28]
    clear e27 e28 L25 M26
    clear hq22
    rw [e24] at hf
    clear e24
    try dsimp only at hf
    refine QW.then_n ?_
    by_cases h29 : p23 = true
    · replace hf := if_t hf h29
      refine CW.is_t rfl (h29) ?_
      refine CW.seq ?_
      refine CW.region ?_
      refine OW.rv (RV.assign rfl) rfl ?_
      refine OW.nil ?_
      refine QW.then_n ?_
      refine CW.ret ?_
      refine QW.then_r ?_
      have e0 := Option.some.inj hf
      subst e0
      refine QW.retG (rs := [.tmp 6]) ([.bool true]) ((some b14, blk [.bool (a0.list), .slice A1 a0.data.length c2, .slice A4 a0.items.length c5] 29) :: []) rfl ?_ rfl ?_ ?_ _ (.inl rfl)
      · exact ⟨rfl, trivial⟩
      · exact rfl
      · exact (fun w m => m)
    · replace hf := if_f hf h29
      refine CW.is_f rfl (Bool.eq_false_iff.2 h29) ?_
      refine CW.skip ?_
      refine QW.then_n ?_
      refine CW.seq ?_
      refine CW.region ?_
      refine OW.rv (RV.loadW rfl (List.Mem.head _) rfl rfl rfl rfl rfl) rfl ?_
      obtain ⟨x31, hx30, hf⟩ := some_bind hf
      refine OW.callG Try.call57 rfl (waybilllaw07_twin_does w0 (More w0 Φ []) ((some b14, blk [.bool (a0.list), .slice A1 a0.data.length c2, .slice A4 a0.items.length c5] 29) :: ([] ++ N)) (fun w m => More.of hΦ 1 m rfl) [.bool (a0.list), .slice A1 a0.data.length c2, .slice A4 a0.items.length c5] a0 x31 h10 hx30) rfl rfl ?_
      rintro L35 M36 ⟨B32, cs33, h34, e37, e38⟩
      rw [e37, e38]
      clear e37 e38 L35 M36
      refine OW.mem (M' := ((some b14, blk [.bool (a0.list), .slice A1 a0.data.length c2, .slice A4 a0.items.length c5] 29) :: ((B32 ++ []) ++ N))) (fun w m => by have h := Mem.sinkAt (A := B32) m 0 1 rfl rfl; exact h) ?_
      replace va1 := va1.mono (Ψ := More w0 Φ (B32 ++ [])) (fun w q => More.mono (fun w m => (m).appR) q)
      replace h10 := ItRd.mono (Ψ := More w0 Φ (B32 ++ [])) (fun w q => More.mono (fun w m => (m).appR) q) _ _ h10
      replace v3 := v3.mono (Ψ := More w0 Φ (B32 ++ [])) (fun w q => More.mono (fun w m => (m).appR) q)
      replace v6 := v6.mono (Ψ := More w0 Φ (B32 ++ [])) (fun w q => More.mono (fun w m => (m).appR) q)
      replace h8 := h8.mono (ItRd.mono (Ψ := More w0 Φ (B32 ++ [])) (fun w q => More.mono (fun w m => (m).appR) q))
      replace h34 := ItRd.mono (Ψ := (More w0 Φ (B32 ++ []))) (fun w q => More.flat q) _ _ h34
      have h48 := h34
      obtain ⟨A39, c40, A42, c43, cs45, e47, v41, v44, h46⟩ := ItRd.opn h34
      subst e47
      have m49 := v41.mx
      have m50 := v44.mx
      have m51 := v41.mx
      have m52 := v44.mx
      obtain ⟨⟨x54, x55⟩, hx53, hf⟩ := some_bind hf
      try dsimp only at hf
      refine OW.callG Try.call53 rfl (rlp_Encode_does w0 (More w0 Φ (B32 ++ [])) ((some b14, blk [.bool (a0.list), .slice A1 a0.data.length c2, .slice A4 a0.items.length c5] 29) :: ((B32 ++ []) ++ N)) (fun w m => More.of hΦ 1 m rfl) [.bool (x31.list), .slice A39 x31.data.length c40, .slice A42 x31.items.length c43] x31 x54 x55 h48 hx53) rfl rfl ?_
      rintro L62 M63 ⟨B56, ob57, c58, r59, o60, b61, e64, e65⟩
      rw [e64, e65]
      clear e64 e65 L62 M63
      refine OW.mem (M' := ((ob57, blk ((u8s x54) ++ r59) 5) :: (some b14, blk [.bool (a0.list), .slice A1 a0.data.length c2, .slice A4 a0.items.length c5] 29) :: ((B56 ++ (B32 ++ [])) ++ N))) (fun w m => by have h := Mem.sinkAt (A := B56) m 1 1 rfl rfl; exact h) ?_
      replace va1 := va1.mono (Ψ := More w0 Φ (B56 ++ (B32 ++ []))) (fun w q => More.mono (fun w m => (m).appR) q)
      replace h10 := ItRd.mono (Ψ := More w0 Φ (B56 ++ (B32 ++ []))) (fun w q => More.mono (fun w m => (m).appR) q) _ _ h10
      replace v3 := v3.mono (Ψ := More w0 Φ (B56 ++ (B32 ++ []))) (fun w q => More.mono (fun w m => (m).appR) q)
      replace v6 := v6.mono (Ψ := More w0 Φ (B56 ++ (B32 ++ []))) (fun w q => More.mono (fun w m => (m).appR) q)
      replace h8 := h8.mono (ItRd.mono (Ψ := More w0 Φ (B56 ++ (B32 ++ []))) (fun w q => More.mono (fun w m => (m).appR) q))
      replace h48 := ItRd.mono (Ψ := More w0 Φ (B56 ++ (B32 ++ []))) (fun w q => More.mono (fun w m => (m).appR) q) _ _ h48
      replace v41 := v41.mono (Ψ := More w0 Φ (B56 ++ (B32 ++ []))) (fun w q => More.mono (fun w m => (m).appR) q)
      replace v44 := v44.mono (Ψ := More w0 Φ (B56 ++ (B32 ++ []))) (fun w q => More.mono (fun w m => (m).appR) q)
      replace h46 := h46.mono (ItRd.mono (Ψ := More w0 Φ (B56 ++ (B32 ++ []))) (fun w q => More.mono (fun w m => (m).appR) q))
      have m66 := o60.mx
      refine OW.rv (RV.move rfl) rfl ?_
      refine OW.rv (RV.extract rfl rfl) rfl ?_
      refine OW.slot (sl ob57 0 x54.length c58) (rfl) ?_
      refine OW.rv (RV.extract rfl rfl) rfl ?_
      refine OW.slot (.int .i64 ((x55 : Nat) : Int)) (rfl) ?_
      refine OW.rv (RV.assign rfl) rfl ?_
      refine OW.rv (RV.assign rfl) rfl ?_
      refine OW.nil ?_
      refine QW.then_n ?_
      refine CW.seq ?_
      refine CW.region ?_
      refine OW.rv (RV.loadW rfl (List.Mem.tail _ (List.Mem.head _)) rfl rfl rfl rfl rfl) rfl ?_
      obtain ⟨x68, hx67, hf⟩ := some_bind hf
      refine OW.callG Try.call57 rfl (waybilllaw07_twin_does w0 (More w0 Φ (B56 ++ (B32 ++ []))) ((ob57, blk ((u8s x54) ++ r59) 5) :: (some b14, blk [.bool (a0.list), .slice A1 a0.data.length c2, .slice A4 a0.items.length c5] 29) :: ((B56 ++ (B32 ++ [])) ++ N)) (fun w m => More.of hΦ 2 m rfl) [.bool (a0.list), .slice A1 a0.data.length c2, .slice A4 a0.items.length c5] a0 x68 h10 hx67) rfl rfl ?_
      rintro L72 M73 ⟨B69, cs70, h71, e74, e75⟩
      rw [e74, e75]
      clear e74 e75 L72 M73
      refine OW.mem (M' := ((ob57, blk ((u8s x54) ++ r59) 5) :: (some b14, blk [.bool (a0.list), .slice A1 a0.data.length c2, .slice A4 a0.items.length c5] 29) :: ((B69 ++ (B56 ++ (B32 ++ []))) ++ N))) (fun w m => by have h := Mem.sinkAt (A := B69) m 0 2 rfl rfl; exact h) ?_
      replace va1 := va1.mono (Ψ := More w0 Φ (B69 ++ (B56 ++ (B32 ++ [])))) (fun w q => More.mono (fun w m => (m).appR) q)
      replace h10 := ItRd.mono (Ψ := More w0 Φ (B69 ++ (B56 ++ (B32 ++ [])))) (fun w q => More.mono (fun w m => (m).appR) q) _ _ h10
      replace v3 := v3.mono (Ψ := More w0 Φ (B69 ++ (B56 ++ (B32 ++ [])))) (fun w q => More.mono (fun w m => (m).appR) q)
      replace v6 := v6.mono (Ψ := More w0 Φ (B69 ++ (B56 ++ (B32 ++ [])))) (fun w q => More.mono (fun w m => (m).appR) q)
      replace h8 := h8.mono (ItRd.mono (Ψ := More w0 Φ (B69 ++ (B56 ++ (B32 ++ [])))) (fun w q => More.mono (fun w m => (m).appR) q))
      replace h48 := ItRd.mono (Ψ := More w0 Φ (B69 ++ (B56 ++ (B32 ++ [])))) (fun w q => More.mono (fun w m => (m).appR) q) _ _ h48
      replace v41 := v41.mono (Ψ := More w0 Φ (B69 ++ (B56 ++ (B32 ++ [])))) (fun w q => More.mono (fun w m => (m).appR) q)
      replace v44 := v44.mono (Ψ := More w0 Φ (B69 ++ (B56 ++ (B32 ++ [])))) (fun w q => More.mono (fun w m => (m).appR) q)
      replace h46 := h46.mono (ItRd.mono (Ψ := More w0 Φ (B69 ++ (B56 ++ (B32 ++ [])))) (fun w q => More.mono (fun w m => (m).appR) q))
      replace h71 := ItRd.mono (Ψ := (More w0 Φ (B69 ++ (B56 ++ (B32 ++ []))))) (fun w q => More.flat q) _ _ h71
      have h85 := h71
      obtain ⟨A76, c77, A79, c80, cs82, e84, v78, v81, h83⟩ := ItRd.opn h71
      subst e84
      have m86 := v78.mx
      have m87 := v81.mx
      have m88 := v78.mx
      have m89 := v81.mx
      obtain ⟨⟨x91, x92⟩, hx90, hf⟩ := some_bind hf
      try dsimp only at hf
      refine OW.callG Try.call51 rfl (rlp_Size_does w0 (More w0 Φ (B69 ++ (B56 ++ (B32 ++ [])))) ((ob57, blk ((u8s x54) ++ r59) 5) :: (some b14, blk [.bool (a0.list), .slice A1 a0.data.length c2, .slice A4 a0.items.length c5] 29) :: ((B69 ++ (B56 ++ (B32 ++ []))) ++ N)) (fun w m => More.of hΦ 2 m rfl) [.bool (x68.list), .slice A76 x68.data.length c77, .slice A79 x68.items.length c80] x68 x91 x92 h85 hx90) rfl rfl ?_
      rintro _ G95 ⟨b93, b94, rfl⟩
      refine OW.mem (M' := ((ob57, blk ((u8s x54) ++ r59) 5) :: (some b14, blk [.bool (a0.list), .slice A1 a0.data.length c2, .slice A4 a0.items.length c5] 29) :: ((B69 ++ (B56 ++ (B32 ++ []))) ++ N))) (fun w m => m.appR) ?_
      refine OW.rv (RV.move rfl) rfl ?_
      refine OW.rv (RV.extract rfl rfl) rfl ?_
      refine OW.slot (.int .i64 ((x91 : Nat) : Int)) (rfl) ?_
      refine OW.rv (RV.extract rfl rfl) rfl ?_
      refine OW.slot (.int .i64 ((x92 : Nat) : Int)) (rfl) ?_
      refine OW.rv (RV.assign rfl) rfl ?_
      refine OW.rv (RV.assign rfl) rfl ?_
      refine OW.nil ?_
      refine QW.then_n ?_
      refine CW.seq ?_
      refine CW.region ?_
      refine OW.rv (RV.move rfl) rfl ?_
      refine OW.mem (M' := (some b14, blk [.bool (a0.list), .slice A1 a0.data.length c2, .slice A4 a0.items.length c5] 29) :: (((ob57, blk ((u8s x54) ++ r59) 5) :: (B69 ++ (B56 ++ (B32 ++ [])))) ++ N)) (fun w m => m.pick [1, 0] 2 rfl rfl) ?_
      replace va1 := va1.mono (Ψ := More w0 Φ ((ob57, blk ((u8s x54) ++ r59) 5) :: (B69 ++ (B56 ++ (B32 ++ []))))) (fun w q => More.mono (fun w m => (m).tail) q)
      replace h10 := ItRd.mono (Ψ := More w0 Φ ((ob57, blk ((u8s x54) ++ r59) 5) :: (B69 ++ (B56 ++ (B32 ++ []))))) (fun w q => More.mono (fun w m => (m).tail) q) _ _ h10
      replace v3 := v3.mono (Ψ := More w0 Φ ((ob57, blk ((u8s x54) ++ r59) 5) :: (B69 ++ (B56 ++ (B32 ++ []))))) (fun w q => More.mono (fun w m => (m).tail) q)
      replace v6 := v6.mono (Ψ := More w0 Φ ((ob57, blk ((u8s x54) ++ r59) 5) :: (B69 ++ (B56 ++ (B32 ++ []))))) (fun w q => More.mono (fun w m => (m).tail) q)
      replace h8 := h8.mono (ItRd.mono (Ψ := More w0 Φ ((ob57, blk ((u8s x54) ++ r59) 5) :: (B69 ++ (B56 ++ (B32 ++ []))))) (fun w q => More.mono (fun w m => (m).tail) q))
      replace h48 := ItRd.mono (Ψ := More w0 Φ ((ob57, blk ((u8s x54) ++ r59) 5) :: (B69 ++ (B56 ++ (B32 ++ []))))) (fun w q => More.mono (fun w m => (m).tail) q) _ _ h48
      replace v41 := v41.mono (Ψ := More w0 Φ ((ob57, blk ((u8s x54) ++ r59) 5) :: (B69 ++ (B56 ++ (B32 ++ []))))) (fun w q => More.mono (fun w m => (m).tail) q)
      replace v44 := v44.mono (Ψ := More w0 Φ ((ob57, blk ((u8s x54) ++ r59) 5) :: (B69 ++ (B56 ++ (B32 ++ []))))) (fun w q => More.mono (fun w m => (m).tail) q)
      replace h46 := h46.mono (ItRd.mono (Ψ := More w0 Φ ((ob57, blk ((u8s x54) ++ r59) 5) :: (B69 ++ (B56 ++ (B32 ++ []))))) (fun w q => More.mono (fun w m => (m).tail) q))
      replace h85 := ItRd.mono (Ψ := More w0 Φ ((ob57, blk ((u8s x54) ++ r59) 5) :: (B69 ++ (B56 ++ (B32 ++ []))))) (fun w q => More.mono (fun w m => (m).tail) q) _ _ h85
      replace v78 := v78.mono (Ψ := More w0 Φ ((ob57, blk ((u8s x54) ++ r59) 5) :: (B69 ++ (B56 ++ (B32 ++ []))))) (fun w q => More.mono (fun w m => (m).tail) q)
      replace v81 := v81.mono (Ψ := More w0 Φ ((ob57, blk ((u8s x54) ++ r59) 5) :: (B69 ++ (B56 ++ (B32 ++ []))))) (fun w q => More.mono (fun w m => (m).tail) q)
      replace h83 := h83.mono (ItRd.mono (Ψ := More w0 Φ ((ob57, blk ((u8s x54) ++ r59) 5) :: (B69 ++ (B56 ++ (B32 ++ []))))) (fun w q => More.mono (fun w m => (m).tail) q))
      have v97 : View (More w0 Φ ((ob57, blk ((u8s x54) ++ r59) 5) :: (B69 ++ (B56 ++ (B32 ++ []))))) ((ob57).map fun k => ⟨k, 0, none⟩) x54.length c58 1 (u8s x54) := o60.view (by decide) (fun w q => q.2.sublist (List.singleton_sublist.2 (List.mem_cons_self ..)))
      obtain ⟨⟨x99, x100⟩, hx98, hf⟩ := some_bind hf
      try dsimp only at hf
      refine OW.callG Try.call55 rfl (rlp_Decode_does w0 (More w0 Φ ((ob57, blk ((u8s x54) ++ r59) 5) :: (B69 ++ (B56 ++ (B32 ++ []))))) ((some b14, blk [.bool (a0.list), .slice A1 a0.data.length c2, .slice A4 a0.items.length c5] 29) :: (((ob57, blk ((u8s x54) ++ r59) 5) :: (B69 ++ (B56 ++ (B32 ++ [])))) ++ N)) (fun w m => More.of hΦ 1 m rfl) ((ob57).map fun k => ⟨k, 0, none⟩) c58 x54 x99 x100 v97 hx98) rfl rfl ?_
      rintro L105 M106 ⟨B101, cs102, h103, b104, e107, e108⟩
      rw [e107, e108]
      clear e107 e108 L105 M106
      refine OW.mem (M' := ((some b14, blk [.bool (a0.list), .slice A1 a0.data.length c2, .slice A4 a0.items.length c5] 29) :: ((B101 ++ ((ob57, blk ((u8s x54) ++ r59) 5) :: (B69 ++ (B56 ++ (B32 ++ []))))) ++ N))) (fun w m => by have h := Mem.sinkAt (A := B101) m 0 1 rfl rfl; exact h) ?_
      replace va1 := va1.mono (Ψ := More w0 Φ (B101 ++ ((ob57, blk ((u8s x54) ++ r59) 5) :: (B69 ++ (B56 ++ (B32 ++ [])))))) (fun w q => More.mono (fun w m => (m).appR) q)
      replace h10 := ItRd.mono (Ψ := More w0 Φ (B101 ++ ((ob57, blk ((u8s x54) ++ r59) 5) :: (B69 ++ (B56 ++ (B32 ++ [])))))) (fun w q => More.mono (fun w m => (m).appR) q) _ _ h10
      replace v3 := v3.mono (Ψ := More w0 Φ (B101 ++ ((ob57, blk ((u8s x54) ++ r59) 5) :: (B69 ++ (B56 ++ (B32 ++ [])))))) (fun w q => More.mono (fun w m => (m).appR) q)
      replace v6 := v6.mono (Ψ := More w0 Φ (B101 ++ ((ob57, blk ((u8s x54) ++ r59) 5) :: (B69 ++ (B56 ++ (B32 ++ [])))))) (fun w q => More.mono (fun w m => (m).appR) q)
      replace h8 := h8.mono (ItRd.mono (Ψ := More w0 Φ (B101 ++ ((ob57, blk ((u8s x54) ++ r59) 5) :: (B69 ++ (B56 ++ (B32 ++ [])))))) (fun w q => More.mono (fun w m => (m).appR) q))
      replace h48 := ItRd.mono (Ψ := More w0 Φ (B101 ++ ((ob57, blk ((u8s x54) ++ r59) 5) :: (B69 ++ (B56 ++ (B32 ++ [])))))) (fun w q => More.mono (fun w m => (m).appR) q) _ _ h48
      replace v41 := v41.mono (Ψ := More w0 Φ (B101 ++ ((ob57, blk ((u8s x54) ++ r59) 5) :: (B69 ++ (B56 ++ (B32 ++ [])))))) (fun w q => More.mono (fun w m => (m).appR) q)
      replace v44 := v44.mono (Ψ := More w0 Φ (B101 ++ ((ob57, blk ((u8s x54) ++ r59) 5) :: (B69 ++ (B56 ++ (B32 ++ [])))))) (fun w q => More.mono (fun w m => (m).appR) q)
      replace h46 := h46.mono (ItRd.mono (Ψ := More w0 Φ (B101 ++ ((ob57, blk ((u8s x54) ++ r59) 5) :: (B69 ++ (B56 ++ (B32 ++ [])))))) (fun w q => More.mono (fun w m => (m).appR) q))
      replace v97 := v97.mono (Ψ := More w0 Φ (B101 ++ ((ob57, blk ((u8s x54) ++ r59) 5) :: (B69 ++ (B56 ++ (B32 ++ [])))))) (fun w q => More.mono (fun w m => (m).appR) q)
      replace h85 := ItRd.mono (Ψ := More w0 Φ (B101 ++ ((ob57, blk ((u8s x54) ++ r59) 5) :: (B69 ++ (B56 ++ (B32 ++ [])))))) (fun w q => More.mono (fun w m => (m).appR) q) _ _ h85
      replace v78 := v78.mono (Ψ := More w0 Φ (B101 ++ ((ob57, blk ((u8s x54) ++ r59) 5) :: (B69 ++ (B56 ++ (B32 ++ [])))))) (fun w q => More.mono (fun w m => (m).appR) q)
      replace v81 := v81.mono (Ψ := More w0 Φ (B101 ++ ((ob57, blk ((u8s x54) ++ r59) 5) :: (B69 ++ (B56 ++ (B32 ++ [])))))) (fun w q => More.mono (fun w m => (m).appR) q)
      replace h83 := h83.mono (ItRd.mono (Ψ := More w0 Φ (B101 ++ ((ob57, blk ((u8s x54) ++ r59) 5) :: (B69 ++ (B56 ++ (B32 ++ [])))))) (fun w q => More.mono (fun w m => (m).appR) q))
      replace h103 := ItRd.mono (Ψ := (More w0 Φ (B101 ++ ((ob57, blk ((u8s x54) ++ r59) 5) :: (B69 ++ (B56 ++ (B32 ++ []))))))) (fun w q => More.flat q) _ _ h103
      have h118 := h103
      obtain ⟨A109, c110, A112, c113, cs115, e117, v111, v114, h116⟩ := ItRd.opn h103
      subst e117
      have m119 := v111.mx
      have m120 := v114.mx
      have m121 := v111.mx
      have m122 := v114.mx
      refine OW.rv (RV.move rfl) rfl ?_
      refine OW.rv (RV.extract rfl rfl) rfl ?_
      refine OW.slot (.agg [.bool (x99.list), .slice A109 x99.data.length c110, .slice A112 x99.items.length c113].toArray) (rfl) ?_
      refine OW.rv (RV.extract rfl rfl) rfl ?_
      refine OW.slot (.int .i64 ((x100 : Nat) : Int)) (rfl) ?_
      refine OW.alloc (l := [.bool false, .slice none 0 0, .slice none 0 0]) rfl rfl rfl (fun b123 => ?_)
      refine OW.sv (SV.storeW rfl rfl rfl (by intro u hu; simp at hu; rcases hu with rfl | rfl | rfl <;> rfl) rfl rfl rfl) ?_
      refine OW.rv (RV.assign rfl) rfl ?_
      refine OW.nil ?_
      refine QW.then_n ?_
      refine CW.seq ?_
      refine CW.seq ?_
      obtain ⟨q124, hq125, hf⟩ := some_bind hf
      refine CW.cutJ (fun L' M' => ∃ p126 : Bool, q124 = p126 ∧ L' = [(1, .slice A1_ a1.length c1_), (2, .int .i64 a2), (3, ptr (some b14) 0), (9, .slice ((ob57).map fun k => ⟨k, 0, none⟩) x54.length c58), (76, .bool (p126))] ∧ M' = ((some b14, blk [.bool (a0.list), .slice A1 a0.data.length c2, .slice A4 a0.items.length c5] 29) :: ((B101 ++ ((ob57, blk ((u8s x54) ++ r59) 5) :: (B69 ++ (B56 ++ (B32 ++ []))))) ++ N))) ?_ ?_
      · rintro L128 M129 ⟨p126, e127, e130, e131⟩
        rw [e130, e131]
        clear e130 e131 L128 M129
        clear hq125
        rw [e127] at hf
        clear e127
        try dsimp only at hf
        refine QW.then_n ?_
        by_cases h132 : p126 = true
        · replace hf := if_t hf h132
          refine CW.is_t rfl (h132) ?_
          refine CW.seq ?_
          refine CW.region ?_
          refine OW.rv (RV.assign rfl) rfl ?_
          refine OW.nil ?_
          refine QW.then_n ?_
          refine CW.ret ?_
          refine QW.then_r ?_
          have e0 := Option.some.inj hf
          subst e0
          refine QW.retG (rs := [.tmp 6]) ([.bool false]) ((some b14, blk [.bool (a0.list), .slice A1 a0.data.length c2, .slice A4 a0.items.length c5] 29) :: (B101 ++ ((ob57, blk ((u8s x54) ++ r59) 5) :: (B69 ++ (B56 ++ (B32 ++ [])))))) rfl ?_ rfl ?_ ?_ _ (.inl rfl)
          · exact ⟨rfl, trivial⟩
          · exact rfl
          · exact (fun w m => m)
        · replace hf := if_f hf h132
          refine CW.is_f rfl (Bool.eq_false_iff.2 h132) ?_
          refine CW.skip ?_
          refine QW.then_n ?_
          refine CW.seq ?_
          refine CW.region ?_
          refine OW.rv (RV.move rfl) rfl ?_
          obtain ⟨x134, hx133, hf⟩ := some_bind hf
          refine OW.callG Try.call15 rfl (waybilllaw07_roomy_does w0 (More w0 Φ (B101 ++ ((ob57, blk ((u8s x54) ++ r59) 5) :: (B69 ++ (B56 ++ (B32 ++ [])))))) ((some b14, blk [.bool (a0.list), .slice A1 a0.data.length c2, .slice A4 a0.items.length c5] 29) :: ((B101 ++ ((ob57, blk ((u8s x54) ++ r59) 5) :: (B69 ++ (B56 ++ (B32 ++ []))))) ++ N)) (fun w m => More.of hΦ 1 m rfl) ((ob57).map fun k => ⟨k, 0, none⟩) c58 x54 x134 v97 hx133) rfl rfl ?_
          rintro L139 M140 ⟨B135, A136, v137, e141, e142⟩
          rw [e141, e142]
          clear e141 e142 L139 M140
          refine OW.mem (M' := ((some b14, blk [.bool (a0.list), .slice A1 a0.data.length c2, .slice A4 a0.items.length c5] 29) :: ((B135 ++ (B101 ++ ((ob57, blk ((u8s x54) ++ r59) 5) :: (B69 ++ (B56 ++ (B32 ++ [])))))) ++ N))) (fun w m => by have h := Mem.sinkAt (A := B135) m 0 1 rfl rfl; exact h) ?_
          replace va1 := va1.mono (Ψ := More w0 Φ (B135 ++ (B101 ++ ((ob57, blk ((u8s x54) ++ r59) 5) :: (B69 ++ (B56 ++ (B32 ++ []))))))) (fun w q => More.mono (fun w m => (m).appR) q)
          replace v97 := v97.mono (Ψ := More w0 Φ (B135 ++ (B101 ++ ((ob57, blk ((u8s x54) ++ r59) 5) :: (B69 ++ (B56 ++ (B32 ++ []))))))) (fun w q => More.mono (fun w m => (m).appR) q)
          replace h10 := ItRd.mono (Ψ := More w0 Φ (B135 ++ (B101 ++ ((ob57, blk ((u8s x54) ++ r59) 5) :: (B69 ++ (B56 ++ (B32 ++ []))))))) (fun w q => More.mono (fun w m => (m).appR) q) _ _ h10
          replace v3 := v3.mono (Ψ := More w0 Φ (B135 ++ (B101 ++ ((ob57, blk ((u8s x54) ++ r59) 5) :: (B69 ++ (B56 ++ (B32 ++ []))))))) (fun w q => More.mono (fun w m => (m).appR) q)
          replace v6 := v6.mono (Ψ := More w0 Φ (B135 ++ (B101 ++ ((ob57, blk ((u8s x54) ++ r59) 5) :: (B69 ++ (B56 ++ (B32 ++ []))))))) (fun w q => More.mono (fun w m => (m).appR) q)
          replace h8 := h8.mono (ItRd.mono (Ψ := More w0 Φ (B135 ++ (B101 ++ ((ob57, blk ((u8s x54) ++ r59) 5) :: (B69 ++ (B56 ++ (B32 ++ []))))))) (fun w q => More.mono (fun w m => (m).appR) q))
          replace v137 := v137.mono (Ψ := (More w0 Φ (B135 ++ (B101 ++ ((ob57, blk ((u8s x54) ++ r59) 5) :: (B69 ++ (B56 ++ (B32 ++ [])))))))) (fun w q => More.flat q)
          have v138 := v137.view
          have m143 := v138.mx
          refine OW.rv (RV.move rfl) rfl ?_
          refine OW.rv (RV.len rfl rfl) rfl ?_
          refine OW.rv (RV.move rfl) rfl ?_
          refine OW.rv (RV.len rfl rfl) rfl ?_
          obtain ⟨g145, hf⟩ := some_if hf
          have hle := v138.le
          refine OW.rv (RV.cut_hi3 (x54.length) (x54.length) rfl rfl rfl (by omega) (by omega) rfl rfl (Nat.le_refl _) (by omega)) rfl ?_
          refine OW.slot (.slice A136 (x134.take x54.length).length (x134.take x54.length).length) (by rw [show ((x134.take x54.length)).length = x54.length from List.length_take.trans (Nat.min_eq_left (by omega))]) ?_
          have v144 : View (More w0 Φ (B135 ++ (B101 ++ ((ob57, blk ((u8s x54) ++ r59) 5) :: (B69 ++ (B56 ++ (B32 ++ []))))))) A136 (x134.take x54.length).length (x134.take x54.length).length 1 (u8s (x134.take x54.length)) := (v138.hi8 (by omega)).capn (Nat.le_refl _)
          have m146 := v144.mx
          refine OW.rv (RV.move rfl) rfl ?_
          obtain ⟨g147, hf⟩ := some_if hf
          refine OW.appendV (s := 1) (Ψ := (More w0 Φ (B135 ++ (B101 ++ ((ob57, blk ((u8s x54) ++ r59) 5) :: (B69 ++ (B56 ++ (B32 ++ [])))))))) (fun w m => More.of hΦ 1 m rfl) rfl rfl rfl rfl rfl rfl v144 va1 (u8s_one _) (by decide) (by decide) (by first | omega | (simp only [i5]; omega)) rfl rfl (((x134.take x54.length) ++ a1).length) (u8s ((x134.take x54.length) ++ a1)) (List.length_append ..).symm (u8s_app _ _) (fun A148 c149 en150 v151 => ?_)
          refine OW.mem (M' := (some b14, blk [.bool (a0.list), .slice A1 a0.data.length c2, .slice A4 a0.items.length c5] 29) :: ((en150 :: (B135 ++ (B101 ++ ((ob57, blk ((u8s x54) ++ r59) 5) :: (B69 ++ (B56 ++ (B32 ++ []))))))) ++ N)) (fun w m => m.pick [1, 0] 2 rfl rfl) ?_
          replace va1 := va1.mono (Ψ := More w0 Φ (en150 :: (B135 ++ (B101 ++ ((ob57, blk ((u8s x54) ++ r59) 5) :: (B69 ++ (B56 ++ (B32 ++ [])))))))) (fun w q => More.mono (fun w m => (m).tail) q)
          replace v97 := v97.mono (Ψ := More w0 Φ (en150 :: (B135 ++ (B101 ++ ((ob57, blk ((u8s x54) ++ r59) 5) :: (B69 ++ (B56 ++ (B32 ++ [])))))))) (fun w q => More.mono (fun w m => (m).tail) q)
          replace v138 := v138.mono (Ψ := More w0 Φ (en150 :: (B135 ++ (B101 ++ ((ob57, blk ((u8s x54) ++ r59) 5) :: (B69 ++ (B56 ++ (B32 ++ [])))))))) (fun w q => More.mono (fun w m => (m).tail) q)
          replace v137 := v137.mono (Ψ := More w0 Φ (en150 :: (B135 ++ (B101 ++ ((ob57, blk ((u8s x54) ++ r59) 5) :: (B69 ++ (B56 ++ (B32 ++ [])))))))) (fun w q => More.mono (fun w m => (m).tail) q)
          replace v144 := v144.mono (Ψ := More w0 Φ (en150 :: (B135 ++ (B101 ++ ((ob57, blk ((u8s x54) ++ r59) 5) :: (B69 ++ (B56 ++ (B32 ++ [])))))))) (fun w q => More.mono (fun w m => (m).tail) q)
          replace h10 := ItRd.mono (Ψ := More w0 Φ (en150 :: (B135 ++ (B101 ++ ((ob57, blk ((u8s x54) ++ r59) 5) :: (B69 ++ (B56 ++ (B32 ++ [])))))))) (fun w q => More.mono (fun w m => (m).tail) q) _ _ h10
          replace v3 := v3.mono (Ψ := More w0 Φ (en150 :: (B135 ++ (B101 ++ ((ob57, blk ((u8s x54) ++ r59) 5) :: (B69 ++ (B56 ++ (B32 ++ [])))))))) (fun w q => More.mono (fun w m => (m).tail) q)
          replace v6 := v6.mono (Ψ := More w0 Φ (en150 :: (B135 ++ (B101 ++ ((ob57, blk ((u8s x54) ++ r59) 5) :: (B69 ++ (B56 ++ (B32 ++ [])))))))) (fun w q => More.mono (fun w m => (m).tail) q)
          replace h8 := h8.mono (ItRd.mono (Ψ := More w0 Φ (en150 :: (B135 ++ (B101 ++ ((ob57, blk ((u8s x54) ++ r59) 5) :: (B69 ++ (B56 ++ (B32 ++ [])))))))) (fun w q => More.mono (fun w m => (m).tail) q))
          replace v151 : View (More w0 Φ (en150 :: (B135 ++ (B101 ++ ((ob57, blk ((u8s x54) ++ r59) 5) :: (B69 ++ (B56 ++ (B32 ++ [])))))))) A148 ((x134.take x54.length) ++ a1).length c149 1 (u8s ((x134.take x54.length) ++ a1)) := v151.mono (fun w q => ⟨More.mono (fun w m => m.tail) q, q.2.sublist (List.singleton_sublist.2 (List.mem_cons_self ..))⟩)
          have m152 := v151.mx
          refine OW.rv (RV.assign rfl) rfl ?_
          refine OW.nil ?_
          refine QW.then_n ?_
          refine CW.seq ?_
          refine CW.region ?_
          refine OW.rv (RV.move rfl) rfl ?_
          obtain ⟨⟨x154, x155, x156, x157⟩, hx153, hf⟩ := some_bind hf
          try dsimp only at hf
          refine OW.callG Try.call45 rfl (rlp_Split_does w0 (More w0 Φ (en150 :: (B135 ++ (B101 ++ ((ob57, blk ((u8s x54) ++ r59) 5) :: (B69 ++ (B56 ++ (B32 ++ [])))))))) ((some b14, blk [.bool (a0.list), .slice A1 a0.data.length c2, .slice A4 a0.items.length c5] 29) :: ((en150 :: (B135 ++ (B101 ++ ((ob57, blk ((u8s x54) ++ r59) 5) :: (B69 ++ (B56 ++ (B32 ++ []))))))) ++ N)) (fun w m => More.of hΦ 1 m rfl) A148 c149 ((x134.take x54.length) ++ a1) x154 x155 x156 x157 v151 hx153) rfl rfl ?_
          rintro L168 M169 ⟨B158, ob159, c160, r161, ob163, c164, r165, o162, o166, b167, e170, e171⟩
          rw [e170, e171]
          clear e170 e171 L168 M169
          refine OW.mem (M' := ((ob159, blk ((u8s x155) ++ r161) 5) :: (ob163, blk ((u8s x156) ++ r165) 5) :: (some b14, blk [.bool (a0.list), .slice A1 a0.data.length c2, .slice A4 a0.items.length c5] 29) :: ((B158 ++ (en150 :: (B135 ++ (B101 ++ ((ob57, blk ((u8s x54) ++ r59) 5) :: (B69 ++ (B56 ++ (B32 ++ [])))))))) ++ N))) (fun w m => by have h := Mem.sinkAt (A := B158) m 2 1 rfl rfl; exact h) ?_
          replace va1 := va1.mono (Ψ := More w0 Φ (B158 ++ (en150 :: (B135 ++ (B101 ++ ((ob57, blk ((u8s x54) ++ r59) 5) :: (B69 ++ (B56 ++ (B32 ++ []))))))))) (fun w q => More.mono (fun w m => (m).appR) q)
          replace v97 := v97.mono (Ψ := More w0 Φ (B158 ++ (en150 :: (B135 ++ (B101 ++ ((ob57, blk ((u8s x54) ++ r59) 5) :: (B69 ++ (B56 ++ (B32 ++ []))))))))) (fun w q => More.mono (fun w m => (m).appR) q)
          replace v138 := v138.mono (Ψ := More w0 Φ (B158 ++ (en150 :: (B135 ++ (B101 ++ ((ob57, blk ((u8s x54) ++ r59) 5) :: (B69 ++ (B56 ++ (B32 ++ []))))))))) (fun w q => More.mono (fun w m => (m).appR) q)
          replace v137 := v137.mono (Ψ := More w0 Φ (B158 ++ (en150 :: (B135 ++ (B101 ++ ((ob57, blk ((u8s x54) ++ r59) 5) :: (B69 ++ (B56 ++ (B32 ++ []))))))))) (fun w q => More.mono (fun w m => (m).appR) q)
          replace v144 := v144.mono (Ψ := More w0 Φ (B158 ++ (en150 :: (B135 ++ (B101 ++ ((ob57, blk ((u8s x54) ++ r59) 5) :: (B69 ++ (B56 ++ (B32 ++ []))))))))) (fun w q => More.mono (fun w m => (m).appR) q)
          replace v151 := v151.mono (Ψ := More w0 Φ (B158 ++ (en150 :: (B135 ++ (B101 ++ ((ob57, blk ((u8s x54) ++ r59) 5) :: (B69 ++ (B56 ++ (B32 ++ []))))))))) (fun w q => More.mono (fun w m => (m).appR) q)
          replace h10 := ItRd.mono (Ψ := More w0 Φ (B158 ++ (en150 :: (B135 ++ (B101 ++ ((ob57, blk ((u8s x54) ++ r59) 5) :: (B69 ++ (B56 ++ (B32 ++ []))))))))) (fun w q => More.mono (fun w m => (m).appR) q) _ _ h10
          replace v3 := v3.mono (Ψ := More w0 Φ (B158 ++ (en150 :: (B135 ++ (B101 ++ ((ob57, blk ((u8s x54) ++ r59) 5) :: (B69 ++ (B56 ++ (B32 ++ []))))))))) (fun w q => More.mono (fun w m => (m).appR) q)
          replace v6 := v6.mono (Ψ := More w0 Φ (B158 ++ (en150 :: (B135 ++ (B101 ++ ((ob57, blk ((u8s x54) ++ r59) 5) :: (B69 ++ (B56 ++ (B32 ++ []))))))))) (fun w q => More.mono (fun w m => (m).appR) q)
          replace h8 := h8.mono (ItRd.mono (Ψ := More w0 Φ (B158 ++ (en150 :: (B135 ++ (B101 ++ ((ob57, blk ((u8s x54) ++ r59) 5) :: (B69 ++ (B56 ++ (B32 ++ []))))))))) (fun w q => More.mono (fun w m => (m).appR) q))
          have m172 := o162.mx
          have m173 := o166.mx
          refine OW.rv (RV.move rfl) rfl ?_
          refine OW.rv (RV.extract rfl rfl) rfl ?_
          refine OW.slot (.bool (x154)) (rfl) ?_
          refine OW.rv (RV.extract rfl rfl) rfl ?_
          refine OW.slot (sl ob159 0 x155.length c160) (rfl) ?_
          refine OW.rv (RV.extract rfl rfl) rfl ?_
          refine OW.slot (sl ob163 0 x156.length c164) (rfl) ?_
          refine OW.rv (RV.extract rfl rfl) rfl ?_
          refine OW.slot (.int .i64 ((x157 : Nat) : Int)) (rfl) ?_
          refine OW.rv (RV.assign rfl) rfl ?_
          refine OW.rv (RV.assign rfl) rfl ?_
          refine OW.rv (RV.assign rfl) rfl ?_
          refine OW.rv (RV.assign rfl) rfl ?_
          refine OW.nil ?_
          refine QW.then_n ?_
          refine CW.seq ?_
          refine CW.seq ?_
          obtain ⟨q174, hq175, hf⟩ := some_bind hf
          refine CW.cutJ (fun L' M' => ∃ p178 : Bool, ∃ B176 : List Ent, q174 = p178 ∧ (∀ w, Mem w0 w B176 → Mem w0 w (B158 ++ (en150 :: (B135 ++ (B101 ++ ((ob57, blk ((u8s x54) ++ r59) 5) :: (B69 ++ (B56 ++ (B32 ++ []))))))))) ∧ L' = [(1, .slice A1_ a1.length c1_), (2, .int .i64 a2), (9, .slice ((ob57).map fun k => ⟨k, 0, none⟩) x54.length c58), (15, .slice A148 ((x134.take x54.length) ++ a1).length c149), (106, .bool (p178))] ∧ M' = ((B176 ++ N))) ?_ ?_
          · rintro L180 M181 ⟨p178, B176, e179, hB177, e182, e183⟩
            rw [e182, e183]
            clear e182 e183 L180 M181
            clear hq175
            rw [e179] at hf
            clear e179
            try dsimp only at hf
            replace va1 := va1.mono (Ψ := More w0 Φ B176) (fun w q => More.mono (fun w m => hB177 w (m)) q)
            replace v97 := v97.mono (Ψ := More w0 Φ B176) (fun w q => More.mono (fun w m => hB177 w (m)) q)
            replace v151 := v151.mono (Ψ := More w0 Φ B176) (fun w q => More.mono (fun w m => hB177 w (m)) q)
            refine QW.then_n ?_
            by_cases h184 : p178 = true
            · replace hf := if_t hf h184
              refine CW.is_t rfl (h184) ?_
              refine CW.seq ?_
              refine CW.region ?_
              refine OW.rv (RV.assign rfl) rfl ?_
              refine OW.nil ?_
              refine QW.then_n ?_
              refine CW.ret ?_
              refine QW.then_r ?_
              have e0 := Option.some.inj hf
              subst e0
              refine QW.retG (rs := [.tmp 6]) ([.bool false]) (B176) rfl ?_ rfl ?_ ?_ _ (.inl rfl)
              · exact ⟨rfl, trivial⟩
              · exact rfl
              · exact (fun w m => m)
            · replace hf := if_f hf h184
              refine CW.is_f rfl (Bool.eq_false_iff.2 h184) ?_
              refine CW.skip ?_
              refine QW.then_n ?_
              refine CW.seq ?_
              refine CW.region ?_
              refine OW.rv (RV.move rfl) rfl ?_
              obtain ⟨⟨x186, x187⟩, hx185, hf⟩ := some_bind hf
              try dsimp only at hf
              refine OW.callG Try.call55 rfl (rlp_Decode_does w0 (More w0 Φ B176) ((B176 ++ N)) (fun w m => More.of hΦ 0 m rfl) A148 c149 ((x134.take x54.length) ++ a1) x186 x187 v151 hx185) rfl rfl ?_
              rintro L192 M193 ⟨B188, cs189, h190, b191, e194, e195⟩
              rw [e194, e195]
              clear e194 e195 L192 M193
              refine OW.mem (M' := (((B188 ++ B176) ++ N))) (fun w m => by have h := Mem.sinkAt (A := B188) m 0 0 rfl rfl; exact h) ?_
              replace va1 := va1.mono (Ψ := More w0 Φ (B188 ++ B176)) (fun w q => More.mono (fun w m => (m).appR) q)
              replace v97 := v97.mono (Ψ := More w0 Φ (B188 ++ B176)) (fun w q => More.mono (fun w m => (m).appR) q)
              replace v151 := v151.mono (Ψ := More w0 Φ (B188 ++ B176)) (fun w q => More.mono (fun w m => (m).appR) q)
              replace h190 := ItRd.mono (Ψ := (More w0 Φ (B188 ++ B176))) (fun w q => More.flat q) _ _ h190
              have h205 := h190
              obtain ⟨A196, c197, A199, c200, cs202, e204, v198, v201, h203⟩ := ItRd.opn h190
              subst e204
              have m206 := v198.mx
              have m207 := v201.mx
              have m208 := v198.mx
              have m209 := v201.mx
              refine OW.rv (RV.move rfl) rfl ?_
              refine OW.rv (RV.extract rfl rfl) rfl ?_
              refine OW.slot (.agg [.bool (x186.list), .slice A196 x186.data.length c197, .slice A199 x186.items.length c200].toArray) (rfl) ?_
              refine OW.rv (RV.extract rfl rfl) rfl ?_
              refine OW.slot (.int .i64 ((x187 : Nat) : Int)) (rfl) ?_
              refine OW.alloc (l := [.bool false, .slice none 0 0, .slice none 0 0]) rfl rfl rfl (fun b210 => ?_)
              refine OW.sv (SV.storeW rfl rfl rfl (by intro u hu; simp at hu; rcases hu with rfl | rfl | rfl <;> rfl) rfl rfl rfl) ?_
              refine OW.rv (RV.assign rfl) rfl ?_
              refine OW.nil ?_
              refine QW.then_n ?_
              refine CW.seq ?_
              refine CW.seq ?_
              obtain ⟨q211, hq212, hf⟩ := some_bind hf
              refine CW.cutJ (fun L' M' => ∃ p213 : Bool, q211 = p213 ∧ L' = [(2, .int .i64 a2), (9, .slice ((ob57).map fun k => ⟨k, 0, none⟩) x54.length c58), (127, .bool (p213))] ∧ M' = (((B188 ++ B176) ++ N))) ?_ ?_
              · rintro L215 M216 ⟨p213, e214, e217, e218⟩
                rw [e217, e218]
                clear e217 e218 L215 M216
                clear hq212
                rw [e214] at hf
                clear e214
                try dsimp only at hf
                refine QW.then_n ?_
                by_cases h219 : p213 = true
                · replace hf := if_t hf h219
                  refine CW.is_t rfl (h219) ?_
                  refine CW.seq ?_
                  refine CW.region ?_
                  refine OW.rv (RV.assign rfl) rfl ?_
                  refine OW.nil ?_
                  refine QW.then_n ?_
                  refine CW.ret ?_
                  refine QW.then_r ?_
                  have e0 := Option.some.inj hf
                  subst e0
                  refine QW.retG (rs := [.tmp 6]) ([.bool false]) ((B188 ++ B176)) rfl ?_ rfl ?_ ?_ _ (.inl rfl)
                  · exact ⟨rfl, trivial⟩
                  · exact rfl
                  · exact (fun w m => m)
                · replace hf := if_f hf h219
                  refine CW.is_f rfl (Bool.eq_false_iff.2 h219) ?_
                  refine CW.skip ?_
                  refine QW.then_n ?_
                  refine CW.seq ?_
                  refine CW.seq ?_
                  obtain ⟨q220, hq221, hf⟩ := some_bind hf
                  refine CW.cutJ (fun L' M' => ∃ p222 : Bool, q220 = p222 ∧ L' = [(2, .int .i64 a2), (9, .slice ((ob57).map fun k => ⟨k, 0, none⟩) x54.length c58), (135, .bool (p222))] ∧ M' = (((B188 ++ B176) ++ N))) ?_ ?_
                  · rintro L224 M225 ⟨p222, e223, e226, e227⟩
                    rw [e226, e227]
                    clear e226 e227 L224 M225
                    clear hq221
                    rw [e223] at hf
                    clear e223
                    try dsimp only at hf
                    refine QW.then_n ?_
                    by_cases h228 : p222 = true
                    · replace hf := if_t hf h228
                      refine CW.is_t rfl (h228) ?_
                      refine CW.seq ?_
                      refine CW.region ?_
                      refine OW.rv (RV.assign rfl) rfl ?_
                      refine OW.nil ?_
                      refine QW.then_n ?_
                      refine CW.ret ?_
                      refine QW.then_r ?_
                      have e0 := Option.some.inj hf
                      subst e0
                      refine QW.retG (rs := [.tmp 6]) ([.bool true]) ((B188 ++ B176)) rfl ?_ rfl ?_ ?_ _ (.inl rfl)
                      · exact ⟨rfl, trivial⟩
                      · exact rfl
                      · exact (fun w m => m)
                    · replace hf := if_f hf h228
                      refine CW.is_f rfl (Bool.eq_false_iff.2 h228) ?_
                      refine CW.skip ?_
                      refine QW.then_n ?_
                      refine CW.seq ?_
                      refine CW.region ?_
                      refine OW.rv (RV.move rfl) rfl ?_
                      refine OW.rv (RV.move rfl) rfl ?_
                      obtain ⟨g230, hf⟩ := some_if hf
                      obtain ⟨g231, hf⟩ := some_if hf
                      have hle := v97.le
                      have hlen_ : x54.length = x54.length := rfl
                      refine OW.rv (RV.cut_hi ((a2).toNat) rfl rfl (by omega) rfl rfl (by omega)) rfl ?_
                      refine OW.slot (.slice ((ob57).map fun k => ⟨k, 0, none⟩) (x54.take ((a2).toNat)).length c58) (by rw [show ((x54.take ((a2).toNat))).length = (a2).toNat from List.length_take.trans (Nat.min_eq_left (by omega))]) ?_
                      have v229 : View (More w0 Φ (B188 ++ B176)) ((ob57).map fun k => ⟨k, 0, none⟩) (x54.take ((a2).toNat)).length c58 1 (u8s (x54.take ((a2).toNat))) := v97.hi8 (by omega)
                      have m232 := v229.mx
                      obtain ⟨⟨x234, x235⟩, hx233, hf⟩ := some_bind hf
                      try dsimp only at hf
                      refine OW.callG Try.call55 rfl (rlp_Decode_does w0 (More w0 Φ (B188 ++ B176)) (((B188 ++ B176) ++ N)) (fun w m => More.of hΦ 0 m rfl) ((ob57).map fun k => ⟨k, 0, none⟩) c58 (x54.take ((a2).toNat)) x234 x235 v229 hx233) rfl rfl ?_
                      rintro L240 M241 ⟨B236, cs237, h238, b239, e242, e243⟩
                      rw [e242, e243]
                      clear e242 e243 L240 M241
                      refine OW.mem (M' := (((B236 ++ (B188 ++ B176)) ++ N))) (fun w m => by have h := Mem.sinkAt (A := B236) m 0 0 rfl rfl; exact h) ?_
                      replace v97 := v97.mono (Ψ := More w0 Φ (B236 ++ (B188 ++ B176))) (fun w q => More.mono (fun w m => (m).appR) q)
                      replace v229 := v229.mono (Ψ := More w0 Φ (B236 ++ (B188 ++ B176))) (fun w q => More.mono (fun w m => (m).appR) q)
                      replace h238 := ItRd.mono (Ψ := (More w0 Φ (B236 ++ (B188 ++ B176)))) (fun w q => More.flat q) _ _ h238
                      have h253 := h238
                      obtain ⟨A244, c245, A247, c248, cs250, e252, v246, v249, h251⟩ := ItRd.opn h238
                      subst e252
                      have m254 := v246.mx
                      have m255 := v249.mx
                      have m256 := v246.mx
                      have m257 := v249.mx
                      refine OW.rv (RV.move rfl) rfl ?_
                      refine OW.rv (RV.extract rfl rfl) rfl ?_
                      refine OW.slot (.agg [.bool (x234.list), .slice A244 x234.data.length c245, .slice A247 x234.items.length c248].toArray) (rfl) ?_
                      refine OW.rv (RV.extract rfl rfl) rfl ?_
                      refine OW.slot (.int .i64 ((x235 : Nat) : Int)) (rfl) ?_
                      refine OW.alloc (l := [.bool false, .slice none 0 0, .slice none 0 0]) rfl rfl rfl (fun b258 => ?_)
                      refine OW.sv (SV.storeW rfl rfl rfl (by intro u hu; simp at hu; rcases hu with rfl | rfl | rfl <;> rfl) rfl rfl rfl) ?_
                      refine OW.rv (RV.assign rfl) rfl ?_
                      refine OW.nil ?_
                      refine QW.then_n ?_
                      refine CW.seq ?_
                      obtain ⟨q259, hq260, hf⟩ := some_bind hf
                      refine CW.cutJ (fun L' M' => ∃ p261 : Bool, q259 = p261 ∧ L' = [(6, .bool (p261))] ∧ M' = (((B236 ++ (B188 ++ B176)) ++ N))) ?_ ?_
                      · rintro L263 M264 ⟨p261, e262, e265, e266⟩
                        rw [e265, e266]
                        clear e265 e266 L263 M264
                        clear hq260
                        rw [e262] at hf
                        clear e262
                        try dsimp only at hf
                        refine QW.then_n ?_
                        refine CW.ret ?_
                        have e0 := Option.some.inj hf
                        subst e0
                        refine QW.retG (rs := [.tmp 6]) ([.bool (p261)]) ((B236 ++ (B188 ++ B176))) rfl ?_ rfl ?_ ?_ _ (.inl rfl)
                        · exact ⟨rfl, trivial⟩
                        · exact rfl
                        · exact (fun w m => m)
                      · skip
                        refine CW.region ?_
                        refine OW.rv (RV.move rfl) rfl ?_
                        obtain ⟨x268, hx267, hq260⟩ := some_bind hq260
                        refine OW.callG Try.call31 rfl (waybilllaw07_num_does w0 (More w0 Φ (B236 ++ (B188 ++ B176))) ((some b258, blk [.bool (x234.list), .slice A244 x234.data.length c245, .slice A247 x234.items.length c248] 29) :: ((B236 ++ (B188 ++ B176)) ++ N)) (fun w m => More.of hΦ 1 m rfl) ((x235 : Nat) : Int) x268 (by omega) hx267) rfl rfl ?_
                        rintro _ G270 ⟨b269, rfl⟩
                        refine OW.mem (M' := ((some b258, blk [.bool (x234.list), .slice A244 x234.data.length c245, .slice A247 x234.items.length c248] 29) :: ((B236 ++ (B188 ++ B176)) ++ N))) (fun w m => m.appR) ?_
                        refine OW.rv (RV.eql rfl rfl) rfl ?_
                        refine OW.rv (RV.move rfl) rfl ?_
                        by_cases h272 : x268 = (70 : Int)
                        · replace hq260 := if_t hq260 h272
                          refine OW.slot (.bool true) (congrArg Value.bool (decide_eq_true h272)) ?_
                          refine OW.want rfl ?_
                          refine OW.rv (RV.loadW rfl (List.Mem.head _) rfl rfl rfl rfl rfl) rfl ?_
                          refine OW.want rfl ?_
                          refine OW.rv (RV.buildSt (l := [.bool false, .slice none 0 0, .slice none 0 0]) (cs := [.bool false, .slice none 0 0, .slice none 0 0]) [] rfl rfl rfl rfl rfl rfl rfl) rfl ?_
                          refine OW.want rfl ?_
                          have v273 : View (More w0 Φ (B236 ++ (B188 ++ B176))) none ([] : List (BitVec 8)).length 0 1 (u8s []) := View.nil
                          have v274 : View (More w0 Φ (B236 ++ (B188 ++ B176))) none ([] : List (It)).length 0 3 [] := View.nil
                          obtain ⟨x276, hx275, hq260⟩ := some_bind hq260
                          refine OW.callG Try.call17 rfl (waybillref07_Same_does w0 (More w0 Φ (B236 ++ (B188 ++ B176))) ((some b258, blk [.bool (x234.list), .slice A244 x234.data.length c245, .slice A247 x234.items.length c248] 29) :: ((B236 ++ (B188 ++ B176)) ++ N)) (fun w m => More.of hΦ 1 m rfl) [.bool (x234.list), .slice A244 x234.data.length c245, .slice A247 x234.items.length c248] x234 [.bool false, .slice none 0 0, .slice none 0 0] (It.mk false ([] : List (BitVec 8)) ([] : List (It))) x276 h253 (ItRd.mk v273 v274 (Reps.nil)) hx275) rfl rfl ?_
                          rintro _ G277 rfl
                          refine OW.mem (M' := ((some b258, blk [.bool (x234.list), .slice A244 x234.data.length c245, .slice A247 x234.items.length c248] 29) :: ((B236 ++ (B188 ++ B176)) ++ N))) (fun w m => m.appR) ?_
                          refine OW.rv (RV.pick_t rfl rfl rfl) rfl ?_
                          refine OW.rv (RV.assign rfl) rfl ?_
                          refine OW.nil ?_
                          exact QW.join ⟨(x276), (Option.some.inj hq260).symm, rfl, rfl⟩ ⟨rfl, trivial⟩ (fun w m => m.pick [] 1 rfl rfl)
                        · replace hq260 := if_f hq260 h272
                          refine OW.slot (.bool false) (congrArg Value.bool (decide_eq_false h272)) ?_
                          refine OW.skip rfl rfl rfl ?_
                          refine OW.skip rfl rfl rfl ?_
                          refine OW.skip rfl rfl rfl ?_
                          refine OW.rv (RV.pick_f rfl rfl rfl) rfl ?_
                          refine OW.rv (RV.assign rfl) rfl ?_
                          refine OW.nil ?_
                          exact QW.join ⟨false, (Option.some.inj hq260).symm, rfl, rfl⟩ ⟨rfl, trivial⟩ (fun w m => m.pick [] 1 rfl rfl)
                  · skip
                    refine CW.region ?_
                    refine OW.rv (RV.move rfl) rfl ?_
                    refine OW.rv (RV.lss rfl rfl) rfl ?_
                    refine OW.rv (RV.move rfl) rfl ?_
                    by_cases h279 : a2 < (0 : Int)
                    · replace hq221 := if_t hq221 h279
                      refine OW.slot (.bool true) (congrArg Value.bool (decide_eq_true h279)) ?_
                      refine OW.skip rfl rfl rfl ?_
                      refine OW.skip rfl rfl rfl ?_
                      refine OW.skip rfl rfl rfl ?_
                      refine OW.skip rfl rfl rfl ?_
                      refine OW.rv (RV.pick_t rfl rfl rfl) rfl ?_
                      refine OW.nil ?_
                      exact QW.join ⟨true, (Option.some.inj hq221).symm, rfl, rfl⟩ ⟨rfl, rfl, rfl, trivial⟩ (fun w m => m.pick [] 0 rfl rfl)
                    · replace hq221 := if_f hq221 h279
                      refine OW.slot (.bool false) (congrArg Value.bool (decide_eq_false h279)) ?_
                      refine OW.want rfl ?_
                      refine OW.rv (RV.move rfl) rfl ?_
                      refine OW.want rfl ?_
                      refine OW.rv (RV.move rfl) rfl ?_
                      refine OW.want rfl ?_
                      refine OW.rv (RV.len rfl rfl) rfl ?_
                      refine OW.want rfl ?_
                      refine OW.rv (RV.geq rfl rfl) rfl ?_
                      refine OW.rv (RV.pick_f rfl rfl rfl) rfl ?_
                      refine OW.nil ?_
                      exact QW.join ⟨(decide (((x54.length : Nat) : Int) ≤ a2)), (Option.some.inj hq221).symm, rfl, rfl⟩ ⟨rfl, rfl, rfl, trivial⟩ (fun w m => m.pick [] 0 rfl rfl)
              · skip
                refine CW.region ?_
                refine OW.rv (RV.move rfl) rfl ?_
                refine OW.rv (RV.eql rfl rfl) rfl ?_
                refine OW.slot (.bool (decide (x187 = 0))) (congrArg Value.bool (decide_eq_decide.2 (by omega))) ?_
                refine OW.rv (RV.move rfl) rfl ?_
                refine OW.rv (RV.len rfl rfl) rfl ?_
                refine OW.rv (RV.eql rfl rfl) rfl ?_
                refine OW.slot (.bool (decide (a1.length = 0))) (congrArg Value.bool (decide_eq_decide.2 (by omega))) ?_
                refine OW.rv (RV.neqB rfl rfl rfl) rfl ?_
                refine OW.slot (.bool (!decide ((decide (x187 = 0)) = (decide (a1.length = 0))))) (by first | rfl | (congr 1) | simp) ?_
                refine OW.rv (RV.move rfl) rfl ?_
                by_cases h280 : (decide (x187 = 0)) = (decide (a1.length = 0))
                · replace hq212 := if_t hq212 h280
                  refine OW.slot (.bool false) (congrArg Value.bool (congrArg (fun b => !b) (decide_eq_true h280))) ?_
                  refine OW.want rfl ?_
                  refine OW.rv (RV.move rfl) rfl ?_
                  refine OW.want rfl ?_
                  refine OW.rv (RV.len rfl rfl) rfl ?_
                  refine OW.want rfl ?_
                  refine OW.rv (RV.gtr rfl rfl) rfl ?_
                  refine OW.slot (.bool (decide (0 < a1.length))) (congrArg Value.bool (decide_eq_decide.2 (by omega))) ?_
                  refine OW.want rfl ?_
                  refine OW.rv (RV.move rfl) rfl ?_
                  by_cases h281 : 0 < a1.length
                  · replace hq212 := if_t hq212 h281
                    refine OW.slot (.bool true) (congrArg Value.bool (decide_eq_true h281)) ?_
                    refine OW.want rfl ?_
                    refine OW.rv (RV.move rfl) rfl ?_
                    refine OW.want rfl ?_
                    obtain ⟨x283, hx282, hq212⟩ := some_bind hq212
                    refine OW.callG Try.call31 rfl (waybilllaw07_num_does w0 (More w0 Φ (B188 ++ B176)) ((some b210, blk [.bool (x186.list), .slice A196 x186.data.length c197, .slice A199 x186.items.length c200] 29) :: ((B188 ++ B176) ++ N)) (fun w m => More.of hΦ 1 m rfl) ((x187 : Nat) : Int) x283 (by omega) hx282) rfl rfl ?_
                    rintro _ G285 ⟨b284, rfl⟩
                    refine OW.mem (M' := ((some b210, blk [.bool (x186.list), .slice A196 x186.data.length c197, .slice A199 x186.items.length c200] 29) :: ((B188 ++ B176) ++ N))) (fun w m => m.appR) ?_
                    refine OW.want rfl ?_
                    refine OW.rv (RV.neq rfl rfl) rfl ?_
                    refine OW.want rfl ?_
                    refine OW.rv (RV.pick_t rfl rfl rfl) rfl ?_
                    refine OW.rv (RV.pick_f rfl rfl rfl) rfl ?_
                    refine OW.nil ?_
                    exact QW.join ⟨(!decide (x283 = (73 : Int))), (Option.some.inj hq212).symm, rfl, rfl⟩ ⟨rfl, rfl, rfl, trivial⟩ (fun w m => m.pick [] 1 rfl rfl)
                  · replace hq212 := if_f hq212 h281
                    refine OW.slot (.bool false) (congrArg Value.bool (decide_eq_false h281)) ?_
                    refine OW.skip rfl rfl rfl ?_
                    refine OW.skip rfl rfl rfl ?_
                    refine OW.skip rfl rfl rfl ?_
                    refine OW.want rfl ?_
                    refine OW.rv (RV.pick_f rfl rfl rfl) rfl ?_
                    refine OW.rv (RV.pick_f rfl rfl rfl) rfl ?_
                    refine OW.nil ?_
                    exact QW.join ⟨false, (Option.some.inj hq212).symm, rfl, rfl⟩ ⟨rfl, rfl, rfl, trivial⟩ (fun w m => m.pick [] 1 rfl rfl)
                · replace hq212 := if_f hq212 h280
                  refine OW.slot (.bool true) (congrArg Value.bool (congrArg (fun b => !b) (decide_eq_false h280))) ?_
                  refine OW.skip rfl rfl rfl ?_
                  refine OW.skip rfl rfl rfl ?_
                  refine OW.skip rfl rfl rfl ?_
                  refine OW.skip rfl rfl rfl ?_
                  refine OW.skip rfl rfl rfl ?_
                  refine OW.skip rfl rfl rfl ?_
                  refine OW.skip rfl rfl rfl ?_
                  refine OW.skip rfl rfl rfl ?_
                  refine OW.rv (RV.pick_t rfl rfl rfl) rfl ?_
                  refine OW.nil ?_
                  exact QW.join ⟨true, (Option.some.inj hq212).symm, rfl, rfl⟩ ⟨rfl, rfl, rfl, trivial⟩ (fun w m => m.pick [] 1 rfl rfl)
          · skip
            refine CW.region ?_
            refine OW.rv (RV.move rfl) rfl ?_
            refine OW.rv (RV.neq rfl rfl) rfl ?_
            refine OW.slot (.bool (!decide (x157 = 0))) (congrArg (fun b => Value.bool (!b)) (decide_eq_decide.2 (by omega))) ?_
            refine OW.rv (RV.move rfl) rfl ?_
            by_cases h287 : x157 = 0
            · replace hq175 := if_t hq175 h287
              refine OW.slot (.bool false) (congrArg Value.bool (congrArg (fun b => !b) (decide_eq_true h287))) ?_
              refine OW.want rfl ?_
              refine OW.rv (RV.move rfl) rfl ?_
              refine OW.want rfl ?_
              refine OW.rv (RV.field rfl rfl rfl rfl) rfl ?_
              refine OW.want rfl ?_
              refine OW.rv (RV.load rfl (List.Mem.tail _ (List.Mem.tail _ (List.Mem.head _))) rfl rfl rfl rfl) rfl ?_
              refine OW.want rfl ?_
              refine OW.rv (RV.neqB rfl rfl rfl) rfl ?_
              refine OW.slot (.bool (!decide ((x154) = (a0.list)))) (by first | rfl | (congr 1) | simp) ?_
              refine OW.rv (RV.pick_f rfl rfl rfl) rfl ?_
              refine OW.rv (RV.move rfl) rfl ?_
              by_cases h288 : (x154) = (a0.list)
              · replace hq175 := if_t hq175 h288
                refine OW.slot (.bool false) (congrArg Value.bool (congrArg (fun b => !b) (decide_eq_true h288))) ?_
                refine OW.want rfl ?_
                refine OW.rv (RV.move rfl) rfl ?_
                refine OW.want rfl ?_
                refine OW.rv (RV.move rfl) rfl ?_
                refine OW.want rfl ?_
                refine OW.mem (M' := (ob159, blk ((u8s x155) ++ r161) 5) :: (some b14, blk [.bool (a0.list), .slice A1 a0.data.length c2, .slice A4 a0.items.length c5] 29) :: (((ob163, blk ((u8s x156) ++ r165) 5) :: (B158 ++ (en150 :: (B135 ++ (B101 ++ ((ob57, blk ((u8s x54) ++ r59) 5) :: (B69 ++ (B56 ++ (B32 ++ []))))))))) ++ N)) (fun w m => m.pick [0, 2, 1] 3 rfl rfl) ?_
                replace va1 := va1.mono (Ψ := More w0 Φ ((ob163, blk ((u8s x156) ++ r165) 5) :: (B158 ++ (en150 :: (B135 ++ (B101 ++ ((ob57, blk ((u8s x54) ++ r59) 5) :: (B69 ++ (B56 ++ (B32 ++ [])))))))))) (fun w q => More.mono (fun w m => (m).tail) q)
                replace v97 := v97.mono (Ψ := More w0 Φ ((ob163, blk ((u8s x156) ++ r165) 5) :: (B158 ++ (en150 :: (B135 ++ (B101 ++ ((ob57, blk ((u8s x54) ++ r59) 5) :: (B69 ++ (B56 ++ (B32 ++ [])))))))))) (fun w q => More.mono (fun w m => (m).tail) q)
                replace v138 := v138.mono (Ψ := More w0 Φ ((ob163, blk ((u8s x156) ++ r165) 5) :: (B158 ++ (en150 :: (B135 ++ (B101 ++ ((ob57, blk ((u8s x54) ++ r59) 5) :: (B69 ++ (B56 ++ (B32 ++ [])))))))))) (fun w q => More.mono (fun w m => (m).tail) q)
                replace v137 := v137.mono (Ψ := More w0 Φ ((ob163, blk ((u8s x156) ++ r165) 5) :: (B158 ++ (en150 :: (B135 ++ (B101 ++ ((ob57, blk ((u8s x54) ++ r59) 5) :: (B69 ++ (B56 ++ (B32 ++ [])))))))))) (fun w q => More.mono (fun w m => (m).tail) q)
                replace v144 := v144.mono (Ψ := More w0 Φ ((ob163, blk ((u8s x156) ++ r165) 5) :: (B158 ++ (en150 :: (B135 ++ (B101 ++ ((ob57, blk ((u8s x54) ++ r59) 5) :: (B69 ++ (B56 ++ (B32 ++ [])))))))))) (fun w q => More.mono (fun w m => (m).tail) q)
                replace v151 := v151.mono (Ψ := More w0 Φ ((ob163, blk ((u8s x156) ++ r165) 5) :: (B158 ++ (en150 :: (B135 ++ (B101 ++ ((ob57, blk ((u8s x54) ++ r59) 5) :: (B69 ++ (B56 ++ (B32 ++ [])))))))))) (fun w q => More.mono (fun w m => (m).tail) q)
                replace h10 := ItRd.mono (Ψ := More w0 Φ ((ob163, blk ((u8s x156) ++ r165) 5) :: (B158 ++ (en150 :: (B135 ++ (B101 ++ ((ob57, blk ((u8s x54) ++ r59) 5) :: (B69 ++ (B56 ++ (B32 ++ [])))))))))) (fun w q => More.mono (fun w m => (m).tail) q) _ _ h10
                replace v3 := v3.mono (Ψ := More w0 Φ ((ob163, blk ((u8s x156) ++ r165) 5) :: (B158 ++ (en150 :: (B135 ++ (B101 ++ ((ob57, blk ((u8s x54) ++ r59) 5) :: (B69 ++ (B56 ++ (B32 ++ [])))))))))) (fun w q => More.mono (fun w m => (m).tail) q)
                replace v6 := v6.mono (Ψ := More w0 Φ ((ob163, blk ((u8s x156) ++ r165) 5) :: (B158 ++ (en150 :: (B135 ++ (B101 ++ ((ob57, blk ((u8s x54) ++ r59) 5) :: (B69 ++ (B56 ++ (B32 ++ [])))))))))) (fun w q => More.mono (fun w m => (m).tail) q)
                replace h8 := h8.mono (ItRd.mono (Ψ := More w0 Φ ((ob163, blk ((u8s x156) ++ r165) 5) :: (B158 ++ (en150 :: (B135 ++ (B101 ++ ((ob57, blk ((u8s x54) ++ r59) 5) :: (B69 ++ (B56 ++ (B32 ++ [])))))))))) (fun w q => More.mono (fun w m => (m).tail) q))
                have v289 : View (More w0 Φ ((ob163, blk ((u8s x156) ++ r165) 5) :: (B158 ++ (en150 :: (B135 ++ (B101 ++ ((ob57, blk ((u8s x54) ++ r59) 5) :: (B69 ++ (B56 ++ (B32 ++ [])))))))))) ((ob163).map fun k => ⟨k, 0, none⟩) x156.length c164 1 (u8s x156) := o166.view (by decide) (fun w q => q.2.sublist (List.singleton_sublist.2 (List.mem_cons_self ..)))
                obtain ⟨x291, hx290, hq175⟩ := some_bind hq175
                refine OW.callG Try.call26 rfl (waybilllaw07_same_does w0 (More w0 Φ ((ob163, blk ((u8s x156) ++ r165) 5) :: (B158 ++ (en150 :: (B135 ++ (B101 ++ ((ob57, blk ((u8s x54) ++ r59) 5) :: (B69 ++ (B56 ++ (B32 ++ [])))))))))) ((ob159, blk ((u8s x155) ++ r161) 5) :: (some b14, blk [.bool (a0.list), .slice A1 a0.data.length c2, .slice A4 a0.items.length c5] 29) :: (((ob163, blk ((u8s x156) ++ r165) 5) :: (B158 ++ (en150 :: (B135 ++ (B101 ++ ((ob57, blk ((u8s x54) ++ r59) 5) :: (B69 ++ (B56 ++ (B32 ++ []))))))))) ++ N)) (fun w m => More.of hΦ 2 m rfl) ((ob163).map fun k => ⟨k, 0, none⟩) c164 x156 A1_ c1_ a1 x291 v289 va1 hx290) rfl rfl ?_
                rintro _ G292 rfl
                refine OW.mem (M' := ((ob159, blk ((u8s x155) ++ r161) 5) :: (some b14, blk [.bool (a0.list), .slice A1 a0.data.length c2, .slice A4 a0.items.length c5] 29) :: (((ob163, blk ((u8s x156) ++ r165) 5) :: (B158 ++ (en150 :: (B135 ++ (B101 ++ ((ob57, blk ((u8s x54) ++ r59) 5) :: (B69 ++ (B56 ++ (B32 ++ []))))))))) ++ N))) (fun w m => m.appR) ?_
                refine OW.want rfl ?_
                refine OW.rv (RV.not rfl) rfl ?_
                refine OW.rv (RV.pick_f rfl rfl rfl) rfl ?_
                refine OW.nil ?_
                exact QW.join ⟨(!x291), ((ob163, blk ((u8s x156) ++ r165) 5) :: (B158 ++ (en150 :: (B135 ++ (B101 ++ ((ob57, blk ((u8s x54) ++ r59) 5) :: (B69 ++ (B56 ++ (B32 ++ []))))))))), (Option.some.inj hq175).symm, (fun w m => (m).tail), rfl, rfl⟩ ⟨rfl, rfl, rfl, rfl, rfl, trivial⟩ (fun w m => m.pick [] 2 rfl rfl)
              · replace hq175 := if_f hq175 h288
                refine OW.slot (.bool true) (congrArg Value.bool (congrArg (fun b => !b) (decide_eq_false h288))) ?_
                refine OW.skip rfl rfl rfl ?_
                refine OW.skip rfl rfl rfl ?_
                refine OW.skip rfl rfl rfl ?_
                refine OW.skip rfl rfl rfl ?_
                refine OW.rv (RV.pick_t rfl rfl rfl) rfl ?_
                refine OW.nil ?_
                exact QW.join ⟨true, (B158 ++ (en150 :: (B135 ++ (B101 ++ ((ob57, blk ((u8s x54) ++ r59) 5) :: (B69 ++ (B56 ++ (B32 ++ [])))))))), (Option.some.inj hq175).symm, (fun w m => m), rfl, rfl⟩ ⟨rfl, rfl, rfl, rfl, rfl, trivial⟩ (fun w m => m.pick [] 3 rfl rfl)
            · replace hq175 := if_f hq175 h287
              refine OW.slot (.bool true) (congrArg Value.bool (congrArg (fun b => !b) (decide_eq_false h287))) ?_
              refine OW.skip rfl rfl rfl ?_
              refine OW.skip rfl rfl rfl ?_
              refine OW.skip rfl rfl rfl ?_
              refine OW.skip rfl rfl rfl ?_
              refine OW.rv (RV.pick_t rfl rfl rfl) rfl ?_
              refine OW.rv (RV.move rfl) rfl ?_
              refine OW.skip rfl rfl rfl ?_
              refine OW.skip rfl rfl rfl ?_
              refine OW.skip rfl rfl rfl ?_
              refine OW.skip rfl rfl rfl ?_
              refine OW.rv (RV.pick_t rfl rfl rfl) rfl ?_
              refine OW.nil ?_
              exact QW.join ⟨true, (B158 ++ (en150 :: (B135 ++ (B101 ++ ((ob57, blk ((u8s x54) ++ r59) 5) :: (B69 ++ (B56 ++ (B32 ++ [])))))))), (Option.some.inj hq175).symm, (fun w m => m), rfl, rfl⟩ ⟨rfl, rfl, rfl, rfl, rfl, trivial⟩ (fun w m => m.pick [] 3 rfl rfl)
      · skip
        refine CW.region ?_
        refine OW.rv (RV.move rfl) rfl ?_
        refine OW.rv (RV.neq rfl rfl) rfl ?_
        refine OW.slot (.bool (!decide (x55 = 0))) (congrArg (fun b => Value.bool (!b)) (decide_eq_decide.2 (by omega))) ?_
        refine OW.rv (RV.move rfl) rfl ?_
        by_cases h294 : x55 = 0
        · replace hq125 := if_t hq125 h294
          refine OW.slot (.bool false) (congrArg Value.bool (congrArg (fun b => !b) (decide_eq_true h294))) ?_
          refine OW.want rfl ?_
          refine OW.rv (RV.move rfl) rfl ?_
          refine OW.want rfl ?_
          refine OW.rv (RV.neq rfl rfl) rfl ?_
          refine OW.slot (.bool (!decide (x92 = 0))) (congrArg (fun b => Value.bool (!b)) (decide_eq_decide.2 (by omega))) ?_
          refine OW.rv (RV.pick_f rfl rfl rfl) rfl ?_
          refine OW.rv (RV.move rfl) rfl ?_
          by_cases h295 : x92 = 0
          · replace hq125 := if_t hq125 h295
            refine OW.slot (.bool false) (congrArg Value.bool (congrArg (fun b => !b) (decide_eq_true h295))) ?_
            refine OW.want rfl ?_
            refine OW.rv (RV.move rfl) rfl ?_
            refine OW.want rfl ?_
            refine OW.rv (RV.neq rfl rfl) rfl ?_
            refine OW.slot (.bool (!decide (x100 = 0))) (congrArg (fun b => Value.bool (!b)) (decide_eq_decide.2 (by omega))) ?_
            refine OW.rv (RV.pick_f rfl rfl rfl) rfl ?_
            refine OW.rv (RV.move rfl) rfl ?_
            by_cases h296 : x100 = 0
            · replace hq125 := if_t hq125 h296
              refine OW.slot (.bool false) (congrArg Value.bool (congrArg (fun b => !b) (decide_eq_true h296))) ?_
              refine OW.want rfl ?_
              refine OW.rv (RV.move rfl) rfl ?_
              refine OW.want rfl ?_
              refine OW.rv (RV.move rfl) rfl ?_
              refine OW.want rfl ?_
              refine OW.rv (RV.len rfl rfl) rfl ?_
              refine OW.want rfl ?_
              refine OW.rv (RV.neq rfl rfl) rfl ?_
              refine OW.slot (.bool (!decide (x91 = x54.length))) (congrArg (fun b => Value.bool (!b)) (decide_eq_decide.2 (by omega))) ?_
              refine OW.rv (RV.pick_f rfl rfl rfl) rfl ?_
              refine OW.rv (RV.move rfl) rfl ?_
              by_cases h297 : x91 = x54.length
              · replace hq125 := if_t hq125 h297
                refine OW.slot (.bool false) (congrArg Value.bool (congrArg (fun b => !b) (decide_eq_true h297))) ?_
                refine OW.want rfl ?_
                refine OW.rv (RV.loadW rfl (List.Mem.head _) rfl rfl rfl rfl rfl) rfl ?_
                refine OW.want rfl ?_
                refine OW.rv (RV.loadW rfl (List.Mem.tail _ (List.Mem.head _)) rfl rfl rfl rfl rfl) rfl ?_
                refine OW.want rfl ?_
                obtain ⟨x299, hx298, hq125⟩ := some_bind hq125
                refine OW.callG Try.call17 rfl (waybillref07_Same_does w0 (More w0 Φ (B101 ++ ((ob57, blk ((u8s x54) ++ r59) 5) :: (B69 ++ (B56 ++ (B32 ++ [])))))) ((some b123, blk [.bool (x99.list), .slice A109 x99.data.length c110, .slice A112 x99.items.length c113] 29) :: (some b14, blk [.bool (a0.list), .slice A1 a0.data.length c2, .slice A4 a0.items.length c5] 29) :: ((B101 ++ ((ob57, blk ((u8s x54) ++ r59) 5) :: (B69 ++ (B56 ++ (B32 ++ []))))) ++ N)) (fun w m => More.of hΦ 2 m rfl) [.bool (x99.list), .slice A109 x99.data.length c110, .slice A112 x99.items.length c113] x99 [.bool (a0.list), .slice A1 a0.data.length c2, .slice A4 a0.items.length c5] a0 x299 h118 h10 hx298) rfl rfl ?_
                rintro _ G300 rfl
                refine OW.mem (M' := ((some b123, blk [.bool (x99.list), .slice A109 x99.data.length c110, .slice A112 x99.items.length c113] 29) :: (some b14, blk [.bool (a0.list), .slice A1 a0.data.length c2, .slice A4 a0.items.length c5] 29) :: ((B101 ++ ((ob57, blk ((u8s x54) ++ r59) 5) :: (B69 ++ (B56 ++ (B32 ++ []))))) ++ N))) (fun w m => m.appR) ?_
                refine OW.want rfl ?_
                refine OW.rv (RV.not rfl) rfl ?_
                refine OW.rv (RV.pick_f rfl rfl rfl) rfl ?_
                refine OW.nil ?_
                exact QW.join ⟨(!x299), (Option.some.inj hq125).symm, rfl, rfl⟩ ⟨rfl, rfl, rfl, rfl, rfl, trivial⟩ (fun w m => m.pick [1] 2 rfl rfl)
              · replace hq125 := if_f hq125 h297
                refine OW.slot (.bool true) (congrArg Value.bool (congrArg (fun b => !b) (decide_eq_false h297))) ?_
                refine OW.skip rfl rfl rfl ?_
                refine OW.skip rfl rfl rfl ?_
                refine OW.skip rfl rfl rfl ?_
                refine OW.skip rfl rfl rfl ?_
                refine OW.rv (RV.pick_t rfl rfl rfl) rfl ?_
                refine OW.nil ?_
                exact QW.join ⟨true, (Option.some.inj hq125).symm, rfl, rfl⟩ ⟨rfl, rfl, rfl, rfl, rfl, trivial⟩ (fun w m => m.pick [1] 2 rfl rfl)
            · replace hq125 := if_f hq125 h296
              refine OW.slot (.bool true) (congrArg Value.bool (congrArg (fun b => !b) (decide_eq_false h296))) ?_
              refine OW.skip rfl rfl rfl ?_
              refine OW.skip rfl rfl rfl ?_
              refine OW.skip rfl rfl rfl ?_
              refine OW.skip rfl rfl rfl ?_
              refine OW.rv (RV.pick_t rfl rfl rfl) rfl ?_
              refine OW.rv (RV.move rfl) rfl ?_
              refine OW.skip rfl rfl rfl ?_
              refine OW.skip rfl rfl rfl ?_
              refine OW.skip rfl rfl rfl ?_
              refine OW.skip rfl rfl rfl ?_
              refine OW.rv (RV.pick_t rfl rfl rfl) rfl ?_
              refine OW.nil ?_
              exact QW.join ⟨true, (Option.some.inj hq125).symm, rfl, rfl⟩ ⟨rfl, rfl, rfl, rfl, rfl, trivial⟩ (fun w m => m.pick [1] 2 rfl rfl)
          · replace hq125 := if_f hq125 h295
            refine OW.slot (.bool true) (congrArg Value.bool (congrArg (fun b => !b) (decide_eq_false h295))) ?_
            refine OW.skip rfl rfl rfl ?_
            refine OW.skip rfl rfl rfl ?_
            refine OW.rv (RV.pick_t rfl rfl rfl) rfl ?_
            refine OW.rv (RV.move rfl) rfl ?_
            refine OW.skip rfl rfl rfl ?_
            refine OW.skip rfl rfl rfl ?_
            refine OW.skip rfl rfl rfl ?_
            refine OW.skip rfl rfl rfl ?_
            refine OW.rv (RV.pick_t rfl rfl rfl) rfl ?_
            refine OW.rv (RV.move rfl) rfl ?_
            refine OW.skip rfl rfl rfl ?_
            refine OW.skip rfl rfl rfl ?_
            refine OW.skip rfl rfl rfl ?_
            refine OW.skip rfl rfl rfl ?_
            refine OW.rv (RV.pick_t rfl rfl rfl) rfl ?_
            refine OW.nil ?_
            exact QW.join ⟨true, (Option.some.inj hq125).symm, rfl, rfl⟩ ⟨rfl, rfl, rfl, rfl, rfl, trivial⟩ (fun w m => m.pick [1] 2 rfl rfl)
        · replace hq125 := if_f hq125 h294
          refine OW.slot (.bool true) (congrArg Value.bool (congrArg (fun b => !b) (decide_eq_false h294))) ?_
          refine OW.skip rfl rfl rfl ?_
          refine OW.skip rfl rfl rfl ?_
          refine OW.rv (RV.pick_t rfl rfl rfl) rfl ?_
          refine OW.rv (RV.move rfl) rfl ?_
          refine OW.skip rfl rfl rfl ?_
          refine OW.skip rfl rfl rfl ?_
          refine OW.rv (RV.pick_t rfl rfl rfl) rfl ?_
          refine OW.rv (RV.move rfl) rfl ?_
          refine OW.skip rfl rfl rfl ?_
          refine OW.skip rfl rfl rfl ?_
          refine OW.skip rfl rfl rfl ?_
          refine OW.skip rfl rfl rfl ?_
          refine OW.rv (RV.pick_t rfl rfl rfl) rfl ?_
          refine OW.rv (RV.move rfl) rfl ?_
          refine OW.skip rfl rfl rfl ?_
          refine OW.skip rfl rfl rfl ?_
          refine OW.skip rfl rfl rfl ?_
          refine OW.skip rfl rfl rfl ?_
          refine OW.rv (RV.pick_t rfl rfl rfl) rfl ?_
          refine OW.nil ?_
          exact QW.join ⟨true, (Option.some.inj hq125).symm, rfl, rfl⟩ ⟨rfl, rfl, rfl, rfl, rfl, trivial⟩ (fun w m => m.pick [1] 2 rfl rfl)
  · skip
    refine CW.region ?_
    refine OW.rv (RV.move rfl) rfl ?_
    refine OW.rv (RV.not rfl) rfl ?_
    refine OW.rv (RV.move rfl) rfl ?_
    by_cases h302 : x17 = true
    · replace hq22 := if_t hq22 h302
      refine OW.slot (.bool false) (congrArg Value.bool (congrArg (fun b => !b) (h302))) ?_
      refine OW.want rfl ?_
      refine OW.rv (RV.move rfl) rfl ?_
      refine OW.want rfl ?_
      refine OW.rv (RV.move rfl) rfl ?_
      refine OW.want rfl ?_
      refine OW.rv (RV.len rfl rfl) rfl ?_
      refine OW.want rfl ?_
      obtain ⟨g303, hq22⟩ := some_if hq22
      refine OW.rv (RV.add rfl rfl (by omega)) rfl ?_
      refine OW.slot (.int .i64 (((x16 + a1.length) : Nat) : Int)) (by first | rfl | (congr 1) | (congr 1; omega)) ?_
      refine OW.want rfl ?_
      refine OW.rv (RV.gtr rfl rfl) rfl ?_
      refine OW.slot (.bool (decide (2097152 < (x16 + a1.length)))) (congrArg Value.bool (decide_eq_decide.2 (by omega))) ?_
      refine OW.rv (RV.pick_f rfl rfl rfl) rfl ?_
      refine OW.nil ?_
      exact QW.join ⟨(decide (2097152 < (x16 + a1.length))), (Option.some.inj hq22).symm, rfl, rfl⟩ ⟨rfl, rfl, rfl, rfl, trivial⟩ (fun w m => m.pick [0] 1 rfl rfl)
    · replace hq22 := if_f hq22 h302
      refine OW.slot (.bool true) (congrArg Value.bool (congrArg (fun b => !b) (Bool.eq_false_iff.2 h302))) ?_
      refine OW.skip rfl rfl rfl ?_
      refine OW.skip rfl rfl rfl ?_
      refine OW.skip rfl rfl rfl ?_
      refine OW.skip rfl rfl rfl ?_
      refine OW.skip rfl rfl rfl ?_
      refine OW.rv (RV.pick_t rfl rfl rfl) rfl ?_
      refine OW.nil ?_
      exact QW.join ⟨true, (Option.some.inj hq22).symm, rfl, rfl⟩ ⟨rfl, rfl, rfl, rfl, trivial⟩ (fun w m => m.pick [0] 1 rfl rfl)
end Go.Fw.Try
