/- Part of a proof over Ytgdohhccpghofaa: rules and contracts that the law's text uses. No condition. -/
import Derived.Test.YtgdohhccpghofaaTy
import Derived.Test.YtgdohhccpghofaaExt
import Derived.Test.YtgdohhccpghofaaRlpRoom
import Derived.Test.YtgdohhccpghofaaRlpP1
import Derived.Test.YtgdohhccpghofaaRlpP2
import Derived.Test.YtgdohhccpghofaaRlpP4
import Derived.Test.YtgdohhccpghofaaRlpP5
import Derived.Test.YtgdohhccpghofaaRlpSplitsW1
namespace Go.Fw.Try
open Go Go.Proofs Go.Fw
set_option maxRecDepth 100000
set_option linter.unusedVariables false
set_option linter.unusedSimpArgs false
set_option maxHeartbeats 1000000
theorem waybilllaw07_RlpSplits_does (w0 : World) (Φ : Ctx) (N : List Ent) (hΦ : ∀ w, Mem w0 w N → Φ w) (A0_ : Option Addr) (c0_ : Nat) (a0 : List (BitVec 8)) (res0 : Bool) (va0 : View Φ A0_ a0.length c0_ 1 (u8s a0)) (hf : waybilllaw07_RlpSplits a0 = some res0) : DoesG Try.prog 6 [.slice A0_ a0.length c0_] w0 [] N (fun v G => v = .bool res0) := by
  unfold waybilllaw07_RlpSplits at hf
  replace va0 := va0.mono (Ψ := More w0 Φ []) (fun w q => q.1)
  have m1 := va0.mx
  refine DoesG.enter Try.func6 rfl Try.ntmps6 rfl (M := (([] ++ N))) rfl ?_
  refine CW.seq ?_
  refine CW.region ?_
  refine OW.rv (RV.assign rfl) rfl ?_
  refine OW.nil ?_
  refine QW.then_n ?_
  refine CW.seq ?_
  refine CW.region ?_
  refine OW.rv (RV.move rfl) rfl ?_
  obtain ⟨x3, hx2, hf⟩ := some_bind hf
  refine OW.callG Try.call15 rfl (waybilllaw07_roomy_does w0 (More w0 Φ []) (([] ++ N)) (fun w m => More.of hΦ 0 m rfl) A0_ c0_ a0 x3 va0 hx2) rfl rfl ?_
  rintro L8 M9 ⟨B4, A5, v6, e10, e11⟩
  rw [e10, e11]
  clear e10 e11 L8 M9
  refine OW.mem (M' := (((B4 ++ []) ++ N))) (fun w m => by have h := Mem.sinkAt (A := B4) m 0 0 rfl rfl; exact h) ?_
  replace va0 := va0.mono (Ψ := More w0 Φ (B4 ++ [])) (fun w q => More.mono (fun w m => (m).appR) q)
  replace v6 := v6.mono (Ψ := (More w0 Φ (B4 ++ []))) (fun w q => More.flat q)
  have v7 := v6.view
  have m12 := v7.mx
  refine OW.rv (RV.assign rfl) rfl ?_
  refine OW.nil ?_
  refine QW.then_n ?_
  refine CW.seq ?_
  refine CW.region ?_
  refine OW.rv (RV.move rfl) rfl ?_
  obtain ⟨⟨x14, x15, x16, x17⟩, hx13, hf⟩ := some_bind hf
  try dsimp only at hf
  refine OW.callG Try.call45 rfl (rlp_Split_does w0 (More w0 Φ (B4 ++ [])) (((B4 ++ []) ++ N)) (fun w m => More.of hΦ 0 m rfl) A5 (x3.length + 9) x3 x14 x15 x16 x17 v7 hx13) rfl rfl ?_
  rintro L28 M29 ⟨B18, ob19, c20, r21, ob23, c24, r25, o22, o26, b27, e30, e31⟩
  rw [e30, e31]
  clear e30 e31 L28 M29
  refine OW.mem (M' := ((ob19, blk ((u8s x15) ++ r21) 5) :: (ob23, blk ((u8s x16) ++ r25) 5) :: ((B18 ++ (B4 ++ [])) ++ N))) (fun w m => by have h := Mem.sinkAt (A := B18) m 2 0 rfl rfl; exact h) ?_
  replace va0 := va0.mono (Ψ := More w0 Φ (B18 ++ (B4 ++ []))) (fun w q => More.mono (fun w m => (m).appR) q)
  replace v7 := v7.mono (Ψ := More w0 Φ (B18 ++ (B4 ++ []))) (fun w q => More.mono (fun w m => (m).appR) q)
  replace v6 := v6.mono (Ψ := More w0 Φ (B18 ++ (B4 ++ []))) (fun w q => More.mono (fun w m => (m).appR) q)
  have m32 := o22.mx
  have m33 := o26.mx
  refine OW.rv (RV.move rfl) rfl ?_
  refine OW.rv (RV.extract rfl rfl) rfl ?_
  refine OW.slot (.bool (x14)) (rfl) ?_
  refine OW.rv (RV.extract rfl rfl) rfl ?_
  refine OW.slot (sl ob19 0 x15.length c20) (rfl) ?_
  refine OW.rv (RV.extract rfl rfl) rfl ?_
  refine OW.slot (sl ob23 0 x16.length c24) (rfl) ?_
  refine OW.rv (RV.extract rfl rfl) rfl ?_
  refine OW.slot (.int .i64 ((x17 : Nat) : Int)) (rfl) ?_
  refine OW.rv (RV.assign rfl) rfl ?_
  refine OW.rv (RV.assign rfl) rfl ?_
  refine OW.rv (RV.assign rfl) rfl ?_
  refine OW.rv (RV.assign rfl) rfl ?_
  refine OW.nil ?_
  refine QW.then_n ?_
  refine CW.seq ?_
  refine CW.region ?_
  refine OW.rv (RV.move rfl) rfl ?_
  obtain ⟨⟨x35, x36, x37, x38⟩, hx34, hf⟩ := some_bind hf
  try dsimp only at hf
  refine OW.callG Try.call46 rfl (waybillref07_Split_does w0 (More w0 Φ (B18 ++ (B4 ++ []))) ((ob19, blk ((u8s x15) ++ r21) 5) :: (ob23, blk ((u8s x16) ++ r25) 5) :: ((B18 ++ (B4 ++ [])) ++ N)) (fun w m => More.of hΦ 2 m rfl) A0_ c0_ a0 x35 x36 x37 x38 va0 hx34) rfl rfl ?_
  rintro L49 M50 ⟨B39, ob40, c41, r42, ob44, c45, r46, o43, o47, b48, e51, e52⟩
  rw [e51, e52]
  clear e51 e52 L49 M50
  refine OW.mem (M' := ((ob40, blk ((u8s x36) ++ r42) 5) :: (ob44, blk ((u8s x37) ++ r46) 5) :: (ob19, blk ((u8s x15) ++ r21) 5) :: (ob23, blk ((u8s x16) ++ r25) 5) :: ((B39 ++ (B18 ++ (B4 ++ []))) ++ N))) (fun w m => by have h := Mem.sinkAt (A := B39) m 2 2 rfl rfl; exact h) ?_
  replace va0 := va0.mono (Ψ := More w0 Φ (B39 ++ (B18 ++ (B4 ++ [])))) (fun w q => More.mono (fun w m => (m).appR) q)
  replace v7 := v7.mono (Ψ := More w0 Φ (B39 ++ (B18 ++ (B4 ++ [])))) (fun w q => More.mono (fun w m => (m).appR) q)
  replace v6 := v6.mono (Ψ := More w0 Φ (B39 ++ (B18 ++ (B4 ++ [])))) (fun w q => More.mono (fun w m => (m).appR) q)
  have m53 := o43.mx
  have m54 := o47.mx
  refine OW.rv (RV.move rfl) rfl ?_
  refine OW.rv (RV.extract rfl rfl) rfl ?_
  refine OW.slot (.bool (x35)) (rfl) ?_
  refine OW.rv (RV.extract rfl rfl) rfl ?_
  refine OW.slot (sl ob40 0 x36.length c41) (rfl) ?_
  refine OW.rv (RV.extract rfl rfl) rfl ?_
  refine OW.slot (sl ob44 0 x37.length c45) (rfl) ?_
  refine OW.rv (RV.extract rfl rfl) rfl ?_
  refine OW.slot (.int .i64 ((x38 : Nat) : Int)) (rfl) ?_
  refine OW.rv (RV.assign rfl) rfl ?_
  refine OW.rv (RV.assign rfl) rfl ?_
  refine OW.rv (RV.assign rfl) rfl ?_
  refine OW.rv (RV.assign rfl) rfl ?_
  refine OW.nil ?_
  refine QW.then_n ?_
  refine CW.seq ?_
  refine CW.seq ?_
  obtain ⟨q55, hq56, hf⟩ := some_bind hf
  refine CW.cutJ (fun L' M' => ∃ p59 : Bool, ∃ B57 : List Ent, q55 = p59 ∧ (∀ w, Mem w0 w B57 → Mem w0 w (B39 ++ (B18 ++ (B4 ++ [])))) ∧ L' = [(0, .slice A0_ a0.length c0_), (3, .slice A5 x3.length (x3.length + 9)), (52, .bool (p59))] ∧ M' = ((B57 ++ N))) ?_ ?_
  · rintro L61 M62 ⟨p59, B57, e60, hB58, e63, e64⟩
    rw [e63, e64]
    clear e63 e64 L61 M62
    clear hq56
    rw [e60] at hf
    clear e60
    try dsimp only at hf
    replace va0 := va0.mono (Ψ := More w0 Φ B57) (fun w q => More.mono (fun w m => hB58 w (m)) q)
    replace v7 := v7.mono (Ψ := More w0 Φ B57) (fun w q => More.mono (fun w m => hB58 w (m)) q)
    replace v6 := v6.mono (Ψ := More w0 Φ B57) (fun w q => More.mono (fun w m => hB58 w (m)) q)
    refine QW.then_n ?_
    by_cases h65 : p59 = true
    · replace hf := if_t hf h65
      refine CW.is_t rfl (h65) ?_
      refine CW.seq ?_
      refine CW.region ?_
      refine OW.rv (RV.assign rfl) rfl ?_
      refine OW.nil ?_
      refine QW.then_n ?_
      refine CW.ret ?_
      refine QW.then_r ?_
      have e0 := Option.some.inj hf
      subst e0
      refine QW.retG (rs := [.tmp 2]) ([.bool false]) (B57) rfl ?_ rfl ?_ ?_ _ (.inl rfl)
      · exact ⟨rfl, trivial⟩
      · exact rfl
      · exact (fun w m => m)
    · replace hf := if_f hf h65
      refine CW.is_f rfl (Bool.eq_false_iff.2 h65) ?_
      refine CW.skip ?_
      refine QW.then_n ?_
      refine CW.seq ?_
      refine CW.region ?_
      refine OW.rv (RV.move rfl) rfl ?_
      obtain ⟨⟨x67, x68⟩, hx66, hf⟩ := some_bind hf
      try dsimp only at hf
      refine OW.callG Try.call47 rfl (rlp_Parts_does w0 (More w0 Φ B57) ((B57 ++ N)) (fun w m => More.of hΦ 0 m rfl) A5 (x3.length + 9) x3 x67 x68 v7 hx66) rfl rfl ?_
      rintro L77 M78 ⟨B69, cs70, ob72, c73, r74, h71, o75, b76, e79, e80⟩
      rw [e79, e80]
      clear e79 e80 L77 M78
      refine OW.mem (M' := ((ob72, blk (cs70 ++ r74) 22) :: ((B69 ++ B57) ++ N))) (fun w m => by have h := Mem.sinkAt (A := B69) m 1 0 rfl rfl; exact h) ?_
      replace va0 := va0.mono (Ψ := More w0 Φ (B69 ++ B57)) (fun w q => More.mono (fun w m => (m).appR) q)
      replace v7 := v7.mono (Ψ := More w0 Φ (B69 ++ B57)) (fun w q => More.mono (fun w m => (m).appR) q)
      replace v6 := v6.mono (Ψ := More w0 Φ (B69 ++ B57)) (fun w q => More.mono (fun w m => (m).appR) q)
      replace h71 := h71.mono (BsRd.mono (Ψ := (More w0 Φ (B69 ++ B57))) (fun w q => More.flat q))
      have m81 := o75.mx
      refine OW.rv (RV.move rfl) rfl ?_
      refine OW.rv (RV.extract rfl rfl) rfl ?_
      refine OW.slot (sl ob72 0 x67.length c73) (rfl) ?_
      refine OW.rv (RV.extract rfl rfl) rfl ?_
      refine OW.slot (.int .i64 ((x68 : Nat) : Int)) (rfl) ?_
      refine OW.rv (RV.assign rfl) rfl ?_
      refine OW.rv (RV.assign rfl) rfl ?_
      refine OW.nil ?_
      refine QW.then_n ?_
      refine CW.seq ?_
      refine CW.region ?_
      refine OW.rv (RV.move rfl) rfl ?_
      obtain ⟨⟨x83, x84⟩, hx82, hf⟩ := some_bind hf
      try dsimp only at hf
      refine OW.callG Try.call48 rfl (waybillref07_Parts_does w0 (More w0 Φ (B69 ++ B57)) ((ob72, blk (cs70 ++ r74) 22) :: ((B69 ++ B57) ++ N)) (fun w m => More.of hΦ 1 m rfl) A0_ c0_ a0 x83 x84 va0 hx82) rfl rfl ?_
      rintro L93 M94 ⟨B85, cs86, ob88, c89, r90, h87, o91, b92, e95, e96⟩
      rw [e95, e96]
      clear e95 e96 L93 M94
      refine OW.mem (M' := ((ob88, blk (cs86 ++ r90) 22) :: (ob72, blk (cs70 ++ r74) 22) :: ((B85 ++ (B69 ++ B57)) ++ N))) (fun w m => by have h := Mem.sinkAt (A := B85) m 1 1 rfl rfl; exact h) ?_
      replace va0 := va0.mono (Ψ := More w0 Φ (B85 ++ (B69 ++ B57))) (fun w q => More.mono (fun w m => (m).appR) q)
      replace v7 := v7.mono (Ψ := More w0 Φ (B85 ++ (B69 ++ B57))) (fun w q => More.mono (fun w m => (m).appR) q)
      replace v6 := v6.mono (Ψ := More w0 Φ (B85 ++ (B69 ++ B57))) (fun w q => More.mono (fun w m => (m).appR) q)
      replace h71 := h71.mono (BsRd.mono (Ψ := More w0 Φ (B85 ++ (B69 ++ B57))) (fun w q => More.mono (fun w m => (m).appR) q))
      replace h87 := h87.mono (BsRd.mono (Ψ := (More w0 Φ (B85 ++ (B69 ++ B57)))) (fun w q => More.flat q))
      have m97 := o91.mx
      refine OW.rv (RV.move rfl) rfl ?_
      refine OW.rv (RV.extract rfl rfl) rfl ?_
      refine OW.slot (sl ob88 0 x83.length c89) (rfl) ?_
      refine OW.rv (RV.extract rfl rfl) rfl ?_
      refine OW.slot (.int .i64 ((x84 : Nat) : Int)) (rfl) ?_
      refine OW.rv (RV.assign rfl) rfl ?_
      refine OW.rv (RV.assign rfl) rfl ?_
      refine OW.nil ?_
      refine QW.then_n ?_
      refine CW.seq ?_
      obtain ⟨q98, hq99, hf⟩ := some_bind hf
      refine CW.cutJ (fun L' M' => ∃ p102 : Bool, ∃ B100 : List Ent, q98 = p102 ∧ (∀ w, Mem w0 w B100 → Mem w0 w (B85 ++ (B69 ++ B57))) ∧ L' = [(2, .bool (p102))] ∧ M' = ((B100 ++ N))) ?_ ?_
      · rintro L104 M105 ⟨p102, B100, e103, hB101, e106, e107⟩
        rw [e106, e107]
        clear e106 e107 L104 M105
        clear hq99
        rw [e103] at hf
        clear e103
        try dsimp only at hf
        refine QW.then_n ?_
        refine CW.ret ?_
        have e0 := Option.some.inj hf
        subst e0
        refine QW.retG (rs := [.tmp 2]) ([.bool (p102)]) (B100) rfl ?_ rfl ?_ ?_ _ (.inl rfl)
        · exact ⟨rfl, trivial⟩
        · exact rfl
        · exact (fun w m => m)
      · skip
        refine CW.region ?_
        refine OW.rv (RV.move rfl) rfl ?_
        obtain ⟨x109, hx108, hq99⟩ := some_bind hq99
        refine OW.callG Try.call31 rfl (waybilllaw07_num_does w0 (More w0 Φ (B85 ++ (B69 ++ B57))) ((ob88, blk (cs86 ++ r90) 22) :: (ob72, blk (cs70 ++ r74) 22) :: ((B85 ++ (B69 ++ B57)) ++ N)) (fun w m => More.of hΦ 2 m rfl) ((x68 : Nat) : Int) x109 (by omega) hx108) rfl rfl ?_
        rintro _ G111 ⟨b110, rfl⟩
        refine OW.mem (M' := ((ob88, blk (cs86 ++ r90) 22) :: (ob72, blk (cs70 ++ r74) 22) :: ((B85 ++ (B69 ++ B57)) ++ N))) (fun w m => m.appR) ?_
        refine OW.rv (RV.move rfl) rfl ?_
        refine OW.rv (RV.eql rfl rfl) rfl ?_
        refine OW.rv (RV.move rfl) rfl ?_
        by_cases h113 : x109 = ((x84 : Nat) : Int)
        · replace hq99 := if_t hq99 h113
          refine OW.slot (.bool true) (congrArg Value.bool (decide_eq_true h113)) ?_
          refine OW.want rfl ?_
          refine OW.rv (RV.move rfl) rfl ?_
          refine OW.want rfl ?_
          refine OW.rv (RV.move rfl) rfl ?_
          refine OW.want rfl ?_
          refine OW.mem (M' := (ob88, blk (cs86 ++ r90) 22) :: (((ob72, blk (cs70 ++ r74) 22) :: (B85 ++ (B69 ++ B57))) ++ N)) (fun w m => m.pick [0, 1] 2 rfl rfl) ?_
          replace va0 := va0.mono (Ψ := More w0 Φ ((ob72, blk (cs70 ++ r74) 22) :: (B85 ++ (B69 ++ B57)))) (fun w q => More.mono (fun w m => (m).tail) q)
          replace v7 := v7.mono (Ψ := More w0 Φ ((ob72, blk (cs70 ++ r74) 22) :: (B85 ++ (B69 ++ B57)))) (fun w q => More.mono (fun w m => (m).tail) q)
          replace v6 := v6.mono (Ψ := More w0 Φ ((ob72, blk (cs70 ++ r74) 22) :: (B85 ++ (B69 ++ B57)))) (fun w q => More.mono (fun w m => (m).tail) q)
          replace h71 := h71.mono (BsRd.mono (Ψ := More w0 Φ ((ob72, blk (cs70 ++ r74) 22) :: (B85 ++ (B69 ++ B57)))) (fun w q => More.mono (fun w m => (m).tail) q))
          replace h87 := h87.mono (BsRd.mono (Ψ := More w0 Φ ((ob72, blk (cs70 ++ r74) 22) :: (B85 ++ (B69 ++ B57)))) (fun w q => More.mono (fun w m => (m).tail) q))
          have v114 : View (More w0 Φ ((ob72, blk (cs70 ++ r74) 22) :: (B85 ++ (B69 ++ B57)))) ((ob72).map fun k => ⟨k, 0, none⟩) x67.length c73 1 cs70 := o75.view (by decide) (fun w q => q.2.sublist (List.singleton_sublist.2 (List.mem_cons_self ..)))
          refine OW.mem (M' := (((ob88, blk (cs86 ++ r90) 22) :: ((ob72, blk (cs70 ++ r74) 22) :: (B85 ++ (B69 ++ B57)))) ++ N)) (fun w m => m.pick [0] 1 rfl rfl) ?_
          replace va0 := va0.mono (Ψ := More w0 Φ ((ob88, blk (cs86 ++ r90) 22) :: ((ob72, blk (cs70 ++ r74) 22) :: (B85 ++ (B69 ++ B57))))) (fun w q => More.mono (fun w m => (m).tail) q)
          replace v7 := v7.mono (Ψ := More w0 Φ ((ob88, blk (cs86 ++ r90) 22) :: ((ob72, blk (cs70 ++ r74) 22) :: (B85 ++ (B69 ++ B57))))) (fun w q => More.mono (fun w m => (m).tail) q)
          replace v6 := v6.mono (Ψ := More w0 Φ ((ob88, blk (cs86 ++ r90) 22) :: ((ob72, blk (cs70 ++ r74) 22) :: (B85 ++ (B69 ++ B57))))) (fun w q => More.mono (fun w m => (m).tail) q)
          replace v114 := v114.mono (Ψ := More w0 Φ ((ob88, blk (cs86 ++ r90) 22) :: ((ob72, blk (cs70 ++ r74) 22) :: (B85 ++ (B69 ++ B57))))) (fun w q => More.mono (fun w m => (m).tail) q)
          replace h71 := h71.mono (BsRd.mono (Ψ := More w0 Φ ((ob88, blk (cs86 ++ r90) 22) :: ((ob72, blk (cs70 ++ r74) 22) :: (B85 ++ (B69 ++ B57))))) (fun w q => More.mono (fun w m => (m).tail) q))
          replace h87 := h87.mono (BsRd.mono (Ψ := More w0 Φ ((ob88, blk (cs86 ++ r90) 22) :: ((ob72, blk (cs70 ++ r74) 22) :: (B85 ++ (B69 ++ B57))))) (fun w q => More.mono (fun w m => (m).tail) q))
          have v115 : View (More w0 Φ ((ob88, blk (cs86 ++ r90) 22) :: ((ob72, blk (cs70 ++ r74) 22) :: (B85 ++ (B69 ++ B57))))) ((ob88).map fun k => ⟨k, 0, none⟩) x83.length c89 1 cs86 := o91.view (by decide) (fun w q => q.2.sublist (List.singleton_sublist.2 (List.mem_cons_self ..)))
          obtain ⟨x117, hx116, hq99⟩ := some_bind hq99
          refine OW.callG Try.call32 rfl (waybilllaw07_alike_does w0 (More w0 Φ ((ob88, blk (cs86 ++ r90) 22) :: ((ob72, blk (cs70 ++ r74) 22) :: (B85 ++ (B69 ++ B57))))) ((((ob88, blk (cs86 ++ r90) 22) :: ((ob72, blk (cs70 ++ r74) 22) :: (B85 ++ (B69 ++ B57)))) ++ N)) (fun w m => More.of hΦ 0 m rfl) ((ob72).map fun k => ⟨k, 0, none⟩) c73 cs70 x67 ((ob88).map fun k => ⟨k, 0, none⟩) c89 cs86 x83 x117 v114 h71 v115 h87 hx116) rfl rfl ?_
          rintro _ G118 rfl
          refine OW.mem (M' := ((((ob88, blk (cs86 ++ r90) 22) :: ((ob72, blk (cs70 ++ r74) 22) :: (B85 ++ (B69 ++ B57)))) ++ N))) (fun w m => m.appR) ?_
          refine OW.rv (RV.pick_t rfl rfl rfl) rfl ?_
          refine OW.rv (RV.move rfl) rfl ?_
          by_cases h120 : x117 = true
          · replace hq99 := if_t hq99 h120
            refine OW.slot (.bool true) (congrArg Value.bool (h120)) ?_
            refine OW.want rfl ?_
            refine OW.rv (RV.move rfl) rfl ?_
            refine OW.want rfl ?_
            refine OW.rv (RV.move rfl) rfl ?_
            refine OW.want rfl ?_
            obtain ⟨x122, hx121, hq99⟩ := some_bind hq99
            refine OW.callG Try.call26 rfl (waybilllaw07_same_does w0 (More w0 Φ ((ob88, blk (cs86 ++ r90) 22) :: ((ob72, blk (cs70 ++ r74) 22) :: (B85 ++ (B69 ++ B57))))) ((((ob88, blk (cs86 ++ r90) 22) :: ((ob72, blk (cs70 ++ r74) 22) :: (B85 ++ (B69 ++ B57)))) ++ N)) (fun w m => More.of hΦ 0 m rfl) A5 (x3.length + 9) x3 A0_ c0_ a0 x122 v7 va0 hx121) rfl rfl ?_
            rintro _ G123 rfl
            refine OW.mem (M' := ((((ob88, blk (cs86 ++ r90) 22) :: ((ob72, blk (cs70 ++ r74) 22) :: (B85 ++ (B69 ++ B57)))) ++ N))) (fun w m => m.appR) ?_
            refine OW.rv (RV.pick_t rfl rfl rfl) rfl ?_
            refine OW.rv (RV.move rfl) rfl ?_
            by_cases h125 : x122 = true
            · replace hq99 := if_t hq99 h125
              refine OW.slot (.bool true) (congrArg Value.bool (h125)) ?_
              refine OW.want rfl ?_
              refine OW.rv (RV.move rfl) rfl ?_
              refine OW.want rfl ?_
              obtain ⟨x127, hx126, hq99⟩ := some_bind hq99
              refine OW.callG Try.call27 rfl (waybilllaw07_spared_does w0 (More w0 Φ ((ob88, blk (cs86 ++ r90) 22) :: ((ob72, blk (cs70 ++ r74) 22) :: (B85 ++ (B69 ++ B57))))) ((((ob88, blk (cs86 ++ r90) 22) :: ((ob72, blk (cs70 ++ r74) 22) :: (B85 ++ (B69 ++ B57)))) ++ N)) (fun w m => More.of hΦ 0 m rfl) A5 x3 x127 v6 hx126) rfl rfl ?_
              rintro _ G128 rfl
              refine OW.mem (M' := ((((ob88, blk (cs86 ++ r90) 22) :: ((ob72, blk (cs70 ++ r74) 22) :: (B85 ++ (B69 ++ B57)))) ++ N))) (fun w m => m.appR) ?_
              refine OW.rv (RV.pick_t rfl rfl rfl) rfl ?_
              refine OW.rv (RV.assign rfl) rfl ?_
              refine OW.nil ?_
              exact QW.join ⟨(x127), ((ob88, blk (cs86 ++ r90) 22) :: ((ob72, blk (cs70 ++ r74) 22) :: (B85 ++ (B69 ++ B57)))), (Option.some.inj hq99).symm, (fun w m => ((m).tail).tail), rfl, rfl⟩ ⟨rfl, trivial⟩ (fun w m => m.pick [] 0 rfl rfl)
            · replace hq99 := if_f hq99 h125
              refine OW.slot (.bool false) (congrArg Value.bool (Bool.eq_false_iff.2 h125)) ?_
              refine OW.skip rfl rfl rfl ?_
              refine OW.skip rfl rfl rfl ?_
              refine OW.rv (RV.pick_f rfl rfl rfl) rfl ?_
              refine OW.rv (RV.assign rfl) rfl ?_
              refine OW.nil ?_
              exact QW.join ⟨false, ((ob88, blk (cs86 ++ r90) 22) :: ((ob72, blk (cs70 ++ r74) 22) :: (B85 ++ (B69 ++ B57)))), (Option.some.inj hq99).symm, (fun w m => ((m).tail).tail), rfl, rfl⟩ ⟨rfl, trivial⟩ (fun w m => m.pick [] 0 rfl rfl)
          · replace hq99 := if_f hq99 h120
            refine OW.slot (.bool false) (congrArg Value.bool (Bool.eq_false_iff.2 h120)) ?_
            refine OW.skip rfl rfl rfl ?_
            refine OW.skip rfl rfl rfl ?_
            refine OW.skip rfl rfl rfl ?_
            refine OW.rv (RV.pick_f rfl rfl rfl) rfl ?_
            refine OW.rv (RV.move rfl) rfl ?_
            refine OW.skip rfl rfl rfl ?_
            refine OW.skip rfl rfl rfl ?_
            refine OW.rv (RV.pick_f rfl rfl rfl) rfl ?_
            refine OW.rv (RV.assign rfl) rfl ?_
            refine OW.nil ?_
            exact QW.join ⟨false, ((ob88, blk (cs86 ++ r90) 22) :: ((ob72, blk (cs70 ++ r74) 22) :: (B85 ++ (B69 ++ B57)))), (Option.some.inj hq99).symm, (fun w m => ((m).tail).tail), rfl, rfl⟩ ⟨rfl, trivial⟩ (fun w m => m.pick [] 0 rfl rfl)
        · replace hq99 := if_f hq99 h113
          refine OW.slot (.bool false) (congrArg Value.bool (decide_eq_false h113)) ?_
          refine OW.skip rfl rfl rfl ?_
          refine OW.skip rfl rfl rfl ?_
          refine OW.skip rfl rfl rfl ?_
          refine OW.rv (RV.pick_f rfl rfl rfl) rfl ?_
          refine OW.rv (RV.move rfl) rfl ?_
          refine OW.skip rfl rfl rfl ?_
          refine OW.skip rfl rfl rfl ?_
          refine OW.skip rfl rfl rfl ?_
          refine OW.rv (RV.pick_f rfl rfl rfl) rfl ?_
          refine OW.rv (RV.move rfl) rfl ?_
          refine OW.skip rfl rfl rfl ?_
          refine OW.skip rfl rfl rfl ?_
          refine OW.rv (RV.pick_f rfl rfl rfl) rfl ?_
          refine OW.rv (RV.assign rfl) rfl ?_
          refine OW.nil ?_
          exact QW.join ⟨false, (B85 ++ (B69 ++ B57)), (Option.some.inj hq99).symm, (fun w m => m), rfl, rfl⟩ ⟨rfl, trivial⟩ (fun w m => m.pick [] 2 rfl rfl)
  · skip
    refine CW.region ?_
    refine OW.rv (RV.move rfl) rfl ?_
    obtain ⟨x131, hx130, hq56⟩ := some_bind hq56
    refine OW.callG Try.call31 rfl (waybilllaw07_num_does w0 (More w0 Φ (B39 ++ (B18 ++ (B4 ++ [])))) ((ob40, blk ((u8s x36) ++ r42) 5) :: (ob44, blk ((u8s x37) ++ r46) 5) :: (ob19, blk ((u8s x15) ++ r21) 5) :: (ob23, blk ((u8s x16) ++ r25) 5) :: ((B39 ++ (B18 ++ (B4 ++ []))) ++ N)) (fun w m => More.of hΦ 4 m rfl) ((x17 : Nat) : Int) x131 (by omega) hx130) rfl rfl ?_
    rintro _ G133 ⟨b132, rfl⟩
    refine OW.mem (M' := ((ob40, blk ((u8s x36) ++ r42) 5) :: (ob44, blk ((u8s x37) ++ r46) 5) :: (ob19, blk ((u8s x15) ++ r21) 5) :: (ob23, blk ((u8s x16) ++ r25) 5) :: ((B39 ++ (B18 ++ (B4 ++ []))) ++ N))) (fun w m => m.appR) ?_
    refine OW.rv (RV.move rfl) rfl ?_
    refine OW.rv (RV.neq rfl rfl) rfl ?_
    refine OW.rv (RV.move rfl) rfl ?_
    by_cases h135 : x131 = ((x38 : Nat) : Int)
    · replace hq56 := if_t hq56 h135
      refine OW.slot (.bool false) (congrArg Value.bool (congrArg (fun b => !b) (decide_eq_true h135))) ?_
      refine OW.want rfl ?_
      refine OW.rv (RV.move rfl) rfl ?_
      refine OW.want rfl ?_
      refine OW.rv (RV.move rfl) rfl ?_
      refine OW.want rfl ?_
      refine OW.rv (RV.neqB rfl rfl rfl) rfl ?_
      refine OW.slot (.bool (!decide ((x14) = (x35)))) (by first | rfl | (congr 1) | simp) ?_
      refine OW.rv (RV.pick_f rfl rfl rfl) rfl ?_
      refine OW.rv (RV.move rfl) rfl ?_
      by_cases h136 : (x14) = (x35)
      · replace hq56 := if_t hq56 h136
        refine OW.slot (.bool false) (congrArg Value.bool (congrArg (fun b => !b) (decide_eq_true h136))) ?_
        refine OW.want rfl ?_
        refine OW.rv (RV.move rfl) rfl ?_
        refine OW.want rfl ?_
        refine OW.rv (RV.move rfl) rfl ?_
        refine OW.want rfl ?_
        refine OW.mem (M' := (ob40, blk ((u8s x36) ++ r42) 5) :: (ob44, blk ((u8s x37) ++ r46) 5) :: (ob23, blk ((u8s x16) ++ r25) 5) :: (((ob19, blk ((u8s x15) ++ r21) 5) :: (B39 ++ (B18 ++ (B4 ++ [])))) ++ N)) (fun w m => m.pick [0, 1, 3, 2] 4 rfl rfl) ?_
        replace va0 := va0.mono (Ψ := More w0 Φ ((ob19, blk ((u8s x15) ++ r21) 5) :: (B39 ++ (B18 ++ (B4 ++ []))))) (fun w q => More.mono (fun w m => (m).tail) q)
        replace v7 := v7.mono (Ψ := More w0 Φ ((ob19, blk ((u8s x15) ++ r21) 5) :: (B39 ++ (B18 ++ (B4 ++ []))))) (fun w q => More.mono (fun w m => (m).tail) q)
        replace v6 := v6.mono (Ψ := More w0 Φ ((ob19, blk ((u8s x15) ++ r21) 5) :: (B39 ++ (B18 ++ (B4 ++ []))))) (fun w q => More.mono (fun w m => (m).tail) q)
        have v137 : View (More w0 Φ ((ob19, blk ((u8s x15) ++ r21) 5) :: (B39 ++ (B18 ++ (B4 ++ []))))) ((ob19).map fun k => ⟨k, 0, none⟩) x15.length c20 1 (u8s x15) := o22.view (by decide) (fun w q => q.2.sublist (List.singleton_sublist.2 (List.mem_cons_self ..)))
        refine OW.mem (M' := (ob44, blk ((u8s x37) ++ r46) 5) :: (ob23, blk ((u8s x16) ++ r25) 5) :: (((ob40, blk ((u8s x36) ++ r42) 5) :: ((ob19, blk ((u8s x15) ++ r21) 5) :: (B39 ++ (B18 ++ (B4 ++ []))))) ++ N)) (fun w m => m.pick [1, 2, 0] 3 rfl rfl) ?_
        replace va0 := va0.mono (Ψ := More w0 Φ ((ob40, blk ((u8s x36) ++ r42) 5) :: ((ob19, blk ((u8s x15) ++ r21) 5) :: (B39 ++ (B18 ++ (B4 ++ [])))))) (fun w q => More.mono (fun w m => (m).tail) q)
        replace v7 := v7.mono (Ψ := More w0 Φ ((ob40, blk ((u8s x36) ++ r42) 5) :: ((ob19, blk ((u8s x15) ++ r21) 5) :: (B39 ++ (B18 ++ (B4 ++ [])))))) (fun w q => More.mono (fun w m => (m).tail) q)
        replace v6 := v6.mono (Ψ := More w0 Φ ((ob40, blk ((u8s x36) ++ r42) 5) :: ((ob19, blk ((u8s x15) ++ r21) 5) :: (B39 ++ (B18 ++ (B4 ++ [])))))) (fun w q => More.mono (fun w m => (m).tail) q)
        replace v137 := v137.mono (Ψ := More w0 Φ ((ob40, blk ((u8s x36) ++ r42) 5) :: ((ob19, blk ((u8s x15) ++ r21) 5) :: (B39 ++ (B18 ++ (B4 ++ [])))))) (fun w q => More.mono (fun w m => (m).tail) q)
        have v138 : View (More w0 Φ ((ob40, blk ((u8s x36) ++ r42) 5) :: ((ob19, blk ((u8s x15) ++ r21) 5) :: (B39 ++ (B18 ++ (B4 ++ [])))))) ((ob40).map fun k => ⟨k, 0, none⟩) x36.length c41 1 (u8s x36) := o43.view (by decide) (fun w q => q.2.sublist (List.singleton_sublist.2 (List.mem_cons_self ..)))
        obtain ⟨x140, hx139, hq56⟩ := some_bind hq56
        refine OW.callG Try.call26 rfl (waybilllaw07_same_does w0 (More w0 Φ ((ob40, blk ((u8s x36) ++ r42) 5) :: ((ob19, blk ((u8s x15) ++ r21) 5) :: (B39 ++ (B18 ++ (B4 ++ [])))))) ((ob44, blk ((u8s x37) ++ r46) 5) :: (ob23, blk ((u8s x16) ++ r25) 5) :: (((ob40, blk ((u8s x36) ++ r42) 5) :: ((ob19, blk ((u8s x15) ++ r21) 5) :: (B39 ++ (B18 ++ (B4 ++ []))))) ++ N)) (fun w m => More.of hΦ 2 m rfl) ((ob19).map fun k => ⟨k, 0, none⟩) c20 x15 ((ob40).map fun k => ⟨k, 0, none⟩) c41 x36 x140 v137 v138 hx139) rfl rfl ?_
        rintro _ G141 rfl
        refine OW.mem (M' := ((ob44, blk ((u8s x37) ++ r46) 5) :: (ob23, blk ((u8s x16) ++ r25) 5) :: (((ob40, blk ((u8s x36) ++ r42) 5) :: ((ob19, blk ((u8s x15) ++ r21) 5) :: (B39 ++ (B18 ++ (B4 ++ []))))) ++ N))) (fun w m => m.appR) ?_
        refine OW.want rfl ?_
        refine OW.rv (RV.not rfl) rfl ?_
        refine OW.rv (RV.pick_f rfl rfl rfl) rfl ?_
        refine OW.rv (RV.move rfl) rfl ?_
        by_cases h143 : x140 = true
        · replace hq56 := if_t hq56 h143
          refine OW.slot (.bool false) (congrArg Value.bool (congrArg (fun b => !b) (h143))) ?_
          refine OW.want rfl ?_
          refine OW.rv (RV.move rfl) rfl ?_
          refine OW.want rfl ?_
          refine OW.rv (RV.move rfl) rfl ?_
          refine OW.want rfl ?_
          refine OW.mem (M' := (ob44, blk ((u8s x37) ++ r46) 5) :: (((ob23, blk ((u8s x16) ++ r25) 5) :: ((ob40, blk ((u8s x36) ++ r42) 5) :: ((ob19, blk ((u8s x15) ++ r21) 5) :: (B39 ++ (B18 ++ (B4 ++ [])))))) ++ N)) (fun w m => m.pick [0, 1] 2 rfl rfl) ?_
          replace va0 := va0.mono (Ψ := More w0 Φ ((ob23, blk ((u8s x16) ++ r25) 5) :: ((ob40, blk ((u8s x36) ++ r42) 5) :: ((ob19, blk ((u8s x15) ++ r21) 5) :: (B39 ++ (B18 ++ (B4 ++ []))))))) (fun w q => More.mono (fun w m => (m).tail) q)
          replace v7 := v7.mono (Ψ := More w0 Φ ((ob23, blk ((u8s x16) ++ r25) 5) :: ((ob40, blk ((u8s x36) ++ r42) 5) :: ((ob19, blk ((u8s x15) ++ r21) 5) :: (B39 ++ (B18 ++ (B4 ++ []))))))) (fun w q => More.mono (fun w m => (m).tail) q)
          replace v6 := v6.mono (Ψ := More w0 Φ ((ob23, blk ((u8s x16) ++ r25) 5) :: ((ob40, blk ((u8s x36) ++ r42) 5) :: ((ob19, blk ((u8s x15) ++ r21) 5) :: (B39 ++ (B18 ++ (B4 ++ []))))))) (fun w q => More.mono (fun w m => (m).tail) q)
          replace v137 := v137.mono (Ψ := More w0 Φ ((ob23, blk ((u8s x16) ++ r25) 5) :: ((ob40, blk ((u8s x36) ++ r42) 5) :: ((ob19, blk ((u8s x15) ++ r21) 5) :: (B39 ++ (B18 ++ (B4 ++ []))))))) (fun w q => More.mono (fun w m => (m).tail) q)
          replace v138 := v138.mono (Ψ := More w0 Φ ((ob23, blk ((u8s x16) ++ r25) 5) :: ((ob40, blk ((u8s x36) ++ r42) 5) :: ((ob19, blk ((u8s x15) ++ r21) 5) :: (B39 ++ (B18 ++ (B4 ++ []))))))) (fun w q => More.mono (fun w m => (m).tail) q)
          have v144 : View (More w0 Φ ((ob23, blk ((u8s x16) ++ r25) 5) :: ((ob40, blk ((u8s x36) ++ r42) 5) :: ((ob19, blk ((u8s x15) ++ r21) 5) :: (B39 ++ (B18 ++ (B4 ++ []))))))) ((ob23).map fun k => ⟨k, 0, none⟩) x16.length c24 1 (u8s x16) := o26.view (by decide) (fun w q => q.2.sublist (List.singleton_sublist.2 (List.mem_cons_self ..)))
          refine OW.mem (M' := (((ob44, blk ((u8s x37) ++ r46) 5) :: ((ob23, blk ((u8s x16) ++ r25) 5) :: ((ob40, blk ((u8s x36) ++ r42) 5) :: ((ob19, blk ((u8s x15) ++ r21) 5) :: (B39 ++ (B18 ++ (B4 ++ []))))))) ++ N)) (fun w m => m.pick [0] 1 rfl rfl) ?_
          replace va0 := va0.mono (Ψ := More w0 Φ ((ob44, blk ((u8s x37) ++ r46) 5) :: ((ob23, blk ((u8s x16) ++ r25) 5) :: ((ob40, blk ((u8s x36) ++ r42) 5) :: ((ob19, blk ((u8s x15) ++ r21) 5) :: (B39 ++ (B18 ++ (B4 ++ [])))))))) (fun w q => More.mono (fun w m => (m).tail) q)
          replace v7 := v7.mono (Ψ := More w0 Φ ((ob44, blk ((u8s x37) ++ r46) 5) :: ((ob23, blk ((u8s x16) ++ r25) 5) :: ((ob40, blk ((u8s x36) ++ r42) 5) :: ((ob19, blk ((u8s x15) ++ r21) 5) :: (B39 ++ (B18 ++ (B4 ++ [])))))))) (fun w q => More.mono (fun w m => (m).tail) q)
          replace v6 := v6.mono (Ψ := More w0 Φ ((ob44, blk ((u8s x37) ++ r46) 5) :: ((ob23, blk ((u8s x16) ++ r25) 5) :: ((ob40, blk ((u8s x36) ++ r42) 5) :: ((ob19, blk ((u8s x15) ++ r21) 5) :: (B39 ++ (B18 ++ (B4 ++ [])))))))) (fun w q => More.mono (fun w m => (m).tail) q)
          replace v137 := v137.mono (Ψ := More w0 Φ ((ob44, blk ((u8s x37) ++ r46) 5) :: ((ob23, blk ((u8s x16) ++ r25) 5) :: ((ob40, blk ((u8s x36) ++ r42) 5) :: ((ob19, blk ((u8s x15) ++ r21) 5) :: (B39 ++ (B18 ++ (B4 ++ [])))))))) (fun w q => More.mono (fun w m => (m).tail) q)
          replace v144 := v144.mono (Ψ := More w0 Φ ((ob44, blk ((u8s x37) ++ r46) 5) :: ((ob23, blk ((u8s x16) ++ r25) 5) :: ((ob40, blk ((u8s x36) ++ r42) 5) :: ((ob19, blk ((u8s x15) ++ r21) 5) :: (B39 ++ (B18 ++ (B4 ++ [])))))))) (fun w q => More.mono (fun w m => (m).tail) q)
          replace v138 := v138.mono (Ψ := More w0 Φ ((ob44, blk ((u8s x37) ++ r46) 5) :: ((ob23, blk ((u8s x16) ++ r25) 5) :: ((ob40, blk ((u8s x36) ++ r42) 5) :: ((ob19, blk ((u8s x15) ++ r21) 5) :: (B39 ++ (B18 ++ (B4 ++ [])))))))) (fun w q => More.mono (fun w m => (m).tail) q)
          have v145 : View (More w0 Φ ((ob44, blk ((u8s x37) ++ r46) 5) :: ((ob23, blk ((u8s x16) ++ r25) 5) :: ((ob40, blk ((u8s x36) ++ r42) 5) :: ((ob19, blk ((u8s x15) ++ r21) 5) :: (B39 ++ (B18 ++ (B4 ++ [])))))))) ((ob44).map fun k => ⟨k, 0, none⟩) x37.length c45 1 (u8s x37) := o47.view (by decide) (fun w q => q.2.sublist (List.singleton_sublist.2 (List.mem_cons_self ..)))
          obtain ⟨x147, hx146, hq56⟩ := some_bind hq56
          refine OW.callG Try.call26 rfl (waybilllaw07_same_does w0 (More w0 Φ ((ob44, blk ((u8s x37) ++ r46) 5) :: ((ob23, blk ((u8s x16) ++ r25) 5) :: ((ob40, blk ((u8s x36) ++ r42) 5) :: ((ob19, blk ((u8s x15) ++ r21) 5) :: (B39 ++ (B18 ++ (B4 ++ [])))))))) ((((ob44, blk ((u8s x37) ++ r46) 5) :: ((ob23, blk ((u8s x16) ++ r25) 5) :: ((ob40, blk ((u8s x36) ++ r42) 5) :: ((ob19, blk ((u8s x15) ++ r21) 5) :: (B39 ++ (B18 ++ (B4 ++ []))))))) ++ N)) (fun w m => More.of hΦ 0 m rfl) ((ob23).map fun k => ⟨k, 0, none⟩) c24 x16 ((ob44).map fun k => ⟨k, 0, none⟩) c45 x37 x147 v144 v145 hx146) rfl rfl ?_
          rintro _ G148 rfl
          refine OW.mem (M' := ((((ob44, blk ((u8s x37) ++ r46) 5) :: ((ob23, blk ((u8s x16) ++ r25) 5) :: ((ob40, blk ((u8s x36) ++ r42) 5) :: ((ob19, blk ((u8s x15) ++ r21) 5) :: (B39 ++ (B18 ++ (B4 ++ []))))))) ++ N))) (fun w m => m.appR) ?_
          refine OW.want rfl ?_
          refine OW.rv (RV.not rfl) rfl ?_
          refine OW.rv (RV.pick_f rfl rfl rfl) rfl ?_
          refine OW.nil ?_
          exact QW.join ⟨(!x147), ((ob44, blk ((u8s x37) ++ r46) 5) :: ((ob23, blk ((u8s x16) ++ r25) 5) :: ((ob40, blk ((u8s x36) ++ r42) 5) :: ((ob19, blk ((u8s x15) ++ r21) 5) :: (B39 ++ (B18 ++ (B4 ++ []))))))), (Option.some.inj hq56).symm, (fun w m => ((((m).tail).tail).tail).tail), rfl, rfl⟩ ⟨rfl, rfl, rfl, trivial⟩ (fun w m => m.pick [] 0 rfl rfl)
        · replace hq56 := if_f hq56 h143
          refine OW.slot (.bool true) (congrArg Value.bool (congrArg (fun b => !b) (Bool.eq_false_iff.2 h143))) ?_
          refine OW.skip rfl rfl rfl ?_
          refine OW.skip rfl rfl rfl ?_
          refine OW.skip rfl rfl rfl ?_
          refine OW.skip rfl rfl rfl ?_
          refine OW.rv (RV.pick_t rfl rfl rfl) rfl ?_
          refine OW.nil ?_
          exact QW.join ⟨true, ((ob40, blk ((u8s x36) ++ r42) 5) :: ((ob19, blk ((u8s x15) ++ r21) 5) :: (B39 ++ (B18 ++ (B4 ++ []))))), (Option.some.inj hq56).symm, (fun w m => ((m).tail).tail), rfl, rfl⟩ ⟨rfl, rfl, rfl, trivial⟩ (fun w m => m.pick [] 2 rfl rfl)
      · replace hq56 := if_f hq56 h136
        refine OW.slot (.bool true) (congrArg Value.bool (congrArg (fun b => !b) (decide_eq_false h136))) ?_
        refine OW.skip rfl rfl rfl ?_
        refine OW.skip rfl rfl rfl ?_
        refine OW.skip rfl rfl rfl ?_
        refine OW.skip rfl rfl rfl ?_
        refine OW.rv (RV.pick_t rfl rfl rfl) rfl ?_
        refine OW.rv (RV.move rfl) rfl ?_
        refine OW.skip rfl rfl rfl ?_
        refine OW.skip rfl rfl rfl ?_
        refine OW.skip rfl rfl rfl ?_
        refine OW.skip rfl rfl rfl ?_
        refine OW.rv (RV.pick_t rfl rfl rfl) rfl ?_
        refine OW.nil ?_
        exact QW.join ⟨true, (B39 ++ (B18 ++ (B4 ++ []))), (Option.some.inj hq56).symm, (fun w m => m), rfl, rfl⟩ ⟨rfl, rfl, rfl, trivial⟩ (fun w m => m.pick [] 4 rfl rfl)
    · replace hq56 := if_f hq56 h135
      refine OW.slot (.bool true) (congrArg Value.bool (congrArg (fun b => !b) (decide_eq_false h135))) ?_
      refine OW.skip rfl rfl rfl ?_
      refine OW.skip rfl rfl rfl ?_
      refine OW.skip rfl rfl rfl ?_
      refine OW.rv (RV.pick_t rfl rfl rfl) rfl ?_
      refine OW.rv (RV.move rfl) rfl ?_
      refine OW.skip rfl rfl rfl ?_
      refine OW.skip rfl rfl rfl ?_
      refine OW.skip rfl rfl rfl ?_
      refine OW.skip rfl rfl rfl ?_
      refine OW.rv (RV.pick_t rfl rfl rfl) rfl ?_
      refine OW.rv (RV.move rfl) rfl ?_
      refine OW.skip rfl rfl rfl ?_
      refine OW.skip rfl rfl rfl ?_
      refine OW.skip rfl rfl rfl ?_
      refine OW.skip rfl rfl rfl ?_
      refine OW.rv (RV.pick_t rfl rfl rfl) rfl ?_
      refine OW.nil ?_
      exact QW.join ⟨true, (B39 ++ (B18 ++ (B4 ++ []))), (Option.some.inj hq56).symm, (fun w m => m), rfl, rfl⟩ ⟨rfl, rfl, rfl, trivial⟩ (fun w m => m.pick [] 4 rfl rfl)
end Go.Fw.Try
