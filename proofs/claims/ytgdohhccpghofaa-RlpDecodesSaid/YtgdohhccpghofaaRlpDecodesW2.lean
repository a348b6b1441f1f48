/- Part of a proof over Ytgdohhccpghofaa: rules and contracts that the law's text uses. No condition. -/
import Derived.Test.YtgdohhccpghofaaTy
import Derived.Test.YtgdohhccpghofaaExt
import Derived.Test.YtgdohhccpghofaaRlpRoom
import Derived.Test.YtgdohhccpghofaaRtL
import Derived.Test.YtgdohhccpghofaaFrmL
import Derived.Test.YtgdohhccpghofaaRlpD
import Derived.Test.YtgdohhccpghofaaRlpP1
import Derived.Test.YtgdohhccpghofaaRlpP2
import Derived.Test.YtgdohhccpghofaaRlpP4
import Derived.Test.YtgdohhccpghofaaRlpP6
import Derived.Test.YtgdohhccpghofaaRlpDecodesW1
namespace Go.Fw.Try
open Go Go.Proofs Go.Fw
set_option maxRecDepth 100000
set_option linter.unusedVariables false
set_option linter.unusedSimpArgs false
set_option maxHeartbeats 1000000

theorem waybilllaw07_RlpDecodes_does (w0 : World) (Φ : Ctx) (N : List Ent) (hΦ : ∀ w, Mem w0 w N → Φ w) (A0_ : Option Addr) (c0_ : Nat) (a0 : List (BitVec 8)) (res0 : Bool) (va0 : View Φ A0_ a0.length c0_ 1 (u8s a0)) (hf : waybilllaw07_RlpDecodes a0 = some res0) : DoesG Try.prog 8 [.slice A0_ a0.length c0_] w0 [] N (fun v G => v = .bool res0) := by
  unfold waybilllaw07_RlpDecodes at hf
  replace va0 := va0.mono (Ψ := More w0 Φ []) (fun w q => q.1)
  have m1 := va0.mx
  refine DoesG.enter Try.func8 rfl Try.ntmps8 rfl (M := (([] ++ N))) rfl ?_
  refine CW.seq ?_
  refine CW.region ?_
  refine OW.rv (RV.assign rfl) rfl ?_
  refine OW.nil ?_
  refine QW.then_n ?_
  refine CW.seq ?_
  refine CW.region ?_
  refine OW.rv (RV.move rfl) rfl ?_
  obtain ⟨x3, hx2, hf⟩ := some_bind hf
  refine OW.callG Try.call15 rfl (waybilllaw07_roomy_does w0 (More w0 Φ []) (([] ++ N)) (fun w m => More.of hΦ 0 m rfl) A0_ c0_ a0 x3 va0 hx2) rfl rfl ?_
  rintro L8 M9 ⟨B4, A5, v6, e10, e11⟩
  rw [e10, e11]
  clear e10 e11 L8 M9
  refine OW.mem (M' := (((B4 ++ []) ++ N))) (fun w m => by have h := Mem.sinkAt (A := B4) m 0 0 rfl rfl; exact h) ?_
  replace va0 := va0.mono (Ψ := More w0 Φ (B4 ++ [])) (fun w q => More.mono (fun w m => (m).appR) q)
  replace v6 := v6.mono (Ψ := (More w0 Φ (B4 ++ []))) (fun w q => More.flat q)
  have v7 := v6.view
  have m12 := v7.mx
  refine OW.rv (RV.assign rfl) rfl ?_
  refine OW.nil ?_
  refine QW.then_n ?_
  refine CW.seq ?_
  refine CW.region ?_
  refine OW.rv (RV.move rfl) rfl ?_
  obtain ⟨⟨x14, x15⟩, hx13, hf⟩ := some_bind hf
  try dsimp only at hf
  refine OW.callG Try.call55 rfl (rlp_Decode_does w0 (More w0 Φ (B4 ++ [])) (((B4 ++ []) ++ N)) (fun w m => More.of hΦ 0 m rfl) A5 (x3.length + 9) x3 x14 x15 v7 hx13) rfl rfl ?_
  rintro L20 M21 ⟨B16, cs17, h18, b19, e22, e23⟩
  rw [e22, e23]
  clear e22 e23 L20 M21
  refine OW.mem (M' := (((B16 ++ (B4 ++ [])) ++ N))) (fun w m => by have h := Mem.sinkAt (A := B16) m 0 0 rfl rfl; exact h) ?_
  replace va0 := va0.mono (Ψ := More w0 Φ (B16 ++ (B4 ++ []))) (fun w q => More.mono (fun w m => (m).appR) q)
  replace v7 := v7.mono (Ψ := More w0 Φ (B16 ++ (B4 ++ []))) (fun w q => More.mono (fun w m => (m).appR) q)
  replace v6 := v6.mono (Ψ := More w0 Φ (B16 ++ (B4 ++ []))) (fun w q => More.mono (fun w m => (m).appR) q)
  replace h18 := ItRd.mono (Ψ := (More w0 Φ (B16 ++ (B4 ++ [])))) (fun w q => More.flat q) _ _ h18
  have h33 := h18
  obtain ⟨A24, c25, A27, c28, cs30, e32, v26, v29, h31⟩ := ItRd.opn h18
  subst e32
  have m34 := v26.mx
  have m35 := v29.mx
  have m36 := v26.mx
  have m37 := v29.mx
  refine OW.rv (RV.move rfl) rfl ?_
  refine OW.rv (RV.extract rfl rfl) rfl ?_
  refine OW.slot (.agg [.bool (x14.list), .slice A24 x14.data.length c25, .slice A27 x14.items.length c28].toArray) (rfl) ?_
  refine OW.rv (RV.extract rfl rfl) rfl ?_
  refine OW.slot (.int .i64 ((x15 : Nat) : Int)) (rfl) ?_
  refine OW.alloc (l := [.bool false, .slice none 0 0, .slice none 0 0]) rfl rfl rfl (fun b38 => ?_)
  refine OW.sv (SV.storeW rfl rfl rfl (by intro u hu; simp at hu; rcases hu with rfl | rfl | rfl <;> rfl) rfl rfl rfl) ?_
  refine OW.rv (RV.assign rfl) rfl ?_
  refine OW.nil ?_
  refine QW.then_n ?_
  refine CW.seq ?_
  refine CW.region ?_
  refine OW.rv (RV.move rfl) rfl ?_
  obtain ⟨⟨x40, x41⟩, hx39, hf⟩ := some_bind hf
  try dsimp only at hf
  refine OW.callG Try.call56 rfl (waybillref07_Decode_does w0 (More w0 Φ (B16 ++ (B4 ++ []))) ((some b38, blk [.bool (x14.list), .slice A24 x14.data.length c25, .slice A27 x14.items.length c28] 29) :: ((B16 ++ (B4 ++ [])) ++ N)) (fun w m => More.of hΦ 1 m rfl) A0_ c0_ a0 x40 x41 va0 hx39) rfl rfl ?_
  rintro L46 M47 ⟨B42, cs43, h44, b45, e48, e49⟩
  rw [e48, e49]
  clear e48 e49 L46 M47
  refine OW.mem (M' := ((some b38, blk [.bool (x14.list), .slice A24 x14.data.length c25, .slice A27 x14.items.length c28] 29) :: ((B42 ++ (B16 ++ (B4 ++ []))) ++ N))) (fun w m => by have h := Mem.sinkAt (A := B42) m 0 1 rfl rfl; exact h) ?_
  replace va0 := va0.mono (Ψ := More w0 Φ (B42 ++ (B16 ++ (B4 ++ [])))) (fun w q => More.mono (fun w m => (m).appR) q)
  replace v7 := v7.mono (Ψ := More w0 Φ (B42 ++ (B16 ++ (B4 ++ [])))) (fun w q => More.mono (fun w m => (m).appR) q)
  replace v6 := v6.mono (Ψ := More w0 Φ (B42 ++ (B16 ++ (B4 ++ [])))) (fun w q => More.mono (fun w m => (m).appR) q)
  replace h33 := ItRd.mono (Ψ := More w0 Φ (B42 ++ (B16 ++ (B4 ++ [])))) (fun w q => More.mono (fun w m => (m).appR) q) _ _ h33
  replace v26 := v26.mono (Ψ := More w0 Φ (B42 ++ (B16 ++ (B4 ++ [])))) (fun w q => More.mono (fun w m => (m).appR) q)
  replace v29 := v29.mono (Ψ := More w0 Φ (B42 ++ (B16 ++ (B4 ++ [])))) (fun w q => More.mono (fun w m => (m).appR) q)
  replace h31 := h31.mono (ItRd.mono (Ψ := More w0 Φ (B42 ++ (B16 ++ (B4 ++ [])))) (fun w q => More.mono (fun w m => (m).appR) q))
  replace h44 := ItRd.mono (Ψ := (More w0 Φ (B42 ++ (B16 ++ (B4 ++ []))))) (fun w q => More.flat q) _ _ h44
  have h59 := h44
  obtain ⟨A50, c51, A53, c54, cs56, e58, v52, v55, h57⟩ := ItRd.opn h44
  subst e58
  have m60 := v52.mx
  have m61 := v55.mx
  have m62 := v52.mx
  have m63 := v55.mx
  refine OW.rv (RV.move rfl) rfl ?_
  refine OW.rv (RV.extract rfl rfl) rfl ?_
  refine OW.slot (.agg [.bool (x40.list), .slice A50 x40.data.length c51, .slice A53 x40.items.length c54].toArray) (rfl) ?_
  refine OW.rv (RV.extract rfl rfl) rfl ?_
  refine OW.slot (.int .i64 ((x41 : Nat) : Int)) (rfl) ?_
  refine OW.alloc (l := [.bool false, .slice none 0 0, .slice none 0 0]) rfl rfl rfl (fun b64 => ?_)
  refine OW.sv (SV.storeW rfl rfl rfl (by intro u hu; simp at hu; rcases hu with rfl | rfl | rfl <;> rfl) rfl rfl rfl) ?_
  refine OW.rv (RV.assign rfl) rfl ?_
  refine OW.nil ?_
  refine QW.then_n ?_
  refine CW.seq ?_
  obtain ⟨q65, hq66, hf⟩ := some_bind hf
  refine CW.cutJ (fun L' M' => ∃ p67 : Bool, q65 = p67 ∧ L' = [(2, .bool (p67))] ∧ M' = (((B42 ++ (B16 ++ (B4 ++ []))) ++ N))) ?_ ?_
  · rintro L69 M70 ⟨p67, e68, e71, e72⟩
    rw [e71, e72]
    clear e71 e72 L69 M70
    clear hq66
    rw [e68] at hf
    clear e68
    try dsimp only at hf
    refine QW.then_n ?_
    refine CW.ret ?_
    have e0 := Option.some.inj hf
    subst e0
    refine QW.retG (rs := [.tmp 2]) ([.bool (p67)]) ((B42 ++ (B16 ++ (B4 ++ [])))) rfl ?_ rfl ?_ ?_ _ (.inl rfl)
    · exact ⟨rfl, trivial⟩
    · exact rfl
    · exact (fun w m => m)
  · skip
    refine CW.region ?_
    refine OW.rv (RV.move rfl) rfl ?_
    obtain ⟨x74, hx73, hq66⟩ := some_bind hq66
    refine OW.callG Try.call31 rfl (waybilllaw07_num_does w0 (More w0 Φ (B42 ++ (B16 ++ (B4 ++ [])))) ((some b64, blk [.bool (x40.list), .slice A50 x40.data.length c51, .slice A53 x40.items.length c54] 29) :: (some b38, blk [.bool (x14.list), .slice A24 x14.data.length c25, .slice A27 x14.items.length c28] 29) :: ((B42 ++ (B16 ++ (B4 ++ []))) ++ N)) (fun w m => More.of hΦ 2 m rfl) ((x15 : Nat) : Int) x74 (by omega) hx73) rfl rfl ?_
    rintro _ G76 ⟨b75, rfl⟩
    refine OW.mem (M' := ((some b64, blk [.bool (x40.list), .slice A50 x40.data.length c51, .slice A53 x40.items.length c54] 29) :: (some b38, blk [.bool (x14.list), .slice A24 x14.data.length c25, .slice A27 x14.items.length c28] 29) :: ((B42 ++ (B16 ++ (B4 ++ []))) ++ N))) (fun w m => m.appR) ?_
    refine OW.rv (RV.move rfl) rfl ?_
    refine OW.rv (RV.eql rfl rfl) rfl ?_
    refine OW.rv (RV.move rfl) rfl ?_
    by_cases h78 : x74 = ((x41 : Nat) : Int)
    · replace hq66 := if_t hq66 h78
      refine OW.slot (.bool true) (congrArg Value.bool (decide_eq_true h78)) ?_
      refine OW.want rfl ?_
      refine OW.rv (RV.loadW rfl (List.Mem.tail _ (List.Mem.head _)) rfl rfl rfl rfl rfl) rfl ?_
      refine OW.want rfl ?_
      refine OW.rv (RV.loadW rfl (List.Mem.head _) rfl rfl rfl rfl rfl) rfl ?_
      refine OW.want rfl ?_
      obtain ⟨x80, hx79, hq66⟩ := some_bind hq66
      refine OW.callG Try.call17 rfl (waybillref07_Same_does w0 (More w0 Φ (B42 ++ (B16 ++ (B4 ++ [])))) ((some b64, blk [.bool (x40.list), .slice A50 x40.data.length c51, .slice A53 x40.items.length c54] 29) :: (some b38, blk [.bool (x14.list), .slice A24 x14.data.length c25, .slice A27 x14.items.length c28] 29) :: ((B42 ++ (B16 ++ (B4 ++ []))) ++ N)) (fun w m => More.of hΦ 2 m rfl) [.bool (x14.list), .slice A24 x14.data.length c25, .slice A27 x14.items.length c28] x14 [.bool (x40.list), .slice A50 x40.data.length c51, .slice A53 x40.items.length c54] x40 x80 h33 h59 hx79) rfl rfl ?_
      rintro _ G81 rfl
      refine OW.mem (M' := ((some b64, blk [.bool (x40.list), .slice A50 x40.data.length c51, .slice A53 x40.items.length c54] 29) :: (some b38, blk [.bool (x14.list), .slice A24 x14.data.length c25, .slice A27 x14.items.length c28] 29) :: ((B42 ++ (B16 ++ (B4 ++ []))) ++ N))) (fun w m => m.appR) ?_
      refine OW.rv (RV.pick_t rfl rfl rfl) rfl ?_
      refine OW.rv (RV.move rfl) rfl ?_
      by_cases h83 : x80 = true
      · replace hq66 := if_t hq66 h83
        refine OW.slot (.bool true) (congrArg Value.bool (h83)) ?_
        refine OW.want rfl ?_
        refine OW.rv (RV.move rfl) rfl ?_
        refine OW.want rfl ?_
        refine OW.rv (RV.move rfl) rfl ?_
        refine OW.want rfl ?_
        obtain ⟨x85, hx84, hq66⟩ := some_bind hq66
        refine OW.callG Try.call26 rfl (waybilllaw07_same_does w0 (More w0 Φ (B42 ++ (B16 ++ (B4 ++ [])))) ((some b64, blk [.bool (x40.list), .slice A50 x40.data.length c51, .slice A53 x40.items.length c54] 29) :: (some b38, blk [.bool (x14.list), .slice A24 x14.data.length c25, .slice A27 x14.items.length c28] 29) :: ((B42 ++ (B16 ++ (B4 ++ []))) ++ N)) (fun w m => More.of hΦ 2 m rfl) A5 (x3.length + 9) x3 A0_ c0_ a0 x85 v7 va0 hx84) rfl rfl ?_
        rintro _ G86 rfl
        refine OW.mem (M' := ((some b64, blk [.bool (x40.list), .slice A50 x40.data.length c51, .slice A53 x40.items.length c54] 29) :: (some b38, blk [.bool (x14.list), .slice A24 x14.data.length c25, .slice A27 x14.items.length c28] 29) :: ((B42 ++ (B16 ++ (B4 ++ []))) ++ N))) (fun w m => m.appR) ?_
        refine OW.rv (RV.pick_t rfl rfl rfl) rfl ?_
        refine OW.rv (RV.move rfl) rfl ?_
        by_cases h88 : x85 = true
        · replace hq66 := if_t hq66 h88
          refine OW.slot (.bool true) (congrArg Value.bool (h88)) ?_
          refine OW.want rfl ?_
          refine OW.rv (RV.move rfl) rfl ?_
          refine OW.want rfl ?_
          obtain ⟨x90, hx89, hq66⟩ := some_bind hq66
          refine OW.callG Try.call27 rfl (waybilllaw07_spared_does w0 (More w0 Φ (B42 ++ (B16 ++ (B4 ++ [])))) ((some b64, blk [.bool (x40.list), .slice A50 x40.data.length c51, .slice A53 x40.items.length c54] 29) :: (some b38, blk [.bool (x14.list), .slice A24 x14.data.length c25, .slice A27 x14.items.length c28] 29) :: ((B42 ++ (B16 ++ (B4 ++ []))) ++ N)) (fun w m => More.of hΦ 2 m rfl) A5 x3 x90 v6 hx89) rfl rfl ?_
          rintro _ G91 rfl
          refine OW.mem (M' := ((some b64, blk [.bool (x40.list), .slice A50 x40.data.length c51, .slice A53 x40.items.length c54] 29) :: (some b38, blk [.bool (x14.list), .slice A24 x14.data.length c25, .slice A27 x14.items.length c28] 29) :: ((B42 ++ (B16 ++ (B4 ++ []))) ++ N))) (fun w m => m.appR) ?_
          refine OW.rv (RV.pick_t rfl rfl rfl) rfl ?_
          refine OW.rv (RV.assign rfl) rfl ?_
          refine OW.nil ?_
          exact QW.join ⟨(x90), (Option.some.inj hq66).symm, rfl, rfl⟩ ⟨rfl, trivial⟩ (fun w m => m.pick [] 2 rfl rfl)
        · replace hq66 := if_f hq66 h88
          refine OW.slot (.bool false) (congrArg Value.bool (Bool.eq_false_iff.2 h88)) ?_
          refine OW.skip rfl rfl rfl ?_
          refine OW.skip rfl rfl rfl ?_
          refine OW.rv (RV.pick_f rfl rfl rfl) rfl ?_
          refine OW.rv (RV.assign rfl) rfl ?_
          refine OW.nil ?_
          exact QW.join ⟨false, (Option.some.inj hq66).symm, rfl, rfl⟩ ⟨rfl, trivial⟩ (fun w m => m.pick [] 2 rfl rfl)
      · replace hq66 := if_f hq66 h83
        refine OW.slot (.bool false) (congrArg Value.bool (Bool.eq_false_iff.2 h83)) ?_
        refine OW.skip rfl rfl rfl ?_
        refine OW.skip rfl rfl rfl ?_
        refine OW.skip rfl rfl rfl ?_
        refine OW.rv (RV.pick_f rfl rfl rfl) rfl ?_
        refine OW.rv (RV.move rfl) rfl ?_
        refine OW.skip rfl rfl rfl ?_
        refine OW.skip rfl rfl rfl ?_
        refine OW.rv (RV.pick_f rfl rfl rfl) rfl ?_
        refine OW.rv (RV.assign rfl) rfl ?_
        refine OW.nil ?_
        exact QW.join ⟨false, (Option.some.inj hq66).symm, rfl, rfl⟩ ⟨rfl, trivial⟩ (fun w m => m.pick [] 2 rfl rfl)
    · replace hq66 := if_f hq66 h78
      refine OW.slot (.bool false) (congrArg Value.bool (decide_eq_false h78)) ?_
      refine OW.skip rfl rfl rfl ?_
      refine OW.skip rfl rfl rfl ?_
      refine OW.skip rfl rfl rfl ?_
      refine OW.rv (RV.pick_f rfl rfl rfl) rfl ?_
      refine OW.rv (RV.move rfl) rfl ?_
      refine OW.skip rfl rfl rfl ?_
      refine OW.skip rfl rfl rfl ?_
      refine OW.skip rfl rfl rfl ?_
      refine OW.rv (RV.pick_f rfl rfl rfl) rfl ?_
      refine OW.rv (RV.move rfl) rfl ?_
      refine OW.skip rfl rfl rfl ?_
      refine OW.skip rfl rfl rfl ?_
      refine OW.rv (RV.pick_f rfl rfl rfl) rfl ?_
      refine OW.rv (RV.assign rfl) rfl ?_
      refine OW.nil ?_
      exact QW.join ⟨false, (Option.some.inj hq66).symm, rfl, rfl⟩ ⟨rfl, trivial⟩ (fun w m => m.pick [] 2 rfl rfl)
end Go.Fw.Try
