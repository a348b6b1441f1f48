/- Part of a proof over Ytgdohhccpghofaa: rules and contracts that the law's text uses. No condition. -/
import Derived.Test.YtgdohhccpghofaaTy
import Derived.Test.YtgdohhccpghofaaExt
import Derived.Test.YtgdohhccpghofaaRlpRoom
import Derived.Test.YtgdohhccpghofaaRlpP1
import Derived.Test.YtgdohhccpghofaaRlpP2
import Derived.Test.YtgdohhccpghofaaRlpP3
import Derived.Test.YtgdohhccpghofaaRlpP4
import Derived.Test.YtgdohhccpghofaaRlpP5
import Derived.Test.YtgdohhccpghofaaRlpMakesW1
namespace Go.Fw.Try
open Go Go.Proofs Go.Fw
set_option maxRecDepth 100000
set_option linter.unusedVariables false
set_option linter.unusedSimpArgs false
set_option maxHeartbeats 1000000
theorem waybilllaw07_RlpMakes_does (w0 : World) (Φ : Ctx) (N : List Ent) (hΦ : ∀ w, Mem w0 w N → Φ w) (A0_ : Option Addr) (c0_ : Nat) (a0 : List (BitVec 8)) (a1 : Vector (BitVec 64) 4) (A2_ : Option Addr) (c2_ : Nat) (cs2_ : List Value) (a2 : List (It)) (res0 : Bool) (va0 : View Φ A0_ a0.length c0_ 1 (u8s a0)) (va2 : View Φ A2_ a2.length c2_ 3 cs2_) (ha2 : Reps (ItRd Φ) cs2_ a2) (hf : waybilllaw07_RlpMakes a0 a1 a2 = some res0) : DoesG Try.prog 3 [.slice A0_ a0.length c0_, .agg (u64s a1.toList).toArray, .slice A2_ a2.length c2_] w0 [] N (fun v G => v = .bool res0) := by
  unfold waybilllaw07_RlpMakes at hf
  replace va0 := va0.mono (Ψ := More w0 Φ []) (fun w q => q.1)
  replace va2 := va2.mono (Ψ := More w0 Φ []) (fun w q => q.1)
  replace ha2 := ha2.mono (ItRd.mono (Ψ := More w0 Φ []) (fun w q => q.1))
  have m1 := va0.mx
  have m2 := va2.mx
  refine DoesG.enter Try.func3 rfl Try.ntmps3 rfl (M := (([] ++ N))) rfl ?_
  refine CW.seq ?_
  refine CW.region ?_
  refine OW.boxA rfl rfl (fun b3 => ?_)
  refine OW.rv (RV.assign rfl) rfl ?_
  refine OW.nil ?_
  refine QW.then_n ?_
  refine CW.seq ?_
  refine CW.seq ?_
  refine CW.region ?_
  refine OW.rv (RV.move rfl) rfl ?_
  refine OW.rv (RV.buildSt (l := [.bool false, .slice none 0 0, .slice none 0 0]) (cs := [.bool true, .slice none 0 0, .slice A2_ a2.length c2_]) [(0, [.bool true]), (2, [.slice A2_ a2.length c2_])] rfl rfl rfl rfl rfl rfl rfl) rfl ?_
  have v4 : View (More w0 Φ []) none ([] : List (BitVec 8)).length 0 1 (u8s []) := View.nil
  obtain ⟨x6, hx5, hf⟩ := some_bind hf
  refine OW.callG Try.call14 rfl (waybillref07_Beyond_does w0 (More w0 Φ []) ((some b3, blk (u64s a1.toList) 25) :: ([] ++ N)) (fun w m => More.of hΦ 1 m rfl) [.bool true, .slice none 0 0, .slice A2_ a2.length c2_] (It.mk true ([] : List (BitVec 8)) a2) x6 (ItRd.mk v4 va2 ha2) hx5) rfl rfl ?_
  rintro _ G7 rfl
  refine OW.mem (M' := ((some b3, blk (u64s a1.toList) 25) :: ([] ++ N))) (fun w m => m.appR) ?_
  refine OW.nil ?_
  refine QW.then_n ?_
  by_cases h9 : x6 = true
  · replace hf := if_t hf h9
    refine CW.is_t rfl (h9) ?_
    refine CW.seq ?_
    refine CW.region ?_
    refine OW.rv (RV.assign rfl) rfl ?_
    refine OW.nil ?_
    refine QW.then_n ?_
    refine CW.ret ?_
    refine QW.then_r ?_
    have e0 := Option.some.inj hf
    subst e0
    refine QW.retG (rs := [.tmp 6]) ([.bool true]) ((some b3, blk (u64s a1.toList) 25) :: []) rfl ?_ rfl ?_ ?_ _ (.inl rfl)
    · exact ⟨rfl, trivial⟩
    · exact rfl
    · exact (fun w m => m)
  · replace hf := if_f hf h9
    refine CW.is_f rfl (Bool.eq_false_iff.2 h9) ?_
    refine CW.skip ?_
    refine QW.then_n ?_
    refine CW.seq ?_
    refine CW.region ?_
    refine OW.rv (RV.move rfl) rfl ?_
    obtain ⟨x11, hx10, hf⟩ := some_bind hf
    refine OW.callG Try.call15 rfl (waybilllaw07_roomy_does w0 (More w0 Φ []) ((some b3, blk (u64s a1.toList) 25) :: ([] ++ N)) (fun w m => More.of hΦ 1 m rfl) A0_ c0_ a0 x11 va0 hx10) rfl rfl ?_
    rintro L16 M17 ⟨B12, A13, v14, e18, e19⟩
    rw [e18, e19]
    clear e18 e19 L16 M17
    refine OW.mem (M' := ((some b3, blk (u64s a1.toList) 25) :: ((B12 ++ []) ++ N))) (fun w m => by have h := Mem.sinkAt (A := B12) m 0 1 rfl rfl; exact h) ?_
    replace va0 := va0.mono (Ψ := More w0 Φ (B12 ++ [])) (fun w q => More.mono (fun w m => (m).appR) q)
    replace va2 := va2.mono (Ψ := More w0 Φ (B12 ++ [])) (fun w q => More.mono (fun w m => (m).appR) q)
    replace ha2 := ha2.mono (ItRd.mono (Ψ := More w0 Φ (B12 ++ [])) (fun w q => More.mono (fun w m => (m).appR) q))
    replace v14 := v14.mono (Ψ := (More w0 Φ (B12 ++ []))) (fun w q => More.flat q)
    have v15 := v14.view
    have m20 := v15.mx
    refine OW.rv (RV.assign rfl) rfl ?_
    refine OW.nil ?_
    refine QW.then_n ?_
    refine CW.seq ?_
    refine CW.region ?_
    refine OW.rv (RV.move rfl) rfl ?_
    obtain ⟨x22, hx21, hf⟩ := some_bind hf
    refine OW.callG Try.call16 rfl (waybillref07_Copy_does w0 (More w0 Φ (B12 ++ [])) ((some b3, blk (u64s a1.toList) 25) :: ((B12 ++ []) ++ N)) (fun w m => More.of hΦ 1 m rfl) A2_ c2_ cs2_ a2 x22 va2 ha2 hx21) rfl rfl ?_
    rintro L30 M31 ⟨B23, cs24, ob26, c27, r28, h25, o29, e32, e33⟩
    rw [e32, e33]
    clear e32 e33 L30 M31
    refine OW.mem (M' := ((ob26, blk (cs24 ++ r28) 29) :: (some b3, blk (u64s a1.toList) 25) :: ((B23 ++ (B12 ++ [])) ++ N))) (fun w m => by have h := Mem.sinkAt (A := B23) m 1 1 rfl rfl; exact h) ?_
    replace va0 := va0.mono (Ψ := More w0 Φ (B23 ++ (B12 ++ []))) (fun w q => More.mono (fun w m => (m).appR) q)
    replace va2 := va2.mono (Ψ := More w0 Φ (B23 ++ (B12 ++ []))) (fun w q => More.mono (fun w m => (m).appR) q)
    replace ha2 := ha2.mono (ItRd.mono (Ψ := More w0 Φ (B23 ++ (B12 ++ []))) (fun w q => More.mono (fun w m => (m).appR) q))
    replace v15 := v15.mono (Ψ := More w0 Φ (B23 ++ (B12 ++ []))) (fun w q => More.mono (fun w m => (m).appR) q)
    replace v14 := v14.mono (Ψ := More w0 Φ (B23 ++ (B12 ++ []))) (fun w q => More.mono (fun w m => (m).appR) q)
    replace h25 := h25.mono (ItRd.mono (Ψ := (More w0 Φ (B23 ++ (B12 ++ [])))) (fun w q => More.flat q))
    have m34 := o29.mx
    refine OW.ofN (NV.bs1 rfl rfl rfl rfl rfl rfl) rfl (fun b35 => ?_)
    refine OW.mem (M' := (((some b35), blk ((u8s ([164#8] : List (BitVec 8))) ++ []) 5) :: (ob26, blk (cs24 ++ r28) 29) :: (some b3, blk (u64s a1.toList) 25) :: ((B23 ++ (B12 ++ [])) ++ N))) (fun w m => by first | exact m | simpa [u8s] using m) ?_
    have o36 : OwnS (some b35) ([164#8] : List (BitVec 8)).length 1 1 (u8s ([164#8] : List (BitVec 8))) [] := ⟨by simp [u8s], by simp [u8s], (fun h => nomatch h), by simp⟩
    refine OW.slot (sl (some b35) 0 ([164#8] : List (BitVec 8)).length 1) (rfl) ?_
    refine OW.rv (RV.buildSt (l := [.bool false, .slice none 0 0, .slice none 0 0]) (cs := [.bool false, sl (some b35) 0 ([164#8] : List (BitVec 8)).length 1, .slice none 0 0]) [(1, [sl (some b35) 0 ([164#8] : List (BitVec 8)).length 1])] rfl rfl rfl rfl rfl rfl rfl) rfl ?_
    refine OW.mem (M' := (ob26, blk (cs24 ++ r28) 29) :: (some b3, blk (u64s a1.toList) 25) :: ((((some b35), blk ((u8s ([164#8] : List (BitVec 8))) ++ []) 5) :: (B23 ++ (B12 ++ []))) ++ N)) (fun w m => m.pick [1, 2, 0] 3 rfl rfl) ?_
    replace va0 := va0.mono (Ψ := More w0 Φ (((some b35), blk ((u8s ([164#8] : List (BitVec 8))) ++ []) 5) :: (B23 ++ (B12 ++ [])))) (fun w q => More.mono (fun w m => (m).tail) q)
    replace va2 := va2.mono (Ψ := More w0 Φ (((some b35), blk ((u8s ([164#8] : List (BitVec 8))) ++ []) 5) :: (B23 ++ (B12 ++ [])))) (fun w q => More.mono (fun w m => (m).tail) q)
    replace ha2 := ha2.mono (ItRd.mono (Ψ := More w0 Φ (((some b35), blk ((u8s ([164#8] : List (BitVec 8))) ++ []) 5) :: (B23 ++ (B12 ++ [])))) (fun w q => More.mono (fun w m => (m).tail) q))
    replace v15 := v15.mono (Ψ := More w0 Φ (((some b35), blk ((u8s ([164#8] : List (BitVec 8))) ++ []) 5) :: (B23 ++ (B12 ++ [])))) (fun w q => More.mono (fun w m => (m).tail) q)
    replace v14 := v14.mono (Ψ := More w0 Φ (((some b35), blk ((u8s ([164#8] : List (BitVec 8))) ++ []) 5) :: (B23 ++ (B12 ++ [])))) (fun w q => More.mono (fun w m => (m).tail) q)
    replace h25 := h25.mono (ItRd.mono (Ψ := More w0 Φ (((some b35), blk ((u8s ([164#8] : List (BitVec 8))) ++ []) 5) :: (B23 ++ (B12 ++ [])))) (fun w q => More.mono (fun w m => (m).tail) q))
    have v39 : View (More w0 Φ (((some b35), blk ((u8s ([164#8] : List (BitVec 8))) ++ []) 5) :: (B23 ++ (B12 ++ [])))) (((some b35)).map fun k => ⟨k, 0, none⟩) ([164#8] : List (BitVec 8)).length 1 1 (u8s ([164#8] : List (BitVec 8))) := o36.view (by decide) (fun w q => q.2.sublist (List.singleton_sublist.2 (List.mem_cons_self ..)))
    refine OW.ofN (NV.bsA rfl rfl (by intro x hx; simp at hx; subst hx; rfl) rfl rfl rfl (by decide) (by decide) rfl) rfl (fun b37 => ?_)
    have v42 : View (More w0 Φ (((some b35), blk ((u8s ([164#8] : List (BitVec 8))) ++ []) 5) :: (B23 ++ (B12 ++ [])))) none ([] : List (It)).length 0 3 [] := View.nil
    have v43 : View (More w0 Φ (((some b35), blk ((u8s ([164#8] : List (BitVec 8))) ++ []) 5) :: (B23 ++ (B12 ++ [])))) none ([] : List (It)).length 0 3 [] := View.nil
    have h41 : Reps (ItRd (More w0 Φ (((some b35), blk ((u8s ([164#8] : List (BitVec 8))) ++ []) 5) :: (B23 ++ (B12 ++ []))))) (([.bool false, .slice (((some b35)).map fun k => ⟨k, 0, none⟩) ([164#8] : List (BitVec 8)).length 1, .slice none 0 0] : List Value)) [(It.mk false ([164#8] : List (BitVec 8)) ([] : List (It)))] := Reps.one (ItRd.mk v39 v43 (Reps.nil))
    refine OW.mem (M' := (((some b37), blk ((([.bool false, .slice (((some b35)).map fun k => ⟨k, 0, none⟩) ([164#8] : List (BitVec 8)).length 1, .slice none 0 0] : List Value)) ++ []) 29) :: (ob26, blk (cs24 ++ r28) 29) :: (some b3, blk (u64s a1.toList) 25) :: ((((some b35), blk ((u8s ([164#8] : List (BitVec 8))) ++ []) 5) :: (B23 ++ (B12 ++ []))) ++ N))) (fun w m => m) ?_
    have o38 : OwnS (some b37) ([(It.mk false ([164#8] : List (BitVec 8)) ([] : List (It)))] : List (It)).length 1 3 (([.bool false, .slice (((some b35)).map fun k => ⟨k, 0, none⟩) ([164#8] : List (BitVec 8)).length 1, .slice none 0 0] : List Value)) [] := ⟨by simp [ItRd], by simp [ItRd], (fun h => nomatch h), by simp⟩
    refine OW.slot (sl (some b37) 0 ([(It.mk false ([164#8] : List (BitVec 8)) ([] : List (It)))] : List (It)).length 1) (rfl) ?_
    refine OW.rot1 ?_
    obtain ⟨g44, hf⟩ := some_if hf
    have h49 := h25.app h41
    refine OW.appendOwn (s := 3) rfl rfl rfl rfl rfl rfl o29 (fun w m => m.rd0 (List.Mem.tail _ (List.Mem.head _)) (fun e => o38.nilc (by decide) e)) o38.n (h41.cell1 ItRd.one) (o38.zeroO (by decide)) (by decide) (by decide) (by first | omega | (simp only [i29, List.length_nil]; omega)) rfl rfl ((x22 ++ ([(It.mk false ([164#8] : List (BitVec 8)) ([] : List (It)))] : List (It))).length) (cs24 ++ (([.bool false, .slice (((some b35)).map fun k => ⟨k, 0, none⟩) ([164#8] : List (BitVec 8)).length 1, .slice none 0 0] : List Value))) (List.length_append ..).symm rfl (fun ob45 r46 c47 o48 => ?_)
    have m50 := o48.mx
    refine OW.rv (RV.move rfl) rfl ?_
    refine OW.rv (RV.len rfl rfl) rfl ?_
    refine OW.mem (M' := ((some b37), blk ((([.bool false, .slice (((some b35)).map fun k => ⟨k, 0, none⟩) ([164#8] : List (BitVec 8)).length 1, .slice none 0 0] : List Value)) ++ []) 29) :: (some b3, blk (u64s a1.toList) 25) :: (((ob45, blk ((cs24 ++ (([.bool false, .slice (((some b35)).map fun k => ⟨k, 0, none⟩) ([164#8] : List (BitVec 8)).length 1, .slice none 0 0] : List Value))) ++ r46) 29) :: (((some b35), blk ((u8s ([164#8] : List (BitVec 8))) ++ []) 5) :: (B23 ++ (B12 ++ [])))) ++ N)) (fun w m => m.pick [1, 2, 0] 3 rfl rfl) ?_
    replace va0 := va0.mono (Ψ := More w0 Φ ((ob45, blk ((cs24 ++ (([.bool false, .slice (((some b35)).map fun k => ⟨k, 0, none⟩) ([164#8] : List (BitVec 8)).length 1, .slice none 0 0] : List Value))) ++ r46) 29) :: (((some b35), blk ((u8s ([164#8] : List (BitVec 8))) ++ []) 5) :: (B23 ++ (B12 ++ []))))) (fun w q => More.mono (fun w m => (m).tail) q)
    replace va2 := va2.mono (Ψ := More w0 Φ ((ob45, blk ((cs24 ++ (([.bool false, .slice (((some b35)).map fun k => ⟨k, 0, none⟩) ([164#8] : List (BitVec 8)).length 1, .slice none 0 0] : List Value))) ++ r46) 29) :: (((some b35), blk ((u8s ([164#8] : List (BitVec 8))) ++ []) 5) :: (B23 ++ (B12 ++ []))))) (fun w q => More.mono (fun w m => (m).tail) q)
    replace ha2 := ha2.mono (ItRd.mono (Ψ := More w0 Φ ((ob45, blk ((cs24 ++ (([.bool false, .slice (((some b35)).map fun k => ⟨k, 0, none⟩) ([164#8] : List (BitVec 8)).length 1, .slice none 0 0] : List Value))) ++ r46) 29) :: (((some b35), blk ((u8s ([164#8] : List (BitVec 8))) ++ []) 5) :: (B23 ++ (B12 ++ []))))) (fun w q => More.mono (fun w m => (m).tail) q))
    replace v15 := v15.mono (Ψ := More w0 Φ ((ob45, blk ((cs24 ++ (([.bool false, .slice (((some b35)).map fun k => ⟨k, 0, none⟩) ([164#8] : List (BitVec 8)).length 1, .slice none 0 0] : List Value))) ++ r46) 29) :: (((some b35), blk ((u8s ([164#8] : List (BitVec 8))) ++ []) 5) :: (B23 ++ (B12 ++ []))))) (fun w q => More.mono (fun w m => (m).tail) q)
    replace v14 := v14.mono (Ψ := More w0 Φ ((ob45, blk ((cs24 ++ (([.bool false, .slice (((some b35)).map fun k => ⟨k, 0, none⟩) ([164#8] : List (BitVec 8)).length 1, .slice none 0 0] : List Value))) ++ r46) 29) :: (((some b35), blk ((u8s ([164#8] : List (BitVec 8))) ++ []) 5) :: (B23 ++ (B12 ++ []))))) (fun w q => More.mono (fun w m => (m).tail) q)
    replace h25 := h25.mono (ItRd.mono (Ψ := More w0 Φ ((ob45, blk ((cs24 ++ (([.bool false, .slice (((some b35)).map fun k => ⟨k, 0, none⟩) ([164#8] : List (BitVec 8)).length 1, .slice none 0 0] : List Value))) ++ r46) 29) :: (((some b35), blk ((u8s ([164#8] : List (BitVec 8))) ++ []) 5) :: (B23 ++ (B12 ++ []))))) (fun w q => More.mono (fun w m => (m).tail) q))
    replace v39 := v39.mono (Ψ := More w0 Φ ((ob45, blk ((cs24 ++ (([.bool false, .slice (((some b35)).map fun k => ⟨k, 0, none⟩) ([164#8] : List (BitVec 8)).length 1, .slice none 0 0] : List Value))) ++ r46) 29) :: (((some b35), blk ((u8s ([164#8] : List (BitVec 8))) ++ []) 5) :: (B23 ++ (B12 ++ []))))) (fun w q => More.mono (fun w m => (m).tail) q)
    replace h41 := h41.mono (ItRd.mono (Ψ := More w0 Φ ((ob45, blk ((cs24 ++ (([.bool false, .slice (((some b35)).map fun k => ⟨k, 0, none⟩) ([164#8] : List (BitVec 8)).length 1, .slice none 0 0] : List Value))) ++ r46) 29) :: (((some b35), blk ((u8s ([164#8] : List (BitVec 8))) ++ []) 5) :: (B23 ++ (B12 ++ []))))) (fun w q => More.mono (fun w m => (m).tail) q))
    replace h49 := h49.mono (ItRd.mono (Ψ := More w0 Φ ((ob45, blk ((cs24 ++ (([.bool false, .slice (((some b35)).map fun k => ⟨k, 0, none⟩) ([164#8] : List (BitVec 8)).length 1, .slice none 0 0] : List Value))) ++ r46) 29) :: (((some b35), blk ((u8s ([164#8] : List (BitVec 8))) ++ []) 5) :: (B23 ++ (B12 ++ []))))) (fun w q => More.mono (fun w m => (m).tail) q))
    have v51 : View (More w0 Φ ((ob45, blk ((cs24 ++ (([.bool false, .slice (((some b35)).map fun k => ⟨k, 0, none⟩) ([164#8] : List (BitVec 8)).length 1, .slice none 0 0] : List Value))) ++ r46) 29) :: (((some b35), blk ((u8s ([164#8] : List (BitVec 8))) ++ []) 5) :: (B23 ++ (B12 ++ []))))) ((ob45).map fun k => ⟨k, 0, none⟩) (x22 ++ ([(It.mk false ([164#8] : List (BitVec 8)) ([] : List (It)))] : List (It))).length c47 3 (cs24 ++ (([.bool false, .slice (((some b35)).map fun k => ⟨k, 0, none⟩) ([164#8] : List (BitVec 8)).length 1, .slice none 0 0] : List Value))) := o48.view (by decide) (fun w q => q.2.sublist (List.singleton_sublist.2 (List.mem_cons_self ..)))
    obtain ⟨g53, hf⟩ := some_if hf
    have hle := v51.le
    have hlen_ : (x22 ++ ([(It.mk false ([164#8] : List (BitVec 8)) ([] : List (It)))] : List (It))).length = (x22 ++ ([(It.mk false ([164#8] : List (BitVec 8)) ([] : List (It)))] : List (It))).length := rfl
    refine OW.rv (RV.cut_hi (a2.length) rfl rfl (by omega) rfl rfl (by omega)) rfl ?_
    refine OW.slot (.slice ((ob45).map fun k => ⟨k, 0, none⟩) ((x22 ++ ([(It.mk false ([164#8] : List (BitVec 8)) ([] : List (It)))] : List (It))).take a2.length).length c47) (by rw [show (((x22 ++ ([(It.mk false ([164#8] : List (BitVec 8)) ([] : List (It)))] : List (It))).take a2.length)).length = a2.length from List.length_take.trans (Nat.min_eq_left (by omega))]) ?_
    have v52 : View (More w0 Φ ((ob45, blk ((cs24 ++ (([.bool false, .slice (((some b35)).map fun k => ⟨k, 0, none⟩) ([164#8] : List (BitVec 8)).length 1, .slice none 0 0] : List Value))) ++ r46) 29) :: (((some b35), blk ((u8s ([164#8] : List (BitVec 8))) ++ []) 5) :: (B23 ++ (B12 ++ []))))) ((ob45).map fun k => ⟨k, 0, none⟩) ((x22 ++ ([(It.mk false ([164#8] : List (BitVec 8)) ([] : List (It)))] : List (It))).take a2.length).length c47 3 ((cs24 ++ (([.bool false, .slice (((some b35)).map fun k => ⟨k, 0, none⟩) ([164#8] : List (BitVec 8)).length 1, .slice none 0 0] : List Value))).take (a2.length * 3)) := v51.hiD (by omega)
    have h54 := h49.take ItRd.len a2.length
    have m55 := v52.mx
    refine OW.rv (RV.assign rfl) rfl ?_
    refine OW.nil ?_
    refine QW.then_n ?_
    refine CW.seq ?_
    refine CW.seq ?_
    obtain ⟨q56, hq57, hf⟩ := some_bind hf
    refine CW.cutJ (fun L' M' => ∃ p60 : Bool, ∃ B58 : List Ent, q56 = p60 ∧ (∀ w, Mem w0 w B58 → Mem w0 w ((ob45, blk ((cs24 ++ (([.bool false, .slice (((some b35)).map fun k => ⟨k, 0, none⟩) ([164#8] : List (BitVec 8)).length 1, .slice none 0 0] : List Value))) ++ r46) 29) :: (((some b35), blk ((u8s ([164#8] : List (BitVec 8))) ++ []) 5) :: (B23 ++ (B12 ++ []))))) ∧ L' = [(0, .slice A0_ a0.length c0_), (2, .slice A2_ a2.length c2_), (7, .slice A13 x11.length (x11.length + 9)), (8, .slice ((ob45).map fun k => ⟨k, 0, none⟩) ((x22 ++ ([(It.mk false ([164#8] : List (BitVec 8)) ([] : List (It)))] : List (It))).take a2.length).length c47), (47, .bool (p60))] ∧ M' = ((B58 ++ N))) ?_ ?_
    · rintro L62 M63 ⟨p60, B58, e61, hB59, e64, e65⟩
      rw [e64, e65]
      clear e64 e65 L62 M63
      clear hq57
      rw [e61] at hf
      clear e61
      try dsimp only at hf
      replace va0 := va0.mono (Ψ := More w0 Φ B58) (fun w q => More.mono (fun w m => hB59 w (m)) q)
      replace va2 := va2.mono (Ψ := More w0 Φ B58) (fun w q => More.mono (fun w m => hB59 w (m)) q)
      replace ha2 := ha2.mono (ItRd.mono (Ψ := More w0 Φ B58) (fun w q => More.mono (fun w m => hB59 w (m)) q))
      replace v15 := v15.mono (Ψ := More w0 Φ B58) (fun w q => More.mono (fun w m => hB59 w (m)) q)
      replace v14 := v14.mono (Ψ := More w0 Φ B58) (fun w q => More.mono (fun w m => hB59 w (m)) q)
      replace v52 := v52.mono (Ψ := More w0 Φ B58) (fun w q => More.mono (fun w m => hB59 w (m)) q)
      replace h54 := h54.mono (ItRd.mono (Ψ := More w0 Φ B58) (fun w q => More.mono (fun w m => hB59 w (m)) q))
      replace v51 := v51.mono (Ψ := More w0 Φ B58) (fun w q => More.mono (fun w m => hB59 w (m)) q)
      replace h49 := h49.mono (ItRd.mono (Ψ := More w0 Φ B58) (fun w q => More.mono (fun w m => hB59 w (m)) q))
      refine QW.then_n ?_
      by_cases h66 : p60 = true
      · replace hf := if_t hf h66
        refine CW.is_t rfl (h66) ?_
        refine CW.seq ?_
        refine CW.region ?_
        refine OW.rv (RV.assign rfl) rfl ?_
        refine OW.nil ?_
        refine QW.then_n ?_
        refine CW.ret ?_
        refine QW.then_r ?_
        have e0 := Option.some.inj hf
        subst e0
        refine QW.retG (rs := [.tmp 6]) ([.bool false]) (B58) rfl ?_ rfl ?_ ?_ _ (.inl rfl)
        · exact ⟨rfl, trivial⟩
        · exact rfl
        · exact (fun w m => m)
      · replace hf := if_f hf h66
        refine CW.is_f rfl (Bool.eq_false_iff.2 h66) ?_
        refine CW.skip ?_
        refine QW.then_n ?_
        refine CW.seq ?_
        obtain ⟨q67, hq68, hf⟩ := some_bind hf
        refine CW.cutJ (fun L' M' => ∃ p71 : Bool, ∃ B69 : List Ent, q67 = p71 ∧ (∀ w, Mem w0 w B69 → Mem w0 w B58) ∧ L' = [(2, .slice A2_ a2.length c2_), (8, .slice ((ob45).map fun k => ⟨k, 0, none⟩) ((x22 ++ ([(It.mk false ([164#8] : List (BitVec 8)) ([] : List (It)))] : List (It))).take a2.length).length c47), (9, .bool (p71))] ∧ M' = ((B69 ++ N))) ?_ ?_
        · rintro L73 M74 ⟨p71, B69, e72, hB70, e75, e76⟩
          rw [e75, e76]
          clear e75 e76 L73 M74
          clear hq68
          rw [e72] at hf
          clear e72
          try dsimp only at hf
          replace va2 := va2.mono (Ψ := More w0 Φ B69) (fun w q => More.mono (fun w m => hB70 w (m)) q)
          replace ha2 := ha2.mono (ItRd.mono (Ψ := More w0 Φ B69) (fun w q => More.mono (fun w m => hB70 w (m)) q))
          replace v52 := v52.mono (Ψ := More w0 Φ B69) (fun w q => More.mono (fun w m => hB70 w (m)) q)
          replace h54 := h54.mono (ItRd.mono (Ψ := More w0 Φ B69) (fun w q => More.mono (fun w m => hB70 w (m)) q))
          replace v51 := v51.mono (Ψ := More w0 Φ B69) (fun w q => More.mono (fun w m => hB70 w (m)) q)
          replace h49 := h49.mono (ItRd.mono (Ψ := More w0 Φ B69) (fun w q => More.mono (fun w m => hB70 w (m)) q))
          refine QW.then_n ?_
          refine CW.seq ?_
          obtain ⟨q77, hq78, hf⟩ := some_bind hf
          refine CW.cutJ (fun L' M' => ∃ p81 : Bool, ∃ B79 : List Ent, q77 = p81 ∧ (∀ w, Mem w0 w B79 → Mem w0 w B69) ∧ L' = [(6, .bool (p81))] ∧ M' = ((B79 ++ N))) ?_ ?_
          · rintro L83 M84 ⟨p81, B79, e82, hB80, e85, e86⟩
            rw [e85, e86]
            clear e85 e86 L83 M84
            clear hq78
            rw [e82] at hf
            clear e82
            try dsimp only at hf
            refine QW.then_n ?_
            refine CW.ret ?_
            have e0 := Option.some.inj hf
            subst e0
            refine QW.retG (rs := [.tmp 6]) ([.bool (p81)]) (B79) rfl ?_ rfl ?_ ?_ _ (.inl rfl)
            · exact ⟨rfl, trivial⟩
            · exact rfl
            · exact (fun w m => m)
          · skip
            refine CW.region ?_
            refine OW.rv (RV.move rfl) rfl ?_
            refine OW.rv (RV.move rfl) rfl ?_
            by_cases h87 : p71 = true
            · replace hq78 := if_t hq78 h87
              refine OW.slot (.bool true) (congrArg Value.bool (h87)) ?_
              refine OW.want rfl ?_
              refine OW.rv (RV.move rfl) rfl ?_
              refine OW.want rfl ?_
              refine OW.rv (RV.move rfl) rfl ?_
              refine OW.want rfl ?_
              refine OW.rv (RV.len rfl rfl) rfl ?_
              refine OW.want rfl ?_
              refine OW.rv (RV.add rfl rfl (by omega)) rfl ?_
              refine OW.slot (.int .i64 (((a2.length + 1) : Nat) : Int)) (by first | rfl | (congr 1) | (congr 1; omega)) ?_
              refine OW.want rfl ?_
              obtain ⟨g89, hq78⟩ := some_if hq78
              have hle := v51.le
              have hlen_ : (x22 ++ ([(It.mk false ([164#8] : List (BitVec 8)) ([] : List (It)))] : List (It))).length = (x22 ++ ([(It.mk false ([164#8] : List (BitVec 8)) ([] : List (It)))] : List (It))).length := rfl
              refine OW.rv (RV.cut_hi ((a2.length + 1)) rfl rfl (by omega) rfl rfl (by omega)) rfl ?_
              refine OW.slot (.slice ((ob45).map fun k => ⟨k, 0, none⟩) ((x22 ++ ([(It.mk false ([164#8] : List (BitVec 8)) ([] : List (It)))] : List (It))).take (a2.length + 1)).length c47) (by rw [show (((x22 ++ ([(It.mk false ([164#8] : List (BitVec 8)) ([] : List (It)))] : List (It))).take (a2.length + 1))).length = (a2.length + 1) from List.length_take.trans (Nat.min_eq_left (by omega))]) ?_
              have v88 : View (More w0 Φ B69) ((ob45).map fun k => ⟨k, 0, none⟩) ((x22 ++ ([(It.mk false ([164#8] : List (BitVec 8)) ([] : List (It)))] : List (It))).take (a2.length + 1)).length c47 3 ((cs24 ++ (([.bool false, .slice (((some b35)).map fun k => ⟨k, 0, none⟩) ([164#8] : List (BitVec 8)).length 1, .slice none 0 0] : List Value))).take ((a2.length + 1) * 3)) := v51.hiD (by omega)
              have h90 := h49.take ItRd.len (a2.length + 1)
              have m91 := v88.mx
              refine OW.want rfl ?_
              refine OW.rv (RV.move rfl) rfl ?_
              refine OW.want rfl ?_
              refine OW.rv (RV.len rfl rfl) rfl ?_
              refine OW.want rfl ?_
              obtain ⟨x92, hx93, hq78⟩ := some_bind hq78
              have hl94 := lt_of_at hx93
              refine OW.rv (RV.idx_rs (a2.length) rfl rfl rfl rfl rfl (v88.isSome (by decide) hl94) (by omega)) rfl ?_
              obtain ⟨cs95, h96, h97⟩ := h90.get ItRd.len hx93
              have h107 := h96
              obtain ⟨A98, c99, A101, c102, cs104, e106, v100, v103, h105⟩ := ItRd.opn h96
              subst e106
              have m108 := v100.mx
              have m109 := v103.mx
              refine OW.want rfl ?_
              refine OW.rv (RV.field_at rfl rfl rfl rfl) rfl ?_
              refine OW.want rfl ?_
              refine OW.rv (RV.load_at rfl rfl rfl (fun w m => v88.load (More.of hΦ 0 m rfl) h97 1 _ rfl)) rfl ?_
              refine OW.want rfl ?_
              refine OW.ofN (NV.bs1 rfl rfl rfl rfl rfl rfl) rfl (fun b110 => ?_)
              refine OW.mem (M' := (((some b110), blk ((u8s ([164#8] : List (BitVec 8))) ++ []) 5) :: (B69 ++ N))) (fun w m => by first | exact m | simpa [u8s] using m) ?_
              have o111 : OwnS (some b110) ([164#8] : List (BitVec 8)).length 1 1 (u8s ([164#8] : List (BitVec 8))) [] := ⟨by simp [u8s], by simp [u8s], (fun h => nomatch h), by simp⟩
              refine OW.slot (sl (some b110) 0 ([164#8] : List (BitVec 8)).length 1) (rfl) ?_
              refine OW.want rfl ?_
              refine OW.mem (M' := ((((some b110), blk ((u8s ([164#8] : List (BitVec 8))) ++ []) 5) :: B69) ++ N)) (fun w m => m.pick [0] 1 rfl rfl) ?_
              replace va2 := va2.mono (Ψ := More w0 Φ (((some b110), blk ((u8s ([164#8] : List (BitVec 8))) ++ []) 5) :: B69)) (fun w q => More.mono (fun w m => (m).tail) q)
              replace ha2 := ha2.mono (ItRd.mono (Ψ := More w0 Φ (((some b110), blk ((u8s ([164#8] : List (BitVec 8))) ++ []) 5) :: B69)) (fun w q => More.mono (fun w m => (m).tail) q))
              replace v52 := v52.mono (Ψ := More w0 Φ (((some b110), blk ((u8s ([164#8] : List (BitVec 8))) ++ []) 5) :: B69)) (fun w q => More.mono (fun w m => (m).tail) q)
              replace h54 := h54.mono (ItRd.mono (Ψ := More w0 Φ (((some b110), blk ((u8s ([164#8] : List (BitVec 8))) ++ []) 5) :: B69)) (fun w q => More.mono (fun w m => (m).tail) q))
              replace v51 := v51.mono (Ψ := More w0 Φ (((some b110), blk ((u8s ([164#8] : List (BitVec 8))) ++ []) 5) :: B69)) (fun w q => More.mono (fun w m => (m).tail) q)
              replace h49 := h49.mono (ItRd.mono (Ψ := More w0 Φ (((some b110), blk ((u8s ([164#8] : List (BitVec 8))) ++ []) 5) :: B69)) (fun w q => More.mono (fun w m => (m).tail) q))
              replace v88 := v88.mono (Ψ := More w0 Φ (((some b110), blk ((u8s ([164#8] : List (BitVec 8))) ++ []) 5) :: B69)) (fun w q => More.mono (fun w m => (m).tail) q)
              replace h90 := h90.mono (ItRd.mono (Ψ := More w0 Φ (((some b110), blk ((u8s ([164#8] : List (BitVec 8))) ++ []) 5) :: B69)) (fun w q => More.mono (fun w m => (m).tail) q))
              replace h107 := ItRd.mono (Ψ := More w0 Φ (((some b110), blk ((u8s ([164#8] : List (BitVec 8))) ++ []) 5) :: B69)) (fun w q => More.mono (fun w m => (m).tail) q) _ _ h107
              replace v100 := v100.mono (Ψ := More w0 Φ (((some b110), blk ((u8s ([164#8] : List (BitVec 8))) ++ []) 5) :: B69)) (fun w q => More.mono (fun w m => (m).tail) q)
              replace v103 := v103.mono (Ψ := More w0 Φ (((some b110), blk ((u8s ([164#8] : List (BitVec 8))) ++ []) 5) :: B69)) (fun w q => More.mono (fun w m => (m).tail) q)
              replace h105 := h105.mono (ItRd.mono (Ψ := More w0 Φ (((some b110), blk ((u8s ([164#8] : List (BitVec 8))) ++ []) 5) :: B69)) (fun w q => More.mono (fun w m => (m).tail) q))
              have v112 : View (More w0 Φ (((some b110), blk ((u8s ([164#8] : List (BitVec 8))) ++ []) 5) :: B69)) (((some b110)).map fun k => ⟨k, 0, none⟩) ([164#8] : List (BitVec 8)).length 1 1 (u8s ([164#8] : List (BitVec 8))) := o111.view (by decide) (fun w q => q.2.sublist (List.singleton_sublist.2 (List.mem_cons_self ..)))
              obtain ⟨x114, hx113, hq78⟩ := some_bind hq78
              refine OW.callG Try.call26 rfl (waybilllaw07_same_does w0 (More w0 Φ (((some b110), blk ((u8s ([164#8] : List (BitVec 8))) ++ []) 5) :: B69)) (((((some b110), blk ((u8s ([164#8] : List (BitVec 8))) ++ []) 5) :: B69) ++ N)) (fun w m => More.of hΦ 0 m rfl) A98 c99 x92.data (((some b110)).map fun k => ⟨k, 0, none⟩) 1 ([164#8] : List (BitVec 8)) x114 v100 v112 hx113) rfl rfl ?_
              rintro _ G115 rfl
              refine OW.mem (M' := (((((some b110), blk ((u8s ([164#8] : List (BitVec 8))) ++ []) 5) :: B69) ++ N))) (fun w m => m.appR) ?_
              refine OW.rv (RV.pick_t rfl rfl rfl) rfl ?_
              refine OW.rv (RV.assign rfl) rfl ?_
              refine OW.nil ?_
              exact QW.join ⟨(x114), (((some b110), blk ((u8s ([164#8] : List (BitVec 8))) ++ []) 5) :: B69), (Option.some.inj hq78).symm, (fun w m => (m).tail), rfl, rfl⟩ ⟨rfl, trivial⟩ (fun w m => m.pick [] 0 rfl rfl)
            · replace hq78 := if_f hq78 h87
              refine OW.slot (.bool false) (congrArg Value.bool (Bool.eq_false_iff.2 h87)) ?_
              refine OW.skip rfl rfl rfl ?_
              refine OW.skip rfl rfl rfl ?_
              refine OW.skip rfl rfl rfl ?_
              refine OW.skip rfl rfl rfl ?_
              refine OW.skip rfl rfl rfl ?_
              refine OW.skip rfl rfl rfl ?_
              refine OW.skip rfl rfl rfl ?_
              refine OW.skip rfl rfl rfl ?_
              refine OW.skip rfl rfl rfl ?_
              refine OW.skip rfl rfl rfl ?_
              refine OW.skip rfl rfl rfl ?_
              refine OW.skip rfl rfl rfl ?_
              refine OW.rv (RV.pick_f rfl rfl rfl) rfl ?_
              refine OW.rv (RV.assign rfl) rfl ?_
              refine OW.nil ?_
              exact QW.join ⟨false, B69, (Option.some.inj hq78).symm, (fun w m => m), rfl, rfl⟩ ⟨rfl, trivial⟩ (fun w m => m.pick [] 0 rfl rfl)
        · skip
          refine CW.region ?_
          refine OW.rv (RV.move rfl) rfl ?_
          obtain ⟨x118, hx117, hq68⟩ := some_bind hq68
          refine OW.callG Try.call24 rfl (rlp_List_does w0 (More w0 Φ B58) ((B58 ++ N)) (fun w m => More.of hΦ 0 m rfl) ((ob45).map fun k => ⟨k, 0, none⟩) c47 ((cs24 ++ (([.bool false, .slice (((some b35)).map fun k => ⟨k, 0, none⟩) ([164#8] : List (BitVec 8)).length 1, .slice none 0 0] : List Value))).take (a2.length * 3)) ((x22 ++ ([(It.mk false ([164#8] : List (BitVec 8)) ([] : List (It)))] : List (It))).take a2.length) x118 v52 h54 hx117) rfl rfl ?_
          rintro L122 M123 ⟨B119, cs120, h121, e124, e125⟩
          rw [e124, e125]
          clear e124 e125 L122 M123
          refine OW.mem (M' := (((B119 ++ B58) ++ N))) (fun w m => by have h := Mem.sinkAt (A := B119) m 0 0 rfl rfl; exact h) ?_
          replace va0 := va0.mono (Ψ := More w0 Φ (B119 ++ B58)) (fun w q => More.mono (fun w m => (m).appR) q)
          replace va2 := va2.mono (Ψ := More w0 Φ (B119 ++ B58)) (fun w q => More.mono (fun w m => (m).appR) q)
          replace ha2 := ha2.mono (ItRd.mono (Ψ := More w0 Φ (B119 ++ B58)) (fun w q => More.mono (fun w m => (m).appR) q))
          replace v15 := v15.mono (Ψ := More w0 Φ (B119 ++ B58)) (fun w q => More.mono (fun w m => (m).appR) q)
          replace v14 := v14.mono (Ψ := More w0 Φ (B119 ++ B58)) (fun w q => More.mono (fun w m => (m).appR) q)
          replace v52 := v52.mono (Ψ := More w0 Φ (B119 ++ B58)) (fun w q => More.mono (fun w m => (m).appR) q)
          replace h54 := h54.mono (ItRd.mono (Ψ := More w0 Φ (B119 ++ B58)) (fun w q => More.mono (fun w m => (m).appR) q))
          replace v51 := v51.mono (Ψ := More w0 Φ (B119 ++ B58)) (fun w q => More.mono (fun w m => (m).appR) q)
          replace h49 := h49.mono (ItRd.mono (Ψ := More w0 Φ (B119 ++ B58)) (fun w q => More.mono (fun w m => (m).appR) q))
          replace h121 := ItRd.mono (Ψ := (More w0 Φ (B119 ++ B58))) (fun w q => More.flat q) _ _ h121
          have h135 := h121
          obtain ⟨A126, c127, A129, c130, cs132, e134, v128, v131, h133⟩ := ItRd.opn h121
          subst e134
          have m136 := v128.mx
          have m137 := v131.mx
          have m138 := v128.mx
          have m139 := v131.mx
          refine OW.rv (RV.move rfl) rfl ?_
          obtain ⟨x141, hx140, hq68⟩ := some_bind hq68
          refine OW.callG Try.call25 rfl (waybillref07_List_does w0 (More w0 Φ (B119 ++ B58)) (((B119 ++ B58) ++ N)) (fun w m => More.of hΦ 0 m rfl) A2_ c2_ cs2_ a2 x141 va2 ha2 hx140) rfl rfl ?_
          rintro L145 M146 ⟨B142, cs143, h144, e147, e148⟩
          rw [e147, e148]
          clear e147 e148 L145 M146
          refine OW.mem (M' := (((B142 ++ (B119 ++ B58)) ++ N))) (fun w m => by have h := Mem.sinkAt (A := B142) m 0 0 rfl rfl; exact h) ?_
          replace va0 := va0.mono (Ψ := More w0 Φ (B142 ++ (B119 ++ B58))) (fun w q => More.mono (fun w m => (m).appR) q)
          replace va2 := va2.mono (Ψ := More w0 Φ (B142 ++ (B119 ++ B58))) (fun w q => More.mono (fun w m => (m).appR) q)
          replace ha2 := ha2.mono (ItRd.mono (Ψ := More w0 Φ (B142 ++ (B119 ++ B58))) (fun w q => More.mono (fun w m => (m).appR) q))
          replace v15 := v15.mono (Ψ := More w0 Φ (B142 ++ (B119 ++ B58))) (fun w q => More.mono (fun w m => (m).appR) q)
          replace v14 := v14.mono (Ψ := More w0 Φ (B142 ++ (B119 ++ B58))) (fun w q => More.mono (fun w m => (m).appR) q)
          replace v52 := v52.mono (Ψ := More w0 Φ (B142 ++ (B119 ++ B58))) (fun w q => More.mono (fun w m => (m).appR) q)
          replace h54 := h54.mono (ItRd.mono (Ψ := More w0 Φ (B142 ++ (B119 ++ B58))) (fun w q => More.mono (fun w m => (m).appR) q))
          replace v51 := v51.mono (Ψ := More w0 Φ (B142 ++ (B119 ++ B58))) (fun w q => More.mono (fun w m => (m).appR) q)
          replace h49 := h49.mono (ItRd.mono (Ψ := More w0 Φ (B142 ++ (B119 ++ B58))) (fun w q => More.mono (fun w m => (m).appR) q))
          replace h135 := ItRd.mono (Ψ := More w0 Φ (B142 ++ (B119 ++ B58))) (fun w q => More.mono (fun w m => (m).appR) q) _ _ h135
          replace v128 := v128.mono (Ψ := More w0 Φ (B142 ++ (B119 ++ B58))) (fun w q => More.mono (fun w m => (m).appR) q)
          replace v131 := v131.mono (Ψ := More w0 Φ (B142 ++ (B119 ++ B58))) (fun w q => More.mono (fun w m => (m).appR) q)
          replace h133 := h133.mono (ItRd.mono (Ψ := More w0 Φ (B142 ++ (B119 ++ B58))) (fun w q => More.mono (fun w m => (m).appR) q))
          replace h144 := ItRd.mono (Ψ := (More w0 Φ (B142 ++ (B119 ++ B58)))) (fun w q => More.flat q) _ _ h144
          have h158 := h144
          obtain ⟨A149, c150, A152, c153, cs155, e157, v151, v154, h156⟩ := ItRd.opn h144
          subst e157
          have m159 := v151.mx
          have m160 := v154.mx
          have m161 := v151.mx
          have m162 := v154.mx
          obtain ⟨x164, hx163, hq68⟩ := some_bind hq68
          refine OW.callG Try.call17 rfl (waybillref07_Same_does w0 (More w0 Φ (B142 ++ (B119 ++ B58))) (((B142 ++ (B119 ++ B58)) ++ N)) (fun w m => More.of hΦ 0 m rfl) [.bool (x118.list), .slice A126 x118.data.length c127, .slice A129 x118.items.length c130] x118 [.bool (x141.list), .slice A149 x141.data.length c150, .slice A152 x141.items.length c153] x141 x164 h135 h158 hx163) rfl rfl ?_
          rintro _ G165 rfl
          refine OW.mem (M' := (((B142 ++ (B119 ++ B58)) ++ N))) (fun w m => m.appR) ?_
          refine OW.rv (RV.move rfl) rfl ?_
          by_cases h167 : x164 = true
          · replace hq68 := if_t hq68 h167
            refine OW.slot (.bool true) (congrArg Value.bool (h167)) ?_
            refine OW.want rfl ?_
            refine OW.rv (RV.move rfl) rfl ?_
            refine OW.want rfl ?_
            refine OW.rv (RV.move rfl) rfl ?_
            refine OW.want rfl ?_
            obtain ⟨x169, hx168, hq68⟩ := some_bind hq68
            refine OW.callG Try.call26 rfl (waybilllaw07_same_does w0 (More w0 Φ (B142 ++ (B119 ++ B58))) (((B142 ++ (B119 ++ B58)) ++ N)) (fun w m => More.of hΦ 0 m rfl) A13 (x11.length + 9) x11 A0_ c0_ a0 x169 v15 va0 hx168) rfl rfl ?_
            rintro _ G170 rfl
            refine OW.mem (M' := (((B142 ++ (B119 ++ B58)) ++ N))) (fun w m => m.appR) ?_
            refine OW.rv (RV.pick_t rfl rfl rfl) rfl ?_
            refine OW.rv (RV.move rfl) rfl ?_
            by_cases h172 : x169 = true
            · replace hq68 := if_t hq68 h172
              refine OW.slot (.bool true) (congrArg Value.bool (h172)) ?_
              refine OW.want rfl ?_
              refine OW.rv (RV.move rfl) rfl ?_
              refine OW.want rfl ?_
              obtain ⟨x174, hx173, hq68⟩ := some_bind hq68
              refine OW.callG Try.call27 rfl (waybilllaw07_spared_does w0 (More w0 Φ (B142 ++ (B119 ++ B58))) (((B142 ++ (B119 ++ B58)) ++ N)) (fun w m => More.of hΦ 0 m rfl) A13 x11 x174 v14 hx173) rfl rfl ?_
              rintro _ G175 rfl
              refine OW.mem (M' := (((B142 ++ (B119 ++ B58)) ++ N))) (fun w m => m.appR) ?_
              refine OW.rv (RV.pick_t rfl rfl rfl) rfl ?_
              refine OW.rv (RV.move rfl) rfl ?_
              by_cases h177 : x174 = true
              · replace hq68 := if_t hq68 h177
                refine OW.slot (.bool true) (congrArg Value.bool (h177)) ?_
                refine OW.want rfl ?_
                refine OW.rv (RV.move rfl) rfl ?_
                refine OW.want rfl ?_
                refine OW.rv (RV.move rfl) rfl ?_
                refine OW.want rfl ?_
                obtain ⟨x179, hx178, hq68⟩ := some_bind hq68
                refine OW.callG Try.call28 rfl (waybilllaw07_items_does w0 (More w0 Φ (B142 ++ (B119 ++ B58))) (((B142 ++ (B119 ++ B58)) ++ N)) (fun w m => More.of hΦ 0 m rfl) ((ob45).map fun k => ⟨k, 0, none⟩) c47 ((cs24 ++ (([.bool false, .slice (((some b35)).map fun k => ⟨k, 0, none⟩) ([164#8] : List (BitVec 8)).length 1, .slice none 0 0] : List Value))).take (a2.length * 3)) ((x22 ++ ([(It.mk false ([164#8] : List (BitVec 8)) ([] : List (It)))] : List (It))).take a2.length) A2_ c2_ cs2_ a2 x179 v52 h54 va2 ha2 hx178) rfl rfl ?_
                rintro _ G180 rfl
                refine OW.mem (M' := (((B142 ++ (B119 ++ B58)) ++ N))) (fun w m => m.appR) ?_
                refine OW.rv (RV.pick_t rfl rfl rfl) rfl ?_
                refine OW.rv (RV.assign rfl) rfl ?_
                refine OW.nil ?_
                exact QW.join ⟨(x179), (B142 ++ (B119 ++ B58)), (Option.some.inj hq68).symm, (fun w m => ((m).appR).appR), rfl, rfl⟩ ⟨rfl, rfl, rfl, trivial⟩ (fun w m => m.pick [] 0 rfl rfl)
              · replace hq68 := if_f hq68 h177
                refine OW.slot (.bool false) (congrArg Value.bool (Bool.eq_false_iff.2 h177)) ?_
                refine OW.skip rfl rfl rfl ?_
                refine OW.skip rfl rfl rfl ?_
                refine OW.skip rfl rfl rfl ?_
                refine OW.rv (RV.pick_f rfl rfl rfl) rfl ?_
                refine OW.rv (RV.assign rfl) rfl ?_
                refine OW.nil ?_
                exact QW.join ⟨false, (B142 ++ (B119 ++ B58)), (Option.some.inj hq68).symm, (fun w m => ((m).appR).appR), rfl, rfl⟩ ⟨rfl, rfl, rfl, trivial⟩ (fun w m => m.pick [] 0 rfl rfl)
            · replace hq68 := if_f hq68 h172
              refine OW.slot (.bool false) (congrArg Value.bool (Bool.eq_false_iff.2 h172)) ?_
              refine OW.skip rfl rfl rfl ?_
              refine OW.skip rfl rfl rfl ?_
              refine OW.rv (RV.pick_f rfl rfl rfl) rfl ?_
              refine OW.rv (RV.move rfl) rfl ?_
              refine OW.skip rfl rfl rfl ?_
              refine OW.skip rfl rfl rfl ?_
              refine OW.skip rfl rfl rfl ?_
              refine OW.rv (RV.pick_f rfl rfl rfl) rfl ?_
              refine OW.rv (RV.assign rfl) rfl ?_
              refine OW.nil ?_
              exact QW.join ⟨false, (B142 ++ (B119 ++ B58)), (Option.some.inj hq68).symm, (fun w m => ((m).appR).appR), rfl, rfl⟩ ⟨rfl, rfl, rfl, trivial⟩ (fun w m => m.pick [] 0 rfl rfl)
          · replace hq68 := if_f hq68 h167
            refine OW.slot (.bool false) (congrArg Value.bool (Bool.eq_false_iff.2 h167)) ?_
            refine OW.skip rfl rfl rfl ?_
            refine OW.skip rfl rfl rfl ?_
            refine OW.skip rfl rfl rfl ?_
            refine OW.rv (RV.pick_f rfl rfl rfl) rfl ?_
            refine OW.rv (RV.move rfl) rfl ?_
            refine OW.skip rfl rfl rfl ?_
            refine OW.skip rfl rfl rfl ?_
            refine OW.rv (RV.pick_f rfl rfl rfl) rfl ?_
            refine OW.rv (RV.move rfl) rfl ?_
            refine OW.skip rfl rfl rfl ?_
            refine OW.skip rfl rfl rfl ?_
            refine OW.skip rfl rfl rfl ?_
            refine OW.rv (RV.pick_f rfl rfl rfl) rfl ?_
            refine OW.rv (RV.assign rfl) rfl ?_
            refine OW.nil ?_
            exact QW.join ⟨false, (B142 ++ (B119 ++ B58)), (Option.some.inj hq68).symm, (fun w m => ((m).appR).appR), rfl, rfl⟩ ⟨rfl, rfl, rfl, trivial⟩ (fun w m => m.pick [] 0 rfl rfl)
    · skip
      refine CW.drawsU 24 mixed (by kernel_rfl) rfl ?_
      refine UW.rv 0 rfl (by kernel_rfl) rfl (RV.move rfl) rfl ?_
      refine UW.rv 2 rfl (by kernel_rfl) rfl (RV.move rfl) rfl ?_
      obtain ⟨x183, hx182, hq57⟩ := some_bind hq57
      refine UW.callG 1 rfl (by kernel_rfl) rfl Try.call18 rfl (fun N' hN' => rlp_Text_does w0 (More w0 Φ ((ob45, blk ((cs24 ++ (([.bool false, .slice (((some b35)).map fun k => ⟨k, 0, none⟩) ([164#8] : List (BitVec 8)).length 1, .slice none 0 0] : List Value))) ++ r46) 29) :: (((some b35), blk ((u8s ([164#8] : List (BitVec 8))) ++ []) 5) :: (B23 ++ (B12 ++ []))))) N' (fun w m => More.of hΦ 2 (hN' w m) rfl) A13 (x11.length + 9) x11 x183 v15 hx182) rfl ?_
      rintro L187 M188 ⟨B184, cs185, h186, e189, e190⟩
      rw [e189, e190]
      clear e189 e190 L187 M188
      refine UW.mem (M' := (((some b37), blk ((([.bool false, .slice (((some b35)).map fun k => ⟨k, 0, none⟩) ([164#8] : List (BitVec 8)).length 1, .slice none 0 0] : List Value)) ++ []) 29) :: (some b3, blk (u64s a1.toList) 25) :: ((B184 ++ ((ob45, blk ((cs24 ++ (([.bool false, .slice (((some b35)).map fun k => ⟨k, 0, none⟩) ([164#8] : List (BitVec 8)).length 1, .slice none 0 0] : List Value))) ++ r46) 29) :: (((some b35), blk ((u8s ([164#8] : List (BitVec 8))) ++ []) 5) :: (B23 ++ (B12 ++ []))))) ++ N))) (fun w m => by have h := Mem.sinkAt (A := B184) m 0 2 rfl rfl; exact h) ?_
      replace va0 := va0.mono (Ψ := More w0 Φ (B184 ++ ((ob45, blk ((cs24 ++ (([.bool false, .slice (((some b35)).map fun k => ⟨k, 0, none⟩) ([164#8] : List (BitVec 8)).length 1, .slice none 0 0] : List Value))) ++ r46) 29) :: (((some b35), blk ((u8s ([164#8] : List (BitVec 8))) ++ []) 5) :: (B23 ++ (B12 ++ [])))))) (fun w q => More.mono (fun w m => (m).appR) q)
      replace va2 := va2.mono (Ψ := More w0 Φ (B184 ++ ((ob45, blk ((cs24 ++ (([.bool false, .slice (((some b35)).map fun k => ⟨k, 0, none⟩) ([164#8] : List (BitVec 8)).length 1, .slice none 0 0] : List Value))) ++ r46) 29) :: (((some b35), blk ((u8s ([164#8] : List (BitVec 8))) ++ []) 5) :: (B23 ++ (B12 ++ [])))))) (fun w q => More.mono (fun w m => (m).appR) q)
      replace ha2 := ha2.mono (ItRd.mono (Ψ := More w0 Φ (B184 ++ ((ob45, blk ((cs24 ++ (([.bool false, .slice (((some b35)).map fun k => ⟨k, 0, none⟩) ([164#8] : List (BitVec 8)).length 1, .slice none 0 0] : List Value))) ++ r46) 29) :: (((some b35), blk ((u8s ([164#8] : List (BitVec 8))) ++ []) 5) :: (B23 ++ (B12 ++ [])))))) (fun w q => More.mono (fun w m => (m).appR) q))
      replace v15 := v15.mono (Ψ := More w0 Φ (B184 ++ ((ob45, blk ((cs24 ++ (([.bool false, .slice (((some b35)).map fun k => ⟨k, 0, none⟩) ([164#8] : List (BitVec 8)).length 1, .slice none 0 0] : List Value))) ++ r46) 29) :: (((some b35), blk ((u8s ([164#8] : List (BitVec 8))) ++ []) 5) :: (B23 ++ (B12 ++ [])))))) (fun w q => More.mono (fun w m => (m).appR) q)
      replace v14 := v14.mono (Ψ := More w0 Φ (B184 ++ ((ob45, blk ((cs24 ++ (([.bool false, .slice (((some b35)).map fun k => ⟨k, 0, none⟩) ([164#8] : List (BitVec 8)).length 1, .slice none 0 0] : List Value))) ++ r46) 29) :: (((some b35), blk ((u8s ([164#8] : List (BitVec 8))) ++ []) 5) :: (B23 ++ (B12 ++ [])))))) (fun w q => More.mono (fun w m => (m).appR) q)
      replace h25 := h25.mono (ItRd.mono (Ψ := More w0 Φ (B184 ++ ((ob45, blk ((cs24 ++ (([.bool false, .slice (((some b35)).map fun k => ⟨k, 0, none⟩) ([164#8] : List (BitVec 8)).length 1, .slice none 0 0] : List Value))) ++ r46) 29) :: (((some b35), blk ((u8s ([164#8] : List (BitVec 8))) ++ []) 5) :: (B23 ++ (B12 ++ [])))))) (fun w q => More.mono (fun w m => (m).appR) q))
      replace v39 := v39.mono (Ψ := More w0 Φ (B184 ++ ((ob45, blk ((cs24 ++ (([.bool false, .slice (((some b35)).map fun k => ⟨k, 0, none⟩) ([164#8] : List (BitVec 8)).length 1, .slice none 0 0] : List Value))) ++ r46) 29) :: (((some b35), blk ((u8s ([164#8] : List (BitVec 8))) ++ []) 5) :: (B23 ++ (B12 ++ [])))))) (fun w q => More.mono (fun w m => (m).appR) q)
      replace h41 := h41.mono (ItRd.mono (Ψ := More w0 Φ (B184 ++ ((ob45, blk ((cs24 ++ (([.bool false, .slice (((some b35)).map fun k => ⟨k, 0, none⟩) ([164#8] : List (BitVec 8)).length 1, .slice none 0 0] : List Value))) ++ r46) 29) :: (((some b35), blk ((u8s ([164#8] : List (BitVec 8))) ++ []) 5) :: (B23 ++ (B12 ++ [])))))) (fun w q => More.mono (fun w m => (m).appR) q))
      replace v51 := v51.mono (Ψ := More w0 Φ (B184 ++ ((ob45, blk ((cs24 ++ (([.bool false, .slice (((some b35)).map fun k => ⟨k, 0, none⟩) ([164#8] : List (BitVec 8)).length 1, .slice none 0 0] : List Value))) ++ r46) 29) :: (((some b35), blk ((u8s ([164#8] : List (BitVec 8))) ++ []) 5) :: (B23 ++ (B12 ++ [])))))) (fun w q => More.mono (fun w m => (m).appR) q)
      replace h49 := h49.mono (ItRd.mono (Ψ := More w0 Φ (B184 ++ ((ob45, blk ((cs24 ++ (([.bool false, .slice (((some b35)).map fun k => ⟨k, 0, none⟩) ([164#8] : List (BitVec 8)).length 1, .slice none 0 0] : List Value))) ++ r46) 29) :: (((some b35), blk ((u8s ([164#8] : List (BitVec 8))) ++ []) 5) :: (B23 ++ (B12 ++ [])))))) (fun w q => More.mono (fun w m => (m).appR) q))
      replace v52 := v52.mono (Ψ := More w0 Φ (B184 ++ ((ob45, blk ((cs24 ++ (([.bool false, .slice (((some b35)).map fun k => ⟨k, 0, none⟩) ([164#8] : List (BitVec 8)).length 1, .slice none 0 0] : List Value))) ++ r46) 29) :: (((some b35), blk ((u8s ([164#8] : List (BitVec 8))) ++ []) 5) :: (B23 ++ (B12 ++ [])))))) (fun w q => More.mono (fun w m => (m).appR) q)
      replace h54 := h54.mono (ItRd.mono (Ψ := More w0 Φ (B184 ++ ((ob45, blk ((cs24 ++ (([.bool false, .slice (((some b35)).map fun k => ⟨k, 0, none⟩) ([164#8] : List (BitVec 8)).length 1, .slice none 0 0] : List Value))) ++ r46) 29) :: (((some b35), blk ((u8s ([164#8] : List (BitVec 8))) ++ []) 5) :: (B23 ++ (B12 ++ [])))))) (fun w q => More.mono (fun w m => (m).appR) q))
      replace h186 := ItRd.mono (Ψ := (More w0 Φ (B184 ++ ((ob45, blk ((cs24 ++ (([.bool false, .slice (((some b35)).map fun k => ⟨k, 0, none⟩) ([164#8] : List (BitVec 8)).length 1, .slice none 0 0] : List Value))) ++ r46) 29) :: (((some b35), blk ((u8s ([164#8] : List (BitVec 8))) ++ []) 5) :: (B23 ++ (B12 ++ []))))))) (fun w q => More.flat q) _ _ h186
      have h200 := h186
      obtain ⟨A191, c192, A194, c195, cs197, e199, v193, v196, h198⟩ := ItRd.opn h186
      subst e199
      have m201 := v193.mx
      have m202 := v196.mx
      have m203 := v193.mx
      have m204 := v196.mx
      obtain ⟨x206, hx205, hq57⟩ := some_bind hq57
      refine UW.callG 3 rfl (by kernel_rfl) rfl Try.call19 rfl (fun N' hN' => waybillref07_Text_does w0 (More w0 Φ (B184 ++ ((ob45, blk ((cs24 ++ (([.bool false, .slice (((some b35)).map fun k => ⟨k, 0, none⟩) ([164#8] : List (BitVec 8)).length 1, .slice none 0 0] : List Value))) ++ r46) 29) :: (((some b35), blk ((u8s ([164#8] : List (BitVec 8))) ++ []) 5) :: (B23 ++ (B12 ++ [])))))) N' (fun w m => More.of hΦ 2 (hN' w m) rfl) A0_ c0_ a0 x206 va0 hx205) rfl ?_
      rintro L210 M211 ⟨B207, cs208, h209, e212, e213⟩
      rw [e212, e213]
      clear e212 e213 L210 M211
      refine UW.mem (M' := (((some b37), blk ((([.bool false, .slice (((some b35)).map fun k => ⟨k, 0, none⟩) ([164#8] : List (BitVec 8)).length 1, .slice none 0 0] : List Value)) ++ []) 29) :: (some b3, blk (u64s a1.toList) 25) :: ((B207 ++ (B184 ++ ((ob45, blk ((cs24 ++ (([.bool false, .slice (((some b35)).map fun k => ⟨k, 0, none⟩) ([164#8] : List (BitVec 8)).length 1, .slice none 0 0] : List Value))) ++ r46) 29) :: (((some b35), blk ((u8s ([164#8] : List (BitVec 8))) ++ []) 5) :: (B23 ++ (B12 ++ [])))))) ++ N))) (fun w m => by have h := Mem.sinkAt (A := B207) m 0 2 rfl rfl; exact h) ?_
      replace va0 := va0.mono (Ψ := More w0 Φ (B207 ++ (B184 ++ ((ob45, blk ((cs24 ++ (([.bool false, .slice (((some b35)).map fun k => ⟨k, 0, none⟩) ([164#8] : List (BitVec 8)).length 1, .slice none 0 0] : List Value))) ++ r46) 29) :: (((some b35), blk ((u8s ([164#8] : List (BitVec 8))) ++ []) 5) :: (B23 ++ (B12 ++ []))))))) (fun w q => More.mono (fun w m => (m).appR) q)
      replace va2 := va2.mono (Ψ := More w0 Φ (B207 ++ (B184 ++ ((ob45, blk ((cs24 ++ (([.bool false, .slice (((some b35)).map fun k => ⟨k, 0, none⟩) ([164#8] : List (BitVec 8)).length 1, .slice none 0 0] : List Value))) ++ r46) 29) :: (((some b35), blk ((u8s ([164#8] : List (BitVec 8))) ++ []) 5) :: (B23 ++ (B12 ++ []))))))) (fun w q => More.mono (fun w m => (m).appR) q)
      replace ha2 := ha2.mono (ItRd.mono (Ψ := More w0 Φ (B207 ++ (B184 ++ ((ob45, blk ((cs24 ++ (([.bool false, .slice (((some b35)).map fun k => ⟨k, 0, none⟩) ([164#8] : List (BitVec 8)).length 1, .slice none 0 0] : List Value))) ++ r46) 29) :: (((some b35), blk ((u8s ([164#8] : List (BitVec 8))) ++ []) 5) :: (B23 ++ (B12 ++ []))))))) (fun w q => More.mono (fun w m => (m).appR) q))
      replace v15 := v15.mono (Ψ := More w0 Φ (B207 ++ (B184 ++ ((ob45, blk ((cs24 ++ (([.bool false, .slice (((some b35)).map fun k => ⟨k, 0, none⟩) ([164#8] : List (BitVec 8)).length 1, .slice none 0 0] : List Value))) ++ r46) 29) :: (((some b35), blk ((u8s ([164#8] : List (BitVec 8))) ++ []) 5) :: (B23 ++ (B12 ++ []))))))) (fun w q => More.mono (fun w m => (m).appR) q)
      replace v14 := v14.mono (Ψ := More w0 Φ (B207 ++ (B184 ++ ((ob45, blk ((cs24 ++ (([.bool false, .slice (((some b35)).map fun k => ⟨k, 0, none⟩) ([164#8] : List (BitVec 8)).length 1, .slice none 0 0] : List Value))) ++ r46) 29) :: (((some b35), blk ((u8s ([164#8] : List (BitVec 8))) ++ []) 5) :: (B23 ++ (B12 ++ []))))))) (fun w q => More.mono (fun w m => (m).appR) q)
      replace h25 := h25.mono (ItRd.mono (Ψ := More w0 Φ (B207 ++ (B184 ++ ((ob45, blk ((cs24 ++ (([.bool false, .slice (((some b35)).map fun k => ⟨k, 0, none⟩) ([164#8] : List (BitVec 8)).length 1, .slice none 0 0] : List Value))) ++ r46) 29) :: (((some b35), blk ((u8s ([164#8] : List (BitVec 8))) ++ []) 5) :: (B23 ++ (B12 ++ []))))))) (fun w q => More.mono (fun w m => (m).appR) q))
      replace v39 := v39.mono (Ψ := More w0 Φ (B207 ++ (B184 ++ ((ob45, blk ((cs24 ++ (([.bool false, .slice (((some b35)).map fun k => ⟨k, 0, none⟩) ([164#8] : List (BitVec 8)).length 1, .slice none 0 0] : List Value))) ++ r46) 29) :: (((some b35), blk ((u8s ([164#8] : List (BitVec 8))) ++ []) 5) :: (B23 ++ (B12 ++ []))))))) (fun w q => More.mono (fun w m => (m).appR) q)
      replace h41 := h41.mono (ItRd.mono (Ψ := More w0 Φ (B207 ++ (B184 ++ ((ob45, blk ((cs24 ++ (([.bool false, .slice (((some b35)).map fun k => ⟨k, 0, none⟩) ([164#8] : List (BitVec 8)).length 1, .slice none 0 0] : List Value))) ++ r46) 29) :: (((some b35), blk ((u8s ([164#8] : List (BitVec 8))) ++ []) 5) :: (B23 ++ (B12 ++ []))))))) (fun w q => More.mono (fun w m => (m).appR) q))
      replace v51 := v51.mono (Ψ := More w0 Φ (B207 ++ (B184 ++ ((ob45, blk ((cs24 ++ (([.bool false, .slice (((some b35)).map fun k => ⟨k, 0, none⟩) ([164#8] : List (BitVec 8)).length 1, .slice none 0 0] : List Value))) ++ r46) 29) :: (((some b35), blk ((u8s ([164#8] : List (BitVec 8))) ++ []) 5) :: (B23 ++ (B12 ++ []))))))) (fun w q => More.mono (fun w m => (m).appR) q)
      replace h49 := h49.mono (ItRd.mono (Ψ := More w0 Φ (B207 ++ (B184 ++ ((ob45, blk ((cs24 ++ (([.bool false, .slice (((some b35)).map fun k => ⟨k, 0, none⟩) ([164#8] : List (BitVec 8)).length 1, .slice none 0 0] : List Value))) ++ r46) 29) :: (((some b35), blk ((u8s ([164#8] : List (BitVec 8))) ++ []) 5) :: (B23 ++ (B12 ++ []))))))) (fun w q => More.mono (fun w m => (m).appR) q))
      replace v52 := v52.mono (Ψ := More w0 Φ (B207 ++ (B184 ++ ((ob45, blk ((cs24 ++ (([.bool false, .slice (((some b35)).map fun k => ⟨k, 0, none⟩) ([164#8] : List (BitVec 8)).length 1, .slice none 0 0] : List Value))) ++ r46) 29) :: (((some b35), blk ((u8s ([164#8] : List (BitVec 8))) ++ []) 5) :: (B23 ++ (B12 ++ []))))))) (fun w q => More.mono (fun w m => (m).appR) q)
      replace h54 := h54.mono (ItRd.mono (Ψ := More w0 Φ (B207 ++ (B184 ++ ((ob45, blk ((cs24 ++ (([.bool false, .slice (((some b35)).map fun k => ⟨k, 0, none⟩) ([164#8] : List (BitVec 8)).length 1, .slice none 0 0] : List Value))) ++ r46) 29) :: (((some b35), blk ((u8s ([164#8] : List (BitVec 8))) ++ []) 5) :: (B23 ++ (B12 ++ []))))))) (fun w q => More.mono (fun w m => (m).appR) q))
      replace h200 := ItRd.mono (Ψ := More w0 Φ (B207 ++ (B184 ++ ((ob45, blk ((cs24 ++ (([.bool false, .slice (((some b35)).map fun k => ⟨k, 0, none⟩) ([164#8] : List (BitVec 8)).length 1, .slice none 0 0] : List Value))) ++ r46) 29) :: (((some b35), blk ((u8s ([164#8] : List (BitVec 8))) ++ []) 5) :: (B23 ++ (B12 ++ []))))))) (fun w q => More.mono (fun w m => (m).appR) q) _ _ h200
      replace v193 := v193.mono (Ψ := More w0 Φ (B207 ++ (B184 ++ ((ob45, blk ((cs24 ++ (([.bool false, .slice (((some b35)).map fun k => ⟨k, 0, none⟩) ([164#8] : List (BitVec 8)).length 1, .slice none 0 0] : List Value))) ++ r46) 29) :: (((some b35), blk ((u8s ([164#8] : List (BitVec 8))) ++ []) 5) :: (B23 ++ (B12 ++ []))))))) (fun w q => More.mono (fun w m => (m).appR) q)
      replace v196 := v196.mono (Ψ := More w0 Φ (B207 ++ (B184 ++ ((ob45, blk ((cs24 ++ (([.bool false, .slice (((some b35)).map fun k => ⟨k, 0, none⟩) ([164#8] : List (BitVec 8)).length 1, .slice none 0 0] : List Value))) ++ r46) 29) :: (((some b35), blk ((u8s ([164#8] : List (BitVec 8))) ++ []) 5) :: (B23 ++ (B12 ++ []))))))) (fun w q => More.mono (fun w m => (m).appR) q)
      replace h198 := h198.mono (ItRd.mono (Ψ := More w0 Φ (B207 ++ (B184 ++ ((ob45, blk ((cs24 ++ (([.bool false, .slice (((some b35)).map fun k => ⟨k, 0, none⟩) ([164#8] : List (BitVec 8)).length 1, .slice none 0 0] : List Value))) ++ r46) 29) :: (((some b35), blk ((u8s ([164#8] : List (BitVec 8))) ++ []) 5) :: (B23 ++ (B12 ++ []))))))) (fun w q => More.mono (fun w m => (m).appR) q))
      replace h209 := ItRd.mono (Ψ := (More w0 Φ (B207 ++ (B184 ++ ((ob45, blk ((cs24 ++ (([.bool false, .slice (((some b35)).map fun k => ⟨k, 0, none⟩) ([164#8] : List (BitVec 8)).length 1, .slice none 0 0] : List Value))) ++ r46) 29) :: (((some b35), blk ((u8s ([164#8] : List (BitVec 8))) ++ []) 5) :: (B23 ++ (B12 ++ [])))))))) (fun w q => More.flat q) _ _ h209
      have h223 := h209
      obtain ⟨A214, c215, A217, c218, cs220, e222, v216, v219, h221⟩ := ItRd.opn h209
      subst e222
      have m224 := v216.mx
      have m225 := v219.mx
      have m226 := v216.mx
      have m227 := v219.mx
      obtain ⟨x229, hx228, hq57⟩ := some_bind hq57
      refine UW.callG 4 rfl (by kernel_rfl) rfl Try.call17 rfl (fun N' hN' => waybillref07_Same_does w0 (More w0 Φ (B207 ++ (B184 ++ ((ob45, blk ((cs24 ++ (([.bool false, .slice (((some b35)).map fun k => ⟨k, 0, none⟩) ([164#8] : List (BitVec 8)).length 1, .slice none 0 0] : List Value))) ++ r46) 29) :: (((some b35), blk ((u8s ([164#8] : List (BitVec 8))) ++ []) 5) :: (B23 ++ (B12 ++ []))))))) N' (fun w m => More.of hΦ 2 (hN' w m) rfl) [.bool (x183.list), .slice A191 x183.data.length c192, .slice A194 x183.items.length c195] x183 [.bool (x206.list), .slice A214 x206.data.length c215, .slice A217 x206.items.length c218] x206 x229 h200 h223 hx228) rfl ?_
      rintro _ G230 rfl
      refine UW.mem (M' := (((some b37), blk ((([.bool false, .slice (((some b35)).map fun k => ⟨k, 0, none⟩) ([164#8] : List (BitVec 8)).length 1, .slice none 0 0] : List Value)) ++ []) 29) :: (some b3, blk (u64s a1.toList) 25) :: ((B207 ++ (B184 ++ ((ob45, blk ((cs24 ++ (([.bool false, .slice (((some b35)).map fun k => ⟨k, 0, none⟩) ([164#8] : List (BitVec 8)).length 1, .slice none 0 0] : List Value))) ++ r46) 29) :: (((some b35), blk ((u8s ([164#8] : List (BitVec 8))) ++ []) 5) :: (B23 ++ (B12 ++ [])))))) ++ N))) (fun w m => m.appR) ?_
      refine UW.rv 5 rfl (by kernel_rfl) rfl (RV.not rfl) rfl ?_
      refine UW.rv 6 rfl (by kernel_rfl) rfl (RV.move rfl) rfl ?_
      by_cases h232 : x229 = true
      · replace hq57 := if_t hq57 h232
        refine UW.slot (.bool false) (congrArg Value.bool (congrArg (fun b => !b) (h232))) ?_
        refine UW.rv 7 rfl (by kernel_rfl) rfl (RV.loadW rfl (List.Mem.tail _ (List.Mem.head _)) rfl rfl rfl rfl ((u64s_length _).trans Vector.length_toList)) rfl ?_
        refine UW.rv 9 rfl (by kernel_rfl) rfl (RV.loadW rfl (List.Mem.tail _ (List.Mem.head _)) rfl rfl rfl rfl ((u64s_length _).trans Vector.length_toList)) rfl ?_
        obtain ⟨x234, hx233, hq57⟩ := some_bind hq57
        refine UW.callG 8 rfl (by kernel_rfl) rfl Try.call20 rfl (fun N' hN' => rlp_Number_does w0 (More w0 Φ (B207 ++ (B184 ++ ((ob45, blk ((cs24 ++ (([.bool false, .slice (((some b35)).map fun k => ⟨k, 0, none⟩) ([164#8] : List (BitVec 8)).length 1, .slice none 0 0] : List Value))) ++ r46) 29) :: (((some b35), blk ((u8s ([164#8] : List (BitVec 8))) ++ []) 5) :: (B23 ++ (B12 ++ []))))))) N' (fun w m => More.of hΦ 2 (hN' w m) rfl) a1 x234 hx233) rfl ?_
        rintro L238 M239 ⟨B235, cs236, h237, e240, e241⟩
        rw [e240, e241]
        clear e240 e241 L238 M239
        refine UW.mem (M' := (((some b37), blk ((([.bool false, .slice (((some b35)).map fun k => ⟨k, 0, none⟩) ([164#8] : List (BitVec 8)).length 1, .slice none 0 0] : List Value)) ++ []) 29) :: (some b3, blk (u64s a1.toList) 25) :: ((B235 ++ (B207 ++ (B184 ++ ((ob45, blk ((cs24 ++ (([.bool false, .slice (((some b35)).map fun k => ⟨k, 0, none⟩) ([164#8] : List (BitVec 8)).length 1, .slice none 0 0] : List Value))) ++ r46) 29) :: (((some b35), blk ((u8s ([164#8] : List (BitVec 8))) ++ []) 5) :: (B23 ++ (B12 ++ []))))))) ++ N))) (fun w m => by have h := Mem.sinkAt (A := B235) m 0 2 rfl rfl; exact h) ?_
        replace va0 := va0.mono (Ψ := More w0 Φ (B235 ++ (B207 ++ (B184 ++ ((ob45, blk ((cs24 ++ (([.bool false, .slice (((some b35)).map fun k => ⟨k, 0, none⟩) ([164#8] : List (BitVec 8)).length 1, .slice none 0 0] : List Value))) ++ r46) 29) :: (((some b35), blk ((u8s ([164#8] : List (BitVec 8))) ++ []) 5) :: (B23 ++ (B12 ++ [])))))))) (fun w q => More.mono (fun w m => (m).appR) q)
        replace va2 := va2.mono (Ψ := More w0 Φ (B235 ++ (B207 ++ (B184 ++ ((ob45, blk ((cs24 ++ (([.bool false, .slice (((some b35)).map fun k => ⟨k, 0, none⟩) ([164#8] : List (BitVec 8)).length 1, .slice none 0 0] : List Value))) ++ r46) 29) :: (((some b35), blk ((u8s ([164#8] : List (BitVec 8))) ++ []) 5) :: (B23 ++ (B12 ++ [])))))))) (fun w q => More.mono (fun w m => (m).appR) q)
        replace ha2 := ha2.mono (ItRd.mono (Ψ := More w0 Φ (B235 ++ (B207 ++ (B184 ++ ((ob45, blk ((cs24 ++ (([.bool false, .slice (((some b35)).map fun k => ⟨k, 0, none⟩) ([164#8] : List (BitVec 8)).length 1, .slice none 0 0] : List Value))) ++ r46) 29) :: (((some b35), blk ((u8s ([164#8] : List (BitVec 8))) ++ []) 5) :: (B23 ++ (B12 ++ [])))))))) (fun w q => More.mono (fun w m => (m).appR) q))
        replace v15 := v15.mono (Ψ := More w0 Φ (B235 ++ (B207 ++ (B184 ++ ((ob45, blk ((cs24 ++ (([.bool false, .slice (((some b35)).map fun k => ⟨k, 0, none⟩) ([164#8] : List (BitVec 8)).length 1, .slice none 0 0] : List Value))) ++ r46) 29) :: (((some b35), blk ((u8s ([164#8] : List (BitVec 8))) ++ []) 5) :: (B23 ++ (B12 ++ [])))))))) (fun w q => More.mono (fun w m => (m).appR) q)
        replace v14 := v14.mono (Ψ := More w0 Φ (B235 ++ (B207 ++ (B184 ++ ((ob45, blk ((cs24 ++ (([.bool false, .slice (((some b35)).map fun k => ⟨k, 0, none⟩) ([164#8] : List (BitVec 8)).length 1, .slice none 0 0] : List Value))) ++ r46) 29) :: (((some b35), blk ((u8s ([164#8] : List (BitVec 8))) ++ []) 5) :: (B23 ++ (B12 ++ [])))))))) (fun w q => More.mono (fun w m => (m).appR) q)
        replace h25 := h25.mono (ItRd.mono (Ψ := More w0 Φ (B235 ++ (B207 ++ (B184 ++ ((ob45, blk ((cs24 ++ (([.bool false, .slice (((some b35)).map fun k => ⟨k, 0, none⟩) ([164#8] : List (BitVec 8)).length 1, .slice none 0 0] : List Value))) ++ r46) 29) :: (((some b35), blk ((u8s ([164#8] : List (BitVec 8))) ++ []) 5) :: (B23 ++ (B12 ++ [])))))))) (fun w q => More.mono (fun w m => (m).appR) q))
        replace v39 := v39.mono (Ψ := More w0 Φ (B235 ++ (B207 ++ (B184 ++ ((ob45, blk ((cs24 ++ (([.bool false, .slice (((some b35)).map fun k => ⟨k, 0, none⟩) ([164#8] : List (BitVec 8)).length 1, .slice none 0 0] : List Value))) ++ r46) 29) :: (((some b35), blk ((u8s ([164#8] : List (BitVec 8))) ++ []) 5) :: (B23 ++ (B12 ++ [])))))))) (fun w q => More.mono (fun w m => (m).appR) q)
        replace h41 := h41.mono (ItRd.mono (Ψ := More w0 Φ (B235 ++ (B207 ++ (B184 ++ ((ob45, blk ((cs24 ++ (([.bool false, .slice (((some b35)).map fun k => ⟨k, 0, none⟩) ([164#8] : List (BitVec 8)).length 1, .slice none 0 0] : List Value))) ++ r46) 29) :: (((some b35), blk ((u8s ([164#8] : List (BitVec 8))) ++ []) 5) :: (B23 ++ (B12 ++ [])))))))) (fun w q => More.mono (fun w m => (m).appR) q))
        replace v51 := v51.mono (Ψ := More w0 Φ (B235 ++ (B207 ++ (B184 ++ ((ob45, blk ((cs24 ++ (([.bool false, .slice (((some b35)).map fun k => ⟨k, 0, none⟩) ([164#8] : List (BitVec 8)).length 1, .slice none 0 0] : List Value))) ++ r46) 29) :: (((some b35), blk ((u8s ([164#8] : List (BitVec 8))) ++ []) 5) :: (B23 ++ (B12 ++ [])))))))) (fun w q => More.mono (fun w m => (m).appR) q)
        replace h49 := h49.mono (ItRd.mono (Ψ := More w0 Φ (B235 ++ (B207 ++ (B184 ++ ((ob45, blk ((cs24 ++ (([.bool false, .slice (((some b35)).map fun k => ⟨k, 0, none⟩) ([164#8] : List (BitVec 8)).length 1, .slice none 0 0] : List Value))) ++ r46) 29) :: (((some b35), blk ((u8s ([164#8] : List (BitVec 8))) ++ []) 5) :: (B23 ++ (B12 ++ [])))))))) (fun w q => More.mono (fun w m => (m).appR) q))
        replace v52 := v52.mono (Ψ := More w0 Φ (B235 ++ (B207 ++ (B184 ++ ((ob45, blk ((cs24 ++ (([.bool false, .slice (((some b35)).map fun k => ⟨k, 0, none⟩) ([164#8] : List (BitVec 8)).length 1, .slice none 0 0] : List Value))) ++ r46) 29) :: (((some b35), blk ((u8s ([164#8] : List (BitVec 8))) ++ []) 5) :: (B23 ++ (B12 ++ [])))))))) (fun w q => More.mono (fun w m => (m).appR) q)
        replace h54 := h54.mono (ItRd.mono (Ψ := More w0 Φ (B235 ++ (B207 ++ (B184 ++ ((ob45, blk ((cs24 ++ (([.bool false, .slice (((some b35)).map fun k => ⟨k, 0, none⟩) ([164#8] : List (BitVec 8)).length 1, .slice none 0 0] : List Value))) ++ r46) 29) :: (((some b35), blk ((u8s ([164#8] : List (BitVec 8))) ++ []) 5) :: (B23 ++ (B12 ++ [])))))))) (fun w q => More.mono (fun w m => (m).appR) q))
        replace h200 := ItRd.mono (Ψ := More w0 Φ (B235 ++ (B207 ++ (B184 ++ ((ob45, blk ((cs24 ++ (([.bool false, .slice (((some b35)).map fun k => ⟨k, 0, none⟩) ([164#8] : List (BitVec 8)).length 1, .slice none 0 0] : List Value))) ++ r46) 29) :: (((some b35), blk ((u8s ([164#8] : List (BitVec 8))) ++ []) 5) :: (B23 ++ (B12 ++ [])))))))) (fun w q => More.mono (fun w m => (m).appR) q) _ _ h200
        replace v193 := v193.mono (Ψ := More w0 Φ (B235 ++ (B207 ++ (B184 ++ ((ob45, blk ((cs24 ++ (([.bool false, .slice (((some b35)).map fun k => ⟨k, 0, none⟩) ([164#8] : List (BitVec 8)).length 1, .slice none 0 0] : List Value))) ++ r46) 29) :: (((some b35), blk ((u8s ([164#8] : List (BitVec 8))) ++ []) 5) :: (B23 ++ (B12 ++ [])))))))) (fun w q => More.mono (fun w m => (m).appR) q)
        replace v196 := v196.mono (Ψ := More w0 Φ (B235 ++ (B207 ++ (B184 ++ ((ob45, blk ((cs24 ++ (([.bool false, .slice (((some b35)).map fun k => ⟨k, 0, none⟩) ([164#8] : List (BitVec 8)).length 1, .slice none 0 0] : List Value))) ++ r46) 29) :: (((some b35), blk ((u8s ([164#8] : List (BitVec 8))) ++ []) 5) :: (B23 ++ (B12 ++ [])))))))) (fun w q => More.mono (fun w m => (m).appR) q)
        replace h198 := h198.mono (ItRd.mono (Ψ := More w0 Φ (B235 ++ (B207 ++ (B184 ++ ((ob45, blk ((cs24 ++ (([.bool false, .slice (((some b35)).map fun k => ⟨k, 0, none⟩) ([164#8] : List (BitVec 8)).length 1, .slice none 0 0] : List Value))) ++ r46) 29) :: (((some b35), blk ((u8s ([164#8] : List (BitVec 8))) ++ []) 5) :: (B23 ++ (B12 ++ [])))))))) (fun w q => More.mono (fun w m => (m).appR) q))
        replace h223 := ItRd.mono (Ψ := More w0 Φ (B235 ++ (B207 ++ (B184 ++ ((ob45, blk ((cs24 ++ (([.bool false, .slice (((some b35)).map fun k => ⟨k, 0, none⟩) ([164#8] : List (BitVec 8)).length 1, .slice none 0 0] : List Value))) ++ r46) 29) :: (((some b35), blk ((u8s ([164#8] : List (BitVec 8))) ++ []) 5) :: (B23 ++ (B12 ++ [])))))))) (fun w q => More.mono (fun w m => (m).appR) q) _ _ h223
        replace v216 := v216.mono (Ψ := More w0 Φ (B235 ++ (B207 ++ (B184 ++ ((ob45, blk ((cs24 ++ (([.bool false, .slice (((some b35)).map fun k => ⟨k, 0, none⟩) ([164#8] : List (BitVec 8)).length 1, .slice none 0 0] : List Value))) ++ r46) 29) :: (((some b35), blk ((u8s ([164#8] : List (BitVec 8))) ++ []) 5) :: (B23 ++ (B12 ++ [])))))))) (fun w q => More.mono (fun w m => (m).appR) q)
        replace v219 := v219.mono (Ψ := More w0 Φ (B235 ++ (B207 ++ (B184 ++ ((ob45, blk ((cs24 ++ (([.bool false, .slice (((some b35)).map fun k => ⟨k, 0, none⟩) ([164#8] : List (BitVec 8)).length 1, .slice none 0 0] : List Value))) ++ r46) 29) :: (((some b35), blk ((u8s ([164#8] : List (BitVec 8))) ++ []) 5) :: (B23 ++ (B12 ++ [])))))))) (fun w q => More.mono (fun w m => (m).appR) q)
        replace h221 := h221.mono (ItRd.mono (Ψ := More w0 Φ (B235 ++ (B207 ++ (B184 ++ ((ob45, blk ((cs24 ++ (([.bool false, .slice (((some b35)).map fun k => ⟨k, 0, none⟩) ([164#8] : List (BitVec 8)).length 1, .slice none 0 0] : List Value))) ++ r46) 29) :: (((some b35), blk ((u8s ([164#8] : List (BitVec 8))) ++ []) 5) :: (B23 ++ (B12 ++ [])))))))) (fun w q => More.mono (fun w m => (m).appR) q))
        replace h237 := ItRd.mono (Ψ := (More w0 Φ (B235 ++ (B207 ++ (B184 ++ ((ob45, blk ((cs24 ++ (([.bool false, .slice (((some b35)).map fun k => ⟨k, 0, none⟩) ([164#8] : List (BitVec 8)).length 1, .slice none 0 0] : List Value))) ++ r46) 29) :: (((some b35), blk ((u8s ([164#8] : List (BitVec 8))) ++ []) 5) :: (B23 ++ (B12 ++ []))))))))) (fun w q => More.flat q) _ _ h237
        have h251 := h237
        obtain ⟨A242, c243, A245, c246, cs248, e250, v244, v247, h249⟩ := ItRd.opn h237
        subst e250
        have m252 := v244.mx
        have m253 := v247.mx
        have m254 := v244.mx
        have m255 := v247.mx
        obtain ⟨x257, hx256, hq57⟩ := some_bind hq57
        refine UW.callG 10 rfl (by kernel_rfl) rfl Try.call21 rfl (fun N' hN' => waybillref07_Number_does w0 (More w0 Φ (B235 ++ (B207 ++ (B184 ++ ((ob45, blk ((cs24 ++ (([.bool false, .slice (((some b35)).map fun k => ⟨k, 0, none⟩) ([164#8] : List (BitVec 8)).length 1, .slice none 0 0] : List Value))) ++ r46) 29) :: (((some b35), blk ((u8s ([164#8] : List (BitVec 8))) ++ []) 5) :: (B23 ++ (B12 ++ [])))))))) N' (fun w m => More.of hΦ 2 (hN' w m) rfl) a1 x257 hx256) rfl ?_
        rintro L261 M262 ⟨B258, cs259, h260, e263, e264⟩
        rw [e263, e264]
        clear e263 e264 L261 M262
        refine UW.mem (M' := (((some b37), blk ((([.bool false, .slice (((some b35)).map fun k => ⟨k, 0, none⟩) ([164#8] : List (BitVec 8)).length 1, .slice none 0 0] : List Value)) ++ []) 29) :: (some b3, blk (u64s a1.toList) 25) :: ((B258 ++ (B235 ++ (B207 ++ (B184 ++ ((ob45, blk ((cs24 ++ (([.bool false, .slice (((some b35)).map fun k => ⟨k, 0, none⟩) ([164#8] : List (BitVec 8)).length 1, .slice none 0 0] : List Value))) ++ r46) 29) :: (((some b35), blk ((u8s ([164#8] : List (BitVec 8))) ++ []) 5) :: (B23 ++ (B12 ++ [])))))))) ++ N))) (fun w m => by have h := Mem.sinkAt (A := B258) m 0 2 rfl rfl; exact h) ?_
        replace va0 := va0.mono (Ψ := More w0 Φ (B258 ++ (B235 ++ (B207 ++ (B184 ++ ((ob45, blk ((cs24 ++ (([.bool false, .slice (((some b35)).map fun k => ⟨k, 0, none⟩) ([164#8] : List (BitVec 8)).length 1, .slice none 0 0] : List Value))) ++ r46) 29) :: (((some b35), blk ((u8s ([164#8] : List (BitVec 8))) ++ []) 5) :: (B23 ++ (B12 ++ []))))))))) (fun w q => More.mono (fun w m => (m).appR) q)
        replace va2 := va2.mono (Ψ := More w0 Φ (B258 ++ (B235 ++ (B207 ++ (B184 ++ ((ob45, blk ((cs24 ++ (([.bool false, .slice (((some b35)).map fun k => ⟨k, 0, none⟩) ([164#8] : List (BitVec 8)).length 1, .slice none 0 0] : List Value))) ++ r46) 29) :: (((some b35), blk ((u8s ([164#8] : List (BitVec 8))) ++ []) 5) :: (B23 ++ (B12 ++ []))))))))) (fun w q => More.mono (fun w m => (m).appR) q)
        replace ha2 := ha2.mono (ItRd.mono (Ψ := More w0 Φ (B258 ++ (B235 ++ (B207 ++ (B184 ++ ((ob45, blk ((cs24 ++ (([.bool false, .slice (((some b35)).map fun k => ⟨k, 0, none⟩) ([164#8] : List (BitVec 8)).length 1, .slice none 0 0] : List Value))) ++ r46) 29) :: (((some b35), blk ((u8s ([164#8] : List (BitVec 8))) ++ []) 5) :: (B23 ++ (B12 ++ []))))))))) (fun w q => More.mono (fun w m => (m).appR) q))
        replace v15 := v15.mono (Ψ := More w0 Φ (B258 ++ (B235 ++ (B207 ++ (B184 ++ ((ob45, blk ((cs24 ++ (([.bool false, .slice (((some b35)).map fun k => ⟨k, 0, none⟩) ([164#8] : List (BitVec 8)).length 1, .slice none 0 0] : List Value))) ++ r46) 29) :: (((some b35), blk ((u8s ([164#8] : List (BitVec 8))) ++ []) 5) :: (B23 ++ (B12 ++ []))))))))) (fun w q => More.mono (fun w m => (m).appR) q)
        replace v14 := v14.mono (Ψ := More w0 Φ (B258 ++ (B235 ++ (B207 ++ (B184 ++ ((ob45, blk ((cs24 ++ (([.bool false, .slice (((some b35)).map fun k => ⟨k, 0, none⟩) ([164#8] : List (BitVec 8)).length 1, .slice none 0 0] : List Value))) ++ r46) 29) :: (((some b35), blk ((u8s ([164#8] : List (BitVec 8))) ++ []) 5) :: (B23 ++ (B12 ++ []))))))))) (fun w q => More.mono (fun w m => (m).appR) q)
        replace h25 := h25.mono (ItRd.mono (Ψ := More w0 Φ (B258 ++ (B235 ++ (B207 ++ (B184 ++ ((ob45, blk ((cs24 ++ (([.bool false, .slice (((some b35)).map fun k => ⟨k, 0, none⟩) ([164#8] : List (BitVec 8)).length 1, .slice none 0 0] : List Value))) ++ r46) 29) :: (((some b35), blk ((u8s ([164#8] : List (BitVec 8))) ++ []) 5) :: (B23 ++ (B12 ++ []))))))))) (fun w q => More.mono (fun w m => (m).appR) q))
        replace v39 := v39.mono (Ψ := More w0 Φ (B258 ++ (B235 ++ (B207 ++ (B184 ++ ((ob45, blk ((cs24 ++ (([.bool false, .slice (((some b35)).map fun k => ⟨k, 0, none⟩) ([164#8] : List (BitVec 8)).length 1, .slice none 0 0] : List Value))) ++ r46) 29) :: (((some b35), blk ((u8s ([164#8] : List (BitVec 8))) ++ []) 5) :: (B23 ++ (B12 ++ []))))))))) (fun w q => More.mono (fun w m => (m).appR) q)
        replace h41 := h41.mono (ItRd.mono (Ψ := More w0 Φ (B258 ++ (B235 ++ (B207 ++ (B184 ++ ((ob45, blk ((cs24 ++ (([.bool false, .slice (((some b35)).map fun k => ⟨k, 0, none⟩) ([164#8] : List (BitVec 8)).length 1, .slice none 0 0] : List Value))) ++ r46) 29) :: (((some b35), blk ((u8s ([164#8] : List (BitVec 8))) ++ []) 5) :: (B23 ++ (B12 ++ []))))))))) (fun w q => More.mono (fun w m => (m).appR) q))
        replace v51 := v51.mono (Ψ := More w0 Φ (B258 ++ (B235 ++ (B207 ++ (B184 ++ ((ob45, blk ((cs24 ++ (([.bool false, .slice (((some b35)).map fun k => ⟨k, 0, none⟩) ([164#8] : List (BitVec 8)).length 1, .slice none 0 0] : List Value))) ++ r46) 29) :: (((some b35), blk ((u8s ([164#8] : List (BitVec 8))) ++ []) 5) :: (B23 ++ (B12 ++ []))))))))) (fun w q => More.mono (fun w m => (m).appR) q)
        replace h49 := h49.mono (ItRd.mono (Ψ := More w0 Φ (B258 ++ (B235 ++ (B207 ++ (B184 ++ ((ob45, blk ((cs24 ++ (([.bool false, .slice (((some b35)).map fun k => ⟨k, 0, none⟩) ([164#8] : List (BitVec 8)).length 1, .slice none 0 0] : List Value))) ++ r46) 29) :: (((some b35), blk ((u8s ([164#8] : List (BitVec 8))) ++ []) 5) :: (B23 ++ (B12 ++ []))))))))) (fun w q => More.mono (fun w m => (m).appR) q))
        replace v52 := v52.mono (Ψ := More w0 Φ (B258 ++ (B235 ++ (B207 ++ (B184 ++ ((ob45, blk ((cs24 ++ (([.bool false, .slice (((some b35)).map fun k => ⟨k, 0, none⟩) ([164#8] : List (BitVec 8)).length 1, .slice none 0 0] : List Value))) ++ r46) 29) :: (((some b35), blk ((u8s ([164#8] : List (BitVec 8))) ++ []) 5) :: (B23 ++ (B12 ++ []))))))))) (fun w q => More.mono (fun w m => (m).appR) q)
        replace h54 := h54.mono (ItRd.mono (Ψ := More w0 Φ (B258 ++ (B235 ++ (B207 ++ (B184 ++ ((ob45, blk ((cs24 ++ (([.bool false, .slice (((some b35)).map fun k => ⟨k, 0, none⟩) ([164#8] : List (BitVec 8)).length 1, .slice none 0 0] : List Value))) ++ r46) 29) :: (((some b35), blk ((u8s ([164#8] : List (BitVec 8))) ++ []) 5) :: (B23 ++ (B12 ++ []))))))))) (fun w q => More.mono (fun w m => (m).appR) q))
        replace h200 := ItRd.mono (Ψ := More w0 Φ (B258 ++ (B235 ++ (B207 ++ (B184 ++ ((ob45, blk ((cs24 ++ (([.bool false, .slice (((some b35)).map fun k => ⟨k, 0, none⟩) ([164#8] : List (BitVec 8)).length 1, .slice none 0 0] : List Value))) ++ r46) 29) :: (((some b35), blk ((u8s ([164#8] : List (BitVec 8))) ++ []) 5) :: (B23 ++ (B12 ++ []))))))))) (fun w q => More.mono (fun w m => (m).appR) q) _ _ h200
        replace v193 := v193.mono (Ψ := More w0 Φ (B258 ++ (B235 ++ (B207 ++ (B184 ++ ((ob45, blk ((cs24 ++ (([.bool false, .slice (((some b35)).map fun k => ⟨k, 0, none⟩) ([164#8] : List (BitVec 8)).length 1, .slice none 0 0] : List Value))) ++ r46) 29) :: (((some b35), blk ((u8s ([164#8] : List (BitVec 8))) ++ []) 5) :: (B23 ++ (B12 ++ []))))))))) (fun w q => More.mono (fun w m => (m).appR) q)
        replace v196 := v196.mono (Ψ := More w0 Φ (B258 ++ (B235 ++ (B207 ++ (B184 ++ ((ob45, blk ((cs24 ++ (([.bool false, .slice (((some b35)).map fun k => ⟨k, 0, none⟩) ([164#8] : List (BitVec 8)).length 1, .slice none 0 0] : List Value))) ++ r46) 29) :: (((some b35), blk ((u8s ([164#8] : List (BitVec 8))) ++ []) 5) :: (B23 ++ (B12 ++ []))))))))) (fun w q => More.mono (fun w m => (m).appR) q)
        replace h198 := h198.mono (ItRd.mono (Ψ := More w0 Φ (B258 ++ (B235 ++ (B207 ++ (B184 ++ ((ob45, blk ((cs24 ++ (([.bool false, .slice (((some b35)).map fun k => ⟨k, 0, none⟩) ([164#8] : List (BitVec 8)).length 1, .slice none 0 0] : List Value))) ++ r46) 29) :: (((some b35), blk ((u8s ([164#8] : List (BitVec 8))) ++ []) 5) :: (B23 ++ (B12 ++ []))))))))) (fun w q => More.mono (fun w m => (m).appR) q))
        replace h223 := ItRd.mono (Ψ := More w0 Φ (B258 ++ (B235 ++ (B207 ++ (B184 ++ ((ob45, blk ((cs24 ++ (([.bool false, .slice (((some b35)).map fun k => ⟨k, 0, none⟩) ([164#8] : List (BitVec 8)).length 1, .slice none 0 0] : List Value))) ++ r46) 29) :: (((some b35), blk ((u8s ([164#8] : List (BitVec 8))) ++ []) 5) :: (B23 ++ (B12 ++ []))))))))) (fun w q => More.mono (fun w m => (m).appR) q) _ _ h223
        replace v216 := v216.mono (Ψ := More w0 Φ (B258 ++ (B235 ++ (B207 ++ (B184 ++ ((ob45, blk ((cs24 ++ (([.bool false, .slice (((some b35)).map fun k => ⟨k, 0, none⟩) ([164#8] : List (BitVec 8)).length 1, .slice none 0 0] : List Value))) ++ r46) 29) :: (((some b35), blk ((u8s ([164#8] : List (BitVec 8))) ++ []) 5) :: (B23 ++ (B12 ++ []))))))))) (fun w q => More.mono (fun w m => (m).appR) q)
        replace v219 := v219.mono (Ψ := More w0 Φ (B258 ++ (B235 ++ (B207 ++ (B184 ++ ((ob45, blk ((cs24 ++ (([.bool false, .slice (((some b35)).map fun k => ⟨k, 0, none⟩) ([164#8] : List (BitVec 8)).length 1, .slice none 0 0] : List Value))) ++ r46) 29) :: (((some b35), blk ((u8s ([164#8] : List (BitVec 8))) ++ []) 5) :: (B23 ++ (B12 ++ []))))))))) (fun w q => More.mono (fun w m => (m).appR) q)
        replace h221 := h221.mono (ItRd.mono (Ψ := More w0 Φ (B258 ++ (B235 ++ (B207 ++ (B184 ++ ((ob45, blk ((cs24 ++ (([.bool false, .slice (((some b35)).map fun k => ⟨k, 0, none⟩) ([164#8] : List (BitVec 8)).length 1, .slice none 0 0] : List Value))) ++ r46) 29) :: (((some b35), blk ((u8s ([164#8] : List (BitVec 8))) ++ []) 5) :: (B23 ++ (B12 ++ []))))))))) (fun w q => More.mono (fun w m => (m).appR) q))
        replace h251 := ItRd.mono (Ψ := More w0 Φ (B258 ++ (B235 ++ (B207 ++ (B184 ++ ((ob45, blk ((cs24 ++ (([.bool false, .slice (((some b35)).map fun k => ⟨k, 0, none⟩) ([164#8] : List (BitVec 8)).length 1, .slice none 0 0] : List Value))) ++ r46) 29) :: (((some b35), blk ((u8s ([164#8] : List (BitVec 8))) ++ []) 5) :: (B23 ++ (B12 ++ []))))))))) (fun w q => More.mono (fun w m => (m).appR) q) _ _ h251
        replace v244 := v244.mono (Ψ := More w0 Φ (B258 ++ (B235 ++ (B207 ++ (B184 ++ ((ob45, blk ((cs24 ++ (([.bool false, .slice (((some b35)).map fun k => ⟨k, 0, none⟩) ([164#8] : List (BitVec 8)).length 1, .slice none 0 0] : List Value))) ++ r46) 29) :: (((some b35), blk ((u8s ([164#8] : List (BitVec 8))) ++ []) 5) :: (B23 ++ (B12 ++ []))))))))) (fun w q => More.mono (fun w m => (m).appR) q)
        replace v247 := v247.mono (Ψ := More w0 Φ (B258 ++ (B235 ++ (B207 ++ (B184 ++ ((ob45, blk ((cs24 ++ (([.bool false, .slice (((some b35)).map fun k => ⟨k, 0, none⟩) ([164#8] : List (BitVec 8)).length 1, .slice none 0 0] : List Value))) ++ r46) 29) :: (((some b35), blk ((u8s ([164#8] : List (BitVec 8))) ++ []) 5) :: (B23 ++ (B12 ++ []))))))))) (fun w q => More.mono (fun w m => (m).appR) q)
        replace h249 := h249.mono (ItRd.mono (Ψ := More w0 Φ (B258 ++ (B235 ++ (B207 ++ (B184 ++ ((ob45, blk ((cs24 ++ (([.bool false, .slice (((some b35)).map fun k => ⟨k, 0, none⟩) ([164#8] : List (BitVec 8)).length 1, .slice none 0 0] : List Value))) ++ r46) 29) :: (((some b35), blk ((u8s ([164#8] : List (BitVec 8))) ++ []) 5) :: (B23 ++ (B12 ++ []))))))))) (fun w q => More.mono (fun w m => (m).appR) q))
        replace h260 := ItRd.mono (Ψ := (More w0 Φ (B258 ++ (B235 ++ (B207 ++ (B184 ++ ((ob45, blk ((cs24 ++ (([.bool false, .slice (((some b35)).map fun k => ⟨k, 0, none⟩) ([164#8] : List (BitVec 8)).length 1, .slice none 0 0] : List Value))) ++ r46) 29) :: (((some b35), blk ((u8s ([164#8] : List (BitVec 8))) ++ []) 5) :: (B23 ++ (B12 ++ [])))))))))) (fun w q => More.flat q) _ _ h260
        have h274 := h260
        obtain ⟨A265, c266, A268, c269, cs271, e273, v267, v270, h272⟩ := ItRd.opn h260
        subst e273
        have m275 := v267.mx
        have m276 := v270.mx
        have m277 := v267.mx
        have m278 := v270.mx
        obtain ⟨x280, hx279, hq57⟩ := some_bind hq57
        refine UW.callG 11 rfl (by kernel_rfl) rfl Try.call17 rfl (fun N' hN' => waybillref07_Same_does w0 (More w0 Φ (B258 ++ (B235 ++ (B207 ++ (B184 ++ ((ob45, blk ((cs24 ++ (([.bool false, .slice (((some b35)).map fun k => ⟨k, 0, none⟩) ([164#8] : List (BitVec 8)).length 1, .slice none 0 0] : List Value))) ++ r46) 29) :: (((some b35), blk ((u8s ([164#8] : List (BitVec 8))) ++ []) 5) :: (B23 ++ (B12 ++ []))))))))) N' (fun w m => More.of hΦ 2 (hN' w m) rfl) [.bool (x234.list), .slice A242 x234.data.length c243, .slice A245 x234.items.length c246] x234 [.bool (x257.list), .slice A265 x257.data.length c266, .slice A268 x257.items.length c269] x257 x280 h251 h274 hx279) rfl ?_
        rintro _ G281 rfl
        refine UW.mem (M' := (((some b37), blk ((([.bool false, .slice (((some b35)).map fun k => ⟨k, 0, none⟩) ([164#8] : List (BitVec 8)).length 1, .slice none 0 0] : List Value)) ++ []) 29) :: (some b3, blk (u64s a1.toList) 25) :: ((B258 ++ (B235 ++ (B207 ++ (B184 ++ ((ob45, blk ((cs24 ++ (([.bool false, .slice (((some b35)).map fun k => ⟨k, 0, none⟩) ([164#8] : List (BitVec 8)).length 1, .slice none 0 0] : List Value))) ++ r46) 29) :: (((some b35), blk ((u8s ([164#8] : List (BitVec 8))) ++ []) 5) :: (B23 ++ (B12 ++ [])))))))) ++ N))) (fun w m => m.appR) ?_
        refine UW.rv 12 rfl (by kernel_rfl) rfl (RV.not rfl) rfl ?_
        refine UW.rv 13 rfl (by kernel_rfl) rfl (RV.pick_f rfl rfl rfl) rfl ?_
        refine UW.rv 14 rfl (by kernel_rfl) rfl (RV.move rfl) rfl ?_
        by_cases h283 : x280 = true
        · replace hq57 := if_t hq57 h283
          refine UW.slot (.bool false) (congrArg Value.bool (congrArg (fun b => !b) (h283))) ?_
          refine UW.rv 15 rfl (by kernel_rfl) rfl (RV.idx_a (1) rfl rfl rfl rfl rfl (by omega)) rfl ?_
          refine UW.rv 16 rfl (by kernel_rfl) rfl (RV.load rfl (List.Mem.tail _ (List.Mem.head _)) rfl rfl rfl (u64s_at (vat' (by decide)))) rfl ?_
          refine UW.rv 18 rfl (by kernel_rfl) rfl (RV.idx_a (1) rfl rfl rfl rfl rfl (by omega)) rfl ?_
          refine UW.rv 19 rfl (by kernel_rfl) rfl (RV.load rfl (List.Mem.tail _ (List.Mem.head _)) rfl rfl rfl (u64s_at (vat' (by decide)))) rfl ?_
          obtain ⟨x285, hx284, hq57⟩ := some_bind hq57
          refine UW.callG 17 rfl (by kernel_rfl) rfl Try.call22 rfl (fun N' hN' => rlp_Small_does w0 (More w0 Φ (B258 ++ (B235 ++ (B207 ++ (B184 ++ ((ob45, blk ((cs24 ++ (([.bool false, .slice (((some b35)).map fun k => ⟨k, 0, none⟩) ([164#8] : List (BitVec 8)).length 1, .slice none 0 0] : List Value))) ++ r46) 29) :: (((some b35), blk ((u8s ([164#8] : List (BitVec 8))) ++ []) 5) :: (B23 ++ (B12 ++ []))))))))) N' (fun w m => More.of hΦ 2 (hN' w m) rfl) (a1[1]) x285 hx284) rfl ?_
          rintro L289 M290 ⟨B286, cs287, h288, e291, e292⟩
          rw [e291, e292]
          clear e291 e292 L289 M290
          refine UW.mem (M' := (((some b37), blk ((([.bool false, .slice (((some b35)).map fun k => ⟨k, 0, none⟩) ([164#8] : List (BitVec 8)).length 1, .slice none 0 0] : List Value)) ++ []) 29) :: (some b3, blk (u64s a1.toList) 25) :: ((B286 ++ (B258 ++ (B235 ++ (B207 ++ (B184 ++ ((ob45, blk ((cs24 ++ (([.bool false, .slice (((some b35)).map fun k => ⟨k, 0, none⟩) ([164#8] : List (BitVec 8)).length 1, .slice none 0 0] : List Value))) ++ r46) 29) :: (((some b35), blk ((u8s ([164#8] : List (BitVec 8))) ++ []) 5) :: (B23 ++ (B12 ++ []))))))))) ++ N))) (fun w m => by have h := Mem.sinkAt (A := B286) m 0 2 rfl rfl; exact h) ?_
          replace va0 := va0.mono (Ψ := More w0 Φ (B286 ++ (B258 ++ (B235 ++ (B207 ++ (B184 ++ ((ob45, blk ((cs24 ++ (([.bool false, .slice (((some b35)).map fun k => ⟨k, 0, none⟩) ([164#8] : List (BitVec 8)).length 1, .slice none 0 0] : List Value))) ++ r46) 29) :: (((some b35), blk ((u8s ([164#8] : List (BitVec 8))) ++ []) 5) :: (B23 ++ (B12 ++ [])))))))))) (fun w q => More.mono (fun w m => (m).appR) q)
          replace va2 := va2.mono (Ψ := More w0 Φ (B286 ++ (B258 ++ (B235 ++ (B207 ++ (B184 ++ ((ob45, blk ((cs24 ++ (([.bool false, .slice (((some b35)).map fun k => ⟨k, 0, none⟩) ([164#8] : List (BitVec 8)).length 1, .slice none 0 0] : List Value))) ++ r46) 29) :: (((some b35), blk ((u8s ([164#8] : List (BitVec 8))) ++ []) 5) :: (B23 ++ (B12 ++ [])))))))))) (fun w q => More.mono (fun w m => (m).appR) q)
          replace ha2 := ha2.mono (ItRd.mono (Ψ := More w0 Φ (B286 ++ (B258 ++ (B235 ++ (B207 ++ (B184 ++ ((ob45, blk ((cs24 ++ (([.bool false, .slice (((some b35)).map fun k => ⟨k, 0, none⟩) ([164#8] : List (BitVec 8)).length 1, .slice none 0 0] : List Value))) ++ r46) 29) :: (((some b35), blk ((u8s ([164#8] : List (BitVec 8))) ++ []) 5) :: (B23 ++ (B12 ++ [])))))))))) (fun w q => More.mono (fun w m => (m).appR) q))
          replace v15 := v15.mono (Ψ := More w0 Φ (B286 ++ (B258 ++ (B235 ++ (B207 ++ (B184 ++ ((ob45, blk ((cs24 ++ (([.bool false, .slice (((some b35)).map fun k => ⟨k, 0, none⟩) ([164#8] : List (BitVec 8)).length 1, .slice none 0 0] : List Value))) ++ r46) 29) :: (((some b35), blk ((u8s ([164#8] : List (BitVec 8))) ++ []) 5) :: (B23 ++ (B12 ++ [])))))))))) (fun w q => More.mono (fun w m => (m).appR) q)
          replace v14 := v14.mono (Ψ := More w0 Φ (B286 ++ (B258 ++ (B235 ++ (B207 ++ (B184 ++ ((ob45, blk ((cs24 ++ (([.bool false, .slice (((some b35)).map fun k => ⟨k, 0, none⟩) ([164#8] : List (BitVec 8)).length 1, .slice none 0 0] : List Value))) ++ r46) 29) :: (((some b35), blk ((u8s ([164#8] : List (BitVec 8))) ++ []) 5) :: (B23 ++ (B12 ++ [])))))))))) (fun w q => More.mono (fun w m => (m).appR) q)
          replace h25 := h25.mono (ItRd.mono (Ψ := More w0 Φ (B286 ++ (B258 ++ (B235 ++ (B207 ++ (B184 ++ ((ob45, blk ((cs24 ++ (([.bool false, .slice (((some b35)).map fun k => ⟨k, 0, none⟩) ([164#8] : List (BitVec 8)).length 1, .slice none 0 0] : List Value))) ++ r46) 29) :: (((some b35), blk ((u8s ([164#8] : List (BitVec 8))) ++ []) 5) :: (B23 ++ (B12 ++ [])))))))))) (fun w q => More.mono (fun w m => (m).appR) q))
          replace v39 := v39.mono (Ψ := More w0 Φ (B286 ++ (B258 ++ (B235 ++ (B207 ++ (B184 ++ ((ob45, blk ((cs24 ++ (([.bool false, .slice (((some b35)).map fun k => ⟨k, 0, none⟩) ([164#8] : List (BitVec 8)).length 1, .slice none 0 0] : List Value))) ++ r46) 29) :: (((some b35), blk ((u8s ([164#8] : List (BitVec 8))) ++ []) 5) :: (B23 ++ (B12 ++ [])))))))))) (fun w q => More.mono (fun w m => (m).appR) q)
          replace h41 := h41.mono (ItRd.mono (Ψ := More w0 Φ (B286 ++ (B258 ++ (B235 ++ (B207 ++ (B184 ++ ((ob45, blk ((cs24 ++ (([.bool false, .slice (((some b35)).map fun k => ⟨k, 0, none⟩) ([164#8] : List (BitVec 8)).length 1, .slice none 0 0] : List Value))) ++ r46) 29) :: (((some b35), blk ((u8s ([164#8] : List (BitVec 8))) ++ []) 5) :: (B23 ++ (B12 ++ [])))))))))) (fun w q => More.mono (fun w m => (m).appR) q))
          replace v51 := v51.mono (Ψ := More w0 Φ (B286 ++ (B258 ++ (B235 ++ (B207 ++ (B184 ++ ((ob45, blk ((cs24 ++ (([.bool false, .slice (((some b35)).map fun k => ⟨k, 0, none⟩) ([164#8] : List (BitVec 8)).length 1, .slice none 0 0] : List Value))) ++ r46) 29) :: (((some b35), blk ((u8s ([164#8] : List (BitVec 8))) ++ []) 5) :: (B23 ++ (B12 ++ [])))))))))) (fun w q => More.mono (fun w m => (m).appR) q)
          replace h49 := h49.mono (ItRd.mono (Ψ := More w0 Φ (B286 ++ (B258 ++ (B235 ++ (B207 ++ (B184 ++ ((ob45, blk ((cs24 ++ (([.bool false, .slice (((some b35)).map fun k => ⟨k, 0, none⟩) ([164#8] : List (BitVec 8)).length 1, .slice none 0 0] : List Value))) ++ r46) 29) :: (((some b35), blk ((u8s ([164#8] : List (BitVec 8))) ++ []) 5) :: (B23 ++ (B12 ++ [])))))))))) (fun w q => More.mono (fun w m => (m).appR) q))
          replace v52 := v52.mono (Ψ := More w0 Φ (B286 ++ (B258 ++ (B235 ++ (B207 ++ (B184 ++ ((ob45, blk ((cs24 ++ (([.bool false, .slice (((some b35)).map fun k => ⟨k, 0, none⟩) ([164#8] : List (BitVec 8)).length 1, .slice none 0 0] : List Value))) ++ r46) 29) :: (((some b35), blk ((u8s ([164#8] : List (BitVec 8))) ++ []) 5) :: (B23 ++ (B12 ++ [])))))))))) (fun w q => More.mono (fun w m => (m).appR) q)
          replace h54 := h54.mono (ItRd.mono (Ψ := More w0 Φ (B286 ++ (B258 ++ (B235 ++ (B207 ++ (B184 ++ ((ob45, blk ((cs24 ++ (([.bool false, .slice (((some b35)).map fun k => ⟨k, 0, none⟩) ([164#8] : List (BitVec 8)).length 1, .slice none 0 0] : List Value))) ++ r46) 29) :: (((some b35), blk ((u8s ([164#8] : List (BitVec 8))) ++ []) 5) :: (B23 ++ (B12 ++ [])))))))))) (fun w q => More.mono (fun w m => (m).appR) q))
          replace h200 := ItRd.mono (Ψ := More w0 Φ (B286 ++ (B258 ++ (B235 ++ (B207 ++ (B184 ++ ((ob45, blk ((cs24 ++ (([.bool false, .slice (((some b35)).map fun k => ⟨k, 0, none⟩) ([164#8] : List (BitVec 8)).length 1, .slice none 0 0] : List Value))) ++ r46) 29) :: (((some b35), blk ((u8s ([164#8] : List (BitVec 8))) ++ []) 5) :: (B23 ++ (B12 ++ [])))))))))) (fun w q => More.mono (fun w m => (m).appR) q) _ _ h200
          replace v193 := v193.mono (Ψ := More w0 Φ (B286 ++ (B258 ++ (B235 ++ (B207 ++ (B184 ++ ((ob45, blk ((cs24 ++ (([.bool false, .slice (((some b35)).map fun k => ⟨k, 0, none⟩) ([164#8] : List (BitVec 8)).length 1, .slice none 0 0] : List Value))) ++ r46) 29) :: (((some b35), blk ((u8s ([164#8] : List (BitVec 8))) ++ []) 5) :: (B23 ++ (B12 ++ [])))))))))) (fun w q => More.mono (fun w m => (m).appR) q)
          replace v196 := v196.mono (Ψ := More w0 Φ (B286 ++ (B258 ++ (B235 ++ (B207 ++ (B184 ++ ((ob45, blk ((cs24 ++ (([.bool false, .slice (((some b35)).map fun k => ⟨k, 0, none⟩) ([164#8] : List (BitVec 8)).length 1, .slice none 0 0] : List Value))) ++ r46) 29) :: (((some b35), blk ((u8s ([164#8] : List (BitVec 8))) ++ []) 5) :: (B23 ++ (B12 ++ [])))))))))) (fun w q => More.mono (fun w m => (m).appR) q)
          replace h198 := h198.mono (ItRd.mono (Ψ := More w0 Φ (B286 ++ (B258 ++ (B235 ++ (B207 ++ (B184 ++ ((ob45, blk ((cs24 ++ (([.bool false, .slice (((some b35)).map fun k => ⟨k, 0, none⟩) ([164#8] : List (BitVec 8)).length 1, .slice none 0 0] : List Value))) ++ r46) 29) :: (((some b35), blk ((u8s ([164#8] : List (BitVec 8))) ++ []) 5) :: (B23 ++ (B12 ++ [])))))))))) (fun w q => More.mono (fun w m => (m).appR) q))
          replace h223 := ItRd.mono (Ψ := More w0 Φ (B286 ++ (B258 ++ (B235 ++ (B207 ++ (B184 ++ ((ob45, blk ((cs24 ++ (([.bool false, .slice (((some b35)).map fun k => ⟨k, 0, none⟩) ([164#8] : List (BitVec 8)).length 1, .slice none 0 0] : List Value))) ++ r46) 29) :: (((some b35), blk ((u8s ([164#8] : List (BitVec 8))) ++ []) 5) :: (B23 ++ (B12 ++ [])))))))))) (fun w q => More.mono (fun w m => (m).appR) q) _ _ h223
          replace v216 := v216.mono (Ψ := More w0 Φ (B286 ++ (B258 ++ (B235 ++ (B207 ++ (B184 ++ ((ob45, blk ((cs24 ++ (([.bool false, .slice (((some b35)).map fun k => ⟨k, 0, none⟩) ([164#8] : List (BitVec 8)).length 1, .slice none 0 0] : List Value))) ++ r46) 29) :: (((some b35), blk ((u8s ([164#8] : List (BitVec 8))) ++ []) 5) :: (B23 ++ (B12 ++ [])))))))))) (fun w q => More.mono (fun w m => (m).appR) q)
          replace v219 := v219.mono (Ψ := More w0 Φ (B286 ++ (B258 ++ (B235 ++ (B207 ++ (B184 ++ ((ob45, blk ((cs24 ++ (([.bool false, .slice (((some b35)).map fun k => ⟨k, 0, none⟩) ([164#8] : List (BitVec 8)).length 1, .slice none 0 0] : List Value))) ++ r46) 29) :: (((some b35), blk ((u8s ([164#8] : List (BitVec 8))) ++ []) 5) :: (B23 ++ (B12 ++ [])))))))))) (fun w q => More.mono (fun w m => (m).appR) q)
          replace h221 := h221.mono (ItRd.mono (Ψ := More w0 Φ (B286 ++ (B258 ++ (B235 ++ (B207 ++ (B184 ++ ((ob45, blk ((cs24 ++ (([.bool false, .slice (((some b35)).map fun k => ⟨k, 0, none⟩) ([164#8] : List (BitVec 8)).length 1, .slice none 0 0] : List Value))) ++ r46) 29) :: (((some b35), blk ((u8s ([164#8] : List (BitVec 8))) ++ []) 5) :: (B23 ++ (B12 ++ [])))))))))) (fun w q => More.mono (fun w m => (m).appR) q))
          replace h251 := ItRd.mono (Ψ := More w0 Φ (B286 ++ (B258 ++ (B235 ++ (B207 ++ (B184 ++ ((ob45, blk ((cs24 ++ (([.bool false, .slice (((some b35)).map fun k => ⟨k, 0, none⟩) ([164#8] : List (BitVec 8)).length 1, .slice none 0 0] : List Value))) ++ r46) 29) :: (((some b35), blk ((u8s ([164#8] : List (BitVec 8))) ++ []) 5) :: (B23 ++ (B12 ++ [])))))))))) (fun w q => More.mono (fun w m => (m).appR) q) _ _ h251
          replace v244 := v244.mono (Ψ := More w0 Φ (B286 ++ (B258 ++ (B235 ++ (B207 ++ (B184 ++ ((ob45, blk ((cs24 ++ (([.bool false, .slice (((some b35)).map fun k => ⟨k, 0, none⟩) ([164#8] : List (BitVec 8)).length 1, .slice none 0 0] : List Value))) ++ r46) 29) :: (((some b35), blk ((u8s ([164#8] : List (BitVec 8))) ++ []) 5) :: (B23 ++ (B12 ++ [])))))))))) (fun w q => More.mono (fun w m => (m).appR) q)
          replace v247 := v247.mono (Ψ := More w0 Φ (B286 ++ (B258 ++ (B235 ++ (B207 ++ (B184 ++ ((ob45, blk ((cs24 ++ (([.bool false, .slice (((some b35)).map fun k => ⟨k, 0, none⟩) ([164#8] : List (BitVec 8)).length 1, .slice none 0 0] : List Value))) ++ r46) 29) :: (((some b35), blk ((u8s ([164#8] : List (BitVec 8))) ++ []) 5) :: (B23 ++ (B12 ++ [])))))))))) (fun w q => More.mono (fun w m => (m).appR) q)
          replace h249 := h249.mono (ItRd.mono (Ψ := More w0 Φ (B286 ++ (B258 ++ (B235 ++ (B207 ++ (B184 ++ ((ob45, blk ((cs24 ++ (([.bool false, .slice (((some b35)).map fun k => ⟨k, 0, none⟩) ([164#8] : List (BitVec 8)).length 1, .slice none 0 0] : List Value))) ++ r46) 29) :: (((some b35), blk ((u8s ([164#8] : List (BitVec 8))) ++ []) 5) :: (B23 ++ (B12 ++ [])))))))))) (fun w q => More.mono (fun w m => (m).appR) q))
          replace h274 := ItRd.mono (Ψ := More w0 Φ (B286 ++ (B258 ++ (B235 ++ (B207 ++ (B184 ++ ((ob45, blk ((cs24 ++ (([.bool false, .slice (((some b35)).map fun k => ⟨k, 0, none⟩) ([164#8] : List (BitVec 8)).length 1, .slice none 0 0] : List Value))) ++ r46) 29) :: (((some b35), blk ((u8s ([164#8] : List (BitVec 8))) ++ []) 5) :: (B23 ++ (B12 ++ [])))))))))) (fun w q => More.mono (fun w m => (m).appR) q) _ _ h274
          replace v267 := v267.mono (Ψ := More w0 Φ (B286 ++ (B258 ++ (B235 ++ (B207 ++ (B184 ++ ((ob45, blk ((cs24 ++ (([.bool false, .slice (((some b35)).map fun k => ⟨k, 0, none⟩) ([164#8] : List (BitVec 8)).length 1, .slice none 0 0] : List Value))) ++ r46) 29) :: (((some b35), blk ((u8s ([164#8] : List (BitVec 8))) ++ []) 5) :: (B23 ++ (B12 ++ [])))))))))) (fun w q => More.mono (fun w m => (m).appR) q)
          replace v270 := v270.mono (Ψ := More w0 Φ (B286 ++ (B258 ++ (B235 ++ (B207 ++ (B184 ++ ((ob45, blk ((cs24 ++ (([.bool false, .slice (((some b35)).map fun k => ⟨k, 0, none⟩) ([164#8] : List (BitVec 8)).length 1, .slice none 0 0] : List Value))) ++ r46) 29) :: (((some b35), blk ((u8s ([164#8] : List (BitVec 8))) ++ []) 5) :: (B23 ++ (B12 ++ [])))))))))) (fun w q => More.mono (fun w m => (m).appR) q)
          replace h272 := h272.mono (ItRd.mono (Ψ := More w0 Φ (B286 ++ (B258 ++ (B235 ++ (B207 ++ (B184 ++ ((ob45, blk ((cs24 ++ (([.bool false, .slice (((some b35)).map fun k => ⟨k, 0, none⟩) ([164#8] : List (BitVec 8)).length 1, .slice none 0 0] : List Value))) ++ r46) 29) :: (((some b35), blk ((u8s ([164#8] : List (BitVec 8))) ++ []) 5) :: (B23 ++ (B12 ++ [])))))))))) (fun w q => More.mono (fun w m => (m).appR) q))
          replace h288 := ItRd.mono (Ψ := (More w0 Φ (B286 ++ (B258 ++ (B235 ++ (B207 ++ (B184 ++ ((ob45, blk ((cs24 ++ (([.bool false, .slice (((some b35)).map fun k => ⟨k, 0, none⟩) ([164#8] : List (BitVec 8)).length 1, .slice none 0 0] : List Value))) ++ r46) 29) :: (((some b35), blk ((u8s ([164#8] : List (BitVec 8))) ++ []) 5) :: (B23 ++ (B12 ++ []))))))))))) (fun w q => More.flat q) _ _ h288
          have h302 := h288
          obtain ⟨A293, c294, A296, c297, cs299, e301, v295, v298, h300⟩ := ItRd.opn h288
          subst e301
          have m303 := v295.mx
          have m304 := v298.mx
          have m305 := v295.mx
          have m306 := v298.mx
          obtain ⟨x308, hx307, hq57⟩ := some_bind hq57
          refine UW.callG 20 rfl (by kernel_rfl) rfl Try.call23 rfl (fun N' hN' => waybillref07_Small_does w0 (More w0 Φ (B286 ++ (B258 ++ (B235 ++ (B207 ++ (B184 ++ ((ob45, blk ((cs24 ++ (([.bool false, .slice (((some b35)).map fun k => ⟨k, 0, none⟩) ([164#8] : List (BitVec 8)).length 1, .slice none 0 0] : List Value))) ++ r46) 29) :: (((some b35), blk ((u8s ([164#8] : List (BitVec 8))) ++ []) 5) :: (B23 ++ (B12 ++ [])))))))))) N' (fun w m => More.of hΦ 2 (hN' w m) rfl) (a1[1]) x308 hx307) rfl ?_
          rintro L312 M313 ⟨B309, cs310, h311, e314, e315⟩
          rw [e314, e315]
          clear e314 e315 L312 M313
          refine UW.mem (M' := (((some b37), blk ((([.bool false, .slice (((some b35)).map fun k => ⟨k, 0, none⟩) ([164#8] : List (BitVec 8)).length 1, .slice none 0 0] : List Value)) ++ []) 29) :: (some b3, blk (u64s a1.toList) 25) :: ((B309 ++ (B286 ++ (B258 ++ (B235 ++ (B207 ++ (B184 ++ ((ob45, blk ((cs24 ++ (([.bool false, .slice (((some b35)).map fun k => ⟨k, 0, none⟩) ([164#8] : List (BitVec 8)).length 1, .slice none 0 0] : List Value))) ++ r46) 29) :: (((some b35), blk ((u8s ([164#8] : List (BitVec 8))) ++ []) 5) :: (B23 ++ (B12 ++ [])))))))))) ++ N))) (fun w m => by have h := Mem.sinkAt (A := B309) m 0 2 rfl rfl; exact h) ?_
          replace va0 := va0.mono (Ψ := More w0 Φ (B309 ++ (B286 ++ (B258 ++ (B235 ++ (B207 ++ (B184 ++ ((ob45, blk ((cs24 ++ (([.bool false, .slice (((some b35)).map fun k => ⟨k, 0, none⟩) ([164#8] : List (BitVec 8)).length 1, .slice none 0 0] : List Value))) ++ r46) 29) :: (((some b35), blk ((u8s ([164#8] : List (BitVec 8))) ++ []) 5) :: (B23 ++ (B12 ++ []))))))))))) (fun w q => More.mono (fun w m => (m).appR) q)
          replace va2 := va2.mono (Ψ := More w0 Φ (B309 ++ (B286 ++ (B258 ++ (B235 ++ (B207 ++ (B184 ++ ((ob45, blk ((cs24 ++ (([.bool false, .slice (((some b35)).map fun k => ⟨k, 0, none⟩) ([164#8] : List (BitVec 8)).length 1, .slice none 0 0] : List Value))) ++ r46) 29) :: (((some b35), blk ((u8s ([164#8] : List (BitVec 8))) ++ []) 5) :: (B23 ++ (B12 ++ []))))))))))) (fun w q => More.mono (fun w m => (m).appR) q)
          replace ha2 := ha2.mono (ItRd.mono (Ψ := More w0 Φ (B309 ++ (B286 ++ (B258 ++ (B235 ++ (B207 ++ (B184 ++ ((ob45, blk ((cs24 ++ (([.bool false, .slice (((some b35)).map fun k => ⟨k, 0, none⟩) ([164#8] : List (BitVec 8)).length 1, .slice none 0 0] : List Value))) ++ r46) 29) :: (((some b35), blk ((u8s ([164#8] : List (BitVec 8))) ++ []) 5) :: (B23 ++ (B12 ++ []))))))))))) (fun w q => More.mono (fun w m => (m).appR) q))
          replace v15 := v15.mono (Ψ := More w0 Φ (B309 ++ (B286 ++ (B258 ++ (B235 ++ (B207 ++ (B184 ++ ((ob45, blk ((cs24 ++ (([.bool false, .slice (((some b35)).map fun k => ⟨k, 0, none⟩) ([164#8] : List (BitVec 8)).length 1, .slice none 0 0] : List Value))) ++ r46) 29) :: (((some b35), blk ((u8s ([164#8] : List (BitVec 8))) ++ []) 5) :: (B23 ++ (B12 ++ []))))))))))) (fun w q => More.mono (fun w m => (m).appR) q)
          replace v14 := v14.mono (Ψ := More w0 Φ (B309 ++ (B286 ++ (B258 ++ (B235 ++ (B207 ++ (B184 ++ ((ob45, blk ((cs24 ++ (([.bool false, .slice (((some b35)).map fun k => ⟨k, 0, none⟩) ([164#8] : List (BitVec 8)).length 1, .slice none 0 0] : List Value))) ++ r46) 29) :: (((some b35), blk ((u8s ([164#8] : List (BitVec 8))) ++ []) 5) :: (B23 ++ (B12 ++ []))))))))))) (fun w q => More.mono (fun w m => (m).appR) q)
          replace h25 := h25.mono (ItRd.mono (Ψ := More w0 Φ (B309 ++ (B286 ++ (B258 ++ (B235 ++ (B207 ++ (B184 ++ ((ob45, blk ((cs24 ++ (([.bool false, .slice (((some b35)).map fun k => ⟨k, 0, none⟩) ([164#8] : List (BitVec 8)).length 1, .slice none 0 0] : List Value))) ++ r46) 29) :: (((some b35), blk ((u8s ([164#8] : List (BitVec 8))) ++ []) 5) :: (B23 ++ (B12 ++ []))))))))))) (fun w q => More.mono (fun w m => (m).appR) q))
          replace v39 := v39.mono (Ψ := More w0 Φ (B309 ++ (B286 ++ (B258 ++ (B235 ++ (B207 ++ (B184 ++ ((ob45, blk ((cs24 ++ (([.bool false, .slice (((some b35)).map fun k => ⟨k, 0, none⟩) ([164#8] : List (BitVec 8)).length 1, .slice none 0 0] : List Value))) ++ r46) 29) :: (((some b35), blk ((u8s ([164#8] : List (BitVec 8))) ++ []) 5) :: (B23 ++ (B12 ++ []))))))))))) (fun w q => More.mono (fun w m => (m).appR) q)
          replace h41 := h41.mono (ItRd.mono (Ψ := More w0 Φ (B309 ++ (B286 ++ (B258 ++ (B235 ++ (B207 ++ (B184 ++ ((ob45, blk ((cs24 ++ (([.bool false, .slice (((some b35)).map fun k => ⟨k, 0, none⟩) ([164#8] : List (BitVec 8)).length 1, .slice none 0 0] : List Value))) ++ r46) 29) :: (((some b35), blk ((u8s ([164#8] : List (BitVec 8))) ++ []) 5) :: (B23 ++ (B12 ++ []))))))))))) (fun w q => More.mono (fun w m => (m).appR) q))
          replace v51 := v51.mono (Ψ := More w0 Φ (B309 ++ (B286 ++ (B258 ++ (B235 ++ (B207 ++ (B184 ++ ((ob45, blk ((cs24 ++ (([.bool false, .slice (((some b35)).map fun k => ⟨k, 0, none⟩) ([164#8] : List (BitVec 8)).length 1, .slice none 0 0] : List Value))) ++ r46) 29) :: (((some b35), blk ((u8s ([164#8] : List (BitVec 8))) ++ []) 5) :: (B23 ++ (B12 ++ []))))))))))) (fun w q => More.mono (fun w m => (m).appR) q)
          replace h49 := h49.mono (ItRd.mono (Ψ := More w0 Φ (B309 ++ (B286 ++ (B258 ++ (B235 ++ (B207 ++ (B184 ++ ((ob45, blk ((cs24 ++ (([.bool false, .slice (((some b35)).map fun k => ⟨k, 0, none⟩) ([164#8] : List (BitVec 8)).length 1, .slice none 0 0] : List Value))) ++ r46) 29) :: (((some b35), blk ((u8s ([164#8] : List (BitVec 8))) ++ []) 5) :: (B23 ++ (B12 ++ []))))))))))) (fun w q => More.mono (fun w m => (m).appR) q))
          replace v52 := v52.mono (Ψ := More w0 Φ (B309 ++ (B286 ++ (B258 ++ (B235 ++ (B207 ++ (B184 ++ ((ob45, blk ((cs24 ++ (([.bool false, .slice (((some b35)).map fun k => ⟨k, 0, none⟩) ([164#8] : List (BitVec 8)).length 1, .slice none 0 0] : List Value))) ++ r46) 29) :: (((some b35), blk ((u8s ([164#8] : List (BitVec 8))) ++ []) 5) :: (B23 ++ (B12 ++ []))))))))))) (fun w q => More.mono (fun w m => (m).appR) q)
          replace h54 := h54.mono (ItRd.mono (Ψ := More w0 Φ (B309 ++ (B286 ++ (B258 ++ (B235 ++ (B207 ++ (B184 ++ ((ob45, blk ((cs24 ++ (([.bool false, .slice (((some b35)).map fun k => ⟨k, 0, none⟩) ([164#8] : List (BitVec 8)).length 1, .slice none 0 0] : List Value))) ++ r46) 29) :: (((some b35), blk ((u8s ([164#8] : List (BitVec 8))) ++ []) 5) :: (B23 ++ (B12 ++ []))))))))))) (fun w q => More.mono (fun w m => (m).appR) q))
          replace h200 := ItRd.mono (Ψ := More w0 Φ (B309 ++ (B286 ++ (B258 ++ (B235 ++ (B207 ++ (B184 ++ ((ob45, blk ((cs24 ++ (([.bool false, .slice (((some b35)).map fun k => ⟨k, 0, none⟩) ([164#8] : List (BitVec 8)).length 1, .slice none 0 0] : List Value))) ++ r46) 29) :: (((some b35), blk ((u8s ([164#8] : List (BitVec 8))) ++ []) 5) :: (B23 ++ (B12 ++ []))))))))))) (fun w q => More.mono (fun w m => (m).appR) q) _ _ h200
          replace v193 := v193.mono (Ψ := More w0 Φ (B309 ++ (B286 ++ (B258 ++ (B235 ++ (B207 ++ (B184 ++ ((ob45, blk ((cs24 ++ (([.bool false, .slice (((some b35)).map fun k => ⟨k, 0, none⟩) ([164#8] : List (BitVec 8)).length 1, .slice none 0 0] : List Value))) ++ r46) 29) :: (((some b35), blk ((u8s ([164#8] : List (BitVec 8))) ++ []) 5) :: (B23 ++ (B12 ++ []))))))))))) (fun w q => More.mono (fun w m => (m).appR) q)
          replace v196 := v196.mono (Ψ := More w0 Φ (B309 ++ (B286 ++ (B258 ++ (B235 ++ (B207 ++ (B184 ++ ((ob45, blk ((cs24 ++ (([.bool false, .slice (((some b35)).map fun k => ⟨k, 0, none⟩) ([164#8] : List (BitVec 8)).length 1, .slice none 0 0] : List Value))) ++ r46) 29) :: (((some b35), blk ((u8s ([164#8] : List (BitVec 8))) ++ []) 5) :: (B23 ++ (B12 ++ []))))))))))) (fun w q => More.mono (fun w m => (m).appR) q)
          replace h198 := h198.mono (ItRd.mono (Ψ := More w0 Φ (B309 ++ (B286 ++ (B258 ++ (B235 ++ (B207 ++ (B184 ++ ((ob45, blk ((cs24 ++ (([.bool false, .slice (((some b35)).map fun k => ⟨k, 0, none⟩) ([164#8] : List (BitVec 8)).length 1, .slice none 0 0] : List Value))) ++ r46) 29) :: (((some b35), blk ((u8s ([164#8] : List (BitVec 8))) ++ []) 5) :: (B23 ++ (B12 ++ []))))))))))) (fun w q => More.mono (fun w m => (m).appR) q))
          replace h223 := ItRd.mono (Ψ := More w0 Φ (B309 ++ (B286 ++ (B258 ++ (B235 ++ (B207 ++ (B184 ++ ((ob45, blk ((cs24 ++ (([.bool false, .slice (((some b35)).map fun k => ⟨k, 0, none⟩) ([164#8] : List (BitVec 8)).length 1, .slice none 0 0] : List Value))) ++ r46) 29) :: (((some b35), blk ((u8s ([164#8] : List (BitVec 8))) ++ []) 5) :: (B23 ++ (B12 ++ []))))))))))) (fun w q => More.mono (fun w m => (m).appR) q) _ _ h223
          replace v216 := v216.mono (Ψ := More w0 Φ (B309 ++ (B286 ++ (B258 ++ (B235 ++ (B207 ++ (B184 ++ ((ob45, blk ((cs24 ++ (([.bool false, .slice (((some b35)).map fun k => ⟨k, 0, none⟩) ([164#8] : List (BitVec 8)).length 1, .slice none 0 0] : List Value))) ++ r46) 29) :: (((some b35), blk ((u8s ([164#8] : List (BitVec 8))) ++ []) 5) :: (B23 ++ (B12 ++ []))))))))))) (fun w q => More.mono (fun w m => (m).appR) q)
          replace v219 := v219.mono (Ψ := More w0 Φ (B309 ++ (B286 ++ (B258 ++ (B235 ++ (B207 ++ (B184 ++ ((ob45, blk ((cs24 ++ (([.bool false, .slice (((some b35)).map fun k => ⟨k, 0, none⟩) ([164#8] : List (BitVec 8)).length 1, .slice none 0 0] : List Value))) ++ r46) 29) :: (((some b35), blk ((u8s ([164#8] : List (BitVec 8))) ++ []) 5) :: (B23 ++ (B12 ++ []))))))))))) (fun w q => More.mono (fun w m => (m).appR) q)
          replace h221 := h221.mono (ItRd.mono (Ψ := More w0 Φ (B309 ++ (B286 ++ (B258 ++ (B235 ++ (B207 ++ (B184 ++ ((ob45, blk ((cs24 ++ (([.bool false, .slice (((some b35)).map fun k => ⟨k, 0, none⟩) ([164#8] : List (BitVec 8)).length 1, .slice none 0 0] : List Value))) ++ r46) 29) :: (((some b35), blk ((u8s ([164#8] : List (BitVec 8))) ++ []) 5) :: (B23 ++ (B12 ++ []))))))))))) (fun w q => More.mono (fun w m => (m).appR) q))
          replace h251 := ItRd.mono (Ψ := More w0 Φ (B309 ++ (B286 ++ (B258 ++ (B235 ++ (B207 ++ (B184 ++ ((ob45, blk ((cs24 ++ (([.bool false, .slice (((some b35)).map fun k => ⟨k, 0, none⟩) ([164#8] : List (BitVec 8)).length 1, .slice none 0 0] : List Value))) ++ r46) 29) :: (((some b35), blk ((u8s ([164#8] : List (BitVec 8))) ++ []) 5) :: (B23 ++ (B12 ++ []))))))))))) (fun w q => More.mono (fun w m => (m).appR) q) _ _ h251
          replace v244 := v244.mono (Ψ := More w0 Φ (B309 ++ (B286 ++ (B258 ++ (B235 ++ (B207 ++ (B184 ++ ((ob45, blk ((cs24 ++ (([.bool false, .slice (((some b35)).map fun k => ⟨k, 0, none⟩) ([164#8] : List (BitVec 8)).length 1, .slice none 0 0] : List Value))) ++ r46) 29) :: (((some b35), blk ((u8s ([164#8] : List (BitVec 8))) ++ []) 5) :: (B23 ++ (B12 ++ []))))))))))) (fun w q => More.mono (fun w m => (m).appR) q)
          replace v247 := v247.mono (Ψ := More w0 Φ (B309 ++ (B286 ++ (B258 ++ (B235 ++ (B207 ++ (B184 ++ ((ob45, blk ((cs24 ++ (([.bool false, .slice (((some b35)).map fun k => ⟨k, 0, none⟩) ([164#8] : List (BitVec 8)).length 1, .slice none 0 0] : List Value))) ++ r46) 29) :: (((some b35), blk ((u8s ([164#8] : List (BitVec 8))) ++ []) 5) :: (B23 ++ (B12 ++ []))))))))))) (fun w q => More.mono (fun w m => (m).appR) q)
          replace h249 := h249.mono (ItRd.mono (Ψ := More w0 Φ (B309 ++ (B286 ++ (B258 ++ (B235 ++ (B207 ++ (B184 ++ ((ob45, blk ((cs24 ++ (([.bool false, .slice (((some b35)).map fun k => ⟨k, 0, none⟩) ([164#8] : List (BitVec 8)).length 1, .slice none 0 0] : List Value))) ++ r46) 29) :: (((some b35), blk ((u8s ([164#8] : List (BitVec 8))) ++ []) 5) :: (B23 ++ (B12 ++ []))))))))))) (fun w q => More.mono (fun w m => (m).appR) q))
          replace h274 := ItRd.mono (Ψ := More w0 Φ (B309 ++ (B286 ++ (B258 ++ (B235 ++ (B207 ++ (B184 ++ ((ob45, blk ((cs24 ++ (([.bool false, .slice (((some b35)).map fun k => ⟨k, 0, none⟩) ([164#8] : List (BitVec 8)).length 1, .slice none 0 0] : List Value))) ++ r46) 29) :: (((some b35), blk ((u8s ([164#8] : List (BitVec 8))) ++ []) 5) :: (B23 ++ (B12 ++ []))))))))))) (fun w q => More.mono (fun w m => (m).appR) q) _ _ h274
          replace v267 := v267.mono (Ψ := More w0 Φ (B309 ++ (B286 ++ (B258 ++ (B235 ++ (B207 ++ (B184 ++ ((ob45, blk ((cs24 ++ (([.bool false, .slice (((some b35)).map fun k => ⟨k, 0, none⟩) ([164#8] : List (BitVec 8)).length 1, .slice none 0 0] : List Value))) ++ r46) 29) :: (((some b35), blk ((u8s ([164#8] : List (BitVec 8))) ++ []) 5) :: (B23 ++ (B12 ++ []))))))))))) (fun w q => More.mono (fun w m => (m).appR) q)
          replace v270 := v270.mono (Ψ := More w0 Φ (B309 ++ (B286 ++ (B258 ++ (B235 ++ (B207 ++ (B184 ++ ((ob45, blk ((cs24 ++ (([.bool false, .slice (((some b35)).map fun k => ⟨k, 0, none⟩) ([164#8] : List (BitVec 8)).length 1, .slice none 0 0] : List Value))) ++ r46) 29) :: (((some b35), blk ((u8s ([164#8] : List (BitVec 8))) ++ []) 5) :: (B23 ++ (B12 ++ []))))))))))) (fun w q => More.mono (fun w m => (m).appR) q)
          replace h272 := h272.mono (ItRd.mono (Ψ := More w0 Φ (B309 ++ (B286 ++ (B258 ++ (B235 ++ (B207 ++ (B184 ++ ((ob45, blk ((cs24 ++ (([.bool false, .slice (((some b35)).map fun k => ⟨k, 0, none⟩) ([164#8] : List (BitVec 8)).length 1, .slice none 0 0] : List Value))) ++ r46) 29) :: (((some b35), blk ((u8s ([164#8] : List (BitVec 8))) ++ []) 5) :: (B23 ++ (B12 ++ []))))))))))) (fun w q => More.mono (fun w m => (m).appR) q))
          replace h302 := ItRd.mono (Ψ := More w0 Φ (B309 ++ (B286 ++ (B258 ++ (B235 ++ (B207 ++ (B184 ++ ((ob45, blk ((cs24 ++ (([.bool false, .slice (((some b35)).map fun k => ⟨k, 0, none⟩) ([164#8] : List (BitVec 8)).length 1, .slice none 0 0] : List Value))) ++ r46) 29) :: (((some b35), blk ((u8s ([164#8] : List (BitVec 8))) ++ []) 5) :: (B23 ++ (B12 ++ []))))))))))) (fun w q => More.mono (fun w m => (m).appR) q) _ _ h302
          replace v295 := v295.mono (Ψ := More w0 Φ (B309 ++ (B286 ++ (B258 ++ (B235 ++ (B207 ++ (B184 ++ ((ob45, blk ((cs24 ++ (([.bool false, .slice (((some b35)).map fun k => ⟨k, 0, none⟩) ([164#8] : List (BitVec 8)).length 1, .slice none 0 0] : List Value))) ++ r46) 29) :: (((some b35), blk ((u8s ([164#8] : List (BitVec 8))) ++ []) 5) :: (B23 ++ (B12 ++ []))))))))))) (fun w q => More.mono (fun w m => (m).appR) q)
          replace v298 := v298.mono (Ψ := More w0 Φ (B309 ++ (B286 ++ (B258 ++ (B235 ++ (B207 ++ (B184 ++ ((ob45, blk ((cs24 ++ (([.bool false, .slice (((some b35)).map fun k => ⟨k, 0, none⟩) ([164#8] : List (BitVec 8)).length 1, .slice none 0 0] : List Value))) ++ r46) 29) :: (((some b35), blk ((u8s ([164#8] : List (BitVec 8))) ++ []) 5) :: (B23 ++ (B12 ++ []))))))))))) (fun w q => More.mono (fun w m => (m).appR) q)
          replace h300 := h300.mono (ItRd.mono (Ψ := More w0 Φ (B309 ++ (B286 ++ (B258 ++ (B235 ++ (B207 ++ (B184 ++ ((ob45, blk ((cs24 ++ (([.bool false, .slice (((some b35)).map fun k => ⟨k, 0, none⟩) ([164#8] : List (BitVec 8)).length 1, .slice none 0 0] : List Value))) ++ r46) 29) :: (((some b35), blk ((u8s ([164#8] : List (BitVec 8))) ++ []) 5) :: (B23 ++ (B12 ++ []))))))))))) (fun w q => More.mono (fun w m => (m).appR) q))
          replace h311 := ItRd.mono (Ψ := (More w0 Φ (B309 ++ (B286 ++ (B258 ++ (B235 ++ (B207 ++ (B184 ++ ((ob45, blk ((cs24 ++ (([.bool false, .slice (((some b35)).map fun k => ⟨k, 0, none⟩) ([164#8] : List (BitVec 8)).length 1, .slice none 0 0] : List Value))) ++ r46) 29) :: (((some b35), blk ((u8s ([164#8] : List (BitVec 8))) ++ []) 5) :: (B23 ++ (B12 ++ [])))))))))))) (fun w q => More.flat q) _ _ h311
          have h325 := h311
          obtain ⟨A316, c317, A319, c320, cs322, e324, v318, v321, h323⟩ := ItRd.opn h311
          subst e324
          have m326 := v318.mx
          have m327 := v321.mx
          have m328 := v318.mx
          have m329 := v321.mx
          obtain ⟨x331, hx330, hq57⟩ := some_bind hq57
          refine UW.callG 21 rfl (by kernel_rfl) rfl Try.call17 rfl (fun N' hN' => waybillref07_Same_does w0 (More w0 Φ (B309 ++ (B286 ++ (B258 ++ (B235 ++ (B207 ++ (B184 ++ ((ob45, blk ((cs24 ++ (([.bool false, .slice (((some b35)).map fun k => ⟨k, 0, none⟩) ([164#8] : List (BitVec 8)).length 1, .slice none 0 0] : List Value))) ++ r46) 29) :: (((some b35), blk ((u8s ([164#8] : List (BitVec 8))) ++ []) 5) :: (B23 ++ (B12 ++ []))))))))))) N' (fun w m => More.of hΦ 2 (hN' w m) rfl) [.bool (x285.list), .slice A293 x285.data.length c294, .slice A296 x285.items.length c297] x285 [.bool (x308.list), .slice A316 x308.data.length c317, .slice A319 x308.items.length c320] x308 x331 h302 h325 hx330) rfl ?_
          rintro _ G332 rfl
          refine UW.mem (M' := (((some b37), blk ((([.bool false, .slice (((some b35)).map fun k => ⟨k, 0, none⟩) ([164#8] : List (BitVec 8)).length 1, .slice none 0 0] : List Value)) ++ []) 29) :: (some b3, blk (u64s a1.toList) 25) :: ((B309 ++ (B286 ++ (B258 ++ (B235 ++ (B207 ++ (B184 ++ ((ob45, blk ((cs24 ++ (([.bool false, .slice (((some b35)).map fun k => ⟨k, 0, none⟩) ([164#8] : List (BitVec 8)).length 1, .slice none 0 0] : List Value))) ++ r46) 29) :: (((some b35), blk ((u8s ([164#8] : List (BitVec 8))) ++ []) 5) :: (B23 ++ (B12 ++ [])))))))))) ++ N))) (fun w m => m.appR) ?_
          refine UW.rv 22 rfl (by kernel_rfl) rfl (RV.not rfl) rfl ?_
          refine UW.rv 23 rfl (by kernel_rfl) rfl (RV.pick_f rfl rfl rfl) rfl ?_
          refine UW.nil (by kernel_rfl) ?_
          refine OW.nil ?_
          exact QW.join ⟨(!x331), (B309 ++ (B286 ++ (B258 ++ (B235 ++ (B207 ++ (B184 ++ ((ob45, blk ((cs24 ++ (([.bool false, .slice (((some b35)).map fun k => ⟨k, 0, none⟩) ([164#8] : List (BitVec 8)).length 1, .slice none 0 0] : List Value))) ++ r46) 29) :: (((some b35), blk ((u8s ([164#8] : List (BitVec 8))) ++ []) 5) :: (B23 ++ (B12 ++ [])))))))))), (Option.some.inj hq57).symm, (fun w m => ((((((m).appR).appR).appR).appR).appR).appR), rfl, rfl⟩ ⟨rfl, rfl, rfl, rfl, rfl, trivial⟩ (fun w m => m.pick [] 2 rfl rfl)
        · replace hq57 := if_f hq57 h283
          refine UW.slot (.bool true) (congrArg Value.bool (congrArg (fun b => !b) (Bool.eq_false_iff.2 h283))) ?_
          refine UW.skip 15 rfl (by kernel_rfl) rfl rfl ?_
          refine UW.skip 16 rfl (by kernel_rfl) rfl rfl ?_
          refine UW.skip 18 rfl (by kernel_rfl) rfl rfl ?_
          refine UW.skip 19 rfl (by kernel_rfl) rfl rfl ?_
          refine UW.skip 17 rfl (by kernel_rfl) rfl rfl ?_
          refine UW.skip 20 rfl (by kernel_rfl) rfl rfl ?_
          refine UW.skip 21 rfl (by kernel_rfl) rfl rfl ?_
          refine UW.skip 22 rfl (by kernel_rfl) rfl rfl ?_
          refine UW.rv 23 rfl (by kernel_rfl) rfl (RV.pick_t rfl rfl rfl) rfl ?_
          refine UW.nil (by kernel_rfl) ?_
          refine OW.nil ?_
          exact QW.join ⟨true, (B258 ++ (B235 ++ (B207 ++ (B184 ++ ((ob45, blk ((cs24 ++ (([.bool false, .slice (((some b35)).map fun k => ⟨k, 0, none⟩) ([164#8] : List (BitVec 8)).length 1, .slice none 0 0] : List Value))) ++ r46) 29) :: (((some b35), blk ((u8s ([164#8] : List (BitVec 8))) ++ []) 5) :: (B23 ++ (B12 ++ [])))))))), (Option.some.inj hq57).symm, (fun w m => ((((m).appR).appR).appR).appR), rfl, rfl⟩ ⟨rfl, rfl, rfl, rfl, rfl, trivial⟩ (fun w m => m.pick [] 2 rfl rfl)
      · replace hq57 := if_f hq57 h232
        refine UW.slot (.bool true) (congrArg Value.bool (congrArg (fun b => !b) (Bool.eq_false_iff.2 h232))) ?_
        refine UW.skip 7 rfl (by kernel_rfl) rfl rfl ?_
        refine UW.skip 9 rfl (by kernel_rfl) rfl rfl ?_
        refine UW.skip 8 rfl (by kernel_rfl) rfl rfl ?_
        refine UW.skip 10 rfl (by kernel_rfl) rfl rfl ?_
        refine UW.skip 11 rfl (by kernel_rfl) rfl rfl ?_
        refine UW.skip 12 rfl (by kernel_rfl) rfl rfl ?_
        refine UW.rv 13 rfl (by kernel_rfl) rfl (RV.pick_t rfl rfl rfl) rfl ?_
        refine UW.rv 14 rfl (by kernel_rfl) rfl (RV.move rfl) rfl ?_
        refine UW.skip 15 rfl (by kernel_rfl) rfl rfl ?_
        refine UW.skip 16 rfl (by kernel_rfl) rfl rfl ?_
        refine UW.skip 18 rfl (by kernel_rfl) rfl rfl ?_
        refine UW.skip 19 rfl (by kernel_rfl) rfl rfl ?_
        refine UW.skip 17 rfl (by kernel_rfl) rfl rfl ?_
        refine UW.skip 20 rfl (by kernel_rfl) rfl rfl ?_
        refine UW.skip 21 rfl (by kernel_rfl) rfl rfl ?_
        refine UW.skip 22 rfl (by kernel_rfl) rfl rfl ?_
        refine UW.rv 23 rfl (by kernel_rfl) rfl (RV.pick_t rfl rfl rfl) rfl ?_
        refine UW.nil (by kernel_rfl) ?_
        refine OW.nil ?_
        exact QW.join ⟨true, (B207 ++ (B184 ++ ((ob45, blk ((cs24 ++ (([.bool false, .slice (((some b35)).map fun k => ⟨k, 0, none⟩) ([164#8] : List (BitVec 8)).length 1, .slice none 0 0] : List Value))) ++ r46) 29) :: (((some b35), blk ((u8s ([164#8] : List (BitVec 8))) ++ []) 5) :: (B23 ++ (B12 ++ [])))))), (Option.some.inj hq57).symm, (fun w m => ((m).appR).appR), rfl, rfl⟩ ⟨rfl, rfl, rfl, rfl, rfl, trivial⟩ (fun w m => m.pick [] 2 rfl rfl)
end Go.Fw.Try
