/- Part of a proof over Ytgdohhccpghofaa: rules and contracts that the law's text uses. No condition. -/
import Derived.Test.YtgdohhccpghofaaTy
import Derived.Test.YtgdohhccpghofaaExt
import Derived.Test.YtgdohhccpghofaaRlpRoom
import Derived.Test.YtgdohhccpghofaaRtL
import Derived.Test.YtgdohhccpghofaaRlpP1
import Derived.Test.YtgdohhccpghofaaRlpP2
import Derived.Test.YtgdohhccpghofaaRlpP3
import Derived.Test.YtgdohhccpghofaaRlpP4
import Derived.Test.YtgdohhccpghofaaRlpP5
import Derived.Test.YtgdohhccpghofaaRlpReadsW1
namespace Go.Fw.Try
open Go Go.Proofs Go.Fw
set_option maxRecDepth 100000
set_option linter.unusedVariables false
set_option linter.unusedSimpArgs false
set_option maxHeartbeats 1000000
theorem copy_one (w0 : World) (kf : Nat) (Φ : Ctx) (N : List Ent) (hΦ : ∀ w, Mem w0 w N → Φ w) (A0_ : Option Addr) (c0_ : Nat) (cs0_ : List Value) (a0 : List (It)) (res0 : List (It)) (hone : a0.length = 1) (va0 : View Φ A0_ a0.length c0_ 3 cs0_) (ha0 : Reps (ItRd Φ) cs0_ a0) (hf : waybillref07_Copy.r (kf + 1) a0 = some res0) : DoesG Try.prog 16 [.slice A0_ a0.length c0_] w0 [] N (fun v G => ∃ (B : List Ent) (x : It) (A1 : Option Addr) (c1 : Nat) (ob2 : Option Nat) (c2 : Nat) (cells r2 : List Value) (ob3 : Option Nat) (c3 : Nat) (r3 : List Value), res0 = [x] ∧ View (More w0 Φ B) A1 x.data.length c1 1 (u8s x.data) ∧ Reps (ItRd (More w0 Φ B)) cells x.items ∧ OwnS ob2 x.items.length c2 3 cells r2 ∧ OwnS ob3 1 c3 3 [.bool x.list, .slice A1 x.data.length c1, sl ob2 0 x.items.length c2] r3 ∧ v = sl ob3 0 1 c3 ∧ G = (ob3, blk ([.bool x.list, .slice A1 x.data.length c1, sl ob2 0 x.items.length c2] ++ r3) 29) :: (ob2, blk (cells ++ r2) 29) :: B) := by
  have ih := waybillref07_Copy_rec w0 kf
  rw [waybillref07_Copy.r] at hf
  replace va0 := va0.mono (Ψ := More w0 Φ []) (fun w q => q.1)
  replace ha0 := ha0.mono (ItRd.mono (Ψ := More w0 Φ []) (fun w q => q.1))
  have m1 := va0.mx
  refine DoesG.enter Try.func16 rfl Try.ntmps16 rfl (M := (([] ++ N))) rfl ?_
  refine CW.seq ?_
  refine CW.region ?_
  refine OW.rv (RV.assign rfl) rfl ?_
  refine OW.nil ?_
  refine QW.then_n ?_
  refine CW.seq ?_
  refine CW.region ?_
  refine OW.rv (RV.assign rfl) rfl ?_
  refine OW.nil ?_
  refine QW.then_n ?_
  refine CW.seq ?_
  refine CW.seq ?_
  refine CW.region ?_
  refine OW.rv (RV.assign rfl) rfl ?_
  refine OW.nil ?_
  refine QW.then_n ?_
  obtain ⟨q2, hq3, hf⟩ := some_bind hf
  refine CW.cutJ (fun L' M' => ∃ (B : List Ent) (x : It) (A1 : Option Addr) (c1 : Nat) (ob2 : Option Nat) (c2 : Nat) (cells r2 : List Value) (ob3 : Option Nat) (c3 : Nat) (r3 : List Value), q2 = [x] ∧ View (More w0 Φ B) A1 x.data.length c1 1 (u8s x.data) ∧ Reps (ItRd (More w0 Φ B)) cells x.items ∧ OwnS ob2 x.items.length c2 3 cells r2 ∧ OwnS ob3 1 c3 3 [.bool x.list, .slice A1 x.data.length c1, sl ob2 0 x.items.length c2] r3 ∧ L' = [(3, sl ob3 0 1 c3)] ∧ M' = (ob3, blk ([.bool x.list, .slice A1 x.data.length c1, sl ob2 0 x.items.length c2] ++ r3) 29) :: (ob2, blk (cells ++ r2) 29) :: (B ++ N)) ?_ ?_
  · rintro L14 M15 ⟨B, x, A1, c1, ob2, c2, cells, r2, ob3, c3, r3, e13, hv, hr, ho2, ho3, e16, e17⟩
    rw [e16, e17]
    clear e16 e17 L14 M15
    clear hq3
    rw [e13] at hf
    clear e13
    try dsimp only at hf
    refine QW.then_n ?_
    refine CW.seq ?_
    refine CW.region ?_
    refine OW.rv (RV.move rfl) rfl ?_
    refine OW.rv (RV.assign rfl) rfl ?_
    refine OW.nil ?_
    refine QW.then_n ?_
    refine CW.ret ?_
    have e0 := Option.some.inj hf
    subst e0
    refine QW.retG (rs := [.tmp 2]) ([sl ob3 0 1 c3]) ((ob3, blk ([.bool x.list, .slice A1 x.data.length c1, sl ob2 0 x.items.length c2] ++ r3) 29) :: (ob2, blk (cells ++ r2) 29) :: B) rfl ?_ rfl ?_ ?_ _ (.inl rfl)
    · exact ⟨rfl, trivial⟩
    · exact ⟨B, x, A1, c1, ob2, c2, cells, r2, ob3, c3, r3, rfl, hv, hr, ho2, ho3, rfl, rfl⟩
    · exact (fun w m => m)
  · skip
    refine CW.block ?_
    refine CW.mem (M' := ((none, blk ([] ++ []) 29) :: ([] ++ N))) (fun w m => m.nil_ent _) ?_
    refine CW.loopJ (fun k L' M' => (∃ l21 : List (It), ∃ n28 : Nat, ∃ B19 : List Ent, ∃ cs22 : List Value, ∃ ob24 : Option Nat, ∃ c25 : Nat, ∃ r26 : List Value, (waybillref07_Copy.l1 a0 (waybillref07_Copy.r kf) k l21 n28) = some q2 ∧ (∀ w, Mem w0 w B19 → Mem w0 w []) ∧ (Reps (ItRd (More w0 Φ B19)) cs22 l21) ∧ (OwnS ob24 l21.length c25 3 cs22 r26) ∧ (n28 ≤ 9223372036854775807) ∧ n28 = 0 ∧ l21 = [] ∧ cs22 = [] ∧ L' = [(0, .slice A0_ a0.length c0_), (3, sl ob24 0 l21.length c25), (4, .int .i64 ((n28 : Nat) : Int))] ∧ M' = ((ob24, blk (cs22 ++ r26) 29) :: (B19 ++ N))) ∨ (∃ (B : List Ent) (x : It) (A1 : Option Addr) (c1 : Nat) (ob2 : Option Nat) (c2 : Nat) (cells r2 : List Value) (ob3 : Option Nat) (c3 : Nat) (r3 : List Value), (waybillref07_Copy.l1 a0 (waybillref07_Copy.r kf) k [x] 1) = some q2 ∧ View (More w0 Φ B) A1 x.data.length c1 1 (u8s x.data) ∧ Reps (ItRd (More w0 Φ B)) cells x.items ∧ OwnS ob2 x.items.length c2 3 cells r2 ∧ OwnS ob3 1 c3 3 [.bool x.list, .slice A1 x.data.length c1, sl ob2 0 x.items.length c2] r3 ∧ L' = [(0, .slice A0_ a0.length c0_), (3, sl ob3 0 1 c3), (4, .int .i64 ((1 : Nat) : Int))] ∧ M' = (ob3, blk ([.bool x.list, .slice A1 x.data.length c1, sl ob2 0 x.items.length c2] ++ r3) 29) :: (ob2, blk (cells ++ r2) 29) :: (B ++ N))) (k0 := (a0.length - 0 + 2)) (.inl ⟨([] : List (It)), 0, [], [], none, 0, [], hq3, (fun w m => m), Reps.nil, OwnS.nil, (by omega), rfl, rfl, rfl, rfl, rfl⟩) ⟨rfl, rfl, rfl, trivial⟩ (fun w m => m.pick [0] 1 rfl rfl) ?_
    clear hq3
    rintro k30 L33 M34 (⟨l21, n28, B19, cs22, ob24, c25, r26, hl31, hB20, h23, o27, b29, en, el, ec, e35, e36⟩ | ⟨B, x, A1, c1, ob2, c2, cells, r2, ob3, c3, r3, hl31, hv, hr, ho2, ho3, e35, e36⟩)
    · rw [e35, e36]
      clear e35 e36 L33 M34
      rcases k30 with _ | k30
      · rw [waybillref07_Copy.l1] at hl31; cases hl31
      rw [waybillref07_Copy.l1] at hl31
      replace va0 := va0.mono (Ψ := More w0 Φ B19) (fun w q => More.mono (fun w m => hB20 w (m)) q)
      replace ha0 := ha0.mono (ItRd.mono (Ψ := More w0 Φ B19) (fun w q => More.mono (fun w m => hB20 w (m)) q))
      have m37 := o27.mx
      refine CW.seq ?_
      refine CW.seq ?_
      refine CW.region ?_
      refine OW.rv (RV.move rfl) rfl ?_
      refine OW.rv (RV.move rfl) rfl ?_
      refine OW.rv (RV.len rfl rfl) rfl ?_
      refine OW.rv (RV.lss rfl rfl) rfl ?_
      refine OW.slot (.bool (decide (n28 < a0.length))) (congrArg Value.bool (decide_eq_decide.2 (by omega))) ?_
      refine OW.nil ?_
      refine QW.then_n ?_
      by_cases h38 : n28 < a0.length
      · replace hl31 := if_t hl31 h38
        refine CW.is_t rfl (decide_eq_true h38) ?_
        refine CW.skip ?_
        refine QW.then_n ?_
        refine CW.seq ?_
        refine CW.block ?_
        refine CW.seq ?_
        refine CW.region ?_
        refine OW.rv (RV.move rfl) rfl ?_
        refine OW.rv (RV.move rfl) rfl ?_
        obtain ⟨x39, hx40, hl31⟩ := some_bind hl31
        have hl41 := lt_of_at hx40
        refine OW.rv (RV.idx_rs (n28) rfl rfl rfl rfl rfl (va0.isSome (by decide) hl41) (by omega)) rfl ?_
        obtain ⟨cs42, h43, h44⟩ := ha0.get ItRd.len hx40
        have h54 := h43
        obtain ⟨A45, c46, A48, c49, cs51, e53, v47, v50, h52⟩ := ItRd.opn h43
        subst e53
        have m55 := v47.mx
        have m56 := v50.mx
        refine OW.rv (RV.loadAs rfl rfl rfl rfl (fun w m => va0.load (More.of hΦ 1 m rfl) h44) rfl) rfl ?_
        refine OW.alloc (l := [.bool false, .slice none 0 0, .slice none 0 0]) rfl rfl rfl (fun b57 => ?_)
        refine OW.sv (SV.storeW rfl rfl rfl (by intro u hu; simp at hu; rcases hu with rfl | rfl | rfl <;> rfl) rfl rfl rfl) ?_
        refine OW.nil ?_
        refine QW.then_n ?_
        refine CW.drawsU 11 mixed (by kernel_rfl) rfl ?_
        refine UW.rv 0 rfl (by kernel_rfl) rfl (RV.move rfl) rfl ?_
        refine UW.rv 1 rfl (by kernel_rfl) rfl (RV.field rfl rfl rfl rfl) rfl ?_
        refine UW.rv 2 rfl (by kernel_rfl) rfl (RV.load rfl (List.Mem.head _) rfl rfl rfl rfl) rfl ?_
        refine UW.rv 3 rfl (by kernel_rfl) rfl (RV.field rfl rfl rfl rfl) rfl ?_
        refine UW.rv 4 rfl (by kernel_rfl) rfl (RV.load rfl (List.Mem.head _) rfl rfl rfl rfl) rfl ?_
        refine UW.rv 6 rfl (by kernel_rfl) rfl (RV.field rfl rfl rfl rfl) rfl ?_
        refine UW.rv 7 rfl (by kernel_rfl) rfl (RV.load rfl (List.Mem.head _) rfl rfl rfl rfl) rfl ?_
        obtain ⟨x59, hx58, hl31⟩ := some_bind hl31
        refine UW.callG 5 rfl (by kernel_rfl) rfl Try.call62 rfl (fun N' hN' => waybillref07_bytes_does w0 (More w0 Φ B19) N' (fun w m => More.of hΦ 2 (hN' w m) rfl) A45 c46 x39.data x59 v47 hx58) rfl ?_
        rintro L65 M66 ⟨B60, ob61, c62, r63, o64, e67, e68⟩
        rw [e67, e68]
        clear e67 e68 L65 M66
        refine UW.mem (M' := ((ob61, blk ((u8s x59) ++ r63) 5) :: (some b57, blk [.bool (x39.list), .slice A45 x39.data.length c46, .slice A48 x39.items.length c49] 29) :: (ob24, blk (cs22 ++ r26) 29) :: ((B60 ++ B19) ++ N))) (fun w m => by have h := Mem.sinkAt (A := B60) m 1 2 rfl rfl; exact h) ?_
        replace va0 := va0.mono (Ψ := More w0 Φ (B60 ++ B19)) (fun w q => More.mono (fun w m => (m).appR) q)
        replace ha0 := ha0.mono (ItRd.mono (Ψ := More w0 Φ (B60 ++ B19)) (fun w q => More.mono (fun w m => (m).appR) q))
        replace h23 := h23.mono (ItRd.mono (Ψ := More w0 Φ (B60 ++ B19)) (fun w q => More.mono (fun w m => (m).appR) q))
        replace h54 := ItRd.mono (Ψ := More w0 Φ (B60 ++ B19)) (fun w q => More.mono (fun w m => (m).appR) q) _ _ h54
        replace v47 := v47.mono (Ψ := More w0 Φ (B60 ++ B19)) (fun w q => More.mono (fun w m => (m).appR) q)
        replace v50 := v50.mono (Ψ := More w0 Φ (B60 ++ B19)) (fun w q => More.mono (fun w m => (m).appR) q)
        replace h52 := h52.mono (ItRd.mono (Ψ := More w0 Φ (B60 ++ B19)) (fun w q => More.mono (fun w m => (m).appR) q))
        have m69 := o64.mx
        obtain ⟨x71, hx70, hl31⟩ := some_bind hl31
        refine UW.callG 8 rfl (by kernel_rfl) rfl Try.call16 rfl (fun N' hN' => ih (More w0 Φ (B60 ++ B19)) N' (fun w m => More.of hΦ 3 (hN' w m) rfl) A48 c49 cs51 x39.items x71 v50 h52 hx70) rfl ?_
        rintro L79 M80 ⟨B72, cs73, ob75, c76, r77, h74, o78, e81, e82⟩
        rw [e81, e82]
        clear e81 e82 L79 M80
        refine UW.mem (M' := ((ob75, blk (cs73 ++ r77) 29) :: (ob61, blk ((u8s x59) ++ r63) 5) :: (some b57, blk [.bool (x39.list), .slice A45 x39.data.length c46, .slice A48 x39.items.length c49] 29) :: (ob24, blk (cs22 ++ r26) 29) :: ((B72 ++ (B60 ++ B19)) ++ N))) (fun w m => by have h := Mem.sinkAt (A := B72) m 1 3 rfl rfl; exact h) ?_
        replace va0 := va0.mono (Ψ := More w0 Φ (B72 ++ (B60 ++ B19))) (fun w q => More.mono (fun w m => (m).appR) q)
        replace ha0 := ha0.mono (ItRd.mono (Ψ := More w0 Φ (B72 ++ (B60 ++ B19))) (fun w q => More.mono (fun w m => (m).appR) q))
        replace h23 := h23.mono (ItRd.mono (Ψ := More w0 Φ (B72 ++ (B60 ++ B19))) (fun w q => More.mono (fun w m => (m).appR) q))
        replace h54 := ItRd.mono (Ψ := More w0 Φ (B72 ++ (B60 ++ B19))) (fun w q => More.mono (fun w m => (m).appR) q) _ _ h54
        replace v47 := v47.mono (Ψ := More w0 Φ (B72 ++ (B60 ++ B19))) (fun w q => More.mono (fun w m => (m).appR) q)
        replace v50 := v50.mono (Ψ := More w0 Φ (B72 ++ (B60 ++ B19))) (fun w q => More.mono (fun w m => (m).appR) q)
        replace h52 := h52.mono (ItRd.mono (Ψ := More w0 Φ (B72 ++ (B60 ++ B19))) (fun w q => More.mono (fun w m => (m).appR) q))
        replace h74 := h74.mono (ItRd.mono (Ψ := (More w0 Φ (B72 ++ (B60 ++ B19)))) (fun w q => More.flat q))
        have m83 := o78.mx
        refine UW.rv 9 rfl (by kernel_rfl) rfl (RV.buildSt (l := [.bool false, .slice none 0 0, .slice none 0 0]) (cs := [.bool (x39.list), sl ob61 0 x59.length c62, sl ob75 0 x71.length c76]) [(0, [.bool (x39.list)]), (1, [sl ob61 0 x59.length c62]), (2, [sl ob75 0 x71.length c76])] rfl rfl rfl rfl rfl rfl rfl) rfl ?_
        refine UW.mem (M' := (ob75, blk (cs73 ++ r77) 29) :: (some b57, blk [.bool (x39.list), .slice A45 x39.data.length c46, .slice A48 x39.items.length c49] 29) :: (ob24, blk (cs22 ++ r26) 29) :: (((ob61, blk ((u8s x59) ++ r63) 5) :: (B72 ++ (B60 ++ B19))) ++ N)) (fun w m => m.pick [0, 2, 3, 1] 4 rfl rfl) ?_
        replace va0 := va0.mono (Ψ := More w0 Φ ((ob61, blk ((u8s x59) ++ r63) 5) :: (B72 ++ (B60 ++ B19)))) (fun w q => More.mono (fun w m => (m).tail) q)
        replace ha0 := ha0.mono (ItRd.mono (Ψ := More w0 Φ ((ob61, blk ((u8s x59) ++ r63) 5) :: (B72 ++ (B60 ++ B19)))) (fun w q => More.mono (fun w m => (m).tail) q))
        replace h23 := h23.mono (ItRd.mono (Ψ := More w0 Φ ((ob61, blk ((u8s x59) ++ r63) 5) :: (B72 ++ (B60 ++ B19)))) (fun w q => More.mono (fun w m => (m).tail) q))
        replace h54 := ItRd.mono (Ψ := More w0 Φ ((ob61, blk ((u8s x59) ++ r63) 5) :: (B72 ++ (B60 ++ B19)))) (fun w q => More.mono (fun w m => (m).tail) q) _ _ h54
        replace v47 := v47.mono (Ψ := More w0 Φ ((ob61, blk ((u8s x59) ++ r63) 5) :: (B72 ++ (B60 ++ B19)))) (fun w q => More.mono (fun w m => (m).tail) q)
        replace v50 := v50.mono (Ψ := More w0 Φ ((ob61, blk ((u8s x59) ++ r63) 5) :: (B72 ++ (B60 ++ B19)))) (fun w q => More.mono (fun w m => (m).tail) q)
        replace h52 := h52.mono (ItRd.mono (Ψ := More w0 Φ ((ob61, blk ((u8s x59) ++ r63) 5) :: (B72 ++ (B60 ++ B19)))) (fun w q => More.mono (fun w m => (m).tail) q))
        replace h74 := h74.mono (ItRd.mono (Ψ := More w0 Φ ((ob61, blk ((u8s x59) ++ r63) 5) :: (B72 ++ (B60 ++ B19)))) (fun w q => More.mono (fun w m => (m).tail) q))
        have v86 : View (More w0 Φ ((ob61, blk ((u8s x59) ++ r63) 5) :: (B72 ++ (B60 ++ B19)))) ((ob61).map fun k => ⟨k, 0, none⟩) x59.length c62 1 (u8s x59) := o64.view (by decide) (fun w q => q.2.sublist (List.singleton_sublist.2 (List.mem_cons_self ..)))
        have v86k := v86
        have h74k := h74
        refine UW.mem (M' := (some b57, blk [.bool (x39.list), .slice A45 x39.data.length c46, .slice A48 x39.items.length c49] 29) :: (ob24, blk (cs22 ++ r26) 29) :: (((ob75, blk (cs73 ++ r77) 29) :: ((ob61, blk ((u8s x59) ++ r63) 5) :: (B72 ++ (B60 ++ B19)))) ++ N)) (fun w m => m.pick [1, 2, 0] 3 rfl rfl) ?_
        replace va0 := va0.mono (Ψ := More w0 Φ ((ob75, blk (cs73 ++ r77) 29) :: ((ob61, blk ((u8s x59) ++ r63) 5) :: (B72 ++ (B60 ++ B19))))) (fun w q => More.mono (fun w m => (m).tail) q)
        replace ha0 := ha0.mono (ItRd.mono (Ψ := More w0 Φ ((ob75, blk (cs73 ++ r77) 29) :: ((ob61, blk ((u8s x59) ++ r63) 5) :: (B72 ++ (B60 ++ B19))))) (fun w q => More.mono (fun w m => (m).tail) q))
        replace h23 := h23.mono (ItRd.mono (Ψ := More w0 Φ ((ob75, blk (cs73 ++ r77) 29) :: ((ob61, blk ((u8s x59) ++ r63) 5) :: (B72 ++ (B60 ++ B19))))) (fun w q => More.mono (fun w m => (m).tail) q))
        replace h54 := ItRd.mono (Ψ := More w0 Φ ((ob75, blk (cs73 ++ r77) 29) :: ((ob61, blk ((u8s x59) ++ r63) 5) :: (B72 ++ (B60 ++ B19))))) (fun w q => More.mono (fun w m => (m).tail) q) _ _ h54
        replace v47 := v47.mono (Ψ := More w0 Φ ((ob75, blk (cs73 ++ r77) 29) :: ((ob61, blk ((u8s x59) ++ r63) 5) :: (B72 ++ (B60 ++ B19))))) (fun w q => More.mono (fun w m => (m).tail) q)
        replace v50 := v50.mono (Ψ := More w0 Φ ((ob75, blk (cs73 ++ r77) 29) :: ((ob61, blk ((u8s x59) ++ r63) 5) :: (B72 ++ (B60 ++ B19))))) (fun w q => More.mono (fun w m => (m).tail) q)
        replace h52 := h52.mono (ItRd.mono (Ψ := More w0 Φ ((ob75, blk (cs73 ++ r77) 29) :: ((ob61, blk ((u8s x59) ++ r63) 5) :: (B72 ++ (B60 ++ B19))))) (fun w q => More.mono (fun w m => (m).tail) q))
        replace v86 := v86.mono (Ψ := More w0 Φ ((ob75, blk (cs73 ++ r77) 29) :: ((ob61, blk ((u8s x59) ++ r63) 5) :: (B72 ++ (B60 ++ B19))))) (fun w q => More.mono (fun w m => (m).tail) q)
        replace h74 := h74.mono (ItRd.mono (Ψ := More w0 Φ ((ob75, blk (cs73 ++ r77) 29) :: ((ob61, blk ((u8s x59) ++ r63) 5) :: (B72 ++ (B60 ++ B19))))) (fun w q => More.mono (fun w m => (m).tail) q))
        have v87 : View (More w0 Φ ((ob75, blk (cs73 ++ r77) 29) :: ((ob61, blk ((u8s x59) ++ r63) 5) :: (B72 ++ (B60 ++ B19))))) ((ob75).map fun k => ⟨k, 0, none⟩) x71.length c76 3 cs73 := o78.view (by decide) (fun w q => q.2.sublist (List.singleton_sublist.2 (List.mem_cons_self ..)))
        refine UW.new 10 rfl (by kernel_rfl) rfl (NV.bsA rfl rfl (by intro x hx; simp at hx; subst hx; rfl) rfl rfl rfl (by decide) (by decide) rfl) rfl (fun b84 => ?_)
        have h89 : Reps (ItRd (More w0 Φ ((ob75, blk (cs73 ++ r77) 29) :: ((ob61, blk ((u8s x59) ++ r63) 5) :: (B72 ++ (B60 ++ B19)))))) (([.bool (x39.list), .slice ((ob61).map fun k => ⟨k, 0, none⟩) x59.length c62, .slice ((ob75).map fun k => ⟨k, 0, none⟩) x71.length c76] : List Value)) [(It.mk (x39.list) x59 x71)] := Reps.one (ItRd.mk v86 v87 h74)
        refine UW.mem (M' := (((some b84), blk ((([.bool (x39.list), .slice ((ob61).map fun k => ⟨k, 0, none⟩) x59.length c62, .slice ((ob75).map fun k => ⟨k, 0, none⟩) x71.length c76] : List Value)) ++ []) 29) :: (some b57, blk [.bool (x39.list), .slice A45 x39.data.length c46, .slice A48 x39.items.length c49] 29) :: (ob24, blk (cs22 ++ r26) 29) :: (((ob75, blk (cs73 ++ r77) 29) :: ((ob61, blk ((u8s x59) ++ r63) 5) :: (B72 ++ (B60 ++ B19)))) ++ N))) (fun w m => m) ?_
        have o85 : OwnS (some b84) ([(It.mk (x39.list) x59 x71)] : List (It)).length 1 3 (([.bool (x39.list), .slice ((ob61).map fun k => ⟨k, 0, none⟩) x59.length c62, .slice ((ob75).map fun k => ⟨k, 0, none⟩) x71.length c76] : List Value)) [] := ⟨by simp [ItRd], by simp [ItRd], (fun h => nomatch h), by simp⟩
        refine UW.slot (sl (some b84) 0 ([(It.mk (x39.list) x59 x71)] : List (It)).length 1) (rfl) ?_
        refine UW.nil (by kernel_rfl) ?_
        refine OW.rot2 ?_
        obtain ⟨g90, hl31⟩ := some_if hl31
        have h95 := h23.app h89
        refine OW.appendOwn (s := 3) rfl rfl rfl rfl rfl rfl o27 (fun w m => m.rd0 (List.Mem.tail _ (List.Mem.head _)) (fun e => o85.nilc (by decide) e)) o85.n (h89.cell1 ItRd.one) (o85.zeroO (by decide)) (by decide) (by decide) (by first | omega | (simp only [i29, List.length_nil]; omega)) rfl rfl ((l21 ++ ([(It.mk (x39.list) x59 x71)] : List (It))).length) (cs22 ++ (([.bool (x39.list), .slice ((ob61).map fun k => ⟨k, 0, none⟩) x59.length c62, .slice ((ob75).map fun k => ⟨k, 0, none⟩) x71.length c76] : List Value))) (List.length_append ..).symm rfl (fun ob91 r92 c93 o94 => ?_)
        have m96 := o94.mx
        refine OW.rv (RV.assign rfl) rfl ?_
        refine OW.nil ?_
        refine QW.block_n ?_
        refine QW.then_n ?_
        refine CW.region ?_
        refine OW.rv (RV.move rfl) rfl ?_
        refine OW.rv (RV.add rfl rfl (by omega)) rfl ?_
        refine OW.slot (.int .i64 (((n28 + 1) : Nat) : Int)) (by first | rfl | (congr 1) | (congr 1; omega)) ?_
        refine OW.rv (RV.assign rfl) rfl ?_
        refine OW.nil ?_
        subst el
        subst ec
        subst en
        exact QW.againJ (k' := k30) (Nat.lt_succ_self _) (.inr ⟨(ob61, blk ((u8s x59) ++ r63) 5) :: (B72 ++ (B60 ++ B19)), It.mk (x39.list) x59 x71, _, c62, ob75, c76, cs73, r77, ob91, c93, r92, hl31, v86k, h74k, o78, o94, rfl, rfl⟩) ⟨rfl, rfl, rfl, trivial⟩ (fun w m => m.pick [0] 3 rfl rfl)
      · omega
    · rw [e35, e36]
      clear e35 e36 L33 M34
      rcases k30 with _ | k30
      · rw [waybillref07_Copy.l1] at hl31; cases hl31
      rw [waybillref07_Copy.l1] at hl31
      refine CW.seq ?_
      refine CW.seq ?_
      refine CW.region ?_
      refine OW.rv (RV.move rfl) rfl ?_
      refine OW.rv (RV.move rfl) rfl ?_
      refine OW.rv (RV.len rfl rfl) rfl ?_
      refine OW.rv (RV.lss rfl rfl) rfl ?_
      refine OW.slot (.bool (decide (1 < a0.length))) (congrArg Value.bool (decide_eq_decide.2 (by omega))) ?_
      refine OW.nil ?_
      refine QW.then_n ?_
      have h38 : ¬ 1 < a0.length := by omega
      replace hl31 := if_f hl31 h38
      refine CW.is_f rfl (decide_eq_false h38) ?_
      refine CW.exit ?_
      refine QW.then_x ?_
      refine QW.then_x ?_
      refine QW.block_xe ?_
      exact QW.join ⟨B, x, A1, c1, ob2, c2, cells, r2, ob3, c3, r3, (Option.some.inj hl31).symm, hv, hr, ho2, ho3, rfl, rfl⟩ ⟨rfl, trivial⟩ (fun w m => m)

theorem twin_own (w0 : World) (Φ : Ctx) (N : List Ent) (hΦ : ∀ w, Mem w0 w N → Φ w) (cs0_ : List Value) (a0 : It) (res0 : It) (ha0 : ItRd Φ cs0_ a0) (hf : waybilllaw07_twin a0 = some res0) : DoesG Try.prog 57 [.agg cs0_.toArray] w0 [] N (fun v G => ∃ (B : List Ent) (A1 : Option Addr) (c1 : Nat) (cells : List Value) (ob2 : Option Nat) (c2 : Nat) (r2 : List Value), View (More w0 Φ B) A1 res0.data.length c1 1 (u8s res0.data) ∧ Reps (ItRd (More w0 Φ B)) cells res0.items ∧ OwnS ob2 res0.items.length c2 3 cells r2 ∧ v = .agg ([.bool res0.list, .slice A1 res0.data.length c1, sl ob2 0 res0.items.length c2] : List Value).toArray ∧ G = (ob2, blk (cells ++ r2) 29) :: B) := by
  unfold waybilllaw07_twin at hf
  replace ha0 := ItRd.mono (Ψ := More w0 Φ []) (fun w q => q.1) _ _ ha0
  have h10 := ha0
  obtain ⟨A1, c2, A4, c5, cs7, e9, v3, v6, h8⟩ := ItRd.opn ha0
  subst e9
  have m11 := v3.mx
  have m12 := v6.mx
  refine DoesG.enter Try.func57 rfl Try.ntmps57 rfl (M := (([] ++ N))) rfl ?_
  refine CW.seq ?_
  refine CW.region ?_
  refine OW.boxA rfl rfl (fun b13 => ?_)
  refine OW.alloc (l := [.bool false, .slice none 0 0, .slice none 0 0]) rfl rfl rfl (fun b14 => ?_)
  refine OW.nil ?_
  refine QW.then_n ?_
  refine CW.seq ?_
  refine CW.region ?_
  refine OW.rv (RV.loadW rfl (List.Mem.tail _ (List.Mem.head _)) rfl rfl rfl rfl rfl) rfl ?_
  refine OW.ofN (NV.bsA rfl rfl (by intro x hx; simp at hx; subst hx; rfl) rfl rfl rfl (by decide) (by decide) rfl) rfl (fun b15 => ?_)
  have h18 : Reps (ItRd (More w0 Φ [])) (([.bool (a0.list), .slice A1 a0.data.length c2, .slice A4 a0.items.length c5] : List Value)) [a0] := Reps.one h10
  refine OW.mem (M' := (((some b15), blk ((([.bool (a0.list), .slice A1 a0.data.length c2, .slice A4 a0.items.length c5] : List Value)) ++ []) 29) :: (some b14, blk [.bool false, .slice none 0 0, .slice none 0 0] 29) :: (some b13, blk [.bool (a0.list), .slice A1 a0.data.length c2, .slice A4 a0.items.length c5] 29) :: ([] ++ N))) (fun w m => m) ?_
  have o16 : OwnS (some b15) ([a0] : List (It)).length 1 3 (([.bool (a0.list), .slice A1 a0.data.length c2, .slice A4 a0.items.length c5] : List Value)) [] := ⟨by simp [ItRd], by simp [ItRd], (fun h => nomatch h), by simp⟩
  refine OW.slot (sl (some b15) 0 ([a0] : List (It)).length 1) (rfl) ?_
  refine OW.mem (M' := (some b14, blk [.bool false, .slice none 0 0, .slice none 0 0] 29) :: (some b13, blk [.bool (a0.list), .slice A1 a0.data.length c2, .slice A4 a0.items.length c5] 29) :: ((((some b15), blk ((([.bool (a0.list), .slice A1 a0.data.length c2, .slice A4 a0.items.length c5] : List Value)) ++ []) 29) :: []) ++ N)) (fun w m => m.pick [1, 2, 0] 3 rfl rfl) ?_
  replace h10 := ItRd.mono (Ψ := More w0 Φ (((some b15), blk ((([.bool (a0.list), .slice A1 a0.data.length c2, .slice A4 a0.items.length c5] : List Value)) ++ []) 29) :: [])) (fun w q => More.mono (fun w m => (m).tail) q) _ _ h10
  replace v3 := v3.mono (Ψ := More w0 Φ (((some b15), blk ((([.bool (a0.list), .slice A1 a0.data.length c2, .slice A4 a0.items.length c5] : List Value)) ++ []) 29) :: [])) (fun w q => More.mono (fun w m => (m).tail) q)
  replace v6 := v6.mono (Ψ := More w0 Φ (((some b15), blk ((([.bool (a0.list), .slice A1 a0.data.length c2, .slice A4 a0.items.length c5] : List Value)) ++ []) 29) :: [])) (fun w q => More.mono (fun w m => (m).tail) q)
  replace h8 := h8.mono (ItRd.mono (Ψ := More w0 Φ (((some b15), blk ((([.bool (a0.list), .slice A1 a0.data.length c2, .slice A4 a0.items.length c5] : List Value)) ++ []) 29) :: [])) (fun w q => More.mono (fun w m => (m).tail) q))
  replace h18 := h18.mono (ItRd.mono (Ψ := More w0 Φ (((some b15), blk ((([.bool (a0.list), .slice A1 a0.data.length c2, .slice A4 a0.items.length c5] : List Value)) ++ []) 29) :: [])) (fun w q => More.mono (fun w m => (m).tail) q))
  have v19 : View (More w0 Φ (((some b15), blk ((([.bool (a0.list), .slice A1 a0.data.length c2, .slice A4 a0.items.length c5] : List Value)) ++ []) 29) :: [])) (((some b15)).map fun k => ⟨k, 0, none⟩) ([a0] : List (It)).length 1 3 (([.bool (a0.list), .slice A1 a0.data.length c2, .slice A4 a0.items.length c5] : List Value)) := o16.view (by decide) (fun w q => q.2.sublist (List.singleton_sublist.2 (List.mem_cons_self ..)))
  obtain ⟨x21, hx20, hf⟩ := some_bind hf
  refine OW.callG Try.call16 rfl (copy_one w0 _ (More w0 Φ (((some b15), blk ((([.bool (a0.list), .slice A1 a0.data.length c2, .slice A4 a0.items.length c5] : List Value)) ++ []) 29) :: [])) ((some b14, blk [.bool false, .slice none 0 0, .slice none 0 0] 29) :: (some b13, blk [.bool (a0.list), .slice A1 a0.data.length c2, .slice A4 a0.items.length c5] 29) :: ((((some b15), blk ((([.bool (a0.list), .slice A1 a0.data.length c2, .slice A4 a0.items.length c5] : List Value)) ++ []) 29) :: []) ++ N)) (fun w m => More.of hΦ 2 m rfl) (((some b15)).map fun k => ⟨k, 0, none⟩) 1 (([.bool (a0.list), .slice A1 a0.data.length c2, .slice A4 a0.items.length c5] : List Value)) ([a0] : List (It)) x21 rfl v19 h18 hx20) rfl rfl ?_
  rintro L29 M30 ⟨B22, x, A1', c1', ob2, c2', cells, r2, ob3, c3, r3, ex, hv, hr, ho2, ho3, e31, e32⟩
  rw [e31, e32]
  clear e31 e32 L29 M30
  subst ex
  refine OW.mem (M' := ((ob3, blk ([.bool x.list, .slice A1' x.data.length c1', sl ob2 0 x.items.length c2'] ++ r3) 29) :: (ob2, blk (cells ++ r2) 29) :: (some b14, blk [.bool false, .slice none 0 0, .slice none 0 0] 29) :: (some b13, blk [.bool (a0.list), .slice A1 a0.data.length c2, .slice A4 a0.items.length c5] 29) :: ((B22 ++ (((some b15), blk ((([.bool (a0.list), .slice A1 a0.data.length c2, .slice A4 a0.items.length c5] : List Value)) ++ []) 29) :: [])) ++ N))) (fun w m => by have h := Mem.sinkAt (A := B22) m 2 2 rfl rfl; exact h) ?_
  replace hv := hv.mono (Ψ := More w0 Φ (B22 ++ (((some b15), blk ((([.bool (a0.list), .slice A1 a0.data.length c2, .slice A4 a0.items.length c5] : List Value)) ++ []) 29) :: []))) (fun w q => More.flat q)
  replace hr := hr.mono (ItRd.mono (Ψ := More w0 Φ (B22 ++ (((some b15), blk ((([.bool (a0.list), .slice A1 a0.data.length c2, .slice A4 a0.items.length c5] : List Value)) ++ []) 29) :: []))) (fun w q => More.flat q))
  have m33 := ho3.mx
  have m34 := hv.mx
  have m35 := ho2.mx
  refine OW.mem (M' := ((some b14, blk [.bool false, .slice none 0 0, .slice none 0 0] 29) :: (some b13, blk [.bool (a0.list), .slice A1 a0.data.length c2, .slice A4 a0.items.length c5] 29) :: (ob2, blk (cells ++ r2) 29) :: ((((ob3, blk ([.bool x.list, .slice A1' x.data.length c1', sl ob2 0 x.items.length c2'] ++ r3) 29) :: (B22 ++ (((some b15), blk ((([.bool (a0.list), .slice A1 a0.data.length c2, .slice A4 a0.items.length c5] : List Value)) ++ []) 29) :: [])))) ++ N))) (fun w m => m.pick [2, 3, 1, 0] 4 rfl rfl) ?_
  replace hv := hv.mono (Ψ := More w0 Φ ((ob3, blk ([.bool x.list, .slice A1' x.data.length c1', sl ob2 0 x.items.length c2'] ++ r3) 29) :: (B22 ++ (((some b15), blk ((([.bool (a0.list), .slice A1 a0.data.length c2, .slice A4 a0.items.length c5] : List Value)) ++ []) 29) :: [])))) (fun w q => More.mono (fun w m => (m).tail) q)
  replace hr := hr.mono (ItRd.mono (Ψ := More w0 Φ ((ob3, blk ([.bool x.list, .slice A1' x.data.length c1', sl ob2 0 x.items.length c2'] ++ r3) 29) :: (B22 ++ (((some b15), blk ((([.bool (a0.list), .slice A1 a0.data.length c2, .slice A4 a0.items.length c5] : List Value)) ++ []) 29) :: [])))) (fun w q => More.mono (fun w m => (m).tail) q))
  have v34 : View (More w0 Φ ((ob3, blk ([.bool x.list, .slice A1' x.data.length c1', sl ob2 0 x.items.length c2'] ++ r3) 29) :: (B22 ++ (((some b15), blk ((([.bool (a0.list), .slice A1 a0.data.length c2, .slice A4 a0.items.length c5] : List Value)) ++ []) 29) :: [])))) ((ob3).map fun k => ⟨k, 0, none⟩) 1 c3 3 [.bool x.list, .slice A1' x.data.length c1', sl ob2 0 x.items.length c2'] := ho3.view (by decide) (fun w q => q.2.sublist (List.singleton_sublist.2 (List.mem_cons_self ..)))
  obtain ⟨x35, hx36, hf⟩ := some_bind hf
  cases hx36
  refine OW.rv (RV.idx_rs (0) rfl rfl rfl rfl rfl (v34.isSome (by decide) (show 0 < 1 by decide)) (by omega)) rfl ?_
  refine OW.rv (RV.loadAs (vs := [.bool x.list, .slice A1' x.data.length c1', sl ob2 0 x.items.length c2']) rfl rfl rfl rfl (fun w m => v34.load (off := 0 * 3) (More.of hΦ 3 m rfl) (fun j u h => by simpa using h)) rfl) rfl ?_
  refine OW.sv (SV.storeW rfl rfl rfl (by intro u hu; simp at hu; rcases hu with rfl | rfl | rfl <;> rfl) rfl rfl rfl) ?_
  refine OW.nil ?_
  refine QW.then_n ?_
  refine CW.ret ?_
  have e0 := Option.some.inj hf
  subst e0
  refine QW.retG (rs := [.cell 2 29]) ([.agg ([.bool x.list, .slice A1' x.data.length c1', sl ob2 0 x.items.length c2'] : List Value).toArray]) ((ob2, blk (cells ++ r2) 29) :: ((ob3, blk ([.bool x.list, .slice A1' x.data.length c1', sl ob2 0 x.items.length c2'] ++ r3) 29) :: (B22 ++ (((some b15), blk ((([.bool (a0.list), .slice A1 a0.data.length c2, .slice A4 a0.items.length c5] : List Value)) ++ []) 29) :: [])))) rfl ?_ rfl ?_ ?_ _ (.inl rfl)
  · exact ⟨⟨_, _, _, _, rfl, (List.Mem.head _), rfl, rfl, rfl, rfl⟩, trivial⟩
  · exact ⟨((ob3, blk ([.bool x.list, .slice A1' x.data.length c1', sl ob2 0 x.items.length c2'] ++ r3) 29) :: (B22 ++ (((some b15), blk ((([.bool (a0.list), .slice A1 a0.data.length c2, .slice A4 a0.items.length c5] : List Value)) ++ []) 29) :: []))), _, c1', cells, ob2, c2', r2, hv, hr, ho2, rfl, rfl⟩
  · exact (fun w m => m.pick [2] 3 rfl rfl)
theorem waybilllaw07_room_does (w0 : World) (Φ : Ctx) (N : List Ent) (hΦ : ∀ w, Mem w0 w N → Φ w) (cs0_ : List Value) (a0 : It) (res0 : It) (ha0 : ItRd Φ cs0_ a0) (hf : waybilllaw07_room a0 = some res0) : DoesG Try.prog 33 [.agg cs0_.toArray] w0 [] N (fun v G => ∃ B : List Ent, ∃ cr0 : List Value, (RtRd (More w0 Φ B) cr0 res0) ∧ v = .agg cr0.toArray ∧ G = B) := by
  unfold waybilllaw07_room at hf
  replace ha0 := ItRd.mono (Ψ := More w0 Φ []) (fun w q => q.1) _ _ ha0
  have h10 := ha0
  obtain ⟨A1, c2, A4, c5, cs7, e9, v3, v6, h8⟩ := ItRd.opn ha0
  subst e9
  have m11 := v3.mx
  have m12 := v6.mx
  refine DoesG.enter Try.func33 rfl Try.ntmps33 rfl (M := (([] ++ N))) rfl ?_
  refine CW.seq ?_
  refine CW.region ?_
  refine OW.boxA rfl rfl (fun b13 => ?_)
  refine OW.alloc (l := [.bool false, .slice none 0 0, .slice none 0 0]) rfl rfl rfl (fun b14 => ?_)
  refine OW.nil ?_
  refine QW.then_n ?_
  refine CW.seq ?_
  refine CW.region ?_
  refine OW.rv (RV.loadW rfl (List.Mem.tail _ (List.Mem.head _)) rfl rfl rfl rfl rfl) rfl ?_
  obtain ⟨x16, hx15, hf⟩ := some_bind hf
  refine OW.callG Try.call57 rfl (twin_own w0 (More w0 Φ []) ((some b14, blk [.bool false, .slice none 0 0, .slice none 0 0] 29) :: (some b13, blk [.bool (a0.list), .slice A1 a0.data.length c2, .slice A4 a0.items.length c5] 29) :: ([] ++ N)) (fun w m => More.of hΦ 2 m rfl) [.bool (a0.list), .slice A1 a0.data.length c2, .slice A4 a0.items.length c5] a0 x16 h10 hx15) rfl rfl ?_
  rintro L27 M28 ⟨B17, A18, c19, cs20, ob21, c22, r23, v24, h25, o26, e29, e30⟩
  rw [e29, e30]
  clear e29 e30 L27 M28
  refine OW.mem (M' := ((ob21, blk (cs20 ++ r23) 29) :: (some b14, blk [.bool false, .slice none 0 0, .slice none 0 0] 29) :: (some b13, blk [.bool (a0.list), .slice A1 a0.data.length c2, .slice A4 a0.items.length c5] 29) :: ((B17 ++ []) ++ N))) (fun w m => by have h := Mem.sinkAt (A := B17) m 1 2 rfl rfl; exact h) ?_
  replace h10 := ItRd.mono (Ψ := More w0 Φ (B17 ++ [])) (fun w q => More.mono (fun w m => (m).appR) q) _ _ h10
  replace v3 := v3.mono (Ψ := More w0 Φ (B17 ++ [])) (fun w q => More.mono (fun w m => (m).appR) q)
  replace v6 := v6.mono (Ψ := More w0 Φ (B17 ++ [])) (fun w q => More.mono (fun w m => (m).appR) q)
  replace h8 := h8.mono (ItRd.mono (Ψ := More w0 Φ (B17 ++ [])) (fun w q => More.mono (fun w m => (m).appR) q))
  replace v24 := v24.mono (Ψ := (More w0 Φ (B17 ++ []))) (fun w q => More.flat q)
  replace h25 := h25.mono (ItRd.mono (Ψ := (More w0 Φ (B17 ++ []))) (fun w q => More.flat q))
  have m31 := v24.mx
  have m32 := o26.mx
  have m33 := v24.mx
  have m34 := o26.mx
  refine OW.alloc (l := [.bool false, .slice none 0 0, .slice none 0 0]) rfl rfl rfl (fun b35 => ?_)
  refine OW.sv (SV.storeW rfl rfl rfl (by intro u hu; simp at hu; rcases hu with rfl | rfl | rfl <;> rfl) rfl rfl rfl) ?_
  refine OW.nil ?_
  refine QW.then_n ?_
  refine CW.seq ?_
  refine CW.region ?_
  refine OW.rv (RV.field rfl rfl rfl rfl) rfl ?_
  refine OW.rv (RV.load rfl (List.Mem.head _) rfl rfl rfl rfl) rfl ?_
  obtain ⟨x37, hx36, hf⟩ := some_bind hf
  refine OW.callG Try.call15 rfl (waybilllaw07_roomy_does w0 (More w0 Φ (B17 ++ [])) ((some b35, blk [.bool (x16.list), .slice A18 x16.data.length c19, sl ob21 0 x16.items.length c22] 29) :: (ob21, blk (cs20 ++ r23) 29) :: (some b14, blk [.bool false, .slice none 0 0, .slice none 0 0] 29) :: (some b13, blk [.bool (a0.list), .slice A1 a0.data.length c2, .slice A4 a0.items.length c5] 29) :: ((B17 ++ []) ++ N)) (fun w m => More.of hΦ 4 m rfl) A18 c19 x16.data x37 v24 hx36) rfl rfl ?_
  rintro L42 M43 ⟨B38, A39, v40, e44, e45⟩
  rw [e44, e45]
  clear e44 e45 L42 M43
  refine OW.mem (M' := ((some b35, blk [.bool (x16.list), .slice A18 x16.data.length c19, sl ob21 0 x16.items.length c22] 29) :: (ob21, blk (cs20 ++ r23) 29) :: (some b14, blk [.bool false, .slice none 0 0, .slice none 0 0] 29) :: (some b13, blk [.bool (a0.list), .slice A1 a0.data.length c2, .slice A4 a0.items.length c5] 29) :: ((B38 ++ (B17 ++ [])) ++ N))) (fun w m => by have h := Mem.sinkAt (A := B38) m 0 4 rfl rfl; exact h) ?_
  replace h10 := ItRd.mono (Ψ := More w0 Φ (B38 ++ (B17 ++ []))) (fun w q => More.mono (fun w m => (m).appR) q) _ _ h10
  replace v3 := v3.mono (Ψ := More w0 Φ (B38 ++ (B17 ++ []))) (fun w q => More.mono (fun w m => (m).appR) q)
  replace v6 := v6.mono (Ψ := More w0 Φ (B38 ++ (B17 ++ []))) (fun w q => More.mono (fun w m => (m).appR) q)
  replace h8 := h8.mono (ItRd.mono (Ψ := More w0 Φ (B38 ++ (B17 ++ []))) (fun w q => More.mono (fun w m => (m).appR) q))
  replace v24 := v24.mono (Ψ := More w0 Φ (B38 ++ (B17 ++ []))) (fun w q => More.mono (fun w m => (m).appR) q)
  replace h25 := h25.mono (ItRd.mono (Ψ := More w0 Φ (B38 ++ (B17 ++ []))) (fun w q => More.mono (fun w m => (m).appR) q))
  replace v40 := v40.mono (Ψ := (More w0 Φ (B38 ++ (B17 ++ [])))) (fun w q => More.flat q)
  have v41 := v40.view
  have m46 := v41.mx
  refine OW.rv (RV.field rfl rfl rfl rfl) rfl ?_
  refine OW.sv (SV.store rfl rfl rfl rfl rfl (by simp)) ?_
  refine OW.cells [.bool (x16.list), .slice A39 x37.length (x37.length + 9), sl ob21 0 x16.items.length c22] rfl ?_
  refine OW.nil ?_
  refine QW.then_n ?_
  refine CW.seq ?_
  refine CW.region ?_
  refine OW.rv (RV.field rfl rfl rfl rfl) rfl ?_
  refine OW.rv (RV.load rfl (List.Mem.head _) rfl rfl rfl rfl) rfl ?_
  refine OW.rv (RV.len rfl rfl) rfl ?_
  refine OW.rv (RV.assign rfl) rfl ?_
  refine OW.nil ?_
  refine QW.then_n ?_
  refine CW.seq ?_
  refine CW.region ?_
  refine OW.rv (RV.field rfl rfl rfl rfl) rfl ?_
  refine OW.rv (RV.load rfl (List.Mem.head _) rfl rfl rfl rfl) rfl ?_
  refine OW.ofN (NV.bs1 rfl rfl rfl rfl rfl rfl) rfl (fun b47 => ?_)
  refine OW.mem (M' := (((some b47), blk ((u8s ([164#8] : List (BitVec 8))) ++ []) 5) :: (some b35, blk [.bool (x16.list), .slice A39 x37.length (x37.length + 9), sl ob21 0 x16.items.length c22] 29) :: (ob21, blk (cs20 ++ r23) 29) :: (some b14, blk [.bool false, .slice none 0 0, .slice none 0 0] 29) :: (some b13, blk [.bool (a0.list), .slice A1 a0.data.length c2, .slice A4 a0.items.length c5] 29) :: ((B38 ++ (B17 ++ [])) ++ N))) (fun w m => by first | exact m | simpa [u8s] using m) ?_
  have o48 : OwnS (some b47) ([164#8] : List (BitVec 8)).length 1 1 (u8s ([164#8] : List (BitVec 8))) [] := ⟨by simp [u8s], by simp [u8s], (fun h => nomatch h), by simp⟩
  refine OW.slot (sl (some b47) 0 ([164#8] : List (BitVec 8)).length 1) (rfl) ?_
  refine OW.rv (RV.buildSt (l := [.bool false, .slice none 0 0, .slice none 0 0]) (cs := [.bool false, sl (some b47) 0 ([164#8] : List (BitVec 8)).length 1, .slice none 0 0]) [(1, [sl (some b47) 0 ([164#8] : List (BitVec 8)).length 1])] rfl rfl rfl rfl rfl rfl rfl) rfl ?_
  refine OW.mem (M' := (some b35, blk [.bool (x16.list), .slice A39 x37.length (x37.length + 9), sl ob21 0 x16.items.length c22] 29) :: (ob21, blk (cs20 ++ r23) 29) :: (some b14, blk [.bool false, .slice none 0 0, .slice none 0 0] 29) :: (some b13, blk [.bool (a0.list), .slice A1 a0.data.length c2, .slice A4 a0.items.length c5] 29) :: ((((some b47), blk ((u8s ([164#8] : List (BitVec 8))) ++ []) 5) :: (B38 ++ (B17 ++ []))) ++ N)) (fun w m => m.pick [1, 2, 3, 4, 0] 5 rfl rfl) ?_
  replace h10 := ItRd.mono (Ψ := More w0 Φ (((some b47), blk ((u8s ([164#8] : List (BitVec 8))) ++ []) 5) :: (B38 ++ (B17 ++ [])))) (fun w q => More.mono (fun w m => (m).tail) q) _ _ h10
  replace v3 := v3.mono (Ψ := More w0 Φ (((some b47), blk ((u8s ([164#8] : List (BitVec 8))) ++ []) 5) :: (B38 ++ (B17 ++ [])))) (fun w q => More.mono (fun w m => (m).tail) q)
  replace v6 := v6.mono (Ψ := More w0 Φ (((some b47), blk ((u8s ([164#8] : List (BitVec 8))) ++ []) 5) :: (B38 ++ (B17 ++ [])))) (fun w q => More.mono (fun w m => (m).tail) q)
  replace h8 := h8.mono (ItRd.mono (Ψ := More w0 Φ (((some b47), blk ((u8s ([164#8] : List (BitVec 8))) ++ []) 5) :: (B38 ++ (B17 ++ [])))) (fun w q => More.mono (fun w m => (m).tail) q))
  replace v24 := v24.mono (Ψ := More w0 Φ (((some b47), blk ((u8s ([164#8] : List (BitVec 8))) ++ []) 5) :: (B38 ++ (B17 ++ [])))) (fun w q => More.mono (fun w m => (m).tail) q)
  replace h25 := h25.mono (ItRd.mono (Ψ := More w0 Φ (((some b47), blk ((u8s ([164#8] : List (BitVec 8))) ++ []) 5) :: (B38 ++ (B17 ++ [])))) (fun w q => More.mono (fun w m => (m).tail) q))
  replace v41 := v41.mono (Ψ := More w0 Φ (((some b47), blk ((u8s ([164#8] : List (BitVec 8))) ++ []) 5) :: (B38 ++ (B17 ++ [])))) (fun w q => More.mono (fun w m => (m).tail) q)
  replace v40 := v40.mono (Ψ := More w0 Φ (((some b47), blk ((u8s ([164#8] : List (BitVec 8))) ++ []) 5) :: (B38 ++ (B17 ++ [])))) (fun w q => More.mono (fun w m => (m).tail) q)
  have v51 : View (More w0 Φ (((some b47), blk ((u8s ([164#8] : List (BitVec 8))) ++ []) 5) :: (B38 ++ (B17 ++ [])))) (((some b47)).map fun k => ⟨k, 0, none⟩) ([164#8] : List (BitVec 8)).length 1 1 (u8s ([164#8] : List (BitVec 8))) := o48.view (by decide) (fun w q => q.2.sublist (List.singleton_sublist.2 (List.mem_cons_self ..)))
  refine OW.ofN (NV.bsA rfl rfl (by intro x hx; simp at hx; subst hx; rfl) rfl rfl rfl (by decide) (by decide) rfl) rfl (fun b49 => ?_)
  have v54 : View (More w0 Φ (((some b47), blk ((u8s ([164#8] : List (BitVec 8))) ++ []) 5) :: (B38 ++ (B17 ++ [])))) none ([] : List (It)).length 0 3 [] := View.nil
  have v55 : View (More w0 Φ (((some b47), blk ((u8s ([164#8] : List (BitVec 8))) ++ []) 5) :: (B38 ++ (B17 ++ [])))) none ([] : List (It)).length 0 3 [] := View.nil
  have h53 : Reps (ItRd (More w0 Φ (((some b47), blk ((u8s ([164#8] : List (BitVec 8))) ++ []) 5) :: (B38 ++ (B17 ++ []))))) (([.bool false, .slice (((some b47)).map fun k => ⟨k, 0, none⟩) ([164#8] : List (BitVec 8)).length 1, .slice none 0 0] : List Value)) [(It.mk false ([164#8] : List (BitVec 8)) ([] : List (It)))] := Reps.one (ItRd.mk v51 v55 (Reps.nil))
  refine OW.mem (M' := (((some b49), blk ((([.bool false, .slice (((some b47)).map fun k => ⟨k, 0, none⟩) ([164#8] : List (BitVec 8)).length 1, .slice none 0 0] : List Value)) ++ []) 29) :: (some b35, blk [.bool (x16.list), .slice A39 x37.length (x37.length + 9), sl ob21 0 x16.items.length c22] 29) :: (ob21, blk (cs20 ++ r23) 29) :: (some b14, blk [.bool false, .slice none 0 0, .slice none 0 0] 29) :: (some b13, blk [.bool (a0.list), .slice A1 a0.data.length c2, .slice A4 a0.items.length c5] 29) :: ((((some b47), blk ((u8s ([164#8] : List (BitVec 8))) ++ []) 5) :: (B38 ++ (B17 ++ []))) ++ N))) (fun w m => m) ?_
  have o50 : OwnS (some b49) ([(It.mk false ([164#8] : List (BitVec 8)) ([] : List (It)))] : List (It)).length 1 3 (([.bool false, .slice (((some b47)).map fun k => ⟨k, 0, none⟩) ([164#8] : List (BitVec 8)).length 1, .slice none 0 0] : List Value)) [] := ⟨by simp [ItRd], by simp [ItRd], (fun h => nomatch h), by simp⟩
  refine OW.slot (sl (some b49) 0 ([(It.mk false ([164#8] : List (BitVec 8)) ([] : List (It)))] : List (It)).length 1) (rfl) ?_
  refine OW.rot2 ?_
  obtain ⟨g56, hf⟩ := some_if hf
  have h61 := h25.app h53
  refine OW.appendOwn (s := 3) rfl rfl rfl rfl rfl rfl o26 (fun w m => m.rd0 (List.Mem.tail _ (List.Mem.head _)) (fun e => o50.nilc (by decide) e)) o50.n (h53.cell1 ItRd.one) (o50.zeroO (by decide)) (by decide) (by decide) (by first | omega | (simp only [i29, List.length_nil]; omega)) rfl rfl ((x16.items ++ ([(It.mk false ([164#8] : List (BitVec 8)) ([] : List (It)))] : List (It))).length) (cs20 ++ (([.bool false, .slice (((some b47)).map fun k => ⟨k, 0, none⟩) ([164#8] : List (BitVec 8)).length 1, .slice none 0 0] : List Value))) (List.length_append ..).symm rfl (fun ob57 r58 c59 o60 => ?_)
  have m62 := o60.mx
  refine OW.rv (RV.move rfl) rfl ?_
  refine OW.mem (M' := ((some b49), blk ((([.bool false, .slice (((some b47)).map fun k => ⟨k, 0, none⟩) ([164#8] : List (BitVec 8)).length 1, .slice none 0 0] : List Value)) ++ []) 29) :: (some b35, blk [.bool (x16.list), .slice A39 x37.length (x37.length + 9), sl ob21 0 x16.items.length c22] 29) :: (some b14, blk [.bool false, .slice none 0 0, .slice none 0 0] 29) :: (some b13, blk [.bool (a0.list), .slice A1 a0.data.length c2, .slice A4 a0.items.length c5] 29) :: (((ob57, blk ((cs20 ++ (([.bool false, .slice (((some b47)).map fun k => ⟨k, 0, none⟩) ([164#8] : List (BitVec 8)).length 1, .slice none 0 0] : List Value))) ++ r58) 29) :: (((some b47), blk ((u8s ([164#8] : List (BitVec 8))) ++ []) 5) :: (B38 ++ (B17 ++ [])))) ++ N)) (fun w m => m.pick [1, 2, 3, 4, 0] 5 rfl rfl) ?_
  replace h10 := ItRd.mono (Ψ := More w0 Φ ((ob57, blk ((cs20 ++ (([.bool false, .slice (((some b47)).map fun k => ⟨k, 0, none⟩) ([164#8] : List (BitVec 8)).length 1, .slice none 0 0] : List Value))) ++ r58) 29) :: (((some b47), blk ((u8s ([164#8] : List (BitVec 8))) ++ []) 5) :: (B38 ++ (B17 ++ []))))) (fun w q => More.mono (fun w m => (m).tail) q) _ _ h10
  replace v3 := v3.mono (Ψ := More w0 Φ ((ob57, blk ((cs20 ++ (([.bool false, .slice (((some b47)).map fun k => ⟨k, 0, none⟩) ([164#8] : List (BitVec 8)).length 1, .slice none 0 0] : List Value))) ++ r58) 29) :: (((some b47), blk ((u8s ([164#8] : List (BitVec 8))) ++ []) 5) :: (B38 ++ (B17 ++ []))))) (fun w q => More.mono (fun w m => (m).tail) q)
  replace v6 := v6.mono (Ψ := More w0 Φ ((ob57, blk ((cs20 ++ (([.bool false, .slice (((some b47)).map fun k => ⟨k, 0, none⟩) ([164#8] : List (BitVec 8)).length 1, .slice none 0 0] : List Value))) ++ r58) 29) :: (((some b47), blk ((u8s ([164#8] : List (BitVec 8))) ++ []) 5) :: (B38 ++ (B17 ++ []))))) (fun w q => More.mono (fun w m => (m).tail) q)
  replace h8 := h8.mono (ItRd.mono (Ψ := More w0 Φ ((ob57, blk ((cs20 ++ (([.bool false, .slice (((some b47)).map fun k => ⟨k, 0, none⟩) ([164#8] : List (BitVec 8)).length 1, .slice none 0 0] : List Value))) ++ r58) 29) :: (((some b47), blk ((u8s ([164#8] : List (BitVec 8))) ++ []) 5) :: (B38 ++ (B17 ++ []))))) (fun w q => More.mono (fun w m => (m).tail) q))
  replace v24 := v24.mono (Ψ := More w0 Φ ((ob57, blk ((cs20 ++ (([.bool false, .slice (((some b47)).map fun k => ⟨k, 0, none⟩) ([164#8] : List (BitVec 8)).length 1, .slice none 0 0] : List Value))) ++ r58) 29) :: (((some b47), blk ((u8s ([164#8] : List (BitVec 8))) ++ []) 5) :: (B38 ++ (B17 ++ []))))) (fun w q => More.mono (fun w m => (m).tail) q)
  replace h25 := h25.mono (ItRd.mono (Ψ := More w0 Φ ((ob57, blk ((cs20 ++ (([.bool false, .slice (((some b47)).map fun k => ⟨k, 0, none⟩) ([164#8] : List (BitVec 8)).length 1, .slice none 0 0] : List Value))) ++ r58) 29) :: (((some b47), blk ((u8s ([164#8] : List (BitVec 8))) ++ []) 5) :: (B38 ++ (B17 ++ []))))) (fun w q => More.mono (fun w m => (m).tail) q))
  replace v41 := v41.mono (Ψ := More w0 Φ ((ob57, blk ((cs20 ++ (([.bool false, .slice (((some b47)).map fun k => ⟨k, 0, none⟩) ([164#8] : List (BitVec 8)).length 1, .slice none 0 0] : List Value))) ++ r58) 29) :: (((some b47), blk ((u8s ([164#8] : List (BitVec 8))) ++ []) 5) :: (B38 ++ (B17 ++ []))))) (fun w q => More.mono (fun w m => (m).tail) q)
  replace v40 := v40.mono (Ψ := More w0 Φ ((ob57, blk ((cs20 ++ (([.bool false, .slice (((some b47)).map fun k => ⟨k, 0, none⟩) ([164#8] : List (BitVec 8)).length 1, .slice none 0 0] : List Value))) ++ r58) 29) :: (((some b47), blk ((u8s ([164#8] : List (BitVec 8))) ++ []) 5) :: (B38 ++ (B17 ++ []))))) (fun w q => More.mono (fun w m => (m).tail) q)
  replace v51 := v51.mono (Ψ := More w0 Φ ((ob57, blk ((cs20 ++ (([.bool false, .slice (((some b47)).map fun k => ⟨k, 0, none⟩) ([164#8] : List (BitVec 8)).length 1, .slice none 0 0] : List Value))) ++ r58) 29) :: (((some b47), blk ((u8s ([164#8] : List (BitVec 8))) ++ []) 5) :: (B38 ++ (B17 ++ []))))) (fun w q => More.mono (fun w m => (m).tail) q)
  replace h53 := h53.mono (ItRd.mono (Ψ := More w0 Φ ((ob57, blk ((cs20 ++ (([.bool false, .slice (((some b47)).map fun k => ⟨k, 0, none⟩) ([164#8] : List (BitVec 8)).length 1, .slice none 0 0] : List Value))) ++ r58) 29) :: (((some b47), blk ((u8s ([164#8] : List (BitVec 8))) ++ []) 5) :: (B38 ++ (B17 ++ []))))) (fun w q => More.mono (fun w m => (m).tail) q))
  replace h61 := h61.mono (ItRd.mono (Ψ := More w0 Φ ((ob57, blk ((cs20 ++ (([.bool false, .slice (((some b47)).map fun k => ⟨k, 0, none⟩) ([164#8] : List (BitVec 8)).length 1, .slice none 0 0] : List Value))) ++ r58) 29) :: (((some b47), blk ((u8s ([164#8] : List (BitVec 8))) ++ []) 5) :: (B38 ++ (B17 ++ []))))) (fun w q => More.mono (fun w m => (m).tail) q))
  have v63 : View (More w0 Φ ((ob57, blk ((cs20 ++ (([.bool false, .slice (((some b47)).map fun k => ⟨k, 0, none⟩) ([164#8] : List (BitVec 8)).length 1, .slice none 0 0] : List Value))) ++ r58) 29) :: (((some b47), blk ((u8s ([164#8] : List (BitVec 8))) ++ []) 5) :: (B38 ++ (B17 ++ []))))) ((ob57).map fun k => ⟨k, 0, none⟩) (x16.items ++ ([(It.mk false ([164#8] : List (BitVec 8)) ([] : List (It)))] : List (It))).length c59 3 (cs20 ++ (([.bool false, .slice (((some b47)).map fun k => ⟨k, 0, none⟩) ([164#8] : List (BitVec 8)).length 1, .slice none 0 0] : List Value))) := o60.view (by decide) (fun w q => q.2.sublist (List.singleton_sublist.2 (List.mem_cons_self ..)))
  obtain ⟨g65, hf⟩ := some_if hf
  have hle := v63.le
  have hlen_ : (x16.items ++ ([(It.mk false ([164#8] : List (BitVec 8)) ([] : List (It)))] : List (It))).length = (x16.items ++ ([(It.mk false ([164#8] : List (BitVec 8)) ([] : List (It)))] : List (It))).length := rfl
  refine OW.rv (RV.cut_hi (x16.items.length) rfl rfl (by omega) rfl rfl (by omega)) rfl ?_
  refine OW.slot (.slice ((ob57).map fun k => ⟨k, 0, none⟩) ((x16.items ++ ([(It.mk false ([164#8] : List (BitVec 8)) ([] : List (It)))] : List (It))).take x16.items.length).length c59) (by rw [show (((x16.items ++ ([(It.mk false ([164#8] : List (BitVec 8)) ([] : List (It)))] : List (It))).take x16.items.length)).length = x16.items.length from List.length_take.trans (Nat.min_eq_left (by omega))]) ?_
  have v64 : View (More w0 Φ ((ob57, blk ((cs20 ++ (([.bool false, .slice (((some b47)).map fun k => ⟨k, 0, none⟩) ([164#8] : List (BitVec 8)).length 1, .slice none 0 0] : List Value))) ++ r58) 29) :: (((some b47), blk ((u8s ([164#8] : List (BitVec 8))) ++ []) 5) :: (B38 ++ (B17 ++ []))))) ((ob57).map fun k => ⟨k, 0, none⟩) ((x16.items ++ ([(It.mk false ([164#8] : List (BitVec 8)) ([] : List (It)))] : List (It))).take x16.items.length).length c59 3 ((cs20 ++ (([.bool false, .slice (((some b47)).map fun k => ⟨k, 0, none⟩) ([164#8] : List (BitVec 8)).length 1, .slice none 0 0] : List Value))).take (x16.items.length * 3)) := v63.hiD (by omega)
  have h66 := h61.take ItRd.len x16.items.length
  have m67 := v64.mx
  refine OW.rv (RV.field rfl rfl rfl rfl) rfl ?_
  refine OW.rot1 ?_
  refine OW.sv (SV.store rfl rfl rfl rfl rfl (by simp)) ?_
  refine OW.cells [.bool (x16.list), .slice A39 x37.length (x37.length + 9), .slice ((ob57).map fun k => ⟨k, 0, none⟩) ((x16.items ++ ([(It.mk false ([164#8] : List (BitVec 8)) ([] : List (It)))] : List (It))).take x16.items.length).length c59] rfl ?_
  refine OW.nil ?_
  refine QW.then_n ?_
  refine CW.seq ?_
  refine CW.region ?_
  refine OW.rv (RV.loadW rfl (List.Mem.head _) rfl rfl rfl rfl rfl) rfl ?_
  refine OW.rot2 ?_
  refine OW.sv (SV.storeW rfl rfl rfl (by intro u hu; simp at hu; rcases hu with rfl | rfl | rfl <;> rfl) rfl rfl rfl) ?_
  refine OW.nil ?_
  refine QW.then_n ?_
  refine CW.ret ?_
  have e0 := Option.some.inj hf
  subst e0
  refine QW.retG (rs := [.cell 2 29]) ([.agg [.bool (x16.list), .slice A39 x37.length (x37.length + 9), .slice ((ob57).map fun k => ⟨k, 0, none⟩) ((x16.items ++ ([(It.mk false ([164#8] : List (BitVec 8)) ([] : List (It)))] : List (It))).take x16.items.length).length c59].toArray]) (((ob57, blk ((cs20 ++ (([.bool false, .slice (((some b47)).map fun k => ⟨k, 0, none⟩) ([164#8] : List (BitVec 8)).length 1, .slice none 0 0] : List Value))) ++ r58) 29) :: (((some b47), blk ((u8s ([164#8] : List (BitVec 8))) ++ []) 5) :: (B38 ++ (B17 ++ []))))) rfl ?_ rfl ?_ ?_ _ (.inl rfl)
  · exact ⟨⟨_, _, _, _, rfl, (List.Mem.head _), rfl, rfl, rfl, rfl⟩, trivial⟩
  · exact ⟨((ob57, blk ((cs20 ++ (([.bool false, .slice (((some b47)).map fun k => ⟨k, 0, none⟩) ([164#8] : List (BitVec 8)).length 1, .slice none 0 0] : List Value))) ++ r58) 29) :: (((some b47), blk ((u8s ([164#8] : List (BitVec 8))) ++ []) 5) :: (B38 ++ (B17 ++ [])))), [.bool (x16.list), .slice A39 x37.length (x37.length + 9), .slice ((ob57).map fun k => ⟨k, 0, none⟩) ((x16.items ++ ([(It.mk false ([164#8] : List (BitVec 8)) ([] : List (It)))] : List (It))).take x16.items.length).length c59], (RtRd.mk v40 v63 h61 (by simp)), rfl, rfl⟩
  · exact (fun w m => m.pick [] 4 rfl rfl)

theorem waybilllaw07_stays_does (w0 : World) (Φ : Ctx) (N : List Ent) (hΦ : ∀ w, Mem w0 w N → Φ w) (cs0_ : List Value) (a0 : It) (cs1_ : List Value) (a1 : It) (res0 : Bool) (ha0 : RtRd Φ cs0_ a0) (ha1 : ItRd Φ cs1_ a1) (hf : waybilllaw07_stays a0 a1 = some res0) : DoesG Try.prog 44 [.agg cs0_.toArray, .agg cs1_.toArray] w0 [] N (fun v G => v = .bool res0) := by
  unfold waybilllaw07_stays at hf
  replace ha0 := RtRd.mono (Ψ := More w0 Φ []) (fun w q => q.1) _ _ ha0
  have h11 := ha0
  obtain ⟨A1, A2, c3, cs4, e10, v5, v6, h7, v8, h9⟩ := RtRd.opn ha0
  subst e10
  have v12 := v5.view
  have m13 := v12.mx
  have m14 := v6.mx
  have m15 := v8.mx
  replace ha1 := ItRd.mono (Ψ := More w0 Φ []) (fun w q => q.1) _ _ ha1
  have h25 := ha1
  obtain ⟨A16, c17, A19, c20, cs22, e24, v18, v21, h23⟩ := ItRd.opn ha1
  subst e24
  have m26 := v18.mx
  have m27 := v21.mx
  refine DoesG.enter Try.func44 rfl Try.ntmps44 rfl (M := (([] ++ N))) rfl ?_
  refine CW.seq ?_
  refine CW.region ?_
  refine OW.boxA rfl rfl (fun b28 => ?_)
  refine OW.boxA rfl rfl (fun b29 => ?_)
  refine OW.rv (RV.assign rfl) rfl ?_
  refine OW.nil ?_
  refine QW.then_n ?_
  refine CW.seq ?_
  refine CW.seq ?_
  obtain ⟨q30, hq31, hf⟩ := some_bind hf
  refine CW.cutJ (fun L' M' => ∃ p32 : Bool, q30 = p32 ∧ L' = [(2, ptr (some b28) 0), (3, ptr (some b29) 0), (16, .bool (p32))] ∧ M' = ((some b29, blk [.bool (a1.list), .slice A16 a1.data.length c17, .slice A19 a1.items.length c20] 29) :: (some b28, blk [.bool (a0.list), .slice A1 a0.data.length (a0.data.length + 9), .slice A2 a0.items.length c3] 29) :: ([] ++ N))) ?_ ?_
  · rintro L34 M35 ⟨p32, e33, e36, e37⟩
    rw [e36, e37]
    clear e36 e37 L34 M35
    clear hq31
    rw [e33] at hf
    clear e33
    try dsimp only at hf
    refine QW.then_n ?_
    by_cases h38 : p32 = true
    · replace hf := if_t hf h38
      refine CW.is_t rfl (h38) ?_
      refine CW.seq ?_
      refine CW.region ?_
      refine OW.rv (RV.assign rfl) rfl ?_
      refine OW.nil ?_
      refine QW.then_n ?_
      refine CW.ret ?_
      refine QW.then_r ?_
      have e0 := Option.some.inj hf
      subst e0
      refine QW.retG (rs := [.tmp 4]) ([.bool false]) ((some b29, blk [.bool (a1.list), .slice A16 a1.data.length c17, .slice A19 a1.items.length c20] 29) :: (some b28, blk [.bool (a0.list), .slice A1 a0.data.length (a0.data.length + 9), .slice A2 a0.items.length c3] 29) :: []) rfl ?_ rfl ?_ ?_ _ (.inl rfl)
      · exact ⟨rfl, trivial⟩
      · exact rfl
      · exact (fun w m => m)
    · replace hf := if_f hf h38
      refine CW.is_f rfl (Bool.eq_false_iff.2 h38) ?_
      refine CW.skip ?_
      refine QW.then_n ?_
      refine CW.seq ?_
      refine CW.region ?_
      refine OW.rv (RV.field rfl rfl rfl rfl) rfl ?_
      refine OW.rv (RV.load rfl (List.Mem.head _) rfl rfl rfl rfl) rfl ?_
      refine OW.rv (RV.len rfl rfl) rfl ?_
      refine OW.rv (RV.assign rfl) rfl ?_
      refine OW.nil ?_
      refine QW.then_n ?_
      refine CW.seq ?_
      refine CW.region ?_
      refine OW.rv (RV.field rfl rfl rfl rfl) rfl ?_
      refine OW.rv (RV.load rfl (List.Mem.tail _ (List.Mem.head _)) rfl rfl rfl rfl) rfl ?_
      refine OW.rv (RV.move rfl) rfl ?_
      refine OW.rv (RV.add rfl rfl (by omega)) rfl ?_
      refine OW.slot (.int .i64 (((a1.items.length + 1) : Nat) : Int)) (by first | rfl | (congr 1) | (congr 1; omega)) ?_
      obtain ⟨g40, hf⟩ := some_if hf
      have hle := v8.le
      have hlen_ : (a0.items ++ [(It.mk false ([164#8] : List (BitVec 8)) ([] : List (It)))]).length = (a0.items ++ [(It.mk false ([164#8] : List (BitVec 8)) ([] : List (It)))]).length := rfl
      refine OW.rv (RV.cut_hi ((a1.items.length + 1)) rfl rfl (by omega) rfl rfl (by omega)) rfl ?_
      refine OW.slot (.slice A2 ((a0.items ++ [(It.mk false ([164#8] : List (BitVec 8)) ([] : List (It)))]).take (a1.items.length + 1)).length c3) (by rw [show (((a0.items ++ [(It.mk false ([164#8] : List (BitVec 8)) ([] : List (It)))]).take (a1.items.length + 1))).length = (a1.items.length + 1) from List.length_take.trans (Nat.min_eq_left (by omega))]) ?_
      have v39 : View (More w0 Φ []) A2 ((a0.items ++ [(It.mk false ([164#8] : List (BitVec 8)) ([] : List (It)))]).take (a1.items.length + 1)).length c3 3 (cs4.take ((a1.items.length + 1) * 3)) := v8.hiD (by omega)
      have h41 := h9.take ItRd.len (a1.items.length + 1)
      have m42 := v39.mx
      refine OW.rv (RV.move rfl) rfl ?_
      obtain ⟨x43, hx44, hf⟩ := some_bind hf
      have hl45 := lt_of_at hx44
      refine OW.rv (RV.idx_rs (a1.items.length) rfl rfl rfl rfl rfl (v39.isSome (by decide) hl45) (by omega)) rfl ?_
      obtain ⟨cs46, h47, h48⟩ := h41.get ItRd.len hx44
      have h58 := h47
      obtain ⟨A49, c50, A52, c53, cs55, e57, v51, v54, h56⟩ := ItRd.opn h47
      subst e57
      have m59 := v51.mx
      have m60 := v54.mx
      refine OW.rv (RV.loadAs rfl rfl rfl rfl (fun w m => v39.load (More.of hΦ 2 m rfl) h48) rfl) rfl ?_
      refine OW.alloc (l := [.bool false, .slice none 0 0, .slice none 0 0]) rfl rfl rfl (fun b61 => ?_)
      refine OW.sv (SV.storeW rfl rfl rfl (by intro u hu; simp at hu; rcases hu with rfl | rfl | rfl <;> rfl) rfl rfl rfl) ?_
      refine OW.nil ?_
      refine QW.then_n ?_
      refine CW.seq ?_
      obtain ⟨q62, hq63, hf⟩ := some_bind hf
      refine CW.cutJ (fun L' M' => ∃ p66 : Bool, ∃ B64 : List Ent, q62 = p66 ∧ (∀ w, Mem w0 w B64 → Mem w0 w []) ∧ L' = [(4, .bool (p66))] ∧ M' = ((B64 ++ N))) ?_ ?_
      · rintro L68 M69 ⟨p66, B64, e67, hB65, e70, e71⟩
        rw [e70, e71]
        clear e70 e71 L68 M69
        clear hq63
        rw [e67] at hf
        clear e67
        try dsimp only at hf
        refine QW.then_n ?_
        refine CW.ret ?_
        have e0 := Option.some.inj hf
        subst e0
        refine QW.retG (rs := [.tmp 4]) ([.bool (p66)]) (B64) rfl ?_ rfl ?_ ?_ _ (.inl rfl)
        · exact ⟨rfl, trivial⟩
        · exact rfl
        · exact (fun w m => m)
      · skip
        refine CW.region ?_
        refine OW.rv (RV.field rfl rfl rfl rfl) rfl ?_
        refine OW.rv (RV.load rfl (List.Mem.head _) rfl rfl rfl rfl) rfl ?_
        refine OW.rv (RV.not rfl) rfl ?_
        refine OW.rv (RV.move rfl) rfl ?_
        by_cases h72 : x43.list = true
        · replace hq63 := if_t hq63 h72
          refine OW.slot (.bool false) (congrArg Value.bool (congrArg (fun b => !b) (h72))) ?_
          refine OW.skip rfl rfl rfl ?_
          refine OW.skip rfl rfl rfl ?_
          refine OW.skip rfl rfl rfl ?_
          refine OW.skip rfl rfl rfl ?_
          refine OW.rv (RV.pick_f rfl rfl rfl) rfl ?_
          refine OW.rv (RV.assign rfl) rfl ?_
          refine OW.nil ?_
          exact QW.join ⟨false, [], (Option.some.inj hq63).symm, (fun w m => m), rfl, rfl⟩ ⟨rfl, trivial⟩ (fun w m => m.pick [] 3 rfl rfl)
        · replace hq63 := if_f hq63 h72
          refine OW.slot (.bool true) (congrArg Value.bool (congrArg (fun b => !b) (Bool.eq_false_iff.2 h72))) ?_
          refine OW.want rfl ?_
          refine OW.rv (RV.field rfl rfl rfl rfl) rfl ?_
          refine OW.want rfl ?_
          refine OW.rv (RV.load rfl (List.Mem.head _) rfl rfl rfl rfl) rfl ?_
          refine OW.want rfl ?_
          refine OW.ofN (NV.bs1 rfl rfl rfl rfl rfl rfl) rfl (fun b73 => ?_)
          refine OW.mem (M' := (((some b73), blk ((u8s ([164#8] : List (BitVec 8))) ++ []) 5) :: (some b61, blk [.bool (x43.list), .slice A49 x43.data.length c50, .slice A52 x43.items.length c53] 29) :: (some b29, blk [.bool (a1.list), .slice A16 a1.data.length c17, .slice A19 a1.items.length c20] 29) :: (some b28, blk [.bool (a0.list), .slice A1 a0.data.length (a0.data.length + 9), .slice A2 a0.items.length c3] 29) :: ([] ++ N))) (fun w m => by first | exact m | simpa [u8s] using m) ?_
          have o74 : OwnS (some b73) ([164#8] : List (BitVec 8)).length 1 1 (u8s ([164#8] : List (BitVec 8))) [] := ⟨by simp [u8s], by simp [u8s], (fun h => nomatch h), by simp⟩
          refine OW.slot (sl (some b73) 0 ([164#8] : List (BitVec 8)).length 1) (rfl) ?_
          refine OW.want rfl ?_
          refine OW.mem (M' := (some b61, blk [.bool (x43.list), .slice A49 x43.data.length c50, .slice A52 x43.items.length c53] 29) :: (some b29, blk [.bool (a1.list), .slice A16 a1.data.length c17, .slice A19 a1.items.length c20] 29) :: (some b28, blk [.bool (a0.list), .slice A1 a0.data.length (a0.data.length + 9), .slice A2 a0.items.length c3] 29) :: ((((some b73), blk ((u8s ([164#8] : List (BitVec 8))) ++ []) 5) :: []) ++ N)) (fun w m => m.pick [1, 2, 3, 0] 4 rfl rfl) ?_
          replace v21 := v21.mono (Ψ := More w0 Φ (((some b73), blk ((u8s ([164#8] : List (BitVec 8))) ++ []) 5) :: [])) (fun w q => More.mono (fun w m => (m).tail) q)
          replace h23 := h23.mono (ItRd.mono (Ψ := More w0 Φ (((some b73), blk ((u8s ([164#8] : List (BitVec 8))) ++ []) 5) :: [])) (fun w q => More.mono (fun w m => (m).tail) q))
          replace v6 := v6.mono (Ψ := More w0 Φ (((some b73), blk ((u8s ([164#8] : List (BitVec 8))) ++ []) 5) :: [])) (fun w q => More.mono (fun w m => (m).tail) q)
          replace h7 := h7.mono (ItRd.mono (Ψ := More w0 Φ (((some b73), blk ((u8s ([164#8] : List (BitVec 8))) ++ []) 5) :: [])) (fun w q => More.mono (fun w m => (m).tail) q))
          replace v8 := v8.mono (Ψ := More w0 Φ (((some b73), blk ((u8s ([164#8] : List (BitVec 8))) ++ []) 5) :: [])) (fun w q => More.mono (fun w m => (m).tail) q)
          replace h9 := h9.mono (ItRd.mono (Ψ := More w0 Φ (((some b73), blk ((u8s ([164#8] : List (BitVec 8))) ++ []) 5) :: [])) (fun w q => More.mono (fun w m => (m).tail) q))
          replace v39 := v39.mono (Ψ := More w0 Φ (((some b73), blk ((u8s ([164#8] : List (BitVec 8))) ++ []) 5) :: [])) (fun w q => More.mono (fun w m => (m).tail) q)
          replace h41 := h41.mono (ItRd.mono (Ψ := More w0 Φ (((some b73), blk ((u8s ([164#8] : List (BitVec 8))) ++ []) 5) :: [])) (fun w q => More.mono (fun w m => (m).tail) q))
          replace h58 := ItRd.mono (Ψ := More w0 Φ (((some b73), blk ((u8s ([164#8] : List (BitVec 8))) ++ []) 5) :: [])) (fun w q => More.mono (fun w m => (m).tail) q) _ _ h58
          replace v51 := v51.mono (Ψ := More w0 Φ (((some b73), blk ((u8s ([164#8] : List (BitVec 8))) ++ []) 5) :: [])) (fun w q => More.mono (fun w m => (m).tail) q)
          replace v54 := v54.mono (Ψ := More w0 Φ (((some b73), blk ((u8s ([164#8] : List (BitVec 8))) ++ []) 5) :: [])) (fun w q => More.mono (fun w m => (m).tail) q)
          replace h56 := h56.mono (ItRd.mono (Ψ := More w0 Φ (((some b73), blk ((u8s ([164#8] : List (BitVec 8))) ++ []) 5) :: [])) (fun w q => More.mono (fun w m => (m).tail) q))
          replace h25 := ItRd.mono (Ψ := More w0 Φ (((some b73), blk ((u8s ([164#8] : List (BitVec 8))) ++ []) 5) :: [])) (fun w q => More.mono (fun w m => (m).tail) q) _ _ h25
          replace v18 := v18.mono (Ψ := More w0 Φ (((some b73), blk ((u8s ([164#8] : List (BitVec 8))) ++ []) 5) :: [])) (fun w q => More.mono (fun w m => (m).tail) q)
          replace h11 := RtRd.mono (Ψ := More w0 Φ (((some b73), blk ((u8s ([164#8] : List (BitVec 8))) ++ []) 5) :: [])) (fun w q => More.mono (fun w m => (m).tail) q) _ _ h11
          replace v12 := v12.mono (Ψ := More w0 Φ (((some b73), blk ((u8s ([164#8] : List (BitVec 8))) ++ []) 5) :: [])) (fun w q => More.mono (fun w m => (m).tail) q)
          replace v5 := v5.mono (Ψ := More w0 Φ (((some b73), blk ((u8s ([164#8] : List (BitVec 8))) ++ []) 5) :: [])) (fun w q => More.mono (fun w m => (m).tail) q)
          have v75 : View (More w0 Φ (((some b73), blk ((u8s ([164#8] : List (BitVec 8))) ++ []) 5) :: [])) (((some b73)).map fun k => ⟨k, 0, none⟩) ([164#8] : List (BitVec 8)).length 1 1 (u8s ([164#8] : List (BitVec 8))) := o74.view (by decide) (fun w q => q.2.sublist (List.singleton_sublist.2 (List.mem_cons_self ..)))
          obtain ⟨x77, hx76, hq63⟩ := some_bind hq63
          refine OW.callG Try.call26 rfl (waybilllaw07_same_does w0 (More w0 Φ (((some b73), blk ((u8s ([164#8] : List (BitVec 8))) ++ []) 5) :: [])) ((some b61, blk [.bool (x43.list), .slice A49 x43.data.length c50, .slice A52 x43.items.length c53] 29) :: (some b29, blk [.bool (a1.list), .slice A16 a1.data.length c17, .slice A19 a1.items.length c20] 29) :: (some b28, blk [.bool (a0.list), .slice A1 a0.data.length (a0.data.length + 9), .slice A2 a0.items.length c3] 29) :: ((((some b73), blk ((u8s ([164#8] : List (BitVec 8))) ++ []) 5) :: []) ++ N)) (fun w m => More.of hΦ 3 m rfl) A49 c50 x43.data (((some b73)).map fun k => ⟨k, 0, none⟩) 1 ([164#8] : List (BitVec 8)) x77 v51 v75 hx76) rfl rfl ?_
          rintro _ G78 rfl
          refine OW.mem (M' := ((some b61, blk [.bool (x43.list), .slice A49 x43.data.length c50, .slice A52 x43.items.length c53] 29) :: (some b29, blk [.bool (a1.list), .slice A16 a1.data.length c17, .slice A19 a1.items.length c20] 29) :: (some b28, blk [.bool (a0.list), .slice A1 a0.data.length (a0.data.length + 9), .slice A2 a0.items.length c3] 29) :: ((((some b73), blk ((u8s ([164#8] : List (BitVec 8))) ++ []) 5) :: []) ++ N))) (fun w m => m.appR) ?_
          refine OW.rv (RV.pick_t rfl rfl rfl) rfl ?_
          refine OW.rv (RV.assign rfl) rfl ?_
          refine OW.nil ?_
          exact QW.join ⟨(x77), (((some b73), blk ((u8s ([164#8] : List (BitVec 8))) ++ []) 5) :: []), (Option.some.inj hq63).symm, (fun w m => (m).tail), rfl, rfl⟩ ⟨rfl, trivial⟩ (fun w m => m.pick [] 3 rfl rfl)
  · skip
    refine CW.region ?_
    refine OW.rv (RV.loadW rfl (List.Mem.tail _ (List.Mem.head _)) rfl rfl rfl rfl rfl) rfl ?_
    refine OW.rv (RV.loadW rfl (List.Mem.head _) rfl rfl rfl rfl rfl) rfl ?_
    obtain ⟨x81, hx80, hq31⟩ := some_bind hq31
    refine OW.callG Try.call17 rfl (waybillref07_Same_does w0 (More w0 Φ []) ((some b29, blk [.bool (a1.list), .slice A16 a1.data.length c17, .slice A19 a1.items.length c20] 29) :: (some b28, blk [.bool (a0.list), .slice A1 a0.data.length (a0.data.length + 9), .slice A2 a0.items.length c3] 29) :: ([] ++ N)) (fun w m => More.of hΦ 2 m rfl) [.bool (a0.list), .slice A1 a0.data.length (a0.data.length + 9), .slice A2 a0.items.length c3] a0 [.bool (a1.list), .slice A16 a1.data.length c17, .slice A19 a1.items.length c20] a1 x81 (RtRd.it h11) h25 hx80) rfl rfl ?_
    rintro _ G82 rfl
    refine OW.mem (M' := ((some b29, blk [.bool (a1.list), .slice A16 a1.data.length c17, .slice A19 a1.items.length c20] 29) :: (some b28, blk [.bool (a0.list), .slice A1 a0.data.length (a0.data.length + 9), .slice A2 a0.items.length c3] 29) :: ([] ++ N))) (fun w m => m.appR) ?_
    refine OW.rv (RV.not rfl) rfl ?_
    refine OW.rv (RV.move rfl) rfl ?_
    by_cases h84 : x81 = true
    · replace hq31 := if_t hq31 h84
      refine OW.slot (.bool false) (congrArg Value.bool (congrArg (fun b => !b) (h84))) ?_
      refine OW.want rfl ?_
      refine OW.rv (RV.field rfl rfl rfl rfl) rfl ?_
      refine OW.want rfl ?_
      refine OW.rv (RV.load rfl (List.Mem.tail _ (List.Mem.head _)) rfl rfl rfl rfl) rfl ?_
      refine OW.want rfl ?_
      obtain ⟨x86, hx85, hq31⟩ := some_bind hq31
      refine OW.callG Try.call27 rfl (waybilllaw07_spared_does w0 (More w0 Φ []) ((some b29, blk [.bool (a1.list), .slice A16 a1.data.length c17, .slice A19 a1.items.length c20] 29) :: (some b28, blk [.bool (a0.list), .slice A1 a0.data.length (a0.data.length + 9), .slice A2 a0.items.length c3] 29) :: ([] ++ N)) (fun w m => More.of hΦ 2 m rfl) A1 a0.data x86 v5 hx85) rfl rfl ?_
      rintro _ G87 rfl
      refine OW.mem (M' := ((some b29, blk [.bool (a1.list), .slice A16 a1.data.length c17, .slice A19 a1.items.length c20] 29) :: (some b28, blk [.bool (a0.list), .slice A1 a0.data.length (a0.data.length + 9), .slice A2 a0.items.length c3] 29) :: ([] ++ N))) (fun w m => m.appR) ?_
      refine OW.want rfl ?_
      refine OW.rv (RV.not rfl) rfl ?_
      refine OW.rv (RV.pick_f rfl rfl rfl) rfl ?_
      refine OW.nil ?_
      exact QW.join ⟨(!x86), (Option.some.inj hq31).symm, rfl, rfl⟩ ⟨rfl, rfl, rfl, trivial⟩ (fun w m => m.pick [0, 1] 2 rfl rfl)
    · replace hq31 := if_f hq31 h84
      refine OW.slot (.bool true) (congrArg Value.bool (congrArg (fun b => !b) (Bool.eq_false_iff.2 h84))) ?_
      refine OW.skip rfl rfl rfl ?_
      refine OW.skip rfl rfl rfl ?_
      refine OW.skip rfl rfl rfl ?_
      refine OW.skip rfl rfl rfl ?_
      refine OW.rv (RV.pick_t rfl rfl rfl) rfl ?_
      refine OW.nil ?_
      exact QW.join ⟨true, (Option.some.inj hq31).symm, rfl, rfl⟩ ⟨rfl, rfl, rfl, trivial⟩ (fun w m => m.pick [0, 1] 2 rfl rfl)

theorem waybilllaw07_RlpReads_does (w0 : World) (Φ : Ctx) (N : List Ent) (hΦ : ∀ w, Mem w0 w N → Φ w) (cs0_ : List Value) (a0 : It) (a1 : Int) (res0 : Bool) (ha0 : ItRd Φ cs0_ a0) (ba1 : -9223372036854775808 ≤ a1 ∧ a1 ≤ 9223372036854775807) (hf : waybilllaw07_RlpReads a0 a1 = some res0) : DoesG Try.prog 5 [.agg cs0_.toArray, .int .i64 a1] w0 [] N (fun v G => v = .bool res0) := by
  unfold waybilllaw07_RlpReads at hf
  replace ha0 := ItRd.mono (Ψ := More w0 Φ []) (fun w q => q.1) _ _ ha0
  have h10 := ha0
  obtain ⟨A1, c2, A4, c5, cs7, e9, v3, v6, h8⟩ := ItRd.opn ha0
  subst e9
  have m11 := v3.mx
  have m12 := v6.mx
  refine DoesG.enter Try.func5 rfl Try.ntmps5 rfl (M := (([] ++ N))) rfl ?_
  refine CW.seq ?_
  refine CW.region ?_
  refine OW.boxA rfl rfl (fun b13 => ?_)
  refine OW.rv (RV.assign rfl) rfl ?_
  refine OW.nil ?_
  refine QW.then_n ?_
  refine CW.seq ?_
  refine CW.seq ?_
  refine CW.region ?_
  refine OW.rv (RV.loadW rfl (List.Mem.head _) rfl rfl rfl rfl rfl) rfl ?_
  obtain ⟨x15, hx14, hf⟩ := some_bind hf
  refine OW.callG Try.call14 rfl (waybillref07_Beyond_does w0 (More w0 Φ []) ((some b13, blk [.bool (a0.list), .slice A1 a0.data.length c2, .slice A4 a0.items.length c5] 29) :: ([] ++ N)) (fun w m => More.of hΦ 1 m rfl) [.bool (a0.list), .slice A1 a0.data.length c2, .slice A4 a0.items.length c5] a0 x15 h10 hx14) rfl rfl ?_
  rintro _ G16 rfl
  refine OW.mem (M' := ((some b13, blk [.bool (a0.list), .slice A1 a0.data.length c2, .slice A4 a0.items.length c5] 29) :: ([] ++ N))) (fun w m => m.appR) ?_
  refine OW.nil ?_
  refine QW.then_n ?_
  by_cases h18 : x15 = true
  · replace hf := if_t hf h18
    refine CW.is_t rfl (h18) ?_
    refine CW.seq ?_
    refine CW.region ?_
    refine OW.rv (RV.assign rfl) rfl ?_
    refine OW.nil ?_
    refine QW.then_n ?_
    refine CW.ret ?_
    refine QW.then_r ?_
    have e0 := Option.some.inj hf
    subst e0
    refine QW.retG (rs := [.tmp 4]) ([.bool true]) ((some b13, blk [.bool (a0.list), .slice A1 a0.data.length c2, .slice A4 a0.items.length c5] 29) :: []) rfl ?_ rfl ?_ ?_ _ (.inl rfl)
    · exact ⟨rfl, trivial⟩
    · exact rfl
    · exact (fun w m => m)
  · replace hf := if_f hf h18
    refine CW.is_f rfl (Bool.eq_false_iff.2 h18) ?_
    refine CW.skip ?_
    refine QW.then_n ?_
    refine CW.seq ?_
    refine CW.region ?_
    refine OW.rv (RV.loadW rfl (List.Mem.head _) rfl rfl rfl rfl rfl) rfl ?_
    obtain ⟨x20, hx19, hf⟩ := some_bind hf
    refine OW.callG Try.call33 rfl (waybilllaw07_room_does w0 (More w0 Φ []) ((some b13, blk [.bool (a0.list), .slice A1 a0.data.length c2, .slice A4 a0.items.length c5] 29) :: ([] ++ N)) (fun w m => More.of hΦ 1 m rfl) [.bool (a0.list), .slice A1 a0.data.length c2, .slice A4 a0.items.length c5] a0 x20 h10 hx19) rfl rfl ?_
    rintro L24 M25 ⟨B21, cs22, h23, e26, e27⟩
    rw [e26, e27]
    clear e26 e27 L24 M25
    refine OW.mem (M' := ((some b13, blk [.bool (a0.list), .slice A1 a0.data.length c2, .slice A4 a0.items.length c5] 29) :: ((B21 ++ []) ++ N))) (fun w m => by have h := Mem.sinkAt (A := B21) m 0 1 rfl rfl; exact h) ?_
    replace h10 := ItRd.mono (Ψ := More w0 Φ (B21 ++ [])) (fun w q => More.mono (fun w m => (m).appR) q) _ _ h10
    replace v3 := v3.mono (Ψ := More w0 Φ (B21 ++ [])) (fun w q => More.mono (fun w m => (m).appR) q)
    replace v6 := v6.mono (Ψ := More w0 Φ (B21 ++ [])) (fun w q => More.mono (fun w m => (m).appR) q)
    replace h8 := h8.mono (ItRd.mono (Ψ := More w0 Φ (B21 ++ [])) (fun w q => More.mono (fun w m => (m).appR) q))
    replace h23 := RtRd.mono (Ψ := (More w0 Φ (B21 ++ []))) (fun w q => More.flat q) _ _ h23
    have h38 := h23
    obtain ⟨A28, A29, c30, cs31, e37, v32, v33, h34, v35, h36⟩ := RtRd.opn h23
    subst e37
    have v39 := v32.view
    have m40 := v39.mx
    have m41 := v33.mx
    have m42 := v35.mx
    have m43 := v39.mx
    have m44 := v33.mx
    refine OW.alloc (l := [.bool false, .slice none 0 0, .slice none 0 0]) rfl rfl rfl (fun b45 => ?_)
    refine OW.sv (SV.storeW rfl rfl rfl (by intro u hu; simp at hu; rcases hu with rfl | rfl | rfl <;> rfl) rfl rfl rfl) ?_
    refine OW.nil ?_
    refine QW.then_n ?_
    refine CW.seq ?_
    refine CW.region ?_
    refine OW.rv (RV.loadW rfl (List.Mem.head _) rfl rfl rfl rfl rfl) rfl ?_
    obtain ⟨⟨x47, x48⟩, hx46, hf⟩ := some_bind hf
    try dsimp only at hf
    refine OW.callG Try.call34 rfl (rlp_GetText_does w0 (More w0 Φ (B21 ++ [])) ((some b45, blk [.bool (x20.list), .slice A28 x20.data.length (x20.data.length + 9), .slice A29 x20.items.length c30] 29) :: (some b13, blk [.bool (a0.list), .slice A1 a0.data.length c2, .slice A4 a0.items.length c5] 29) :: ((B21 ++ []) ++ N)) (fun w m => More.of hΦ 2 m rfl) [.bool (x20.list), .slice A28 x20.data.length (x20.data.length + 9), .slice A29 x20.items.length c30] x20 x47 x48 (RtRd.it h38) hx46) rfl rfl ?_
    rintro L55 M56 ⟨B49, ob50, c51, r52, o53, b54, e57, e58⟩
    rw [e57, e58]
    clear e57 e58 L55 M56
    refine OW.mem (M' := ((ob50, blk ((u8s x47) ++ r52) 5) :: (some b45, blk [.bool (x20.list), .slice A28 x20.data.length (x20.data.length + 9), .slice A29 x20.items.length c30] 29) :: (some b13, blk [.bool (a0.list), .slice A1 a0.data.length c2, .slice A4 a0.items.length c5] 29) :: ((B49 ++ (B21 ++ [])) ++ N))) (fun w m => by have h := Mem.sinkAt (A := B49) m 1 2 rfl rfl; exact h) ?_
    replace h10 := ItRd.mono (Ψ := More w0 Φ (B49 ++ (B21 ++ []))) (fun w q => More.mono (fun w m => (m).appR) q) _ _ h10
    replace v3 := v3.mono (Ψ := More w0 Φ (B49 ++ (B21 ++ []))) (fun w q => More.mono (fun w m => (m).appR) q)
    replace v6 := v6.mono (Ψ := More w0 Φ (B49 ++ (B21 ++ []))) (fun w q => More.mono (fun w m => (m).appR) q)
    replace h8 := h8.mono (ItRd.mono (Ψ := More w0 Φ (B49 ++ (B21 ++ []))) (fun w q => More.mono (fun w m => (m).appR) q))
    replace h38 := RtRd.mono (Ψ := More w0 Φ (B49 ++ (B21 ++ []))) (fun w q => More.mono (fun w m => (m).appR) q) _ _ h38
    replace v39 := v39.mono (Ψ := More w0 Φ (B49 ++ (B21 ++ []))) (fun w q => More.mono (fun w m => (m).appR) q)
    replace v32 := v32.mono (Ψ := More w0 Φ (B49 ++ (B21 ++ []))) (fun w q => More.mono (fun w m => (m).appR) q)
    replace v33 := v33.mono (Ψ := More w0 Φ (B49 ++ (B21 ++ []))) (fun w q => More.mono (fun w m => (m).appR) q)
    replace h34 := h34.mono (ItRd.mono (Ψ := More w0 Φ (B49 ++ (B21 ++ []))) (fun w q => More.mono (fun w m => (m).appR) q))
    replace v35 := v35.mono (Ψ := More w0 Φ (B49 ++ (B21 ++ []))) (fun w q => More.mono (fun w m => (m).appR) q)
    replace h36 := h36.mono (ItRd.mono (Ψ := More w0 Φ (B49 ++ (B21 ++ []))) (fun w q => More.mono (fun w m => (m).appR) q))
    have m59 := o53.mx
    refine OW.rv (RV.move rfl) rfl ?_
    refine OW.rv (RV.extract rfl rfl) rfl ?_
    refine OW.slot (sl ob50 0 x47.length c51) (rfl) ?_
    refine OW.rv (RV.extract rfl rfl) rfl ?_
    refine OW.slot (.int .i64 ((x48 : Nat) : Int)) (rfl) ?_
    refine OW.rv (RV.assign rfl) rfl ?_
    refine OW.rv (RV.assign rfl) rfl ?_
    refine OW.nil ?_
    refine QW.then_n ?_
    refine CW.seq ?_
    refine CW.region ?_
    refine OW.rv (RV.loadW rfl (List.Mem.tail _ (List.Mem.tail _ (List.Mem.head _))) rfl rfl rfl rfl rfl) rfl ?_
    obtain ⟨⟨x61, x62⟩, hx60, hf⟩ := some_bind hf
    try dsimp only at hf
    refine OW.callG Try.call35 rfl (waybillref07_GetText_does w0 (More w0 Φ (B49 ++ (B21 ++ []))) ((ob50, blk ((u8s x47) ++ r52) 5) :: (some b45, blk [.bool (x20.list), .slice A28 x20.data.length (x20.data.length + 9), .slice A29 x20.items.length c30] 29) :: (some b13, blk [.bool (a0.list), .slice A1 a0.data.length c2, .slice A4 a0.items.length c5] 29) :: ((B49 ++ (B21 ++ [])) ++ N)) (fun w m => More.of hΦ 3 m rfl) [.bool (a0.list), .slice A1 a0.data.length c2, .slice A4 a0.items.length c5] a0 x61 x62 h10 hx60) rfl rfl ?_
    rintro L69 M70 ⟨B63, ob64, c65, r66, o67, b68, e71, e72⟩
    rw [e71, e72]
    clear e71 e72 L69 M70
    refine OW.mem (M' := ((ob64, blk ((u8s x61) ++ r66) 5) :: (ob50, blk ((u8s x47) ++ r52) 5) :: (some b45, blk [.bool (x20.list), .slice A28 x20.data.length (x20.data.length + 9), .slice A29 x20.items.length c30] 29) :: (some b13, blk [.bool (a0.list), .slice A1 a0.data.length c2, .slice A4 a0.items.length c5] 29) :: ((B63 ++ (B49 ++ (B21 ++ []))) ++ N))) (fun w m => by have h := Mem.sinkAt (A := B63) m 1 3 rfl rfl; exact h) ?_
    replace h10 := ItRd.mono (Ψ := More w0 Φ (B63 ++ (B49 ++ (B21 ++ [])))) (fun w q => More.mono (fun w m => (m).appR) q) _ _ h10
    replace v3 := v3.mono (Ψ := More w0 Φ (B63 ++ (B49 ++ (B21 ++ [])))) (fun w q => More.mono (fun w m => (m).appR) q)
    replace v6 := v6.mono (Ψ := More w0 Φ (B63 ++ (B49 ++ (B21 ++ [])))) (fun w q => More.mono (fun w m => (m).appR) q)
    replace h8 := h8.mono (ItRd.mono (Ψ := More w0 Φ (B63 ++ (B49 ++ (B21 ++ [])))) (fun w q => More.mono (fun w m => (m).appR) q))
    replace h38 := RtRd.mono (Ψ := More w0 Φ (B63 ++ (B49 ++ (B21 ++ [])))) (fun w q => More.mono (fun w m => (m).appR) q) _ _ h38
    replace v39 := v39.mono (Ψ := More w0 Φ (B63 ++ (B49 ++ (B21 ++ [])))) (fun w q => More.mono (fun w m => (m).appR) q)
    replace v32 := v32.mono (Ψ := More w0 Φ (B63 ++ (B49 ++ (B21 ++ [])))) (fun w q => More.mono (fun w m => (m).appR) q)
    replace v33 := v33.mono (Ψ := More w0 Φ (B63 ++ (B49 ++ (B21 ++ [])))) (fun w q => More.mono (fun w m => (m).appR) q)
    replace h34 := h34.mono (ItRd.mono (Ψ := More w0 Φ (B63 ++ (B49 ++ (B21 ++ [])))) (fun w q => More.mono (fun w m => (m).appR) q))
    replace v35 := v35.mono (Ψ := More w0 Φ (B63 ++ (B49 ++ (B21 ++ [])))) (fun w q => More.mono (fun w m => (m).appR) q)
    replace h36 := h36.mono (ItRd.mono (Ψ := More w0 Φ (B63 ++ (B49 ++ (B21 ++ [])))) (fun w q => More.mono (fun w m => (m).appR) q))
    have m73 := o67.mx
    refine OW.rv (RV.move rfl) rfl ?_
    refine OW.rv (RV.extract rfl rfl) rfl ?_
    refine OW.slot (sl ob64 0 x61.length c65) (rfl) ?_
    refine OW.rv (RV.extract rfl rfl) rfl ?_
    refine OW.slot (.int .i64 ((x62 : Nat) : Int)) (rfl) ?_
    refine OW.rv (RV.assign rfl) rfl ?_
    refine OW.rv (RV.assign rfl) rfl ?_
    refine OW.nil ?_
    refine QW.then_n ?_
    refine CW.seq ?_
    refine CW.seq ?_
    obtain ⟨q74, hq75, hf⟩ := some_bind hf
    refine CW.cutJ (fun L' M' => ∃ p78 : Bool, ∃ B76 : List Ent, q74 = p78 ∧ (∀ w, Mem w0 w B76 → Mem w0 w (B63 ++ (B49 ++ (B21 ++ [])))) ∧ L' = [(1, .int .i64 a1), (2, ptr (some b13) 0), (5, ptr (some b45) 0), (39, .bool (p78))] ∧ M' = ((some b45, blk [.bool (x20.list), .slice A28 x20.data.length (x20.data.length + 9), .slice A29 x20.items.length c30] 29) :: (some b13, blk [.bool (a0.list), .slice A1 a0.data.length c2, .slice A4 a0.items.length c5] 29) :: (B76 ++ N))) ?_ ?_
    · rintro L80 M81 ⟨p78, B76, e79, hB77, e82, e83⟩
      rw [e82, e83]
      clear e82 e83 L80 M81
      clear hq75
      rw [e79] at hf
      clear e79
      try dsimp only at hf
      replace h38 := RtRd.mono (Ψ := More w0 Φ B76) (fun w q => More.mono (fun w m => hB77 w (m)) q) _ _ h38
      replace v39 := v39.mono (Ψ := More w0 Φ B76) (fun w q => More.mono (fun w m => hB77 w (m)) q)
      replace v32 := v32.mono (Ψ := More w0 Φ B76) (fun w q => More.mono (fun w m => hB77 w (m)) q)
      replace v33 := v33.mono (Ψ := More w0 Φ B76) (fun w q => More.mono (fun w m => hB77 w (m)) q)
      replace h34 := h34.mono (ItRd.mono (Ψ := More w0 Φ B76) (fun w q => More.mono (fun w m => hB77 w (m)) q))
      replace v35 := v35.mono (Ψ := More w0 Φ B76) (fun w q => More.mono (fun w m => hB77 w (m)) q)
      replace h36 := h36.mono (ItRd.mono (Ψ := More w0 Φ B76) (fun w q => More.mono (fun w m => hB77 w (m)) q))
      replace h10 := ItRd.mono (Ψ := More w0 Φ B76) (fun w q => More.mono (fun w m => hB77 w (m)) q) _ _ h10
      replace v3 := v3.mono (Ψ := More w0 Φ B76) (fun w q => More.mono (fun w m => hB77 w (m)) q)
      replace v6 := v6.mono (Ψ := More w0 Φ B76) (fun w q => More.mono (fun w m => hB77 w (m)) q)
      replace h8 := h8.mono (ItRd.mono (Ψ := More w0 Φ B76) (fun w q => More.mono (fun w m => hB77 w (m)) q))
      refine QW.then_n ?_
      by_cases h84 : p78 = true
      · replace hf := if_t hf h84
        refine CW.is_t rfl (h84) ?_
        refine CW.seq ?_
        refine CW.region ?_
        refine OW.rv (RV.assign rfl) rfl ?_
        refine OW.nil ?_
        refine QW.then_n ?_
        refine CW.ret ?_
        refine QW.then_r ?_
        have e0 := Option.some.inj hf
        subst e0
        refine QW.retG (rs := [.tmp 4]) ([.bool false]) ((some b45, blk [.bool (x20.list), .slice A28 x20.data.length (x20.data.length + 9), .slice A29 x20.items.length c30] 29) :: (some b13, blk [.bool (a0.list), .slice A1 a0.data.length c2, .slice A4 a0.items.length c5] 29) :: B76) rfl ?_ rfl ?_ ?_ _ (.inl rfl)
        · exact ⟨rfl, trivial⟩
        · exact rfl
        · exact (fun w m => m)
      · replace hf := if_f hf h84
        refine CW.is_f rfl (Bool.eq_false_iff.2 h84) ?_
        refine CW.skip ?_
        refine QW.then_n ?_
        refine CW.seq ?_
        refine CW.region ?_
        refine OW.rv (RV.loadW rfl (List.Mem.head _) rfl rfl rfl rfl rfl) rfl ?_
        obtain ⟨⟨x86, x87⟩, hx85, hf⟩ := some_bind hf
        try dsimp only at hf
        refine OW.callG Try.call36 rfl (rlp_GetNumber_does w0 (More w0 Φ B76) ((some b45, blk [.bool (x20.list), .slice A28 x20.data.length (x20.data.length + 9), .slice A29 x20.items.length c30] 29) :: (some b13, blk [.bool (a0.list), .slice A1 a0.data.length c2, .slice A4 a0.items.length c5] 29) :: (B76 ++ N)) (fun w m => More.of hΦ 2 m rfl) [.bool (x20.list), .slice A28 x20.data.length (x20.data.length + 9), .slice A29 x20.items.length c30] x20 x86 x87 (RtRd.it h38) hx85) rfl rfl ?_
        rintro _ G89 ⟨b88, rfl⟩
        refine OW.mem (M' := ((some b45, blk [.bool (x20.list), .slice A28 x20.data.length (x20.data.length + 9), .slice A29 x20.items.length c30] 29) :: (some b13, blk [.bool (a0.list), .slice A1 a0.data.length c2, .slice A4 a0.items.length c5] 29) :: (B76 ++ N))) (fun w m => m.appR) ?_
        refine OW.rv (RV.move rfl) rfl ?_
        refine OW.rv (RV.extract rfl rfl) rfl ?_
        refine OW.slot (.agg (u64s x86.toList).toArray) (rfl) ?_
        refine OW.rv (RV.extract rfl rfl) rfl ?_
        refine OW.slot (.int .i64 ((x87 : Nat) : Int)) (rfl) ?_
        refine OW.alloc (l := (u64s (Vector.replicate 4 0#64).toList)) rfl (by rw [Vector.toList_replicate, ← u64s_rep]; rfl) rfl (fun b91 => ?_)
        refine OW.sv (SV.storeW rfl rfl rfl (u64s_one _) rfl ((u64s_length _).trans Vector.length_toList) ((u64s_length _).trans Vector.length_toList)) ?_
        refine OW.rv (RV.assign rfl) rfl ?_
        refine OW.nil ?_
        refine QW.then_n ?_
        refine CW.seq ?_
        refine CW.region ?_
        refine OW.rv (RV.loadW rfl (List.Mem.tail _ (List.Mem.tail _ (List.Mem.head _))) rfl rfl rfl rfl rfl) rfl ?_
        obtain ⟨⟨x93, x94⟩, hx92, hf⟩ := some_bind hf
        try dsimp only at hf
        refine OW.callG Try.call37 rfl (waybillref07_GetNumber_does w0 (More w0 Φ B76) ((some b91, blk (u64s x86.toList) 25) :: (some b45, blk [.bool (x20.list), .slice A28 x20.data.length (x20.data.length + 9), .slice A29 x20.items.length c30] 29) :: (some b13, blk [.bool (a0.list), .slice A1 a0.data.length c2, .slice A4 a0.items.length c5] 29) :: (B76 ++ N)) (fun w m => More.of hΦ 3 m rfl) [.bool (a0.list), .slice A1 a0.data.length c2, .slice A4 a0.items.length c5] a0 x93 x94 h10 hx92) rfl rfl ?_
        rintro _ G96 ⟨b95, rfl⟩
        refine OW.mem (M' := ((some b91, blk (u64s x86.toList) 25) :: (some b45, blk [.bool (x20.list), .slice A28 x20.data.length (x20.data.length + 9), .slice A29 x20.items.length c30] 29) :: (some b13, blk [.bool (a0.list), .slice A1 a0.data.length c2, .slice A4 a0.items.length c5] 29) :: (B76 ++ N))) (fun w m => m.appR) ?_
        refine OW.rv (RV.move rfl) rfl ?_
        refine OW.rv (RV.extract rfl rfl) rfl ?_
        refine OW.slot (.agg (u64s x93.toList).toArray) (rfl) ?_
        refine OW.rv (RV.extract rfl rfl) rfl ?_
        refine OW.slot (.int .i64 ((x94 : Nat) : Int)) (rfl) ?_
        refine OW.alloc (l := (u64s (Vector.replicate 4 0#64).toList)) rfl (by rw [Vector.toList_replicate, ← u64s_rep]; rfl) rfl (fun b98 => ?_)
        refine OW.sv (SV.storeW rfl rfl rfl (u64s_one _) rfl ((u64s_length _).trans Vector.length_toList) ((u64s_length _).trans Vector.length_toList)) ?_
        refine OW.rv (RV.assign rfl) rfl ?_
        refine OW.nil ?_
        refine QW.then_n ?_
        refine CW.seq ?_
        refine CW.seq ?_
        obtain ⟨q99, hq100, hf⟩ := some_bind hf
        refine CW.cutJ (fun L' M' => ∃ p101 : Bool, q99 = p101 ∧ L' = [(1, .int .i64 a1), (2, ptr (some b13) 0), (5, ptr (some b45) 0), (58, .bool (p101))] ∧ M' = ((some b45, blk [.bool (x20.list), .slice A28 x20.data.length (x20.data.length + 9), .slice A29 x20.items.length c30] 29) :: (some b13, blk [.bool (a0.list), .slice A1 a0.data.length c2, .slice A4 a0.items.length c5] 29) :: (B76 ++ N))) ?_ ?_
        · rintro L103 M104 ⟨p101, e102, e105, e106⟩
          rw [e105, e106]
          clear e105 e106 L103 M104
          clear hq100
          rw [e102] at hf
          clear e102
          try dsimp only at hf
          refine QW.then_n ?_
          by_cases h107 : p101 = true
          · replace hf := if_t hf h107
            refine CW.is_t rfl (h107) ?_
            refine CW.seq ?_
            refine CW.region ?_
            refine OW.rv (RV.assign rfl) rfl ?_
            refine OW.nil ?_
            refine QW.then_n ?_
            refine CW.ret ?_
            refine QW.then_r ?_
            have e0 := Option.some.inj hf
            subst e0
            refine QW.retG (rs := [.tmp 4]) ([.bool false]) ((some b45, blk [.bool (x20.list), .slice A28 x20.data.length (x20.data.length + 9), .slice A29 x20.items.length c30] 29) :: (some b13, blk [.bool (a0.list), .slice A1 a0.data.length c2, .slice A4 a0.items.length c5] 29) :: B76) rfl ?_ rfl ?_ ?_ _ (.inl rfl)
            · exact ⟨rfl, trivial⟩
            · exact rfl
            · exact (fun w m => m)
          · replace hf := if_f hf h107
            refine CW.is_f rfl (Bool.eq_false_iff.2 h107) ?_
            refine CW.skip ?_
            refine QW.then_n ?_
            refine CW.seq ?_
            refine CW.region ?_
            refine OW.rv (RV.loadW rfl (List.Mem.head _) rfl rfl rfl rfl rfl) rfl ?_
            obtain ⟨⟨x109, x110⟩, hx108, hf⟩ := some_bind hf
            try dsimp only at hf
            refine OW.callG Try.call38 rfl (rlp_GetSmall_does w0 (More w0 Φ B76) ((some b45, blk [.bool (x20.list), .slice A28 x20.data.length (x20.data.length + 9), .slice A29 x20.items.length c30] 29) :: (some b13, blk [.bool (a0.list), .slice A1 a0.data.length c2, .slice A4 a0.items.length c5] 29) :: (B76 ++ N)) (fun w m => More.of hΦ 2 m rfl) [.bool (x20.list), .slice A28 x20.data.length (x20.data.length + 9), .slice A29 x20.items.length c30] x20 x109 x110 (RtRd.it h38) hx108) rfl rfl ?_
            rintro _ G112 ⟨b111, rfl⟩
            refine OW.mem (M' := ((some b45, blk [.bool (x20.list), .slice A28 x20.data.length (x20.data.length + 9), .slice A29 x20.items.length c30] 29) :: (some b13, blk [.bool (a0.list), .slice A1 a0.data.length c2, .slice A4 a0.items.length c5] 29) :: (B76 ++ N))) (fun w m => m.appR) ?_
            refine OW.rv (RV.move rfl) rfl ?_
            refine OW.rv (RV.extract rfl rfl) rfl ?_
            refine OW.slot (U64 x109) (rfl) ?_
            refine OW.rv (RV.extract rfl rfl) rfl ?_
            refine OW.slot (.int .i64 ((x110 : Nat) : Int)) (rfl) ?_
            refine OW.rv (RV.assign rfl) rfl ?_
            refine OW.rv (RV.assign rfl) rfl ?_
            refine OW.nil ?_
            refine QW.then_n ?_
            refine CW.seq ?_
            refine CW.region ?_
            refine OW.rv (RV.loadW rfl (List.Mem.tail _ (List.Mem.head _)) rfl rfl rfl rfl rfl) rfl ?_
            obtain ⟨⟨x115, x116⟩, hx114, hf⟩ := some_bind hf
            try dsimp only at hf
            refine OW.callG Try.call39 rfl (waybillref07_GetSmall_does w0 (More w0 Φ B76) ((some b45, blk [.bool (x20.list), .slice A28 x20.data.length (x20.data.length + 9), .slice A29 x20.items.length c30] 29) :: (some b13, blk [.bool (a0.list), .slice A1 a0.data.length c2, .slice A4 a0.items.length c5] 29) :: (B76 ++ N)) (fun w m => More.of hΦ 2 m rfl) [.bool (a0.list), .slice A1 a0.data.length c2, .slice A4 a0.items.length c5] a0 x115 x116 h10 hx114) rfl rfl ?_
            rintro _ G118 ⟨b117, rfl⟩
            refine OW.mem (M' := ((some b45, blk [.bool (x20.list), .slice A28 x20.data.length (x20.data.length + 9), .slice A29 x20.items.length c30] 29) :: (some b13, blk [.bool (a0.list), .slice A1 a0.data.length c2, .slice A4 a0.items.length c5] 29) :: (B76 ++ N))) (fun w m => m.appR) ?_
            refine OW.rv (RV.move rfl) rfl ?_
            refine OW.rv (RV.extract rfl rfl) rfl ?_
            refine OW.slot (U64 x115) (rfl) ?_
            refine OW.rv (RV.extract rfl rfl) rfl ?_
            refine OW.slot (.int .i64 ((x116 : Nat) : Int)) (rfl) ?_
            refine OW.rv (RV.assign rfl) rfl ?_
            refine OW.rv (RV.assign rfl) rfl ?_
            refine OW.nil ?_
            refine QW.then_n ?_
            refine CW.seq ?_
            refine CW.seq ?_
            obtain ⟨q120, hq121, hf⟩ := some_bind hf
            refine CW.cutJ (fun L' M' => ∃ p122 : Bool, q120 = p122 ∧ L' = [(1, .int .i64 a1), (2, ptr (some b13) 0), (5, ptr (some b45) 0), (77, .bool (p122))] ∧ M' = ((some b45, blk [.bool (x20.list), .slice A28 x20.data.length (x20.data.length + 9), .slice A29 x20.items.length c30] 29) :: (some b13, blk [.bool (a0.list), .slice A1 a0.data.length c2, .slice A4 a0.items.length c5] 29) :: (B76 ++ N))) ?_ ?_
            · rintro L124 M125 ⟨p122, e123, e126, e127⟩
              rw [e126, e127]
              clear e126 e127 L124 M125
              clear hq121
              rw [e123] at hf
              clear e123
              try dsimp only at hf
              refine QW.then_n ?_
              by_cases h128 : p122 = true
              · replace hf := if_t hf h128
                refine CW.is_t rfl (h128) ?_
                refine CW.seq ?_
                refine CW.region ?_
                refine OW.rv (RV.assign rfl) rfl ?_
                refine OW.nil ?_
                refine QW.then_n ?_
                refine CW.ret ?_
                refine QW.then_r ?_
                have e0 := Option.some.inj hf
                subst e0
                refine QW.retG (rs := [.tmp 4]) ([.bool false]) ((some b45, blk [.bool (x20.list), .slice A28 x20.data.length (x20.data.length + 9), .slice A29 x20.items.length c30] 29) :: (some b13, blk [.bool (a0.list), .slice A1 a0.data.length c2, .slice A4 a0.items.length c5] 29) :: B76) rfl ?_ rfl ?_ ?_ _ (.inl rfl)
                · exact ⟨rfl, trivial⟩
                · exact rfl
                · exact (fun w m => m)
              · replace hf := if_f hf h128
                refine CW.is_f rfl (Bool.eq_false_iff.2 h128) ?_
                refine CW.skip ?_
                refine QW.then_n ?_
                refine CW.seq ?_
                refine CW.region ?_
                refine OW.rv (RV.loadW rfl (List.Mem.head _) rfl rfl rfl rfl rfl) rfl ?_
                refine OW.rv (RV.move rfl) rfl ?_
                obtain ⟨⟨x130, x131⟩, hx129, hf⟩ := some_bind hf
                try dsimp only at hf
                refine OW.callG Try.call40 rfl (rlp_GetFixed_does w0 (More w0 Φ B76) ((some b45, blk [.bool (x20.list), .slice A28 x20.data.length (x20.data.length + 9), .slice A29 x20.items.length c30] 29) :: (some b13, blk [.bool (a0.list), .slice A1 a0.data.length c2, .slice A4 a0.items.length c5] 29) :: (B76 ++ N)) (fun w m => More.of hΦ 2 m rfl) [.bool (x20.list), .slice A28 x20.data.length (x20.data.length + 9), .slice A29 x20.items.length c30] x20 a1 x130 x131 (RtRd.it h38) (by omega) hx129) rfl rfl ?_
                rintro L138 M139 ⟨B132, ob133, c134, r135, o136, b137, e140, e141⟩
                rw [e140, e141]
                clear e140 e141 L138 M139
                refine OW.mem (M' := ((ob133, blk ((u8s x130) ++ r135) 5) :: (some b45, blk [.bool (x20.list), .slice A28 x20.data.length (x20.data.length + 9), .slice A29 x20.items.length c30] 29) :: (some b13, blk [.bool (a0.list), .slice A1 a0.data.length c2, .slice A4 a0.items.length c5] 29) :: ((B132 ++ B76) ++ N))) (fun w m => by have h := Mem.sinkAt (A := B132) m 1 2 rfl rfl; exact h) ?_
                replace h38 := RtRd.mono (Ψ := More w0 Φ (B132 ++ B76)) (fun w q => More.mono (fun w m => (m).appR) q) _ _ h38
                replace v39 := v39.mono (Ψ := More w0 Φ (B132 ++ B76)) (fun w q => More.mono (fun w m => (m).appR) q)
                replace v32 := v32.mono (Ψ := More w0 Φ (B132 ++ B76)) (fun w q => More.mono (fun w m => (m).appR) q)
                replace v33 := v33.mono (Ψ := More w0 Φ (B132 ++ B76)) (fun w q => More.mono (fun w m => (m).appR) q)
                replace h34 := h34.mono (ItRd.mono (Ψ := More w0 Φ (B132 ++ B76)) (fun w q => More.mono (fun w m => (m).appR) q))
                replace v35 := v35.mono (Ψ := More w0 Φ (B132 ++ B76)) (fun w q => More.mono (fun w m => (m).appR) q)
                replace h36 := h36.mono (ItRd.mono (Ψ := More w0 Φ (B132 ++ B76)) (fun w q => More.mono (fun w m => (m).appR) q))
                replace h10 := ItRd.mono (Ψ := More w0 Φ (B132 ++ B76)) (fun w q => More.mono (fun w m => (m).appR) q) _ _ h10
                replace v3 := v3.mono (Ψ := More w0 Φ (B132 ++ B76)) (fun w q => More.mono (fun w m => (m).appR) q)
                replace v6 := v6.mono (Ψ := More w0 Φ (B132 ++ B76)) (fun w q => More.mono (fun w m => (m).appR) q)
                replace h8 := h8.mono (ItRd.mono (Ψ := More w0 Φ (B132 ++ B76)) (fun w q => More.mono (fun w m => (m).appR) q))
                have m142 := o136.mx
                refine OW.rv (RV.move rfl) rfl ?_
                refine OW.rv (RV.extract rfl rfl) rfl ?_
                refine OW.slot (sl ob133 0 x130.length c134) (rfl) ?_
                refine OW.rv (RV.extract rfl rfl) rfl ?_
                refine OW.slot (.int .i64 ((x131 : Nat) : Int)) (rfl) ?_
                refine OW.rv (RV.assign rfl) rfl ?_
                refine OW.rv (RV.assign rfl) rfl ?_
                refine OW.nil ?_
                refine QW.then_n ?_
                refine CW.seq ?_
                refine CW.region ?_
                refine OW.rv (RV.loadW rfl (List.Mem.tail _ (List.Mem.tail _ (List.Mem.head _))) rfl rfl rfl rfl rfl) rfl ?_
                refine OW.rv (RV.move rfl) rfl ?_
                obtain ⟨⟨x144, x145⟩, hx143, hf⟩ := some_bind hf
                try dsimp only at hf
                refine OW.callG Try.call41 rfl (waybillref07_GetFixed_does w0 (More w0 Φ (B132 ++ B76)) ((ob133, blk ((u8s x130) ++ r135) 5) :: (some b45, blk [.bool (x20.list), .slice A28 x20.data.length (x20.data.length + 9), .slice A29 x20.items.length c30] 29) :: (some b13, blk [.bool (a0.list), .slice A1 a0.data.length c2, .slice A4 a0.items.length c5] 29) :: ((B132 ++ B76) ++ N)) (fun w m => More.of hΦ 3 m rfl) [.bool (a0.list), .slice A1 a0.data.length c2, .slice A4 a0.items.length c5] a0 a1 x144 x145 h10 (by omega) hx143) rfl rfl ?_
                rintro L152 M153 ⟨B146, ob147, c148, r149, o150, b151, e154, e155⟩
                rw [e154, e155]
                clear e154 e155 L152 M153
                refine OW.mem (M' := ((ob147, blk ((u8s x144) ++ r149) 5) :: (ob133, blk ((u8s x130) ++ r135) 5) :: (some b45, blk [.bool (x20.list), .slice A28 x20.data.length (x20.data.length + 9), .slice A29 x20.items.length c30] 29) :: (some b13, blk [.bool (a0.list), .slice A1 a0.data.length c2, .slice A4 a0.items.length c5] 29) :: ((B146 ++ (B132 ++ B76)) ++ N))) (fun w m => by have h := Mem.sinkAt (A := B146) m 1 3 rfl rfl; exact h) ?_
                replace h38 := RtRd.mono (Ψ := More w0 Φ (B146 ++ (B132 ++ B76))) (fun w q => More.mono (fun w m => (m).appR) q) _ _ h38
                replace v39 := v39.mono (Ψ := More w0 Φ (B146 ++ (B132 ++ B76))) (fun w q => More.mono (fun w m => (m).appR) q)
                replace v32 := v32.mono (Ψ := More w0 Φ (B146 ++ (B132 ++ B76))) (fun w q => More.mono (fun w m => (m).appR) q)
                replace v33 := v33.mono (Ψ := More w0 Φ (B146 ++ (B132 ++ B76))) (fun w q => More.mono (fun w m => (m).appR) q)
                replace h34 := h34.mono (ItRd.mono (Ψ := More w0 Φ (B146 ++ (B132 ++ B76))) (fun w q => More.mono (fun w m => (m).appR) q))
                replace v35 := v35.mono (Ψ := More w0 Φ (B146 ++ (B132 ++ B76))) (fun w q => More.mono (fun w m => (m).appR) q)
                replace h36 := h36.mono (ItRd.mono (Ψ := More w0 Φ (B146 ++ (B132 ++ B76))) (fun w q => More.mono (fun w m => (m).appR) q))
                replace h10 := ItRd.mono (Ψ := More w0 Φ (B146 ++ (B132 ++ B76))) (fun w q => More.mono (fun w m => (m).appR) q) _ _ h10
                replace v3 := v3.mono (Ψ := More w0 Φ (B146 ++ (B132 ++ B76))) (fun w q => More.mono (fun w m => (m).appR) q)
                replace v6 := v6.mono (Ψ := More w0 Φ (B146 ++ (B132 ++ B76))) (fun w q => More.mono (fun w m => (m).appR) q)
                replace h8 := h8.mono (ItRd.mono (Ψ := More w0 Φ (B146 ++ (B132 ++ B76))) (fun w q => More.mono (fun w m => (m).appR) q))
                have m156 := o150.mx
                refine OW.rv (RV.move rfl) rfl ?_
                refine OW.rv (RV.extract rfl rfl) rfl ?_
                refine OW.slot (sl ob147 0 x144.length c148) (rfl) ?_
                refine OW.rv (RV.extract rfl rfl) rfl ?_
                refine OW.slot (.int .i64 ((x145 : Nat) : Int)) (rfl) ?_
                refine OW.rv (RV.assign rfl) rfl ?_
                refine OW.rv (RV.assign rfl) rfl ?_
                refine OW.nil ?_
                refine QW.then_n ?_
                refine CW.seq ?_
                refine CW.seq ?_
                obtain ⟨q157, hq158, hf⟩ := some_bind hf
                refine CW.cutJ (fun L' M' => ∃ p161 : Bool, ∃ B159 : List Ent, q157 = p161 ∧ (∀ w, Mem w0 w B159 → Mem w0 w (B146 ++ (B132 ++ B76))) ∧ L' = [(2, ptr (some b13) 0), (5, ptr (some b45) 0), (99, .bool (p161))] ∧ M' = ((some b45, blk [.bool (x20.list), .slice A28 x20.data.length (x20.data.length + 9), .slice A29 x20.items.length c30] 29) :: (some b13, blk [.bool (a0.list), .slice A1 a0.data.length c2, .slice A4 a0.items.length c5] 29) :: (B159 ++ N))) ?_ ?_
                · rintro L163 M164 ⟨p161, B159, e162, hB160, e165, e166⟩
                  rw [e165, e166]
                  clear e165 e166 L163 M164
                  clear hq158
                  rw [e162] at hf
                  clear e162
                  try dsimp only at hf
                  replace h38 := RtRd.mono (Ψ := More w0 Φ B159) (fun w q => More.mono (fun w m => hB160 w (m)) q) _ _ h38
                  replace v39 := v39.mono (Ψ := More w0 Φ B159) (fun w q => More.mono (fun w m => hB160 w (m)) q)
                  replace v32 := v32.mono (Ψ := More w0 Φ B159) (fun w q => More.mono (fun w m => hB160 w (m)) q)
                  replace v33 := v33.mono (Ψ := More w0 Φ B159) (fun w q => More.mono (fun w m => hB160 w (m)) q)
                  replace h34 := h34.mono (ItRd.mono (Ψ := More w0 Φ B159) (fun w q => More.mono (fun w m => hB160 w (m)) q))
                  replace v35 := v35.mono (Ψ := More w0 Φ B159) (fun w q => More.mono (fun w m => hB160 w (m)) q)
                  replace h36 := h36.mono (ItRd.mono (Ψ := More w0 Φ B159) (fun w q => More.mono (fun w m => hB160 w (m)) q))
                  replace h10 := ItRd.mono (Ψ := More w0 Φ B159) (fun w q => More.mono (fun w m => hB160 w (m)) q) _ _ h10
                  replace v3 := v3.mono (Ψ := More w0 Φ B159) (fun w q => More.mono (fun w m => hB160 w (m)) q)
                  replace v6 := v6.mono (Ψ := More w0 Φ B159) (fun w q => More.mono (fun w m => hB160 w (m)) q)
                  replace h8 := h8.mono (ItRd.mono (Ψ := More w0 Φ B159) (fun w q => More.mono (fun w m => hB160 w (m)) q))
                  refine QW.then_n ?_
                  by_cases h167 : p161 = true
                  · replace hf := if_t hf h167
                    refine CW.is_t rfl (h167) ?_
                    refine CW.seq ?_
                    refine CW.region ?_
                    refine OW.rv (RV.assign rfl) rfl ?_
                    refine OW.nil ?_
                    refine QW.then_n ?_
                    refine CW.ret ?_
                    refine QW.then_r ?_
                    have e0 := Option.some.inj hf
                    subst e0
                    refine QW.retG (rs := [.tmp 4]) ([.bool false]) ((some b45, blk [.bool (x20.list), .slice A28 x20.data.length (x20.data.length + 9), .slice A29 x20.items.length c30] 29) :: (some b13, blk [.bool (a0.list), .slice A1 a0.data.length c2, .slice A4 a0.items.length c5] 29) :: B159) rfl ?_ rfl ?_ ?_ _ (.inl rfl)
                    · exact ⟨rfl, trivial⟩
                    · exact rfl
                    · exact (fun w m => m)
                  · replace hf := if_f hf h167
                    refine CW.is_f rfl (Bool.eq_false_iff.2 h167) ?_
                    refine CW.skip ?_
                    refine QW.then_n ?_
                    refine CW.seq ?_
                    refine CW.region ?_
                    refine OW.rv (RV.loadW rfl (List.Mem.head _) rfl rfl rfl rfl rfl) rfl ?_
                    obtain ⟨⟨x169, x170⟩, hx168, hf⟩ := some_bind hf
                    try dsimp only at hf
                    refine OW.callG Try.call42 rfl (rlp_GetList_does w0 (More w0 Φ B159) ((some b45, blk [.bool (x20.list), .slice A28 x20.data.length (x20.data.length + 9), .slice A29 x20.items.length c30] 29) :: (some b13, blk [.bool (a0.list), .slice A1 a0.data.length c2, .slice A4 a0.items.length c5] 29) :: (B159 ++ N)) (fun w m => More.of hΦ 2 m rfl) [.bool (x20.list), .slice A28 x20.data.length (x20.data.length + 9), .slice A29 x20.items.length c30] x20 x169 x170 (RtRd.it h38) hx168) rfl rfl ?_
                    rintro L179 M180 ⟨B171, cs172, ob174, c175, r176, h173, o177, b178, e181, e182⟩
                    rw [e181, e182]
                    clear e181 e182 L179 M180
                    refine OW.mem (M' := ((ob174, blk (cs172 ++ r176) 29) :: (some b45, blk [.bool (x20.list), .slice A28 x20.data.length (x20.data.length + 9), .slice A29 x20.items.length c30] 29) :: (some b13, blk [.bool (a0.list), .slice A1 a0.data.length c2, .slice A4 a0.items.length c5] 29) :: ((B171 ++ B159) ++ N))) (fun w m => by have h := Mem.sinkAt (A := B171) m 1 2 rfl rfl; exact h) ?_
                    replace h38 := RtRd.mono (Ψ := More w0 Φ (B171 ++ B159)) (fun w q => More.mono (fun w m => (m).appR) q) _ _ h38
                    replace v39 := v39.mono (Ψ := More w0 Φ (B171 ++ B159)) (fun w q => More.mono (fun w m => (m).appR) q)
                    replace v32 := v32.mono (Ψ := More w0 Φ (B171 ++ B159)) (fun w q => More.mono (fun w m => (m).appR) q)
                    replace v33 := v33.mono (Ψ := More w0 Φ (B171 ++ B159)) (fun w q => More.mono (fun w m => (m).appR) q)
                    replace h34 := h34.mono (ItRd.mono (Ψ := More w0 Φ (B171 ++ B159)) (fun w q => More.mono (fun w m => (m).appR) q))
                    replace v35 := v35.mono (Ψ := More w0 Φ (B171 ++ B159)) (fun w q => More.mono (fun w m => (m).appR) q)
                    replace h36 := h36.mono (ItRd.mono (Ψ := More w0 Φ (B171 ++ B159)) (fun w q => More.mono (fun w m => (m).appR) q))
                    replace h10 := ItRd.mono (Ψ := More w0 Φ (B171 ++ B159)) (fun w q => More.mono (fun w m => (m).appR) q) _ _ h10
                    replace v3 := v3.mono (Ψ := More w0 Φ (B171 ++ B159)) (fun w q => More.mono (fun w m => (m).appR) q)
                    replace v6 := v6.mono (Ψ := More w0 Φ (B171 ++ B159)) (fun w q => More.mono (fun w m => (m).appR) q)
                    replace h8 := h8.mono (ItRd.mono (Ψ := More w0 Φ (B171 ++ B159)) (fun w q => More.mono (fun w m => (m).appR) q))
                    replace h173 := h173.mono (ItRd.mono (Ψ := (More w0 Φ (B171 ++ B159))) (fun w q => More.flat q))
                    have m183 := o177.mx
                    refine OW.rv (RV.move rfl) rfl ?_
                    refine OW.rv (RV.extract rfl rfl) rfl ?_
                    refine OW.slot (sl ob174 0 x169.length c175) (rfl) ?_
                    refine OW.rv (RV.extract rfl rfl) rfl ?_
                    refine OW.slot (.int .i64 ((x170 : Nat) : Int)) (rfl) ?_
                    refine OW.rv (RV.assign rfl) rfl ?_
                    refine OW.rv (RV.assign rfl) rfl ?_
                    refine OW.nil ?_
                    refine QW.then_n ?_
                    refine CW.seq ?_
                    refine CW.region ?_
                    refine OW.rv (RV.loadW rfl (List.Mem.tail _ (List.Mem.tail _ (List.Mem.head _))) rfl rfl rfl rfl rfl) rfl ?_
                    obtain ⟨⟨x185, x186⟩, hx184, hf⟩ := some_bind hf
                    try dsimp only at hf
                    refine OW.callG Try.call43 rfl (waybillref07_GetList_does w0 (More w0 Φ (B171 ++ B159)) ((ob174, blk (cs172 ++ r176) 29) :: (some b45, blk [.bool (x20.list), .slice A28 x20.data.length (x20.data.length + 9), .slice A29 x20.items.length c30] 29) :: (some b13, blk [.bool (a0.list), .slice A1 a0.data.length c2, .slice A4 a0.items.length c5] 29) :: ((B171 ++ B159) ++ N)) (fun w m => More.of hΦ 3 m rfl) [.bool (a0.list), .slice A1 a0.data.length c2, .slice A4 a0.items.length c5] a0 x185 x186 h10 hx184) rfl rfl ?_
                    rintro L195 M196 ⟨B187, cs188, ob190, c191, r192, h189, o193, b194, e197, e198⟩
                    rw [e197, e198]
                    clear e197 e198 L195 M196
                    refine OW.mem (M' := ((ob190, blk (cs188 ++ r192) 29) :: (ob174, blk (cs172 ++ r176) 29) :: (some b45, blk [.bool (x20.list), .slice A28 x20.data.length (x20.data.length + 9), .slice A29 x20.items.length c30] 29) :: (some b13, blk [.bool (a0.list), .slice A1 a0.data.length c2, .slice A4 a0.items.length c5] 29) :: ((B187 ++ (B171 ++ B159)) ++ N))) (fun w m => by have h := Mem.sinkAt (A := B187) m 1 3 rfl rfl; exact h) ?_
                    replace h38 := RtRd.mono (Ψ := More w0 Φ (B187 ++ (B171 ++ B159))) (fun w q => More.mono (fun w m => (m).appR) q) _ _ h38
                    replace v39 := v39.mono (Ψ := More w0 Φ (B187 ++ (B171 ++ B159))) (fun w q => More.mono (fun w m => (m).appR) q)
                    replace v32 := v32.mono (Ψ := More w0 Φ (B187 ++ (B171 ++ B159))) (fun w q => More.mono (fun w m => (m).appR) q)
                    replace v33 := v33.mono (Ψ := More w0 Φ (B187 ++ (B171 ++ B159))) (fun w q => More.mono (fun w m => (m).appR) q)
                    replace h34 := h34.mono (ItRd.mono (Ψ := More w0 Φ (B187 ++ (B171 ++ B159))) (fun w q => More.mono (fun w m => (m).appR) q))
                    replace v35 := v35.mono (Ψ := More w0 Φ (B187 ++ (B171 ++ B159))) (fun w q => More.mono (fun w m => (m).appR) q)
                    replace h36 := h36.mono (ItRd.mono (Ψ := More w0 Φ (B187 ++ (B171 ++ B159))) (fun w q => More.mono (fun w m => (m).appR) q))
                    replace h173 := h173.mono (ItRd.mono (Ψ := More w0 Φ (B187 ++ (B171 ++ B159))) (fun w q => More.mono (fun w m => (m).appR) q))
                    replace h10 := ItRd.mono (Ψ := More w0 Φ (B187 ++ (B171 ++ B159))) (fun w q => More.mono (fun w m => (m).appR) q) _ _ h10
                    replace v3 := v3.mono (Ψ := More w0 Φ (B187 ++ (B171 ++ B159))) (fun w q => More.mono (fun w m => (m).appR) q)
                    replace v6 := v6.mono (Ψ := More w0 Φ (B187 ++ (B171 ++ B159))) (fun w q => More.mono (fun w m => (m).appR) q)
                    replace h8 := h8.mono (ItRd.mono (Ψ := More w0 Φ (B187 ++ (B171 ++ B159))) (fun w q => More.mono (fun w m => (m).appR) q))
                    replace h189 := h189.mono (ItRd.mono (Ψ := (More w0 Φ (B187 ++ (B171 ++ B159)))) (fun w q => More.flat q))
                    have m199 := o193.mx
                    refine OW.rv (RV.move rfl) rfl ?_
                    refine OW.rv (RV.extract rfl rfl) rfl ?_
                    refine OW.slot (sl ob190 0 x185.length c191) (rfl) ?_
                    refine OW.rv (RV.extract rfl rfl) rfl ?_
                    refine OW.slot (.int .i64 ((x186 : Nat) : Int)) (rfl) ?_
                    refine OW.rv (RV.assign rfl) rfl ?_
                    refine OW.rv (RV.assign rfl) rfl ?_
                    refine OW.nil ?_
                    refine QW.then_n ?_
                    refine CW.seq ?_
                    obtain ⟨q200, hq201, hf⟩ := some_bind hf
                    refine CW.cutJ (fun L' M' => ∃ p204 : Bool, ∃ B202 : List Ent, q200 = p204 ∧ (∀ w, Mem w0 w B202 → Mem w0 w (B187 ++ (B171 ++ B159))) ∧ L' = [(4, .bool (p204))] ∧ M' = ((B202 ++ N))) ?_ ?_
                    · rintro L206 M207 ⟨p204, B202, e205, hB203, e208, e209⟩
                      rw [e208, e209]
                      clear e208 e209 L206 M207
                      clear hq201
                      rw [e205] at hf
                      clear e205
                      try dsimp only at hf
                      refine QW.then_n ?_
                      refine CW.ret ?_
                      have e0 := Option.some.inj hf
                      subst e0
                      refine QW.retG (rs := [.tmp 4]) ([.bool (p204)]) (B202) rfl ?_ rfl ?_ ?_ _ (.inl rfl)
                      · exact ⟨rfl, trivial⟩
                      · exact rfl
                      · exact (fun w m => m)
                    · skip
                      refine CW.region ?_
                      refine OW.rv (RV.move rfl) rfl ?_
                      obtain ⟨x211, hx210, hq201⟩ := some_bind hq201
                      refine OW.callG Try.call31 rfl (waybilllaw07_num_does w0 (More w0 Φ (B187 ++ (B171 ++ B159))) ((ob190, blk (cs188 ++ r192) 29) :: (ob174, blk (cs172 ++ r176) 29) :: (some b45, blk [.bool (x20.list), .slice A28 x20.data.length (x20.data.length + 9), .slice A29 x20.items.length c30] 29) :: (some b13, blk [.bool (a0.list), .slice A1 a0.data.length c2, .slice A4 a0.items.length c5] 29) :: ((B187 ++ (B171 ++ B159)) ++ N)) (fun w m => More.of hΦ 4 m rfl) ((x170 : Nat) : Int) x211 (by omega) hx210) rfl rfl ?_
                      rintro _ G213 ⟨b212, rfl⟩
                      refine OW.mem (M' := ((ob190, blk (cs188 ++ r192) 29) :: (ob174, blk (cs172 ++ r176) 29) :: (some b45, blk [.bool (x20.list), .slice A28 x20.data.length (x20.data.length + 9), .slice A29 x20.items.length c30] 29) :: (some b13, blk [.bool (a0.list), .slice A1 a0.data.length c2, .slice A4 a0.items.length c5] 29) :: ((B187 ++ (B171 ++ B159)) ++ N))) (fun w m => m.appR) ?_
                      refine OW.rv (RV.move rfl) rfl ?_
                      refine OW.rv (RV.eql rfl rfl) rfl ?_
                      refine OW.rv (RV.move rfl) rfl ?_
                      by_cases h215 : x211 = ((x186 : Nat) : Int)
                      · replace hq201 := if_t hq201 h215
                        refine OW.slot (.bool true) (congrArg Value.bool (decide_eq_true h215)) ?_
                        refine OW.want rfl ?_
                        refine OW.rv (RV.move rfl) rfl ?_
                        refine OW.want rfl ?_
                        refine OW.rv (RV.move rfl) rfl ?_
                        refine OW.want rfl ?_
                        refine OW.mem (M' := (ob190, blk (cs188 ++ r192) 29) :: (some b45, blk [.bool (x20.list), .slice A28 x20.data.length (x20.data.length + 9), .slice A29 x20.items.length c30] 29) :: (some b13, blk [.bool (a0.list), .slice A1 a0.data.length c2, .slice A4 a0.items.length c5] 29) :: (((ob174, blk (cs172 ++ r176) 29) :: (B187 ++ (B171 ++ B159))) ++ N)) (fun w m => m.pick [0, 2, 3, 1] 4 rfl rfl) ?_
                        replace h38 := RtRd.mono (Ψ := More w0 Φ ((ob174, blk (cs172 ++ r176) 29) :: (B187 ++ (B171 ++ B159)))) (fun w q => More.mono (fun w m => (m).tail) q) _ _ h38
                        replace v39 := v39.mono (Ψ := More w0 Φ ((ob174, blk (cs172 ++ r176) 29) :: (B187 ++ (B171 ++ B159)))) (fun w q => More.mono (fun w m => (m).tail) q)
                        replace v32 := v32.mono (Ψ := More w0 Φ ((ob174, blk (cs172 ++ r176) 29) :: (B187 ++ (B171 ++ B159)))) (fun w q => More.mono (fun w m => (m).tail) q)
                        replace v33 := v33.mono (Ψ := More w0 Φ ((ob174, blk (cs172 ++ r176) 29) :: (B187 ++ (B171 ++ B159)))) (fun w q => More.mono (fun w m => (m).tail) q)
                        replace h34 := h34.mono (ItRd.mono (Ψ := More w0 Φ ((ob174, blk (cs172 ++ r176) 29) :: (B187 ++ (B171 ++ B159)))) (fun w q => More.mono (fun w m => (m).tail) q))
                        replace v35 := v35.mono (Ψ := More w0 Φ ((ob174, blk (cs172 ++ r176) 29) :: (B187 ++ (B171 ++ B159)))) (fun w q => More.mono (fun w m => (m).tail) q)
                        replace h36 := h36.mono (ItRd.mono (Ψ := More w0 Φ ((ob174, blk (cs172 ++ r176) 29) :: (B187 ++ (B171 ++ B159)))) (fun w q => More.mono (fun w m => (m).tail) q))
                        replace h173 := h173.mono (ItRd.mono (Ψ := More w0 Φ ((ob174, blk (cs172 ++ r176) 29) :: (B187 ++ (B171 ++ B159)))) (fun w q => More.mono (fun w m => (m).tail) q))
                        replace h10 := ItRd.mono (Ψ := More w0 Φ ((ob174, blk (cs172 ++ r176) 29) :: (B187 ++ (B171 ++ B159)))) (fun w q => More.mono (fun w m => (m).tail) q) _ _ h10
                        replace v3 := v3.mono (Ψ := More w0 Φ ((ob174, blk (cs172 ++ r176) 29) :: (B187 ++ (B171 ++ B159)))) (fun w q => More.mono (fun w m => (m).tail) q)
                        replace v6 := v6.mono (Ψ := More w0 Φ ((ob174, blk (cs172 ++ r176) 29) :: (B187 ++ (B171 ++ B159)))) (fun w q => More.mono (fun w m => (m).tail) q)
                        replace h8 := h8.mono (ItRd.mono (Ψ := More w0 Φ ((ob174, blk (cs172 ++ r176) 29) :: (B187 ++ (B171 ++ B159)))) (fun w q => More.mono (fun w m => (m).tail) q))
                        replace h189 := h189.mono (ItRd.mono (Ψ := More w0 Φ ((ob174, blk (cs172 ++ r176) 29) :: (B187 ++ (B171 ++ B159)))) (fun w q => More.mono (fun w m => (m).tail) q))
                        have v216 : View (More w0 Φ ((ob174, blk (cs172 ++ r176) 29) :: (B187 ++ (B171 ++ B159)))) ((ob174).map fun k => ⟨k, 0, none⟩) x169.length c175 3 cs172 := o177.view (by decide) (fun w q => q.2.sublist (List.singleton_sublist.2 (List.mem_cons_self ..)))
                        refine OW.mem (M' := (some b45, blk [.bool (x20.list), .slice A28 x20.data.length (x20.data.length + 9), .slice A29 x20.items.length c30] 29) :: (some b13, blk [.bool (a0.list), .slice A1 a0.data.length c2, .slice A4 a0.items.length c5] 29) :: (((ob190, blk (cs188 ++ r192) 29) :: ((ob174, blk (cs172 ++ r176) 29) :: (B187 ++ (B171 ++ B159)))) ++ N)) (fun w m => m.pick [1, 2, 0] 3 rfl rfl) ?_
                        replace h38 := RtRd.mono (Ψ := More w0 Φ ((ob190, blk (cs188 ++ r192) 29) :: ((ob174, blk (cs172 ++ r176) 29) :: (B187 ++ (B171 ++ B159))))) (fun w q => More.mono (fun w m => (m).tail) q) _ _ h38
                        replace v39 := v39.mono (Ψ := More w0 Φ ((ob190, blk (cs188 ++ r192) 29) :: ((ob174, blk (cs172 ++ r176) 29) :: (B187 ++ (B171 ++ B159))))) (fun w q => More.mono (fun w m => (m).tail) q)
                        replace v32 := v32.mono (Ψ := More w0 Φ ((ob190, blk (cs188 ++ r192) 29) :: ((ob174, blk (cs172 ++ r176) 29) :: (B187 ++ (B171 ++ B159))))) (fun w q => More.mono (fun w m => (m).tail) q)
                        replace v33 := v33.mono (Ψ := More w0 Φ ((ob190, blk (cs188 ++ r192) 29) :: ((ob174, blk (cs172 ++ r176) 29) :: (B187 ++ (B171 ++ B159))))) (fun w q => More.mono (fun w m => (m).tail) q)
                        replace h34 := h34.mono (ItRd.mono (Ψ := More w0 Φ ((ob190, blk (cs188 ++ r192) 29) :: ((ob174, blk (cs172 ++ r176) 29) :: (B187 ++ (B171 ++ B159))))) (fun w q => More.mono (fun w m => (m).tail) q))
                        replace v35 := v35.mono (Ψ := More w0 Φ ((ob190, blk (cs188 ++ r192) 29) :: ((ob174, blk (cs172 ++ r176) 29) :: (B187 ++ (B171 ++ B159))))) (fun w q => More.mono (fun w m => (m).tail) q)
                        replace h36 := h36.mono (ItRd.mono (Ψ := More w0 Φ ((ob190, blk (cs188 ++ r192) 29) :: ((ob174, blk (cs172 ++ r176) 29) :: (B187 ++ (B171 ++ B159))))) (fun w q => More.mono (fun w m => (m).tail) q))
                        replace v216 := v216.mono (Ψ := More w0 Φ ((ob190, blk (cs188 ++ r192) 29) :: ((ob174, blk (cs172 ++ r176) 29) :: (B187 ++ (B171 ++ B159))))) (fun w q => More.mono (fun w m => (m).tail) q)
                        replace h173 := h173.mono (ItRd.mono (Ψ := More w0 Φ ((ob190, blk (cs188 ++ r192) 29) :: ((ob174, blk (cs172 ++ r176) 29) :: (B187 ++ (B171 ++ B159))))) (fun w q => More.mono (fun w m => (m).tail) q))
                        replace h10 := ItRd.mono (Ψ := More w0 Φ ((ob190, blk (cs188 ++ r192) 29) :: ((ob174, blk (cs172 ++ r176) 29) :: (B187 ++ (B171 ++ B159))))) (fun w q => More.mono (fun w m => (m).tail) q) _ _ h10
                        replace v3 := v3.mono (Ψ := More w0 Φ ((ob190, blk (cs188 ++ r192) 29) :: ((ob174, blk (cs172 ++ r176) 29) :: (B187 ++ (B171 ++ B159))))) (fun w q => More.mono (fun w m => (m).tail) q)
                        replace v6 := v6.mono (Ψ := More w0 Φ ((ob190, blk (cs188 ++ r192) 29) :: ((ob174, blk (cs172 ++ r176) 29) :: (B187 ++ (B171 ++ B159))))) (fun w q => More.mono (fun w m => (m).tail) q)
                        replace h8 := h8.mono (ItRd.mono (Ψ := More w0 Φ ((ob190, blk (cs188 ++ r192) 29) :: ((ob174, blk (cs172 ++ r176) 29) :: (B187 ++ (B171 ++ B159))))) (fun w q => More.mono (fun w m => (m).tail) q))
                        replace h189 := h189.mono (ItRd.mono (Ψ := More w0 Φ ((ob190, blk (cs188 ++ r192) 29) :: ((ob174, blk (cs172 ++ r176) 29) :: (B187 ++ (B171 ++ B159))))) (fun w q => More.mono (fun w m => (m).tail) q))
                        have v217 : View (More w0 Φ ((ob190, blk (cs188 ++ r192) 29) :: ((ob174, blk (cs172 ++ r176) 29) :: (B187 ++ (B171 ++ B159))))) ((ob190).map fun k => ⟨k, 0, none⟩) x185.length c191 3 cs188 := o193.view (by decide) (fun w q => q.2.sublist (List.singleton_sublist.2 (List.mem_cons_self ..)))
                        obtain ⟨x219, hx218, hq201⟩ := some_bind hq201
                        refine OW.callG Try.call28 rfl (waybilllaw07_items_does w0 (More w0 Φ ((ob190, blk (cs188 ++ r192) 29) :: ((ob174, blk (cs172 ++ r176) 29) :: (B187 ++ (B171 ++ B159))))) ((some b45, blk [.bool (x20.list), .slice A28 x20.data.length (x20.data.length + 9), .slice A29 x20.items.length c30] 29) :: (some b13, blk [.bool (a0.list), .slice A1 a0.data.length c2, .slice A4 a0.items.length c5] 29) :: (((ob190, blk (cs188 ++ r192) 29) :: ((ob174, blk (cs172 ++ r176) 29) :: (B187 ++ (B171 ++ B159)))) ++ N)) (fun w m => More.of hΦ 2 m rfl) ((ob174).map fun k => ⟨k, 0, none⟩) c175 cs172 x169 ((ob190).map fun k => ⟨k, 0, none⟩) c191 cs188 x185 x219 v216 h173 v217 h189 hx218) rfl rfl ?_
                        rintro _ G220 rfl
                        refine OW.mem (M' := ((some b45, blk [.bool (x20.list), .slice A28 x20.data.length (x20.data.length + 9), .slice A29 x20.items.length c30] 29) :: (some b13, blk [.bool (a0.list), .slice A1 a0.data.length c2, .slice A4 a0.items.length c5] 29) :: (((ob190, blk (cs188 ++ r192) 29) :: ((ob174, blk (cs172 ++ r176) 29) :: (B187 ++ (B171 ++ B159)))) ++ N))) (fun w m => m.appR) ?_
                        refine OW.rv (RV.pick_t rfl rfl rfl) rfl ?_
                        refine OW.rv (RV.move rfl) rfl ?_
                        by_cases h222 : x219 = true
                        · replace hq201 := if_t hq201 h222
                          refine OW.slot (.bool true) (congrArg Value.bool (h222)) ?_
                          refine OW.want rfl ?_
                          refine OW.rv (RV.loadW rfl (List.Mem.head _) rfl rfl rfl rfl rfl) rfl ?_
                          refine OW.want rfl ?_
                          refine OW.rv (RV.loadW rfl (List.Mem.tail _ (List.Mem.head _)) rfl rfl rfl rfl rfl) rfl ?_
                          refine OW.want rfl ?_
                          obtain ⟨x224, hx223, hq201⟩ := some_bind hq201
                          refine OW.callG Try.call44 rfl (waybilllaw07_stays_does w0 (More w0 Φ ((ob190, blk (cs188 ++ r192) 29) :: ((ob174, blk (cs172 ++ r176) 29) :: (B187 ++ (B171 ++ B159))))) ((some b45, blk [.bool (x20.list), .slice A28 x20.data.length (x20.data.length + 9), .slice A29 x20.items.length c30] 29) :: (some b13, blk [.bool (a0.list), .slice A1 a0.data.length c2, .slice A4 a0.items.length c5] 29) :: (((ob190, blk (cs188 ++ r192) 29) :: ((ob174, blk (cs172 ++ r176) 29) :: (B187 ++ (B171 ++ B159)))) ++ N)) (fun w m => More.of hΦ 2 m rfl) [.bool (x20.list), .slice A28 x20.data.length (x20.data.length + 9), .slice A29 x20.items.length c30] x20 [.bool (a0.list), .slice A1 a0.data.length c2, .slice A4 a0.items.length c5] a0 x224 h38 h10 hx223) rfl rfl ?_
                          rintro _ G225 rfl
                          refine OW.mem (M' := ((some b45, blk [.bool (x20.list), .slice A28 x20.data.length (x20.data.length + 9), .slice A29 x20.items.length c30] 29) :: (some b13, blk [.bool (a0.list), .slice A1 a0.data.length c2, .slice A4 a0.items.length c5] 29) :: (((ob190, blk (cs188 ++ r192) 29) :: ((ob174, blk (cs172 ++ r176) 29) :: (B187 ++ (B171 ++ B159)))) ++ N))) (fun w m => m.appR) ?_
                          refine OW.rv (RV.pick_t rfl rfl rfl) rfl ?_
                          refine OW.rv (RV.assign rfl) rfl ?_
                          refine OW.nil ?_
                          exact QW.join ⟨(x224), ((ob190, blk (cs188 ++ r192) 29) :: ((ob174, blk (cs172 ++ r176) 29) :: (B187 ++ (B171 ++ B159)))), (Option.some.inj hq201).symm, (fun w m => ((m).tail).tail), rfl, rfl⟩ ⟨rfl, trivial⟩ (fun w m => m.pick [] 2 rfl rfl)
                        · replace hq201 := if_f hq201 h222
                          refine OW.slot (.bool false) (congrArg Value.bool (Bool.eq_false_iff.2 h222)) ?_
                          refine OW.skip rfl rfl rfl ?_
                          refine OW.skip rfl rfl rfl ?_
                          refine OW.skip rfl rfl rfl ?_
                          refine OW.rv (RV.pick_f rfl rfl rfl) rfl ?_
                          refine OW.rv (RV.assign rfl) rfl ?_
                          refine OW.nil ?_
                          exact QW.join ⟨false, ((ob190, blk (cs188 ++ r192) 29) :: ((ob174, blk (cs172 ++ r176) 29) :: (B187 ++ (B171 ++ B159)))), (Option.some.inj hq201).symm, (fun w m => ((m).tail).tail), rfl, rfl⟩ ⟨rfl, trivial⟩ (fun w m => m.pick [] 2 rfl rfl)
                      · replace hq201 := if_f hq201 h215
                        refine OW.slot (.bool false) (congrArg Value.bool (decide_eq_false h215)) ?_
                        refine OW.skip rfl rfl rfl ?_
                        refine OW.skip rfl rfl rfl ?_
                        refine OW.skip rfl rfl rfl ?_
                        refine OW.rv (RV.pick_f rfl rfl rfl) rfl ?_
                        refine OW.rv (RV.move rfl) rfl ?_
                        refine OW.skip rfl rfl rfl ?_
                        refine OW.skip rfl rfl rfl ?_
                        refine OW.skip rfl rfl rfl ?_
                        refine OW.rv (RV.pick_f rfl rfl rfl) rfl ?_
                        refine OW.rv (RV.assign rfl) rfl ?_
                        refine OW.nil ?_
                        exact QW.join ⟨false, (B187 ++ (B171 ++ B159)), (Option.some.inj hq201).symm, (fun w m => m), rfl, rfl⟩ ⟨rfl, trivial⟩ (fun w m => m.pick [] 4 rfl rfl)
                · skip
                  refine CW.region ?_
                  refine OW.rv (RV.move rfl) rfl ?_
                  obtain ⟨x228, hx227, hq158⟩ := some_bind hq158
                  refine OW.callG Try.call31 rfl (waybilllaw07_num_does w0 (More w0 Φ (B146 ++ (B132 ++ B76))) ((ob147, blk ((u8s x144) ++ r149) 5) :: (ob133, blk ((u8s x130) ++ r135) 5) :: (some b45, blk [.bool (x20.list), .slice A28 x20.data.length (x20.data.length + 9), .slice A29 x20.items.length c30] 29) :: (some b13, blk [.bool (a0.list), .slice A1 a0.data.length c2, .slice A4 a0.items.length c5] 29) :: ((B146 ++ (B132 ++ B76)) ++ N)) (fun w m => More.of hΦ 4 m rfl) ((x131 : Nat) : Int) x228 (by omega) hx227) rfl rfl ?_
                  rintro _ G230 ⟨b229, rfl⟩
                  refine OW.mem (M' := ((ob147, blk ((u8s x144) ++ r149) 5) :: (ob133, blk ((u8s x130) ++ r135) 5) :: (some b45, blk [.bool (x20.list), .slice A28 x20.data.length (x20.data.length + 9), .slice A29 x20.items.length c30] 29) :: (some b13, blk [.bool (a0.list), .slice A1 a0.data.length c2, .slice A4 a0.items.length c5] 29) :: ((B146 ++ (B132 ++ B76)) ++ N))) (fun w m => m.appR) ?_
                  refine OW.rv (RV.move rfl) rfl ?_
                  refine OW.rv (RV.neq rfl rfl) rfl ?_
                  refine OW.rv (RV.move rfl) rfl ?_
                  by_cases h232 : x228 = ((x145 : Nat) : Int)
                  · replace hq158 := if_t hq158 h232
                    refine OW.slot (.bool false) (congrArg Value.bool (congrArg (fun b => !b) (decide_eq_true h232))) ?_
                    refine OW.want rfl ?_
                    refine OW.rv (RV.move rfl) rfl ?_
                    refine OW.want rfl ?_
                    refine OW.rv (RV.move rfl) rfl ?_
                    refine OW.want rfl ?_
                    refine OW.mem (M' := (ob147, blk ((u8s x144) ++ r149) 5) :: (some b45, blk [.bool (x20.list), .slice A28 x20.data.length (x20.data.length + 9), .slice A29 x20.items.length c30] 29) :: (some b13, blk [.bool (a0.list), .slice A1 a0.data.length c2, .slice A4 a0.items.length c5] 29) :: (((ob133, blk ((u8s x130) ++ r135) 5) :: (B146 ++ (B132 ++ B76))) ++ N)) (fun w m => m.pick [0, 2, 3, 1] 4 rfl rfl) ?_
                    replace h38 := RtRd.mono (Ψ := More w0 Φ ((ob133, blk ((u8s x130) ++ r135) 5) :: (B146 ++ (B132 ++ B76)))) (fun w q => More.mono (fun w m => (m).tail) q) _ _ h38
                    replace v39 := v39.mono (Ψ := More w0 Φ ((ob133, blk ((u8s x130) ++ r135) 5) :: (B146 ++ (B132 ++ B76)))) (fun w q => More.mono (fun w m => (m).tail) q)
                    replace v32 := v32.mono (Ψ := More w0 Φ ((ob133, blk ((u8s x130) ++ r135) 5) :: (B146 ++ (B132 ++ B76)))) (fun w q => More.mono (fun w m => (m).tail) q)
                    replace v33 := v33.mono (Ψ := More w0 Φ ((ob133, blk ((u8s x130) ++ r135) 5) :: (B146 ++ (B132 ++ B76)))) (fun w q => More.mono (fun w m => (m).tail) q)
                    replace h34 := h34.mono (ItRd.mono (Ψ := More w0 Φ ((ob133, blk ((u8s x130) ++ r135) 5) :: (B146 ++ (B132 ++ B76)))) (fun w q => More.mono (fun w m => (m).tail) q))
                    replace v35 := v35.mono (Ψ := More w0 Φ ((ob133, blk ((u8s x130) ++ r135) 5) :: (B146 ++ (B132 ++ B76)))) (fun w q => More.mono (fun w m => (m).tail) q)
                    replace h36 := h36.mono (ItRd.mono (Ψ := More w0 Φ ((ob133, blk ((u8s x130) ++ r135) 5) :: (B146 ++ (B132 ++ B76)))) (fun w q => More.mono (fun w m => (m).tail) q))
                    replace h10 := ItRd.mono (Ψ := More w0 Φ ((ob133, blk ((u8s x130) ++ r135) 5) :: (B146 ++ (B132 ++ B76)))) (fun w q => More.mono (fun w m => (m).tail) q) _ _ h10
                    replace v3 := v3.mono (Ψ := More w0 Φ ((ob133, blk ((u8s x130) ++ r135) 5) :: (B146 ++ (B132 ++ B76)))) (fun w q => More.mono (fun w m => (m).tail) q)
                    replace v6 := v6.mono (Ψ := More w0 Φ ((ob133, blk ((u8s x130) ++ r135) 5) :: (B146 ++ (B132 ++ B76)))) (fun w q => More.mono (fun w m => (m).tail) q)
                    replace h8 := h8.mono (ItRd.mono (Ψ := More w0 Φ ((ob133, blk ((u8s x130) ++ r135) 5) :: (B146 ++ (B132 ++ B76)))) (fun w q => More.mono (fun w m => (m).tail) q))
                    have v233 : View (More w0 Φ ((ob133, blk ((u8s x130) ++ r135) 5) :: (B146 ++ (B132 ++ B76)))) ((ob133).map fun k => ⟨k, 0, none⟩) x130.length c134 1 (u8s x130) := o136.view (by decide) (fun w q => q.2.sublist (List.singleton_sublist.2 (List.mem_cons_self ..)))
                    refine OW.mem (M' := (some b45, blk [.bool (x20.list), .slice A28 x20.data.length (x20.data.length + 9), .slice A29 x20.items.length c30] 29) :: (some b13, blk [.bool (a0.list), .slice A1 a0.data.length c2, .slice A4 a0.items.length c5] 29) :: (((ob147, blk ((u8s x144) ++ r149) 5) :: ((ob133, blk ((u8s x130) ++ r135) 5) :: (B146 ++ (B132 ++ B76)))) ++ N)) (fun w m => m.pick [1, 2, 0] 3 rfl rfl) ?_
                    replace h38 := RtRd.mono (Ψ := More w0 Φ ((ob147, blk ((u8s x144) ++ r149) 5) :: ((ob133, blk ((u8s x130) ++ r135) 5) :: (B146 ++ (B132 ++ B76))))) (fun w q => More.mono (fun w m => (m).tail) q) _ _ h38
                    replace v39 := v39.mono (Ψ := More w0 Φ ((ob147, blk ((u8s x144) ++ r149) 5) :: ((ob133, blk ((u8s x130) ++ r135) 5) :: (B146 ++ (B132 ++ B76))))) (fun w q => More.mono (fun w m => (m).tail) q)
                    replace v32 := v32.mono (Ψ := More w0 Φ ((ob147, blk ((u8s x144) ++ r149) 5) :: ((ob133, blk ((u8s x130) ++ r135) 5) :: (B146 ++ (B132 ++ B76))))) (fun w q => More.mono (fun w m => (m).tail) q)
                    replace v33 := v33.mono (Ψ := More w0 Φ ((ob147, blk ((u8s x144) ++ r149) 5) :: ((ob133, blk ((u8s x130) ++ r135) 5) :: (B146 ++ (B132 ++ B76))))) (fun w q => More.mono (fun w m => (m).tail) q)
                    replace h34 := h34.mono (ItRd.mono (Ψ := More w0 Φ ((ob147, blk ((u8s x144) ++ r149) 5) :: ((ob133, blk ((u8s x130) ++ r135) 5) :: (B146 ++ (B132 ++ B76))))) (fun w q => More.mono (fun w m => (m).tail) q))
                    replace v35 := v35.mono (Ψ := More w0 Φ ((ob147, blk ((u8s x144) ++ r149) 5) :: ((ob133, blk ((u8s x130) ++ r135) 5) :: (B146 ++ (B132 ++ B76))))) (fun w q => More.mono (fun w m => (m).tail) q)
                    replace h36 := h36.mono (ItRd.mono (Ψ := More w0 Φ ((ob147, blk ((u8s x144) ++ r149) 5) :: ((ob133, blk ((u8s x130) ++ r135) 5) :: (B146 ++ (B132 ++ B76))))) (fun w q => More.mono (fun w m => (m).tail) q))
                    replace v233 := v233.mono (Ψ := More w0 Φ ((ob147, blk ((u8s x144) ++ r149) 5) :: ((ob133, blk ((u8s x130) ++ r135) 5) :: (B146 ++ (B132 ++ B76))))) (fun w q => More.mono (fun w m => (m).tail) q)
                    replace h10 := ItRd.mono (Ψ := More w0 Φ ((ob147, blk ((u8s x144) ++ r149) 5) :: ((ob133, blk ((u8s x130) ++ r135) 5) :: (B146 ++ (B132 ++ B76))))) (fun w q => More.mono (fun w m => (m).tail) q) _ _ h10
                    replace v3 := v3.mono (Ψ := More w0 Φ ((ob147, blk ((u8s x144) ++ r149) 5) :: ((ob133, blk ((u8s x130) ++ r135) 5) :: (B146 ++ (B132 ++ B76))))) (fun w q => More.mono (fun w m => (m).tail) q)
                    replace v6 := v6.mono (Ψ := More w0 Φ ((ob147, blk ((u8s x144) ++ r149) 5) :: ((ob133, blk ((u8s x130) ++ r135) 5) :: (B146 ++ (B132 ++ B76))))) (fun w q => More.mono (fun w m => (m).tail) q)
                    replace h8 := h8.mono (ItRd.mono (Ψ := More w0 Φ ((ob147, blk ((u8s x144) ++ r149) 5) :: ((ob133, blk ((u8s x130) ++ r135) 5) :: (B146 ++ (B132 ++ B76))))) (fun w q => More.mono (fun w m => (m).tail) q))
                    have v234 : View (More w0 Φ ((ob147, blk ((u8s x144) ++ r149) 5) :: ((ob133, blk ((u8s x130) ++ r135) 5) :: (B146 ++ (B132 ++ B76))))) ((ob147).map fun k => ⟨k, 0, none⟩) x144.length c148 1 (u8s x144) := o150.view (by decide) (fun w q => q.2.sublist (List.singleton_sublist.2 (List.mem_cons_self ..)))
                    obtain ⟨x236, hx235, hq158⟩ := some_bind hq158
                    refine OW.callG Try.call26 rfl (waybilllaw07_same_does w0 (More w0 Φ ((ob147, blk ((u8s x144) ++ r149) 5) :: ((ob133, blk ((u8s x130) ++ r135) 5) :: (B146 ++ (B132 ++ B76))))) ((some b45, blk [.bool (x20.list), .slice A28 x20.data.length (x20.data.length + 9), .slice A29 x20.items.length c30] 29) :: (some b13, blk [.bool (a0.list), .slice A1 a0.data.length c2, .slice A4 a0.items.length c5] 29) :: (((ob147, blk ((u8s x144) ++ r149) 5) :: ((ob133, blk ((u8s x130) ++ r135) 5) :: (B146 ++ (B132 ++ B76)))) ++ N)) (fun w m => More.of hΦ 2 m rfl) ((ob133).map fun k => ⟨k, 0, none⟩) c134 x130 ((ob147).map fun k => ⟨k, 0, none⟩) c148 x144 x236 v233 v234 hx235) rfl rfl ?_
                    rintro _ G237 rfl
                    refine OW.mem (M' := ((some b45, blk [.bool (x20.list), .slice A28 x20.data.length (x20.data.length + 9), .slice A29 x20.items.length c30] 29) :: (some b13, blk [.bool (a0.list), .slice A1 a0.data.length c2, .slice A4 a0.items.length c5] 29) :: (((ob147, blk ((u8s x144) ++ r149) 5) :: ((ob133, blk ((u8s x130) ++ r135) 5) :: (B146 ++ (B132 ++ B76)))) ++ N))) (fun w m => m.appR) ?_
                    refine OW.want rfl ?_
                    refine OW.rv (RV.not rfl) rfl ?_
                    refine OW.rv (RV.pick_f rfl rfl rfl) rfl ?_
                    refine OW.nil ?_
                    exact QW.join ⟨(!x236), ((ob147, blk ((u8s x144) ++ r149) 5) :: ((ob133, blk ((u8s x130) ++ r135) 5) :: (B146 ++ (B132 ++ B76)))), (Option.some.inj hq158).symm, (fun w m => ((m).tail).tail), rfl, rfl⟩ ⟨rfl, rfl, rfl, trivial⟩ (fun w m => m.pick [0, 1] 2 rfl rfl)
                  · replace hq158 := if_f hq158 h232
                    refine OW.slot (.bool true) (congrArg Value.bool (congrArg (fun b => !b) (decide_eq_false h232))) ?_
                    refine OW.skip rfl rfl rfl ?_
                    refine OW.skip rfl rfl rfl ?_
                    refine OW.skip rfl rfl rfl ?_
                    refine OW.skip rfl rfl rfl ?_
                    refine OW.rv (RV.pick_t rfl rfl rfl) rfl ?_
                    refine OW.nil ?_
                    exact QW.join ⟨true, (B146 ++ (B132 ++ B76)), (Option.some.inj hq158).symm, (fun w m => m), rfl, rfl⟩ ⟨rfl, rfl, rfl, trivial⟩ (fun w m => m.pick [2, 3] 4 rfl rfl)
            · skip
              refine CW.region ?_
              refine OW.rv (RV.move rfl) rfl ?_
              obtain ⟨x240, hx239, hq121⟩ := some_bind hq121
              refine OW.callG Try.call31 rfl (waybilllaw07_num_does w0 (More w0 Φ B76) ((some b45, blk [.bool (x20.list), .slice A28 x20.data.length (x20.data.length + 9), .slice A29 x20.items.length c30] 29) :: (some b13, blk [.bool (a0.list), .slice A1 a0.data.length c2, .slice A4 a0.items.length c5] 29) :: (B76 ++ N)) (fun w m => More.of hΦ 2 m rfl) ((x110 : Nat) : Int) x240 (by omega) hx239) rfl rfl ?_
              rintro _ G242 ⟨b241, rfl⟩
              refine OW.mem (M' := ((some b45, blk [.bool (x20.list), .slice A28 x20.data.length (x20.data.length + 9), .slice A29 x20.items.length c30] 29) :: (some b13, blk [.bool (a0.list), .slice A1 a0.data.length c2, .slice A4 a0.items.length c5] 29) :: (B76 ++ N))) (fun w m => m.appR) ?_
              refine OW.rv (RV.move rfl) rfl ?_
              refine OW.rv (RV.neq rfl rfl) rfl ?_
              refine OW.rv (RV.move rfl) rfl ?_
              by_cases h244 : x240 = ((x116 : Nat) : Int)
              · replace hq121 := if_t hq121 h244
                refine OW.slot (.bool false) (congrArg Value.bool (congrArg (fun b => !b) (decide_eq_true h244))) ?_
                refine OW.want rfl ?_
                refine OW.rv (RV.move rfl) rfl ?_
                refine OW.want rfl ?_
                refine OW.rv (RV.move rfl) rfl ?_
                refine OW.want rfl ?_
                refine OW.rv (RV.neq64 rfl (by first | rfl | exact lit64 _ rfl) rfl (by first | rfl | exact lit64 _ rfl)) rfl ?_
                refine OW.rv (RV.pick_f rfl rfl rfl) rfl ?_
                refine OW.nil ?_
                exact QW.join ⟨(!decide (x109 = x115)), (Option.some.inj hq121).symm, rfl, rfl⟩ ⟨rfl, rfl, rfl, rfl, trivial⟩ (fun w m => m.pick [0, 1] 2 rfl rfl)
              · replace hq121 := if_f hq121 h244
                refine OW.slot (.bool true) (congrArg Value.bool (congrArg (fun b => !b) (decide_eq_false h244))) ?_
                refine OW.skip rfl rfl rfl ?_
                refine OW.skip rfl rfl rfl ?_
                refine OW.skip rfl rfl rfl ?_
                refine OW.rv (RV.pick_t rfl rfl rfl) rfl ?_
                refine OW.nil ?_
                exact QW.join ⟨true, (Option.some.inj hq121).symm, rfl, rfl⟩ ⟨rfl, rfl, rfl, rfl, trivial⟩ (fun w m => m.pick [0, 1] 2 rfl rfl)
        · skip
          refine CW.region ?_
          refine OW.rv (RV.move rfl) rfl ?_
          obtain ⟨x246, hx245, hq100⟩ := some_bind hq100
          refine OW.callG Try.call31 rfl (waybilllaw07_num_does w0 (More w0 Φ B76) ((some b98, blk (u64s x93.toList) 25) :: (some b91, blk (u64s x86.toList) 25) :: (some b45, blk [.bool (x20.list), .slice A28 x20.data.length (x20.data.length + 9), .slice A29 x20.items.length c30] 29) :: (some b13, blk [.bool (a0.list), .slice A1 a0.data.length c2, .slice A4 a0.items.length c5] 29) :: (B76 ++ N)) (fun w m => More.of hΦ 4 m rfl) ((x87 : Nat) : Int) x246 (by omega) hx245) rfl rfl ?_
          rintro _ G248 ⟨b247, rfl⟩
          refine OW.mem (M' := ((some b98, blk (u64s x93.toList) 25) :: (some b91, blk (u64s x86.toList) 25) :: (some b45, blk [.bool (x20.list), .slice A28 x20.data.length (x20.data.length + 9), .slice A29 x20.items.length c30] 29) :: (some b13, blk [.bool (a0.list), .slice A1 a0.data.length c2, .slice A4 a0.items.length c5] 29) :: (B76 ++ N))) (fun w m => m.appR) ?_
          refine OW.rv (RV.move rfl) rfl ?_
          refine OW.rv (RV.neq rfl rfl) rfl ?_
          refine OW.rv (RV.move rfl) rfl ?_
          by_cases h250 : x246 = ((x94 : Nat) : Int)
          · replace hq100 := if_t hq100 h250
            refine OW.slot (.bool false) (congrArg Value.bool (congrArg (fun b => !b) (decide_eq_true h250))) ?_
            refine OW.want rfl ?_
            refine OW.rv (RV.loadW rfl (List.Mem.tail _ (List.Mem.head _)) rfl rfl rfl rfl ((u64s_length _).trans Vector.length_toList)) rfl ?_
            refine OW.want rfl ?_
            refine OW.rv (RV.loadW rfl (List.Mem.head _) rfl rfl rfl rfl ((u64s_length _).trans Vector.length_toList)) rfl ?_
            refine OW.want rfl ?_
            refine OW.rv (RV.neA64 rfl rfl rfl rfl rfl rfl (Vector.length_toList) (Vector.length_toList)) rfl ?_
            refine OW.slot (.bool (!decide (x86 = x93))) (congrArg (fun b => Value.bool (!b)) (decide_eq_decide.2 Vector.toList_inj)) ?_
            refine OW.rv (RV.pick_f rfl rfl rfl) rfl ?_
            refine OW.nil ?_
            exact QW.join ⟨(!decide (x86 = x93)), (Option.some.inj hq100).symm, rfl, rfl⟩ ⟨rfl, rfl, rfl, rfl, trivial⟩ (fun w m => m.pick [2, 3] 4 rfl rfl)
          · replace hq100 := if_f hq100 h250
            refine OW.slot (.bool true) (congrArg Value.bool (congrArg (fun b => !b) (decide_eq_false h250))) ?_
            refine OW.skip rfl rfl rfl ?_
            refine OW.skip rfl rfl rfl ?_
            refine OW.skip rfl rfl rfl ?_
            refine OW.rv (RV.pick_t rfl rfl rfl) rfl ?_
            refine OW.nil ?_
            exact QW.join ⟨true, (Option.some.inj hq100).symm, rfl, rfl⟩ ⟨rfl, rfl, rfl, rfl, trivial⟩ (fun w m => m.pick [2, 3] 4 rfl rfl)
    · skip
      refine CW.region ?_
      refine OW.rv (RV.move rfl) rfl ?_
      obtain ⟨x252, hx251, hq75⟩ := some_bind hq75
      refine OW.callG Try.call31 rfl (waybilllaw07_num_does w0 (More w0 Φ (B63 ++ (B49 ++ (B21 ++ [])))) ((ob64, blk ((u8s x61) ++ r66) 5) :: (ob50, blk ((u8s x47) ++ r52) 5) :: (some b45, blk [.bool (x20.list), .slice A28 x20.data.length (x20.data.length + 9), .slice A29 x20.items.length c30] 29) :: (some b13, blk [.bool (a0.list), .slice A1 a0.data.length c2, .slice A4 a0.items.length c5] 29) :: ((B63 ++ (B49 ++ (B21 ++ []))) ++ N)) (fun w m => More.of hΦ 4 m rfl) ((x48 : Nat) : Int) x252 (by omega) hx251) rfl rfl ?_
      rintro _ G254 ⟨b253, rfl⟩
      refine OW.mem (M' := ((ob64, blk ((u8s x61) ++ r66) 5) :: (ob50, blk ((u8s x47) ++ r52) 5) :: (some b45, blk [.bool (x20.list), .slice A28 x20.data.length (x20.data.length + 9), .slice A29 x20.items.length c30] 29) :: (some b13, blk [.bool (a0.list), .slice A1 a0.data.length c2, .slice A4 a0.items.length c5] 29) :: ((B63 ++ (B49 ++ (B21 ++ []))) ++ N))) (fun w m => m.appR) ?_
      refine OW.rv (RV.move rfl) rfl ?_
      refine OW.rv (RV.neq rfl rfl) rfl ?_
      refine OW.rv (RV.move rfl) rfl ?_
      by_cases h256 : x252 = ((x62 : Nat) : Int)
      · replace hq75 := if_t hq75 h256
        refine OW.slot (.bool false) (congrArg Value.bool (congrArg (fun b => !b) (decide_eq_true h256))) ?_
        refine OW.want rfl ?_
        refine OW.rv (RV.move rfl) rfl ?_
        refine OW.want rfl ?_
        refine OW.rv (RV.move rfl) rfl ?_
        refine OW.want rfl ?_
        refine OW.mem (M' := (ob64, blk ((u8s x61) ++ r66) 5) :: (some b45, blk [.bool (x20.list), .slice A28 x20.data.length (x20.data.length + 9), .slice A29 x20.items.length c30] 29) :: (some b13, blk [.bool (a0.list), .slice A1 a0.data.length c2, .slice A4 a0.items.length c5] 29) :: (((ob50, blk ((u8s x47) ++ r52) 5) :: (B63 ++ (B49 ++ (B21 ++ [])))) ++ N)) (fun w m => m.pick [0, 2, 3, 1] 4 rfl rfl) ?_
        replace h10 := ItRd.mono (Ψ := More w0 Φ ((ob50, blk ((u8s x47) ++ r52) 5) :: (B63 ++ (B49 ++ (B21 ++ []))))) (fun w q => More.mono (fun w m => (m).tail) q) _ _ h10
        replace v3 := v3.mono (Ψ := More w0 Φ ((ob50, blk ((u8s x47) ++ r52) 5) :: (B63 ++ (B49 ++ (B21 ++ []))))) (fun w q => More.mono (fun w m => (m).tail) q)
        replace v6 := v6.mono (Ψ := More w0 Φ ((ob50, blk ((u8s x47) ++ r52) 5) :: (B63 ++ (B49 ++ (B21 ++ []))))) (fun w q => More.mono (fun w m => (m).tail) q)
        replace h8 := h8.mono (ItRd.mono (Ψ := More w0 Φ ((ob50, blk ((u8s x47) ++ r52) 5) :: (B63 ++ (B49 ++ (B21 ++ []))))) (fun w q => More.mono (fun w m => (m).tail) q))
        replace h38 := RtRd.mono (Ψ := More w0 Φ ((ob50, blk ((u8s x47) ++ r52) 5) :: (B63 ++ (B49 ++ (B21 ++ []))))) (fun w q => More.mono (fun w m => (m).tail) q) _ _ h38
        replace v39 := v39.mono (Ψ := More w0 Φ ((ob50, blk ((u8s x47) ++ r52) 5) :: (B63 ++ (B49 ++ (B21 ++ []))))) (fun w q => More.mono (fun w m => (m).tail) q)
        replace v32 := v32.mono (Ψ := More w0 Φ ((ob50, blk ((u8s x47) ++ r52) 5) :: (B63 ++ (B49 ++ (B21 ++ []))))) (fun w q => More.mono (fun w m => (m).tail) q)
        replace v33 := v33.mono (Ψ := More w0 Φ ((ob50, blk ((u8s x47) ++ r52) 5) :: (B63 ++ (B49 ++ (B21 ++ []))))) (fun w q => More.mono (fun w m => (m).tail) q)
        replace h34 := h34.mono (ItRd.mono (Ψ := More w0 Φ ((ob50, blk ((u8s x47) ++ r52) 5) :: (B63 ++ (B49 ++ (B21 ++ []))))) (fun w q => More.mono (fun w m => (m).tail) q))
        replace v35 := v35.mono (Ψ := More w0 Φ ((ob50, blk ((u8s x47) ++ r52) 5) :: (B63 ++ (B49 ++ (B21 ++ []))))) (fun w q => More.mono (fun w m => (m).tail) q)
        replace h36 := h36.mono (ItRd.mono (Ψ := More w0 Φ ((ob50, blk ((u8s x47) ++ r52) 5) :: (B63 ++ (B49 ++ (B21 ++ []))))) (fun w q => More.mono (fun w m => (m).tail) q))
        have v257 : View (More w0 Φ ((ob50, blk ((u8s x47) ++ r52) 5) :: (B63 ++ (B49 ++ (B21 ++ []))))) ((ob50).map fun k => ⟨k, 0, none⟩) x47.length c51 1 (u8s x47) := o53.view (by decide) (fun w q => q.2.sublist (List.singleton_sublist.2 (List.mem_cons_self ..)))
        refine OW.mem (M' := (some b45, blk [.bool (x20.list), .slice A28 x20.data.length (x20.data.length + 9), .slice A29 x20.items.length c30] 29) :: (some b13, blk [.bool (a0.list), .slice A1 a0.data.length c2, .slice A4 a0.items.length c5] 29) :: (((ob64, blk ((u8s x61) ++ r66) 5) :: ((ob50, blk ((u8s x47) ++ r52) 5) :: (B63 ++ (B49 ++ (B21 ++ []))))) ++ N)) (fun w m => m.pick [1, 2, 0] 3 rfl rfl) ?_
        replace h10 := ItRd.mono (Ψ := More w0 Φ ((ob64, blk ((u8s x61) ++ r66) 5) :: ((ob50, blk ((u8s x47) ++ r52) 5) :: (B63 ++ (B49 ++ (B21 ++ [])))))) (fun w q => More.mono (fun w m => (m).tail) q) _ _ h10
        replace v3 := v3.mono (Ψ := More w0 Φ ((ob64, blk ((u8s x61) ++ r66) 5) :: ((ob50, blk ((u8s x47) ++ r52) 5) :: (B63 ++ (B49 ++ (B21 ++ [])))))) (fun w q => More.mono (fun w m => (m).tail) q)
        replace v6 := v6.mono (Ψ := More w0 Φ ((ob64, blk ((u8s x61) ++ r66) 5) :: ((ob50, blk ((u8s x47) ++ r52) 5) :: (B63 ++ (B49 ++ (B21 ++ [])))))) (fun w q => More.mono (fun w m => (m).tail) q)
        replace h8 := h8.mono (ItRd.mono (Ψ := More w0 Φ ((ob64, blk ((u8s x61) ++ r66) 5) :: ((ob50, blk ((u8s x47) ++ r52) 5) :: (B63 ++ (B49 ++ (B21 ++ [])))))) (fun w q => More.mono (fun w m => (m).tail) q))
        replace h38 := RtRd.mono (Ψ := More w0 Φ ((ob64, blk ((u8s x61) ++ r66) 5) :: ((ob50, blk ((u8s x47) ++ r52) 5) :: (B63 ++ (B49 ++ (B21 ++ [])))))) (fun w q => More.mono (fun w m => (m).tail) q) _ _ h38
        replace v39 := v39.mono (Ψ := More w0 Φ ((ob64, blk ((u8s x61) ++ r66) 5) :: ((ob50, blk ((u8s x47) ++ r52) 5) :: (B63 ++ (B49 ++ (B21 ++ [])))))) (fun w q => More.mono (fun w m => (m).tail) q)
        replace v32 := v32.mono (Ψ := More w0 Φ ((ob64, blk ((u8s x61) ++ r66) 5) :: ((ob50, blk ((u8s x47) ++ r52) 5) :: (B63 ++ (B49 ++ (B21 ++ [])))))) (fun w q => More.mono (fun w m => (m).tail) q)
        replace v33 := v33.mono (Ψ := More w0 Φ ((ob64, blk ((u8s x61) ++ r66) 5) :: ((ob50, blk ((u8s x47) ++ r52) 5) :: (B63 ++ (B49 ++ (B21 ++ [])))))) (fun w q => More.mono (fun w m => (m).tail) q)
        replace h34 := h34.mono (ItRd.mono (Ψ := More w0 Φ ((ob64, blk ((u8s x61) ++ r66) 5) :: ((ob50, blk ((u8s x47) ++ r52) 5) :: (B63 ++ (B49 ++ (B21 ++ [])))))) (fun w q => More.mono (fun w m => (m).tail) q))
        replace v35 := v35.mono (Ψ := More w0 Φ ((ob64, blk ((u8s x61) ++ r66) 5) :: ((ob50, blk ((u8s x47) ++ r52) 5) :: (B63 ++ (B49 ++ (B21 ++ [])))))) (fun w q => More.mono (fun w m => (m).tail) q)
        replace h36 := h36.mono (ItRd.mono (Ψ := More w0 Φ ((ob64, blk ((u8s x61) ++ r66) 5) :: ((ob50, blk ((u8s x47) ++ r52) 5) :: (B63 ++ (B49 ++ (B21 ++ [])))))) (fun w q => More.mono (fun w m => (m).tail) q))
        replace v257 := v257.mono (Ψ := More w0 Φ ((ob64, blk ((u8s x61) ++ r66) 5) :: ((ob50, blk ((u8s x47) ++ r52) 5) :: (B63 ++ (B49 ++ (B21 ++ [])))))) (fun w q => More.mono (fun w m => (m).tail) q)
        have v258 : View (More w0 Φ ((ob64, blk ((u8s x61) ++ r66) 5) :: ((ob50, blk ((u8s x47) ++ r52) 5) :: (B63 ++ (B49 ++ (B21 ++ [])))))) ((ob64).map fun k => ⟨k, 0, none⟩) x61.length c65 1 (u8s x61) := o67.view (by decide) (fun w q => q.2.sublist (List.singleton_sublist.2 (List.mem_cons_self ..)))
        obtain ⟨x260, hx259, hq75⟩ := some_bind hq75
        refine OW.callG Try.call26 rfl (waybilllaw07_same_does w0 (More w0 Φ ((ob64, blk ((u8s x61) ++ r66) 5) :: ((ob50, blk ((u8s x47) ++ r52) 5) :: (B63 ++ (B49 ++ (B21 ++ [])))))) ((some b45, blk [.bool (x20.list), .slice A28 x20.data.length (x20.data.length + 9), .slice A29 x20.items.length c30] 29) :: (some b13, blk [.bool (a0.list), .slice A1 a0.data.length c2, .slice A4 a0.items.length c5] 29) :: (((ob64, blk ((u8s x61) ++ r66) 5) :: ((ob50, blk ((u8s x47) ++ r52) 5) :: (B63 ++ (B49 ++ (B21 ++ []))))) ++ N)) (fun w m => More.of hΦ 2 m rfl) ((ob50).map fun k => ⟨k, 0, none⟩) c51 x47 ((ob64).map fun k => ⟨k, 0, none⟩) c65 x61 x260 v257 v258 hx259) rfl rfl ?_
        rintro _ G261 rfl
        refine OW.mem (M' := ((some b45, blk [.bool (x20.list), .slice A28 x20.data.length (x20.data.length + 9), .slice A29 x20.items.length c30] 29) :: (some b13, blk [.bool (a0.list), .slice A1 a0.data.length c2, .slice A4 a0.items.length c5] 29) :: (((ob64, blk ((u8s x61) ++ r66) 5) :: ((ob50, blk ((u8s x47) ++ r52) 5) :: (B63 ++ (B49 ++ (B21 ++ []))))) ++ N))) (fun w m => m.appR) ?_
        refine OW.want rfl ?_
        refine OW.rv (RV.not rfl) rfl ?_
        refine OW.rv (RV.pick_f rfl rfl rfl) rfl ?_
        refine OW.nil ?_
        exact QW.join ⟨(!x260), ((ob64, blk ((u8s x61) ++ r66) 5) :: ((ob50, blk ((u8s x47) ++ r52) 5) :: (B63 ++ (B49 ++ (B21 ++ []))))), (Option.some.inj hq75).symm, (fun w m => ((m).tail).tail), rfl, rfl⟩ ⟨rfl, rfl, rfl, rfl, trivial⟩ (fun w m => m.pick [0, 1] 2 rfl rfl)
      · replace hq75 := if_f hq75 h256
        refine OW.slot (.bool true) (congrArg Value.bool (congrArg (fun b => !b) (decide_eq_false h256))) ?_
        refine OW.skip rfl rfl rfl ?_
        refine OW.skip rfl rfl rfl ?_
        refine OW.skip rfl rfl rfl ?_
        refine OW.skip rfl rfl rfl ?_
        refine OW.rv (RV.pick_t rfl rfl rfl) rfl ?_
        refine OW.nil ?_
        exact QW.join ⟨true, (B63 ++ (B49 ++ (B21 ++ []))), (Option.some.inj hq75).symm, (fun w m => m), rfl, rfl⟩ ⟨rfl, rfl, rfl, rfl, trivial⟩ (fun w m => m.pick [2, 3] 4 rfl rfl)
end Go.Fw.Try
