/- Part of a proof over Ytgdohhccpghofaa: rules and contracts that the law's text uses. No condition. -/
import Derived.Test.YtgdohhccpghofaaTy
import Derived.Test.YtgdohhccpghofaaExt
import Derived.Test.YtgdohhccpghofaaRlpRoom
import Derived.Test.YtgdohhccpghofaaRtL
import Derived.Test.YtgdohhccpghofaaRlpP1
import Derived.Test.YtgdohhccpghofaaRlpP2
import Derived.Test.YtgdohhccpghofaaRlpP3
import Derived.Test.YtgdohhccpghofaaRlpP4
import Derived.Test.YtgdohhccpghofaaRlpP5
import Derived.Test.YtgdohhccpghofaaRlpTreesW1
namespace Go.Fw.Try
open Go Go.Proofs Go.Fw
set_option maxRecDepth 100000
set_option linter.unusedVariables false
set_option linter.unusedSimpArgs false
set_option maxHeartbeats 1000000

theorem rlp_Encode_does (w0 : World) (Φ : Ctx) (N : List Ent) (hΦ : ∀ w, Mem w0 w N → Φ w) (cs0_ : List Value) (a0 : It) (res0 : List (BitVec 8)) (res1 : Nat) (ha0 : ItRd Φ cs0_ a0) (hf : rlp_Encode a0 = some (res0, res1)) : DoesG Try.prog 53 [.agg cs0_.toArray] w0 [] N (fun v G => ∃ B : List Ent, ∃ or0 : Option Nat, ∃ kr0 : Nat, ∃ rr0 : List Value, (OwnS or0 res0.length kr0 1 (u8s res0) rr0) ∧ (res1 ≤ 9223372036854775807) ∧ v = .tuple #[sl or0 0 res0.length kr0, .int .i64 ((res1 : Nat) : Int)] ∧ G = (or0, blk ((u8s res0) ++ rr0) 5) :: B) := by
  unfold rlp_Encode at hf
  replace ha0 := ItRd.mono (Ψ := More w0 Φ []) (fun w q => q.1) _ _ ha0
  have h10 := ha0
  obtain ⟨A1, c2, A4, c5, cs7, e9, v3, v6, h8⟩ := ItRd.opn ha0
  subst e9
  have m11 := v3.mx
  have m12 := v6.mx
  refine DoesG.enter Try.func53 rfl Try.ntmps53 rfl (M := (([] ++ N))) rfl ?_
  refine CW.seq ?_
  refine CW.region ?_
  refine OW.boxA rfl rfl (fun b13 => ?_)
  refine OW.rv (RV.assign rfl) rfl ?_
  refine OW.rv (RV.assign rfl) rfl ?_
  refine OW.nil ?_
  refine QW.then_n ?_
  refine CW.seq ?_
  refine CW.seq ?_
  refine CW.region ?_
  refine OW.rv (RV.loadW rfl (List.Mem.head _) rfl rfl rfl rfl rfl) rfl ?_
  obtain ⟨x15, hx14, hf⟩ := some_bind hf
  refine OW.callG Try.call49 rfl (rlp_Check_does w0 (More w0 Φ []) ((some b13, blk [.bool (a0.list), .slice A1 a0.data.length c2, .slice A4 a0.items.length c5] 29) :: ([] ++ N)) (fun w m => More.of hΦ 1 m rfl) [.bool (a0.list), .slice A1 a0.data.length c2, .slice A4 a0.items.length c5] a0 x15 h10 hx14) rfl rfl ?_
  rintro _ G17 ⟨b16, rfl⟩
  refine OW.mem (M' := ((some b13, blk [.bool (a0.list), .slice A1 a0.data.length c2, .slice A4 a0.items.length c5] 29) :: ([] ++ N))) (fun w m => m.appR) ?_
  refine OW.rv (RV.assign rfl) rfl ?_
  refine OW.nil ?_
  refine QW.then_n ?_
  refine CW.seq ?_
  refine CW.region ?_
  refine OW.rv (RV.move rfl) rfl ?_
  refine OW.rv (RV.neq rfl rfl) rfl ?_
  refine OW.slot (.bool (!decide (x15 = 0))) (congrArg (fun b => Value.bool (!b)) (decide_eq_decide.2 (by omega))) ?_
  refine OW.nil ?_
  refine QW.then_n ?_
  by_cases h19 : x15 = 0
  · replace hf := if_t hf h19
    refine CW.is_f rfl (congrArg (fun b => !b) (decide_eq_true h19)) ?_
    refine CW.skip ?_
    refine QW.then_n ?_
    refine CW.seq ?_
    refine CW.region ?_
    refine OW.rv (RV.loadW rfl (List.Mem.head _) rfl rfl rfl rfl rfl) rfl ?_
    refine OW.mem (M' := ((none, blk ((u8s ([] : List (BitVec 8))) ++ []) 5) :: (some b13, blk [.bool (a0.list), .slice A1 a0.data.length c2, .slice A4 a0.items.length c5] 29) :: ([] ++ N))) (fun w m => m.nil_ent _) ?_
    obtain ⟨x21, hx20, hf⟩ := some_bind hf
    refine OW.callG Try.call82 rfl (rlp_lay_does w0 (More w0 Φ []) ((some b13, blk [.bool (a0.list), .slice A1 a0.data.length c2, .slice A4 a0.items.length c5] 29) :: ([] ++ N)) (fun w m => More.of hΦ 1 m rfl) none 0 ([]) ([] : List (BitVec 8)) [.bool (a0.list), .slice A1 a0.data.length c2, .slice A4 a0.items.length c5] a0 x21 OwnS.nil h10 hx20) rfl rfl ?_
    rintro L27 M28 ⟨B22, ob23, c24, r25, o26, e29, e30⟩
    rw [e29, e30]
    clear e29 e30 L27 M28
    refine OW.mem (M' := ((ob23, blk ((u8s x21) ++ r25) 5) :: (some b13, blk [.bool (a0.list), .slice A1 a0.data.length c2, .slice A4 a0.items.length c5] 29) :: ((B22 ++ []) ++ N))) (fun w m => by have h := Mem.sinkAt (A := B22) m 1 1 rfl rfl; exact h) ?_
    replace h10 := ItRd.mono (Ψ := More w0 Φ (B22 ++ [])) (fun w q => More.mono (fun w m => (m).appR) q) _ _ h10
    replace v3 := v3.mono (Ψ := More w0 Φ (B22 ++ [])) (fun w q => More.mono (fun w m => (m).appR) q)
    replace v6 := v6.mono (Ψ := More w0 Φ (B22 ++ [])) (fun w q => More.mono (fun w m => (m).appR) q)
    replace h8 := h8.mono (ItRd.mono (Ψ := More w0 Φ (B22 ++ [])) (fun w q => More.mono (fun w m => (m).appR) q))
    have m31 := o26.mx
    refine OW.rv (RV.assign rfl) rfl ?_
    refine OW.rv (RV.assign rfl) rfl ?_
    refine OW.nil ?_
    refine QW.then_n ?_
    refine CW.ret ?_
    have er0 := Option.some.inj hf
    obtain ⟨e0, er1⟩ := Prod.mk.inj er0
    clear er0
    subst e0
    subst er1
    refine QW.retG (rs := [.tmp 2, .tmp 3]) ([sl ob23 0 x21.length c24, .int .i64 (0 : Int)]) ((ob23, blk ((u8s x21) ++ r25) 5) :: (B22 ++ [])) rfl ?_ rfl ?_ ?_ _ (.inl rfl)
    · exact ⟨rfl, rfl, trivial⟩
    · exact ⟨(B22 ++ []), ob23, c24, r25, o26, (by omega), rfl, rfl⟩
    · exact (fun w m => m.pick [0] 2 rfl rfl)
  · replace hf := if_f hf h19
    refine CW.is_t rfl (congrArg (fun b => !b) (decide_eq_false h19)) ?_
    refine CW.seq ?_
    refine CW.region ?_
    refine OW.rv (RV.move rfl) rfl ?_
    refine OW.rv (RV.assign rfl) rfl ?_
    refine OW.rv (RV.assign rfl) rfl ?_
    refine OW.nil ?_
    refine QW.then_n ?_
    refine CW.ret ?_
    refine QW.then_r ?_
    refine QW.mem (M' := ((none, blk ((u8s ([] : List (BitVec 8))) ++ []) 5) :: (some b13, blk [.bool (a0.list), .slice A1 a0.data.length c2, .slice A4 a0.items.length c5] 29) :: ([] ++ N))) (fun w m => m.nil_ent _) ?_
    have er0 := Option.some.inj hf
    obtain ⟨e0, er1⟩ := Prod.mk.inj er0
    clear er0
    subst e0
    subst er1
    refine QW.retG (rs := [.tmp 2, .tmp 3]) ([sl none 0 ([] : List (BitVec 8)).length 0, .int .i64 ((x15 : Nat) : Int)]) ((none, blk ((u8s ([] : List (BitVec 8))) ++ []) 5) :: []) rfl ?_ rfl ?_ ?_ _ (.inl rfl)
    · exact ⟨rfl, rfl, trivial⟩
    · exact ⟨[], none, 0, [], OwnS.nil, (by omega), rfl, rfl⟩
    · exact (fun w m => m.pick [0] 2 rfl rfl)

theorem waybillref07_Encode_does (w0 : World) (Φ : Ctx) (N : List Ent) (hΦ : ∀ w, Mem w0 w N → Φ w) (cs0_ : List Value) (a0 : It) (res0 : List (BitVec 8)) (res1 : Nat) (ha0 : ItRd Φ cs0_ a0) (hf : waybillref07_Encode a0 = some (res0, res1)) : DoesG Try.prog 54 [.agg cs0_.toArray] w0 [] N (fun v G => ∃ B : List Ent, ∃ or0 : Option Nat, ∃ kr0 : Nat, ∃ rr0 : List Value, (OwnS or0 res0.length kr0 1 (u8s res0) rr0) ∧ (res1 ≤ 9223372036854775807) ∧ v = .tuple #[sl or0 0 res0.length kr0, .int .i64 ((res1 : Nat) : Int)] ∧ G = (or0, blk ((u8s res0) ++ rr0) 5) :: B) := by
  unfold waybillref07_Encode at hf
  replace ha0 := ItRd.mono (Ψ := More w0 Φ []) (fun w q => q.1) _ _ ha0
  have h10 := ha0
  obtain ⟨A1, c2, A4, c5, cs7, e9, v3, v6, h8⟩ := ItRd.opn ha0
  subst e9
  have m11 := v3.mx
  have m12 := v6.mx
  refine DoesG.enter Try.func54 rfl Try.ntmps54 rfl (M := (([] ++ N))) rfl ?_
  refine CW.seq ?_
  refine CW.region ?_
  refine OW.boxA rfl rfl (fun b13 => ?_)
  refine OW.rv (RV.assign rfl) rfl ?_
  refine OW.rv (RV.assign rfl) rfl ?_
  refine OW.nil ?_
  refine QW.then_n ?_
  refine CW.seq ?_
  refine CW.region ?_
  refine OW.rv (RV.loadW rfl (List.Mem.head _) rfl rfl rfl rfl rfl) rfl ?_
  obtain ⟨x15, hx14, hf⟩ := some_bind hf
  refine OW.callG Try.call50 rfl (waybillref07_Check_does w0 (More w0 Φ []) ((some b13, blk [.bool (a0.list), .slice A1 a0.data.length c2, .slice A4 a0.items.length c5] 29) :: ([] ++ N)) (fun w m => More.of hΦ 1 m rfl) [.bool (a0.list), .slice A1 a0.data.length c2, .slice A4 a0.items.length c5] a0 x15 h10 hx14) rfl rfl ?_
  rintro _ G17 ⟨b16, rfl⟩
  refine OW.mem (M' := ((some b13, blk [.bool (a0.list), .slice A1 a0.data.length c2, .slice A4 a0.items.length c5] 29) :: ([] ++ N))) (fun w m => m.appR) ?_
  refine OW.rv (RV.assign rfl) rfl ?_
  refine OW.nil ?_
  refine QW.then_n ?_
  refine CW.seq ?_
  refine CW.seq ?_
  refine CW.region ?_
  refine OW.rv (RV.move rfl) rfl ?_
  refine OW.rv (RV.neq rfl rfl) rfl ?_
  refine OW.slot (.bool (!decide (x15 = 0))) (congrArg (fun b => Value.bool (!b)) (decide_eq_decide.2 (by omega))) ?_
  refine OW.nil ?_
  refine QW.then_n ?_
  by_cases h19 : x15 = 0
  · replace hf := if_t hf h19
    refine CW.is_f rfl (congrArg (fun b => !b) (decide_eq_true h19)) ?_
    refine CW.skip ?_
    refine QW.then_n ?_
    refine CW.seq ?_
    refine CW.region ?_
    refine OW.rv (RV.loadW rfl (List.Mem.head _) rfl rfl rfl rfl rfl) rfl ?_
    refine OW.mem (M' := ((none, blk ((u8s ([] : List (BitVec 8))) ++ []) 5) :: (some b13, blk [.bool (a0.list), .slice A1 a0.data.length c2, .slice A4 a0.items.length c5] 29) :: ([] ++ N))) (fun w m => m.nil_ent _) ?_
    obtain ⟨x21, hx20, hf⟩ := some_bind hf
    refine OW.callG Try.call83 rfl (waybillref07_put_does w0 (More w0 Φ []) ((some b13, blk [.bool (a0.list), .slice A1 a0.data.length c2, .slice A4 a0.items.length c5] 29) :: ([] ++ N)) (fun w m => More.of hΦ 1 m rfl) none 0 ([]) ([] : List (BitVec 8)) [.bool (a0.list), .slice A1 a0.data.length c2, .slice A4 a0.items.length c5] a0 x21 OwnS.nil h10 hx20) rfl rfl ?_
    rintro L27 M28 ⟨B22, ob23, c24, r25, o26, e29, e30⟩
    rw [e29, e30]
    clear e29 e30 L27 M28
    refine OW.mem (M' := ((ob23, blk ((u8s x21) ++ r25) 5) :: (some b13, blk [.bool (a0.list), .slice A1 a0.data.length c2, .slice A4 a0.items.length c5] 29) :: ((B22 ++ []) ++ N))) (fun w m => by have h := Mem.sinkAt (A := B22) m 1 1 rfl rfl; exact h) ?_
    replace h10 := ItRd.mono (Ψ := More w0 Φ (B22 ++ [])) (fun w q => More.mono (fun w m => (m).appR) q) _ _ h10
    replace v3 := v3.mono (Ψ := More w0 Φ (B22 ++ [])) (fun w q => More.mono (fun w m => (m).appR) q)
    replace v6 := v6.mono (Ψ := More w0 Φ (B22 ++ [])) (fun w q => More.mono (fun w m => (m).appR) q)
    replace h8 := h8.mono (ItRd.mono (Ψ := More w0 Φ (B22 ++ [])) (fun w q => More.mono (fun w m => (m).appR) q))
    have m31 := o26.mx
    refine OW.rv (RV.assign rfl) rfl ?_
    refine OW.rv (RV.assign rfl) rfl ?_
    refine OW.nil ?_
    refine QW.then_n ?_
    refine CW.ret ?_
    have er0 := Option.some.inj hf
    obtain ⟨e0, er1⟩ := Prod.mk.inj er0
    clear er0
    subst e0
    subst er1
    refine QW.retG (rs := [.tmp 2, .tmp 3]) ([sl ob23 0 x21.length c24, .int .i64 (0 : Int)]) ((ob23, blk ((u8s x21) ++ r25) 5) :: (B22 ++ [])) rfl ?_ rfl ?_ ?_ _ (.inl rfl)
    · exact ⟨rfl, rfl, trivial⟩
    · exact ⟨(B22 ++ []), ob23, c24, r25, o26, (by omega), rfl, rfl⟩
    · exact (fun w m => m.pick [0] 2 rfl rfl)
  · replace hf := if_f hf h19
    refine CW.is_t rfl (congrArg (fun b => !b) (decide_eq_false h19)) ?_
    refine CW.seq ?_
    refine CW.region ?_
    refine OW.rv (RV.move rfl) rfl ?_
    refine OW.rv (RV.assign rfl) rfl ?_
    refine OW.rv (RV.assign rfl) rfl ?_
    refine OW.nil ?_
    refine QW.then_n ?_
    refine CW.ret ?_
    refine QW.then_r ?_
    refine QW.mem (M' := ((none, blk ((u8s ([] : List (BitVec 8))) ++ []) 5) :: (some b13, blk [.bool (a0.list), .slice A1 a0.data.length c2, .slice A4 a0.items.length c5] 29) :: ([] ++ N))) (fun w m => m.nil_ent _) ?_
    have er0 := Option.some.inj hf
    obtain ⟨e0, er1⟩ := Prod.mk.inj er0
    clear er0
    subst e0
    subst er1
    refine QW.retG (rs := [.tmp 2, .tmp 3]) ([sl none 0 ([] : List (BitVec 8)).length 0, .int .i64 ((x15 : Nat) : Int)]) ((none, blk ((u8s ([] : List (BitVec 8))) ++ []) 5) :: []) rfl ?_ rfl ?_ ?_ _ (.inl rfl)
    · exact ⟨rfl, rfl, trivial⟩
    · exact ⟨[], none, 0, [], OwnS.nil, (by omega), rfl, rfl⟩
    · exact (fun w m => m.pick [0] 2 rfl rfl)

theorem waybillref07_Beyond_does (w0 : World) (Φ : Ctx) (N : List Ent) (hΦ : ∀ w, Mem w0 w N → Φ w) (cs0_ : List Value) (a0 : It) (res0 : Bool) (ha0 : ItRd Φ cs0_ a0) (hf : waybillref07_Beyond a0 = some res0) : DoesG Try.prog 14 [.agg cs0_.toArray] w0 [] N (fun v G => v = .bool res0) := by
  unfold waybillref07_Beyond at hf
  replace ha0 := ItRd.mono (Ψ := More w0 Φ []) (fun w q => q.1) _ _ ha0
  have h10 := ha0
  obtain ⟨A1, c2, A4, c5, cs7, e9, v3, v6, h8⟩ := ItRd.opn ha0
  subst e9
  have m11 := v3.mx
  have m12 := v6.mx
  refine DoesG.enter Try.func14 rfl Try.ntmps14 rfl (M := (([] ++ N))) rfl ?_
  refine CW.seq ?_
  refine CW.region ?_
  refine OW.boxA rfl rfl (fun b13 => ?_)
  refine OW.rv (RV.assign rfl) rfl ?_
  refine OW.nil ?_
  refine QW.then_n ?_
  refine CW.seq ?_
  refine CW.region ?_
  refine OW.rv (RV.loadW rfl (List.Mem.head _) rfl rfl rfl rfl rfl) rfl ?_
  refine OW.ofN (NV.bsA rfl rfl (by intro x hx; simp at hx; subst hx; rfl) rfl rfl rfl (by decide) (by decide) rfl) rfl (fun b14 => ?_)
  have h17 : Reps (ItRd (More w0 Φ [])) (([.bool (a0.list), .slice A1 a0.data.length c2, .slice A4 a0.items.length c5] : List Value)) [a0] := Reps.one h10
  refine OW.mem (M' := (((some b14), blk ((([.bool (a0.list), .slice A1 a0.data.length c2, .slice A4 a0.items.length c5] : List Value)) ++ []) 29) :: (some b13, blk [.bool (a0.list), .slice A1 a0.data.length c2, .slice A4 a0.items.length c5] 29) :: ([] ++ N))) (fun w m => m) ?_
  have o15 : OwnS (some b14) ([a0] : List (It)).length 1 3 (([.bool (a0.list), .slice A1 a0.data.length c2, .slice A4 a0.items.length c5] : List Value)) [] := ⟨by simp [ItRd], by simp [ItRd], (fun h => nomatch h), by simp⟩
  refine OW.slot (sl (some b14) 0 ([a0] : List (It)).length 1) (rfl) ?_
  refine OW.rv (RV.assign rfl) rfl ?_
  refine OW.nil ?_
  refine QW.then_n ?_
  refine CW.seq ?_
  refine CW.region ?_
  refine OW.rv (RV.assign rfl) rfl ?_
  refine OW.nil ?_
  refine QW.then_n ?_
  refine CW.seq ?_
  refine CW.seq ?_
  refine CW.region ?_
  refine OW.rv (RV.assign rfl) rfl ?_
  refine OW.nil ?_
  refine QW.then_n ?_
  obtain ⟨q18, hq19, hf⟩ := some_bind hf
  refine CW.cutJ (fun L' M' => ∃ B20 : List Ent, q18 = Lp.go () ∧ (∀ w, Mem w0 w B20 → Mem w0 w []) ∧ L' = [] ∧ M' = ((B20 ++ N))) ?_ ?_
  · rintro L23 M24 ⟨B20, e22, hB21, e25, e26⟩
    rw [e25, e26]
    clear e25 e26 L23 M24
    clear hq19
    rw [e22] at hf
    clear e22
    try dsimp only at hf
    refine QW.then_n ?_
    refine CW.seq ?_
    refine CW.region ?_
    refine OW.rv (RV.assign rfl) rfl ?_
    refine OW.nil ?_
    refine QW.then_n ?_
    refine CW.ret ?_
    have e0 := Option.some.inj hf
    subst e0
    refine QW.retG (rs := [.tmp 2]) ([.bool false]) (B20) rfl ?_ rfl ?_ ?_ _ (.inl rfl)
    · exact ⟨rfl, trivial⟩
    · exact rfl
    · exact (fun w m => m)
  · skip
    refine CW.block ?_
    refine CW.loopJ (fun k L' M' => ∃ l29 : List (It), ∃ n36 : Nat, ∃ n38 : Nat, ∃ B27 : List Ent, ∃ cs30 : List Value, ∃ ob32 : Option Nat, ∃ c33 : Nat, ∃ r34 : List Value, (waybillref07_Beyond.l1 k l29 n36 n38) = some q18 ∧ (∀ w, Mem w0 w B27 → Mem w0 w []) ∧ (Reps (ItRd (More w0 Φ B27)) cs30 l29) ∧ (OwnS ob32 l29.length c33 3 cs30 r34) ∧ (n36 ≤ 9223372036854775807) ∧ (n38 ≤ 9223372036854775807) ∧ L' = [(3, sl ob32 0 l29.length c33), (4, .int .i64 ((n36 : Nat) : Int)), (5, .int .i64 ((n38 : Nat) : Int))] ∧ M' = ((ob32, blk (cs30 ++ r34) 29) :: (B27 ++ N))) (k0 := 65540) ⟨([a0] : List (It)), 0, 0, [], (([.bool (a0.list), .slice A1 a0.data.length c2, .slice A4 a0.items.length c5] : List Value)), (some b14), 1, [], hq19, (fun w m => m), h17, o15, (by omega), (by omega), rfl, rfl⟩ ⟨rfl, rfl, rfl, trivial⟩ (fun w m => m.pick [0] 2 rfl rfl) ?_
    clear hq19
    rintro k40 L43 M44 ⟨l29, n36, n38, B27, cs30, ob32, c33, r34, hl41, hB28, h31, o35, b37, b39, e45, e46⟩
    rw [e45, e46]
    clear e45 e46 L43 M44
    rcases k40 with _ | k40
    · rw [waybillref07_Beyond.l1] at hl41; cases hl41
    rw [waybillref07_Beyond.l1] at hl41
    have m47 := o35.mx
    refine CW.seq ?_
    refine CW.seq ?_
    refine CW.region ?_
    refine OW.rv (RV.move rfl) rfl ?_
    refine OW.rv (RV.len rfl rfl) rfl ?_
    refine OW.rv (RV.gtr rfl rfl) rfl ?_
    refine OW.slot (.bool (decide (0 < l29.length))) (congrArg Value.bool (decide_eq_decide.2 (by omega))) ?_
    refine OW.nil ?_
    refine QW.then_n ?_
    by_cases h48 : 0 < l29.length
    · replace hl41 := if_t hl41 h48
      refine CW.is_t rfl (decide_eq_true h48) ?_
      refine CW.skip ?_
      refine QW.then_n ?_
      refine CW.seq ?_
      refine CW.block ?_
      refine CW.seq ?_
      refine CW.seq ?_
      refine CW.region ?_
      refine OW.rv (RV.move rfl) rfl ?_
      refine OW.rv (RV.gtr rfl rfl) rfl ?_
      refine OW.slot (.bool (decide (65536 < n38))) (congrArg Value.bool (decide_eq_decide.2 (by omega))) ?_
      refine OW.nil ?_
      refine QW.then_n ?_
      by_cases h49 : 65536 < n38
      · replace hl41 := if_t hl41 h49
        refine CW.is_t rfl (decide_eq_true h49) ?_
        refine CW.seq ?_
        refine CW.region ?_
        refine OW.rv (RV.assign rfl) rfl ?_
        refine OW.nil ?_
        refine QW.then_n ?_
        refine CW.ret ?_
        refine QW.then_r ?_
        refine QW.block_r ?_
        refine QW.then_r ?_
        refine QW.then_r ?_
        refine QW.block_r ?_
        refine QW.then_r ?_
        have hc := Option.some.inj hl41
        subst hc
        try dsimp only at hf
        refine QW.then_r ?_
        have e0 := Option.some.inj hf
        subst e0
        refine QW.retG (rs := [.tmp 2]) ([.bool true]) ((ob32, blk (cs30 ++ r34) 29) :: B27) rfl ?_ rfl ?_ ?_ _ (.inl rfl)
        · exact ⟨rfl, trivial⟩
        · exact rfl
        · exact (fun w m => m)
      · replace hl41 := if_f hl41 h49
        refine CW.is_f rfl (decide_eq_false h49) ?_
        refine CW.skip ?_
        refine QW.then_n ?_
        refine CW.seq ?_
        refine CW.region ?_
        refine OW.rv (RV.assign rfl) rfl ?_
        refine OW.nil ?_
        refine QW.then_n ?_
        refine CW.seq ?_
        refine CW.seq ?_
        refine CW.region ?_
        refine OW.rv (RV.assign rfl) rfl ?_
        refine OW.nil ?_
        refine QW.then_n ?_
        obtain ⟨q50, hq51, hl41⟩ := some_bind hl41
        refine CW.cutJ (fun L' M' => ∃ n54 : Nat, ∃ l56 : List (It), ∃ B52 : List Ent, ∃ cs57 : List Value, ∃ ob59 : Option Nat, ∃ c60 : Nat, ∃ r61 : List Value, q50 = Lp.go (n54, l56) ∧ (∀ w, Mem w0 w B52 → Mem w0 w B27) ∧ (n54 ≤ 9223372036854775807) ∧ (Reps (ItRd (More w0 Φ B52)) cs57 l56) ∧ (OwnS ob59 l56.length c60 3 cs57 r61) ∧ L' = [(4, .int .i64 ((n54 : Nat) : Int)), (5, .int .i64 ((n38 : Nat) : Int)), (6, sl ob59 0 l56.length c60)] ∧ M' = ((ob59, blk (cs57 ++ r61) 29) :: (B52 ++ N))) ?_ ?_
        · rintro L64 M65 ⟨n54, l56, B52, cs57, ob59, c60, r61, e63, hB53, b55, h58, o62, e66, e67⟩
          rw [e66, e67]
          clear e66 e67 L64 M65
          clear hq51
          rw [e63] at hl41
          clear e63
          try dsimp only at hl41
          have m68 := o62.mx
          refine QW.then_n ?_
          refine CW.region ?_
          refine OW.rv (RV.move rfl) rfl ?_
          refine OW.rv (RV.assign rfl) rfl ?_
          refine OW.nil ?_
          refine QW.block_n ?_
          refine QW.then_n ?_
          refine CW.region ?_
          refine OW.rv (RV.move rfl) rfl ?_
          refine OW.rv (RV.add rfl rfl (by omega)) rfl ?_
          refine OW.slot (.int .i64 (((n38 + 1) : Nat) : Int)) (by first | rfl | (congr 1) | (congr 1; omega)) ?_
          refine OW.rv (RV.assign rfl) rfl ?_
          refine OW.nil ?_
          exact QW.againJ (k' := k40) (Nat.lt_succ_self _) ⟨l56, n54, (n38 + 1), B52, cs57, ob59, c60, r61, hl41, (fun w m => hB28 w (hB53 w (m))), h58, o62, (by omega), (by omega), rfl, rfl⟩ ⟨rfl, rfl, rfl, trivial⟩ (fun w m => m.pick [0] 1 rfl rfl)
        · skip
          refine CW.block ?_
          refine CW.mem (M' := (((ob32, blk (cs30 ++ r34) 29) :: B27) ++ N)) (fun w m => m.pick [0] 1 rfl rfl) ?_
          replace h31 := h31.mono (ItRd.mono (Ψ := More w0 Φ ((ob32, blk (cs30 ++ r34) 29) :: B27)) (fun w q => More.mono (fun w m => (m).tail) q))
          have v90 : View (More w0 Φ ((ob32, blk (cs30 ++ r34) 29) :: B27)) ((ob32).map fun k => ⟨k, 0, none⟩) l29.length c33 3 cs30 := o35.view (by decide) (fun w q => q.2.sublist (List.singleton_sublist.2 (List.mem_cons_self ..)))
          refine CW.mem (M' := ((none, blk ([] ++ []) 29) :: (((ob32, blk (cs30 ++ r34) 29) :: B27) ++ N))) (fun w m => m.nil_ent _) ?_
          refine CW.loopJ (fun k L' M' => ∃ l93 : List (It), ∃ n99 : Nat, ∃ l101 : List (It), ∃ n108 : Nat, ∃ B91 : List Ent, ∃ cs94 : List Value, ∃ A96 : Option Addr, ∃ c97 : Nat, ∃ cs102 : List Value, ∃ ob104 : Option Nat, ∃ c105 : Nat, ∃ r106 : List Value, (waybillref07_Beyond.l2 k l93 n99 l101 n108) = some q50 ∧ (∀ w, Mem w0 w B91 → Mem w0 w ((ob32, blk (cs30 ++ r34) 29) :: B27)) ∧ (Reps (ItRd (More w0 Φ B91)) cs94 l93) ∧ (View (More w0 Φ B91) A96 l93.length c97 3 cs94) ∧ (n99 ≤ 9223372036854775807) ∧ (Reps (ItRd (More w0 Φ B91)) cs102 l101) ∧ (OwnS ob104 l101.length c105 3 cs102 r106) ∧ (n108 ≤ 9223372036854775807) ∧ L' = [(3, .slice A96 l93.length c97), (4, .int .i64 ((n99 : Nat) : Int)), (5, .int .i64 ((n38 : Nat) : Int)), (6, sl ob104 0 l101.length c105), (7, .int .i64 ((n108 : Nat) : Int))] ∧ M' = ((ob104, blk (cs102 ++ r106) 29) :: (B91 ++ N))) (k0 := (l29.length - 0 + 2)) ⟨l29, n36, ([] : List (It)), 0, ((ob32, blk (cs30 ++ r34) 29) :: B27), cs30, ((ob32).map fun k => ⟨k, 0, none⟩), c33, [], none, 0, [], hq51, (fun w m => m), h31, v90, (by omega), Reps.nil, OwnS.nil, (by omega), rfl, rfl⟩ ⟨rfl, rfl, rfl, rfl, rfl, trivial⟩ (fun w m => m.pick [0] 1 rfl rfl) ?_
          clear hq51
          rintro k88 L111 M112 ⟨l93, n99, l101, n108, B91, cs94, A96, c97, cs102, ob104, c105, r106, hl89, hB92, h95, v98, b100, h103, o107, b109, e113, e114⟩
          rw [e113, e114]
          clear e113 e114 L111 M112
          rcases k88 with _ | k88
          · rw [waybillref07_Beyond.l2] at hl89; cases hl89
          rw [waybillref07_Beyond.l2] at hl89
          have m115 := v98.mx
          have m116 := o107.mx
          refine CW.seq ?_
          refine CW.seq ?_
          refine CW.region ?_
          refine OW.rv (RV.move rfl) rfl ?_
          refine OW.rv (RV.move rfl) rfl ?_
          refine OW.rv (RV.len rfl rfl) rfl ?_
          refine OW.rv (RV.lss rfl rfl) rfl ?_
          refine OW.slot (.bool (decide (n108 < l93.length))) (congrArg Value.bool (decide_eq_decide.2 (by omega))) ?_
          refine OW.nil ?_
          refine QW.then_n ?_
          by_cases h117 : n108 < l93.length
          · replace hl89 := if_t hl89 h117
            refine CW.is_t rfl (decide_eq_true h117) ?_
            refine CW.skip ?_
            refine QW.then_n ?_
            refine CW.seq ?_
            refine CW.block ?_
            refine CW.seq ?_
            refine CW.drawsU 17 mixed (by kernel_rfl) rfl ?_
            refine UW.rv 0 rfl (by kernel_rfl) rfl (RV.move rfl) rfl ?_
            refine UW.rv 1 rfl (by kernel_rfl) rfl (RV.move rfl) rfl ?_
            refine UW.rv 2 rfl (by kernel_rfl) rfl (RV.move rfl) rfl ?_
            obtain ⟨x118, hx119, hl89⟩ := some_bind hl89
            have hl120 := lt_of_at hx119
            refine UW.rv 3 rfl (by kernel_rfl) rfl (RV.idx_rs (n108) rfl rfl rfl rfl rfl (v98.isSome (by decide) hl120) (by omega)) rfl ?_
            obtain ⟨cs121, h122, h123⟩ := h95.get ItRd.len hx119
            have h133 := h122
            obtain ⟨A124, c125, A127, c128, cs130, e132, v126, v129, h131⟩ := ItRd.opn h122
            subst e132
            have m134 := v126.mx
            have m135 := v129.mx
            refine UW.rv 4 rfl (by kernel_rfl) rfl (RV.field_at rfl rfl rfl rfl) rfl ?_
            refine UW.rv 5 rfl (by kernel_rfl) rfl (RV.load_at rfl rfl rfl (fun w m => v98.load (More.of hΦ 1 m rfl) h123 1 _ rfl)) rfl ?_
            refine UW.rv 6 rfl (by kernel_rfl) rfl (RV.len rfl rfl) rfl ?_
            obtain ⟨g136, hl89⟩ := some_if hl89
            refine UW.rv 7 rfl (by kernel_rfl) rfl (RV.add rfl rfl (by omega)) rfl ?_
            refine UW.slot (.int .i64 (((n99 + x118.data.length) : Nat) : Int)) (by first | rfl | (congr 1) | (congr 1; omega)) ?_
            refine UW.rv 8 rfl (by kernel_rfl) rfl (RV.move rfl) rfl ?_
            refine UW.rv 9 rfl (by kernel_rfl) rfl (RV.move rfl) rfl ?_
            obtain ⟨x137, hx138, hl89⟩ := some_bind hl89
            have hl139 := lt_of_at hx138
            refine UW.rv 10 rfl (by kernel_rfl) rfl (RV.idx_rs (n108) rfl rfl rfl rfl rfl (v98.isSome (by decide) hl139) (by omega)) rfl ?_
            obtain ⟨cs140, h141, h142⟩ := h95.get ItRd.len hx138
            have h152 := h141
            obtain ⟨A143, c144, A146, c147, cs149, e151, v145, v148, h150⟩ := ItRd.opn h141
            subst e151
            have m153 := v145.mx
            have m154 := v148.mx
            refine UW.rv 11 rfl (by kernel_rfl) rfl (RV.field_at rfl rfl rfl rfl) rfl ?_
            refine UW.rv 12 rfl (by kernel_rfl) rfl (RV.load_at rfl rfl rfl (fun w m => v98.load (More.of hΦ 1 m rfl) h142 2 _ rfl)) rfl ?_
            refine UW.rv 13 rfl (by kernel_rfl) rfl (RV.len rfl rfl) rfl ?_
            obtain ⟨g155, hl89⟩ := some_if hl89
            refine UW.rv 14 rfl (by kernel_rfl) rfl (RV.add rfl rfl (by omega)) rfl ?_
            refine UW.slot (.int .i64 ((((n99 + x118.data.length) + x137.items.length) : Nat) : Int)) (by first | rfl | (congr 1) | (congr 1; omega)) ?_
            obtain ⟨g156, hl89⟩ := some_if hl89
            refine UW.rv 15 rfl (by kernel_rfl) rfl (RV.add rfl rfl (by omega)) rfl ?_
            refine UW.slot (.int .i64 (((((n99 + x118.data.length) + x137.items.length) + 1) : Nat) : Int)) (by first | rfl | (congr 1) | (congr 1; omega)) ?_
            refine UW.rv 16 rfl (by kernel_rfl) rfl (RV.assign rfl) rfl ?_
            refine UW.nil (by kernel_rfl) ?_
            refine OW.nil ?_
            refine QW.then_n ?_
            refine CW.seq ?_
            refine CW.seq ?_
            refine CW.region ?_
            refine OW.rv (RV.move rfl) rfl ?_
            refine OW.rv (RV.gtr rfl rfl) rfl ?_
            refine OW.slot (.bool (decide (2147483647 < (((n99 + x118.data.length) + x137.items.length) + 1)))) (congrArg Value.bool (decide_eq_decide.2 (by omega))) ?_
            refine OW.nil ?_
            refine QW.then_n ?_
            by_cases h157 : 2147483647 < (((n99 + x118.data.length) + x137.items.length) + 1)
            · replace hl89 := if_t hl89 h157
              refine CW.is_t rfl (decide_eq_true h157) ?_
              refine CW.seq ?_
              refine CW.region ?_
              refine OW.rv (RV.assign rfl) rfl ?_
              refine OW.nil ?_
              refine QW.then_n ?_
              refine CW.ret ?_
              refine QW.then_r ?_
              refine QW.block_r ?_
              refine QW.then_r ?_
              refine QW.then_r ?_
              refine QW.block_r ?_
              refine QW.then_r ?_
              have hc := Option.some.inj hl89
              subst hc
              try dsimp only at hl41
              refine QW.then_r ?_
              refine QW.block_r ?_
              refine QW.then_r ?_
              refine QW.then_r ?_
              refine QW.block_r ?_
              refine QW.then_r ?_
              have hc := Option.some.inj hl41
              subst hc
              try dsimp only at hf
              refine QW.then_r ?_
              have e0 := Option.some.inj hf
              subst e0
              refine QW.retG (rs := [.tmp 2]) ([.bool true]) ((ob104, blk (cs102 ++ r106) 29) :: B91) rfl ?_ rfl ?_ ?_ _ (.inl rfl)
              · exact ⟨rfl, trivial⟩
              · exact rfl
              · exact (fun w m => m)
            · replace hl89 := if_f hl89 h157
              refine CW.is_f rfl (decide_eq_false h157) ?_
              refine CW.skip ?_
              refine QW.then_n ?_
              refine CW.region ?_
              refine OW.rv (RV.move rfl) rfl ?_
              refine OW.rv (RV.move rfl) rfl ?_
              refine OW.rv (RV.move rfl) rfl ?_
              obtain ⟨x158, hx159, hl89⟩ := some_bind hl89
              have hl160 := lt_of_at hx159
              refine OW.rv (RV.idx_rs (n108) rfl rfl rfl rfl rfl (v98.isSome (by decide) hl160) (by omega)) rfl ?_
              obtain ⟨cs161, h162, h163⟩ := h95.get ItRd.len hx159
              have h173 := h162
              obtain ⟨A164, c165, A167, c168, cs170, e172, v166, v169, h171⟩ := ItRd.opn h162
              subst e172
              have m174 := v166.mx
              have m175 := v169.mx
              refine OW.rv (RV.field_at rfl rfl rfl rfl) rfl ?_
              refine OW.rv (RV.load_at rfl rfl rfl (fun w m => v98.load (More.of hΦ 1 m rfl) h163 2 _ rfl)) rfl ?_
              obtain ⟨g176, hl89⟩ := some_if hl89
              have h181 := h103.app h171
              refine OW.appendOwn (s := 3) rfl rfl rfl rfl rfl rfl o107 (fun w m => v169.rd w (More.of hΦ 1 m rfl)) v169.n (h171.cell1 ItRd.one) (v169.zero (by decide)) (by decide) (by decide) (by first | omega | (simp only [i29, List.length_nil]; omega)) rfl rfl ((l101 ++ x158.items).length) (cs102 ++ cs170) (List.length_append ..).symm rfl (fun ob177 r178 c179 o180 => ?_)
              have m182 := o180.mx
              refine OW.rv (RV.assign rfl) rfl ?_
              refine OW.nil ?_
              refine QW.block_n ?_
              refine QW.then_n ?_
              refine CW.region ?_
              refine OW.rv (RV.move rfl) rfl ?_
              refine OW.rv (RV.add rfl rfl (by omega)) rfl ?_
              refine OW.slot (.int .i64 (((n108 + 1) : Nat) : Int)) (by first | rfl | (congr 1) | (congr 1; omega)) ?_
              refine OW.rv (RV.assign rfl) rfl ?_
              refine OW.nil ?_
              exact QW.againJ (k' := k88) (Nat.lt_succ_self _) ⟨l93, (((n99 + x118.data.length) + x137.items.length) + 1), (l101 ++ x158.items), (n108 + 1), B91, cs94, A96, c97, (cs102 ++ cs170), ob177, c179, r178, hl89, (fun w m => hB92 w (m)), h95, v98, (by omega), h181, o180, (by omega), rfl, rfl⟩ ⟨rfl, rfl, rfl, rfl, rfl, trivial⟩ (fun w m => m.pick [0] 1 rfl rfl)
          · replace hl89 := if_f hl89 h117
            refine CW.is_f rfl (decide_eq_false h117) ?_
            refine CW.exit ?_
            refine QW.then_x ?_
            refine QW.then_x ?_
            refine QW.block_xe ?_
            exact QW.join ⟨n99, l101, B91, cs102, ob104, c105, r106, (Option.some.inj hl89).symm, (fun w m => (hB92 w (m)).tail), (by omega), h103, o107, rfl, rfl⟩ ⟨rfl, rfl, rfl, trivial⟩ (fun w m => m.pick [0] 1 rfl rfl)
    · replace hl41 := if_f hl41 h48
      refine CW.is_f rfl (decide_eq_false h48) ?_
      refine CW.exit ?_
      refine QW.then_x ?_
      refine QW.then_x ?_
      refine QW.block_xe ?_
      exact QW.join ⟨B27, (Option.some.inj hl41).symm, (fun w m => hB28 w (m)), rfl, rfl⟩ trivial (fun w m => m.pick [] 1 rfl rfl)

theorem waybilllaw07_same_does (w0 : World) (Φ : Ctx) (N : List Ent) (hΦ : ∀ w, Mem w0 w N → Φ w) (A0_ : Option Addr) (c0_ : Nat) (a0 : List (BitVec 8)) (A1_ : Option Addr) (c1_ : Nat) (a1 : List (BitVec 8)) (res0 : Bool) (va0 : View Φ A0_ a0.length c0_ 1 (u8s a0)) (va1 : View Φ A1_ a1.length c1_ 1 (u8s a1)) (hf : waybilllaw07_same a0 a1 = some res0) : DoesG Try.prog 26 [.slice A0_ a0.length c0_, .slice A1_ a1.length c1_] w0 [] N (fun v G => v = .bool res0) := by
  unfold waybilllaw07_same at hf
  replace va0 := va0.mono (Ψ := More w0 Φ []) (fun w q => q.1)
  replace va1 := va1.mono (Ψ := More w0 Φ []) (fun w q => q.1)
  have m1 := va0.mx
  have m2 := va1.mx
  refine DoesG.enter Try.func26 rfl Try.ntmps26 rfl (M := (([] ++ N))) rfl ?_
  refine CW.seq ?_
  refine CW.region ?_
  refine OW.rv (RV.assign rfl) rfl ?_
  refine OW.nil ?_
  refine QW.then_n ?_
  refine CW.seq ?_
  refine CW.seq ?_
  refine CW.region ?_
  refine OW.rv (RV.move rfl) rfl ?_
  refine OW.rv (RV.len rfl rfl) rfl ?_
  refine OW.rv (RV.move rfl) rfl ?_
  refine OW.rv (RV.len rfl rfl) rfl ?_
  refine OW.rv (RV.neq rfl rfl) rfl ?_
  refine OW.slot (.bool (!decide (a0.length = a1.length))) (congrArg (fun b => Value.bool (!b)) (decide_eq_decide.2 (by omega))) ?_
  refine OW.nil ?_
  refine QW.then_n ?_
  by_cases h3 : a0.length = a1.length
  · replace hf := if_t hf h3
    refine CW.is_f rfl (congrArg (fun b => !b) (decide_eq_true h3)) ?_
    refine CW.skip ?_
    refine QW.then_n ?_
    refine CW.seq ?_
    refine CW.seq ?_
    refine CW.region ?_
    refine OW.rv (RV.assign rfl) rfl ?_
    refine OW.nil ?_
    refine QW.then_n ?_
    obtain ⟨q4, hq5, hf⟩ := some_bind hf
    refine CW.cutJ (fun L' M' => q4 = Lp.go () ∧ L' = [] ∧ M' = (([] ++ N))) ?_ ?_
    · rintro L7 M8 ⟨e6, e9, e10⟩
      rw [e9, e10]
      clear e9 e10 L7 M8
      clear hq5
      rw [e6] at hf
      clear e6
      try dsimp only at hf
      refine QW.then_n ?_
      refine CW.seq ?_
      refine CW.region ?_
      refine OW.rv (RV.assign rfl) rfl ?_
      refine OW.nil ?_
      refine QW.then_n ?_
      refine CW.ret ?_
      have e0 := Option.some.inj hf
      subst e0
      refine QW.retG (rs := [.tmp 4]) ([.bool true]) ([]) rfl ?_ rfl ?_ ?_ _ (.inl rfl)
      · exact ⟨rfl, trivial⟩
      · exact rfl
      · exact (fun w m => m)
    · skip
      refine CW.block ?_
      refine CW.loopJ (fun k L' M' => ∃ n11 : Nat, (waybilllaw07_same.l1 a0 a1 k n11) = some q4 ∧ (n11 ≤ 9223372036854775807) ∧ L' = [(0, .slice A0_ a0.length c0_), (1, .slice A1_ a1.length c1_), (5, .int .i64 ((n11 : Nat) : Int))] ∧ M' = (([] ++ N))) (k0 := (a0.length - 0 + 2)) ⟨0, hq5, (by omega), rfl, rfl⟩ ⟨rfl, rfl, rfl, trivial⟩ (fun w m => m.pick [] 0 rfl rfl) ?_
      clear hq5
      rintro k13 L16 M17 ⟨n11, hl14, b12, e18, e19⟩
      rw [e18, e19]
      clear e18 e19 L16 M17
      rcases k13 with _ | k13
      · rw [waybilllaw07_same.l1] at hl14; cases hl14
      rw [waybilllaw07_same.l1] at hl14
      refine CW.seq ?_
      refine CW.seq ?_
      refine CW.region ?_
      refine OW.rv (RV.move rfl) rfl ?_
      refine OW.rv (RV.move rfl) rfl ?_
      refine OW.rv (RV.len rfl rfl) rfl ?_
      refine OW.rv (RV.lss rfl rfl) rfl ?_
      refine OW.slot (.bool (decide (n11 < a0.length))) (congrArg Value.bool (decide_eq_decide.2 (by omega))) ?_
      refine OW.nil ?_
      refine QW.then_n ?_
      by_cases h20 : n11 < a0.length
      · replace hl14 := if_t hl14 h20
        refine CW.is_t rfl (decide_eq_true h20) ?_
        refine CW.skip ?_
        refine QW.then_n ?_
        refine CW.seq ?_
        refine CW.block ?_
        refine CW.seq ?_
        refine CW.drawsU 9 mixed (by kernel_rfl) rfl ?_
        refine UW.rv 0 rfl (by kernel_rfl) rfl (RV.move rfl) rfl ?_
        refine UW.rv 1 rfl (by kernel_rfl) rfl (RV.move rfl) rfl ?_
        obtain ⟨x21, hx22, hl14⟩ := some_bind hl14
        have hl23 := lt_of_at hx22
        refine UW.rv 2 rfl (by kernel_rfl) rfl (RV.idx_r (n11) rfl rfl rfl rfl rfl (va0.isSome (by decide) hl23) (by omega)) rfl ?_
        refine UW.rv 3 rfl (by kernel_rfl) rfl (RV.load_at rfl rfl rfl (fun w m => va0.cell (More.of hΦ 0 m rfl) (u8s_at hx22))) rfl ?_
        refine UW.rv 4 rfl (by kernel_rfl) rfl (RV.move rfl) rfl ?_
        refine UW.rv 5 rfl (by kernel_rfl) rfl (RV.move rfl) rfl ?_
        obtain ⟨x24, hx25, hl14⟩ := some_bind hl14
        have hl26 := lt_of_at hx25
        refine UW.rv 6 rfl (by kernel_rfl) rfl (RV.idx_r (n11) rfl rfl rfl rfl rfl (va1.isSome (by decide) hl26) (by omega)) rfl ?_
        refine UW.rv 7 rfl (by kernel_rfl) rfl (RV.load_at rfl rfl rfl (fun w m => va1.cell (More.of hΦ 0 m rfl) (u8s_at hx25))) rfl ?_
        refine UW.rv 8 rfl (by kernel_rfl) rfl (RV.neq8 rfl (by first | rfl | exact lit8 _ rfl) rfl (by first | rfl | exact lit8 _ rfl)) rfl ?_
        refine UW.nil (by kernel_rfl) ?_
        refine OW.nil ?_
        refine QW.then_n ?_
        by_cases h27 : x21 = x24
        · replace hl14 := if_t hl14 h27
          refine CW.is_f rfl (congrArg (fun b => !b) (decide_eq_true h27)) ?_
          refine CW.skip ?_
          refine QW.block_n ?_
          refine QW.then_n ?_
          refine CW.region ?_
          refine OW.rv (RV.move rfl) rfl ?_
          refine OW.rv (RV.add rfl rfl (by omega)) rfl ?_
          refine OW.slot (.int .i64 (((n11 + 1) : Nat) : Int)) (by first | rfl | (congr 1) | (congr 1; omega)) ?_
          refine OW.rv (RV.assign rfl) rfl ?_
          refine OW.nil ?_
          exact QW.againJ (k' := k13) (Nat.lt_succ_self _) ⟨(n11 + 1), hl14, (by omega), rfl, rfl⟩ ⟨rfl, rfl, rfl, trivial⟩ (fun w m => m.pick [] 0 rfl rfl)
        · replace hl14 := if_f hl14 h27
          refine CW.is_t rfl (congrArg (fun b => !b) (decide_eq_false h27)) ?_
          refine CW.seq ?_
          refine CW.region ?_
          refine OW.rv (RV.assign rfl) rfl ?_
          refine OW.nil ?_
          refine QW.then_n ?_
          refine CW.ret ?_
          refine QW.block_r ?_
          refine QW.then_r ?_
          refine QW.then_r ?_
          refine QW.block_r ?_
          refine QW.then_r ?_
          have hc := Option.some.inj hl14
          subst hc
          try dsimp only at hf
          refine QW.then_r ?_
          have e0 := Option.some.inj hf
          subst e0
          refine QW.retG (rs := [.tmp 4]) ([.bool false]) ([]) rfl ?_ rfl ?_ ?_ _ (.inl rfl)
          · exact ⟨rfl, trivial⟩
          · exact rfl
          · exact (fun w m => m)
      · replace hl14 := if_f hl14 h20
        refine CW.is_f rfl (decide_eq_false h20) ?_
        refine CW.exit ?_
        refine QW.then_x ?_
        refine QW.then_x ?_
        refine QW.block_xe ?_
        exact QW.join ⟨(Option.some.inj hl14).symm, rfl, rfl⟩ trivial (fun w m => m.pick [] 0 rfl rfl)
  · replace hf := if_f hf h3
    refine CW.is_t rfl (congrArg (fun b => !b) (decide_eq_false h3)) ?_
    refine CW.seq ?_
    refine CW.region ?_
    refine OW.rv (RV.assign rfl) rfl ?_
    refine OW.nil ?_
    refine QW.then_n ?_
    refine CW.ret ?_
    refine QW.then_r ?_
    have e0 := Option.some.inj hf
    subst e0
    refine QW.retG (rs := [.tmp 4]) ([.bool false]) ([]) rfl ?_ rfl ?_ ?_ _ (.inl rfl)
    · exact ⟨rfl, trivial⟩
    · exact rfl
    · exact (fun w m => m)

theorem waybilllaw07_twin_does (w0 : World) (Φ : Ctx) (N : List Ent) (hΦ : ∀ w, Mem w0 w N → Φ w) (cs0_ : List Value) (a0 : It) (res0 : It) (ha0 : ItRd Φ cs0_ a0) (hf : waybilllaw07_twin a0 = some res0) : DoesG Try.prog 57 [.agg cs0_.toArray] w0 [] N (fun v G => ∃ B : List Ent, ∃ cr0 : List Value, (ItRd (More w0 Φ B) cr0 res0) ∧ v = .agg cr0.toArray ∧ G = B) := by
  unfold waybilllaw07_twin at hf
  replace ha0 := ItRd.mono (Ψ := More w0 Φ []) (fun w q => q.1) _ _ ha0
  have h10 := ha0
  obtain ⟨A1, c2, A4, c5, cs7, e9, v3, v6, h8⟩ := ItRd.opn ha0
  subst e9
  have m11 := v3.mx
  have m12 := v6.mx
  refine DoesG.enter Try.func57 rfl Try.ntmps57 rfl (M := (([] ++ N))) rfl ?_
  refine CW.seq ?_
  refine CW.region ?_
  refine OW.boxA rfl rfl (fun b13 => ?_)
  refine OW.alloc (l := [.bool false, .slice none 0 0, .slice none 0 0]) rfl rfl rfl (fun b14 => ?_)
  refine OW.nil ?_
  refine QW.then_n ?_
  refine CW.seq ?_
  refine CW.region ?_
  refine OW.rv (RV.loadW rfl (List.Mem.tail _ (List.Mem.head _)) rfl rfl rfl rfl rfl) rfl ?_
  refine OW.ofN (NV.bsA rfl rfl (by intro x hx; simp at hx; subst hx; rfl) rfl rfl rfl (by decide) (by decide) rfl) rfl (fun b15 => ?_)
  have h18 : Reps (ItRd (More w0 Φ [])) (([.bool (a0.list), .slice A1 a0.data.length c2, .slice A4 a0.items.length c5] : List Value)) [a0] := Reps.one h10
  refine OW.mem (M' := (((some b15), blk ((([.bool (a0.list), .slice A1 a0.data.length c2, .slice A4 a0.items.length c5] : List Value)) ++ []) 29) :: (some b14, blk [.bool false, .slice none 0 0, .slice none 0 0] 29) :: (some b13, blk [.bool (a0.list), .slice A1 a0.data.length c2, .slice A4 a0.items.length c5] 29) :: ([] ++ N))) (fun w m => m) ?_
  have o16 : OwnS (some b15) ([a0] : List (It)).length 1 3 (([.bool (a0.list), .slice A1 a0.data.length c2, .slice A4 a0.items.length c5] : List Value)) [] := ⟨by simp [ItRd], by simp [ItRd], (fun h => nomatch h), by simp⟩
  refine OW.slot (sl (some b15) 0 ([a0] : List (It)).length 1) (rfl) ?_
  refine OW.mem (M' := (some b14, blk [.bool false, .slice none 0 0, .slice none 0 0] 29) :: (some b13, blk [.bool (a0.list), .slice A1 a0.data.length c2, .slice A4 a0.items.length c5] 29) :: ((((some b15), blk ((([.bool (a0.list), .slice A1 a0.data.length c2, .slice A4 a0.items.length c5] : List Value)) ++ []) 29) :: []) ++ N)) (fun w m => m.pick [1, 2, 0] 3 rfl rfl) ?_
  replace h10 := ItRd.mono (Ψ := More w0 Φ (((some b15), blk ((([.bool (a0.list), .slice A1 a0.data.length c2, .slice A4 a0.items.length c5] : List Value)) ++ []) 29) :: [])) (fun w q => More.mono (fun w m => (m).tail) q) _ _ h10
  replace v3 := v3.mono (Ψ := More w0 Φ (((some b15), blk ((([.bool (a0.list), .slice A1 a0.data.length c2, .slice A4 a0.items.length c5] : List Value)) ++ []) 29) :: [])) (fun w q => More.mono (fun w m => (m).tail) q)
  replace v6 := v6.mono (Ψ := More w0 Φ (((some b15), blk ((([.bool (a0.list), .slice A1 a0.data.length c2, .slice A4 a0.items.length c5] : List Value)) ++ []) 29) :: [])) (fun w q => More.mono (fun w m => (m).tail) q)
  replace h8 := h8.mono (ItRd.mono (Ψ := More w0 Φ (((some b15), blk ((([.bool (a0.list), .slice A1 a0.data.length c2, .slice A4 a0.items.length c5] : List Value)) ++ []) 29) :: [])) (fun w q => More.mono (fun w m => (m).tail) q))
  replace h18 := h18.mono (ItRd.mono (Ψ := More w0 Φ (((some b15), blk ((([.bool (a0.list), .slice A1 a0.data.length c2, .slice A4 a0.items.length c5] : List Value)) ++ []) 29) :: [])) (fun w q => More.mono (fun w m => (m).tail) q))
  have v19 : View (More w0 Φ (((some b15), blk ((([.bool (a0.list), .slice A1 a0.data.length c2, .slice A4 a0.items.length c5] : List Value)) ++ []) 29) :: [])) (((some b15)).map fun k => ⟨k, 0, none⟩) ([a0] : List (It)).length 1 3 (([.bool (a0.list), .slice A1 a0.data.length c2, .slice A4 a0.items.length c5] : List Value)) := o16.view (by decide) (fun w q => q.2.sublist (List.singleton_sublist.2 (List.mem_cons_self ..)))
  obtain ⟨x21, hx20, hf⟩ := some_bind hf
  refine OW.callG Try.call16 rfl (waybillref07_Copy_does w0 (More w0 Φ (((some b15), blk ((([.bool (a0.list), .slice A1 a0.data.length c2, .slice A4 a0.items.length c5] : List Value)) ++ []) 29) :: [])) ((some b14, blk [.bool false, .slice none 0 0, .slice none 0 0] 29) :: (some b13, blk [.bool (a0.list), .slice A1 a0.data.length c2, .slice A4 a0.items.length c5] 29) :: ((((some b15), blk ((([.bool (a0.list), .slice A1 a0.data.length c2, .slice A4 a0.items.length c5] : List Value)) ++ []) 29) :: []) ++ N)) (fun w m => More.of hΦ 2 m rfl) (((some b15)).map fun k => ⟨k, 0, none⟩) 1 (([.bool (a0.list), .slice A1 a0.data.length c2, .slice A4 a0.items.length c5] : List Value)) ([a0] : List (It)) x21 v19 h18 hx20) rfl rfl ?_
  rintro L29 M30 ⟨B22, cs23, ob25, c26, r27, h24, o28, e31, e32⟩
  rw [e31, e32]
  clear e31 e32 L29 M30
  refine OW.mem (M' := ((ob25, blk (cs23 ++ r27) 29) :: (some b14, blk [.bool false, .slice none 0 0, .slice none 0 0] 29) :: (some b13, blk [.bool (a0.list), .slice A1 a0.data.length c2, .slice A4 a0.items.length c5] 29) :: ((B22 ++ (((some b15), blk ((([.bool (a0.list), .slice A1 a0.data.length c2, .slice A4 a0.items.length c5] : List Value)) ++ []) 29) :: [])) ++ N))) (fun w m => by have h := Mem.sinkAt (A := B22) m 1 2 rfl rfl; exact h) ?_
  replace h10 := ItRd.mono (Ψ := More w0 Φ (B22 ++ (((some b15), blk ((([.bool (a0.list), .slice A1 a0.data.length c2, .slice A4 a0.items.length c5] : List Value)) ++ []) 29) :: []))) (fun w q => More.mono (fun w m => (m).appR) q) _ _ h10
  replace v3 := v3.mono (Ψ := More w0 Φ (B22 ++ (((some b15), blk ((([.bool (a0.list), .slice A1 a0.data.length c2, .slice A4 a0.items.length c5] : List Value)) ++ []) 29) :: []))) (fun w q => More.mono (fun w m => (m).appR) q)
  replace v6 := v6.mono (Ψ := More w0 Φ (B22 ++ (((some b15), blk ((([.bool (a0.list), .slice A1 a0.data.length c2, .slice A4 a0.items.length c5] : List Value)) ++ []) 29) :: []))) (fun w q => More.mono (fun w m => (m).appR) q)
  replace h8 := h8.mono (ItRd.mono (Ψ := More w0 Φ (B22 ++ (((some b15), blk ((([.bool (a0.list), .slice A1 a0.data.length c2, .slice A4 a0.items.length c5] : List Value)) ++ []) 29) :: []))) (fun w q => More.mono (fun w m => (m).appR) q))
  replace v19 := v19.mono (Ψ := More w0 Φ (B22 ++ (((some b15), blk ((([.bool (a0.list), .slice A1 a0.data.length c2, .slice A4 a0.items.length c5] : List Value)) ++ []) 29) :: []))) (fun w q => More.mono (fun w m => (m).appR) q)
  replace h18 := h18.mono (ItRd.mono (Ψ := More w0 Φ (B22 ++ (((some b15), blk ((([.bool (a0.list), .slice A1 a0.data.length c2, .slice A4 a0.items.length c5] : List Value)) ++ []) 29) :: []))) (fun w q => More.mono (fun w m => (m).appR) q))
  replace h24 := h24.mono (ItRd.mono (Ψ := (More w0 Φ (B22 ++ (((some b15), blk ((([.bool (a0.list), .slice A1 a0.data.length c2, .slice A4 a0.items.length c5] : List Value)) ++ []) 29) :: [])))) (fun w q => More.flat q))
  have m33 := o28.mx
  refine OW.mem (M' := (some b14, blk [.bool false, .slice none 0 0, .slice none 0 0] 29) :: (some b13, blk [.bool (a0.list), .slice A1 a0.data.length c2, .slice A4 a0.items.length c5] 29) :: (((ob25, blk (cs23 ++ r27) 29) :: (B22 ++ (((some b15), blk ((([.bool (a0.list), .slice A1 a0.data.length c2, .slice A4 a0.items.length c5] : List Value)) ++ []) 29) :: []))) ++ N)) (fun w m => m.pick [1, 2, 0] 3 rfl rfl) ?_
  replace h10 := ItRd.mono (Ψ := More w0 Φ ((ob25, blk (cs23 ++ r27) 29) :: (B22 ++ (((some b15), blk ((([.bool (a0.list), .slice A1 a0.data.length c2, .slice A4 a0.items.length c5] : List Value)) ++ []) 29) :: [])))) (fun w q => More.mono (fun w m => (m).tail) q) _ _ h10
  replace v3 := v3.mono (Ψ := More w0 Φ ((ob25, blk (cs23 ++ r27) 29) :: (B22 ++ (((some b15), blk ((([.bool (a0.list), .slice A1 a0.data.length c2, .slice A4 a0.items.length c5] : List Value)) ++ []) 29) :: [])))) (fun w q => More.mono (fun w m => (m).tail) q)
  replace v6 := v6.mono (Ψ := More w0 Φ ((ob25, blk (cs23 ++ r27) 29) :: (B22 ++ (((some b15), blk ((([.bool (a0.list), .slice A1 a0.data.length c2, .slice A4 a0.items.length c5] : List Value)) ++ []) 29) :: [])))) (fun w q => More.mono (fun w m => (m).tail) q)
  replace h8 := h8.mono (ItRd.mono (Ψ := More w0 Φ ((ob25, blk (cs23 ++ r27) 29) :: (B22 ++ (((some b15), blk ((([.bool (a0.list), .slice A1 a0.data.length c2, .slice A4 a0.items.length c5] : List Value)) ++ []) 29) :: [])))) (fun w q => More.mono (fun w m => (m).tail) q))
  replace v19 := v19.mono (Ψ := More w0 Φ ((ob25, blk (cs23 ++ r27) 29) :: (B22 ++ (((some b15), blk ((([.bool (a0.list), .slice A1 a0.data.length c2, .slice A4 a0.items.length c5] : List Value)) ++ []) 29) :: [])))) (fun w q => More.mono (fun w m => (m).tail) q)
  replace h18 := h18.mono (ItRd.mono (Ψ := More w0 Φ ((ob25, blk (cs23 ++ r27) 29) :: (B22 ++ (((some b15), blk ((([.bool (a0.list), .slice A1 a0.data.length c2, .slice A4 a0.items.length c5] : List Value)) ++ []) 29) :: [])))) (fun w q => More.mono (fun w m => (m).tail) q))
  replace h24 := h24.mono (ItRd.mono (Ψ := More w0 Φ ((ob25, blk (cs23 ++ r27) 29) :: (B22 ++ (((some b15), blk ((([.bool (a0.list), .slice A1 a0.data.length c2, .slice A4 a0.items.length c5] : List Value)) ++ []) 29) :: [])))) (fun w q => More.mono (fun w m => (m).tail) q))
  have v34 : View (More w0 Φ ((ob25, blk (cs23 ++ r27) 29) :: (B22 ++ (((some b15), blk ((([.bool (a0.list), .slice A1 a0.data.length c2, .slice A4 a0.items.length c5] : List Value)) ++ []) 29) :: [])))) ((ob25).map fun k => ⟨k, 0, none⟩) x21.length c26 3 cs23 := o28.view (by decide) (fun w q => q.2.sublist (List.singleton_sublist.2 (List.mem_cons_self ..)))
  obtain ⟨x35, hx36, hf⟩ := some_bind hf
  have hl37 := lt_of_at hx36
  refine OW.rv (RV.idx_rs (0) rfl rfl rfl rfl rfl (v34.isSome (by decide) hl37) (by omega)) rfl ?_
  obtain ⟨cs38, h39, h40⟩ := h24.get ItRd.len hx36
  have h50 := h39
  obtain ⟨A41, c42, A44, c45, cs47, e49, v43, v46, h48⟩ := ItRd.opn h39
  subst e49
  have m51 := v43.mx
  have m52 := v46.mx
  refine OW.rv (RV.loadAs rfl rfl rfl rfl (fun w m => v34.load (More.of hΦ 2 m rfl) h40) rfl) rfl ?_
  refine OW.sv (SV.storeW rfl rfl rfl (by intro u hu; simp at hu; rcases hu with rfl | rfl | rfl <;> rfl) rfl rfl rfl) ?_
  refine OW.nil ?_
  refine QW.then_n ?_
  refine CW.ret ?_
  have e0 := Option.some.inj hf
  subst e0
  refine QW.retG (rs := [.cell 2 29]) ([.agg [.bool (x35.list), .slice A41 x35.data.length c42, .slice A44 x35.items.length c45].toArray]) (((ob25, blk (cs23 ++ r27) 29) :: (B22 ++ (((some b15), blk ((([.bool (a0.list), .slice A1 a0.data.length c2, .slice A4 a0.items.length c5] : List Value)) ++ []) 29) :: [])))) rfl ?_ rfl ?_ ?_ _ (.inl rfl)
  · exact ⟨⟨_, _, _, _, rfl, (List.Mem.head _), rfl, rfl, rfl, rfl⟩, trivial⟩
  · exact ⟨((ob25, blk (cs23 ++ r27) 29) :: (B22 ++ (((some b15), blk ((([.bool (a0.list), .slice A1 a0.data.length c2, .slice A4 a0.items.length c5] : List Value)) ++ []) 29) :: []))), [.bool (x35.list), .slice A41 x35.data.length c42, .slice A44 x35.items.length c45], h50, rfl, rfl⟩
  · exact (fun w m => m.pick [] 2 rfl rfl)
theorem copy_one (w0 : World) (kf : Nat) (Φ : Ctx) (N : List Ent) (hΦ : ∀ w, Mem w0 w N → Φ w) (A0_ : Option Addr) (c0_ : Nat) (cs0_ : List Value) (a0 : List (It)) (res0 : List (It)) (hone : a0.length = 1) (va0 : View Φ A0_ a0.length c0_ 3 cs0_) (ha0 : Reps (ItRd Φ) cs0_ a0) (hf : waybillref07_Copy.r (kf + 1) a0 = some res0) : DoesG Try.prog 16 [.slice A0_ a0.length c0_] w0 [] N (fun v G => ∃ (B : List Ent) (x : It) (A1 : Option Addr) (c1 : Nat) (ob2 : Option Nat) (c2 : Nat) (cells r2 : List Value) (ob3 : Option Nat) (c3 : Nat) (r3 : List Value), res0 = [x] ∧ View (More w0 Φ B) A1 x.data.length c1 1 (u8s x.data) ∧ Reps (ItRd (More w0 Φ B)) cells x.items ∧ OwnS ob2 x.items.length c2 3 cells r2 ∧ OwnS ob3 1 c3 3 [.bool x.list, .slice A1 x.data.length c1, sl ob2 0 x.items.length c2] r3 ∧ v = sl ob3 0 1 c3 ∧ G = (ob3, blk ([.bool x.list, .slice A1 x.data.length c1, sl ob2 0 x.items.length c2] ++ r3) 29) :: (ob2, blk (cells ++ r2) 29) :: B) := by
  have ih := waybillref07_Copy_rec w0 kf
  rw [waybillref07_Copy.r] at hf
  replace va0 := va0.mono (Ψ := More w0 Φ []) (fun w q => q.1)
  replace ha0 := ha0.mono (ItRd.mono (Ψ := More w0 Φ []) (fun w q => q.1))
  have m1 := va0.mx
  refine DoesG.enter Try.func16 rfl Try.ntmps16 rfl (M := (([] ++ N))) rfl ?_
  refine CW.seq ?_
  refine CW.region ?_
  refine OW.rv (RV.assign rfl) rfl ?_
  refine OW.nil ?_
  refine QW.then_n ?_
  refine CW.seq ?_
  refine CW.region ?_
  refine OW.rv (RV.assign rfl) rfl ?_
  refine OW.nil ?_
  refine QW.then_n ?_
  refine CW.seq ?_
  refine CW.seq ?_
  refine CW.region ?_
  refine OW.rv (RV.assign rfl) rfl ?_
  refine OW.nil ?_
  refine QW.then_n ?_
  obtain ⟨q2, hq3, hf⟩ := some_bind hf
  refine CW.cutJ (fun L' M' => ∃ (B : List Ent) (x : It) (A1 : Option Addr) (c1 : Nat) (ob2 : Option Nat) (c2 : Nat) (cells r2 : List Value) (ob3 : Option Nat) (c3 : Nat) (r3 : List Value), q2 = [x] ∧ View (More w0 Φ B) A1 x.data.length c1 1 (u8s x.data) ∧ Reps (ItRd (More w0 Φ B)) cells x.items ∧ OwnS ob2 x.items.length c2 3 cells r2 ∧ OwnS ob3 1 c3 3 [.bool x.list, .slice A1 x.data.length c1, sl ob2 0 x.items.length c2] r3 ∧ L' = [(3, sl ob3 0 1 c3)] ∧ M' = (ob3, blk ([.bool x.list, .slice A1 x.data.length c1, sl ob2 0 x.items.length c2] ++ r3) 29) :: (ob2, blk (cells ++ r2) 29) :: (B ++ N)) ?_ ?_
  · rintro L14 M15 ⟨B, x, A1, c1, ob2, c2, cells, r2, ob3, c3, r3, e13, hv, hr, ho2, ho3, e16, e17⟩
    rw [e16, e17]
    clear e16 e17 L14 M15
    clear hq3
    rw [e13] at hf
    clear e13
    try dsimp only at hf
    refine QW.then_n ?_
    refine CW.seq ?_
    refine CW.region ?_
    refine OW.rv (RV.move rfl) rfl ?_
    refine OW.rv (RV.assign rfl) rfl ?_
    refine OW.nil ?_
    refine QW.then_n ?_
    refine CW.ret ?_
    have e0 := Option.some.inj hf
    subst e0
    refine QW.retG (rs := [.tmp 2]) ([sl ob3 0 1 c3]) ((ob3, blk ([.bool x.list, .slice A1 x.data.length c1, sl ob2 0 x.items.length c2] ++ r3) 29) :: (ob2, blk (cells ++ r2) 29) :: B) rfl ?_ rfl ?_ ?_ _ (.inl rfl)
    · exact ⟨rfl, trivial⟩
    · exact ⟨B, x, A1, c1, ob2, c2, cells, r2, ob3, c3, r3, rfl, hv, hr, ho2, ho3, rfl, rfl⟩
    · exact (fun w m => m)
  · skip
    refine CW.block ?_
    refine CW.mem (M' := ((none, blk ([] ++ []) 29) :: ([] ++ N))) (fun w m => m.nil_ent _) ?_
    refine CW.loopJ (fun k L' M' => (∃ l21 : List (It), ∃ n28 : Nat, ∃ B19 : List Ent, ∃ cs22 : List Value, ∃ ob24 : Option Nat, ∃ c25 : Nat, ∃ r26 : List Value, (waybillref07_Copy.l1 a0 (waybillref07_Copy.r kf) k l21 n28) = some q2 ∧ (∀ w, Mem w0 w B19 → Mem w0 w []) ∧ (Reps (ItRd (More w0 Φ B19)) cs22 l21) ∧ (OwnS ob24 l21.length c25 3 cs22 r26) ∧ (n28 ≤ 9223372036854775807) ∧ n28 = 0 ∧ l21 = [] ∧ cs22 = [] ∧ L' = [(0, .slice A0_ a0.length c0_), (3, sl ob24 0 l21.length c25), (4, .int .i64 ((n28 : Nat) : Int))] ∧ M' = ((ob24, blk (cs22 ++ r26) 29) :: (B19 ++ N))) ∨ (∃ (B : List Ent) (x : It) (A1 : Option Addr) (c1 : Nat) (ob2 : Option Nat) (c2 : Nat) (cells r2 : List Value) (ob3 : Option Nat) (c3 : Nat) (r3 : List Value), (waybillref07_Copy.l1 a0 (waybillref07_Copy.r kf) k [x] 1) = some q2 ∧ View (More w0 Φ B) A1 x.data.length c1 1 (u8s x.data) ∧ Reps (ItRd (More w0 Φ B)) cells x.items ∧ OwnS ob2 x.items.length c2 3 cells r2 ∧ OwnS ob3 1 c3 3 [.bool x.list, .slice A1 x.data.length c1, sl ob2 0 x.items.length c2] r3 ∧ L' = [(0, .slice A0_ a0.length c0_), (3, sl ob3 0 1 c3), (4, .int .i64 ((1 : Nat) : Int))] ∧ M' = (ob3, blk ([.bool x.list, .slice A1 x.data.length c1, sl ob2 0 x.items.length c2] ++ r3) 29) :: (ob2, blk (cells ++ r2) 29) :: (B ++ N))) (k0 := (a0.length - 0 + 2)) (.inl ⟨([] : List (It)), 0, [], [], none, 0, [], hq3, (fun w m => m), Reps.nil, OwnS.nil, (by omega), rfl, rfl, rfl, rfl, rfl⟩) ⟨rfl, rfl, rfl, trivial⟩ (fun w m => m.pick [0] 1 rfl rfl) ?_
    clear hq3
    rintro k30 L33 M34 (⟨l21, n28, B19, cs22, ob24, c25, r26, hl31, hB20, h23, o27, b29, en, el, ec, e35, e36⟩ | ⟨B, x, A1, c1, ob2, c2, cells, r2, ob3, c3, r3, hl31, hv, hr, ho2, ho3, e35, e36⟩)
    · rw [e35, e36]
      clear e35 e36 L33 M34
      rcases k30 with _ | k30
      · rw [waybillref07_Copy.l1] at hl31; cases hl31
      rw [waybillref07_Copy.l1] at hl31
      replace va0 := va0.mono (Ψ := More w0 Φ B19) (fun w q => More.mono (fun w m => hB20 w (m)) q)
      replace ha0 := ha0.mono (ItRd.mono (Ψ := More w0 Φ B19) (fun w q => More.mono (fun w m => hB20 w (m)) q))
      have m37 := o27.mx
      refine CW.seq ?_
      refine CW.seq ?_
      refine CW.region ?_
      refine OW.rv (RV.move rfl) rfl ?_
      refine OW.rv (RV.move rfl) rfl ?_
      refine OW.rv (RV.len rfl rfl) rfl ?_
      refine OW.rv (RV.lss rfl rfl) rfl ?_
      refine OW.slot (.bool (decide (n28 < a0.length))) (congrArg Value.bool (decide_eq_decide.2 (by omega))) ?_
      refine OW.nil ?_
      refine QW.then_n ?_
      by_cases h38 : n28 < a0.length
      · replace hl31 := if_t hl31 h38
        refine CW.is_t rfl (decide_eq_true h38) ?_
        refine CW.skip ?_
        refine QW.then_n ?_
        refine CW.seq ?_
        refine CW.block ?_
        refine CW.seq ?_
        refine CW.region ?_
        refine OW.rv (RV.move rfl) rfl ?_
        refine OW.rv (RV.move rfl) rfl ?_
        obtain ⟨x39, hx40, hl31⟩ := some_bind hl31
        have hl41 := lt_of_at hx40
        refine OW.rv (RV.idx_rs (n28) rfl rfl rfl rfl rfl (va0.isSome (by decide) hl41) (by omega)) rfl ?_
        obtain ⟨cs42, h43, h44⟩ := ha0.get ItRd.len hx40
        have h54 := h43
        obtain ⟨A45, c46, A48, c49, cs51, e53, v47, v50, h52⟩ := ItRd.opn h43
        subst e53
        have m55 := v47.mx
        have m56 := v50.mx
        refine OW.rv (RV.loadAs rfl rfl rfl rfl (fun w m => va0.load (More.of hΦ 1 m rfl) h44) rfl) rfl ?_
        refine OW.alloc (l := [.bool false, .slice none 0 0, .slice none 0 0]) rfl rfl rfl (fun b57 => ?_)
        refine OW.sv (SV.storeW rfl rfl rfl (by intro u hu; simp at hu; rcases hu with rfl | rfl | rfl <;> rfl) rfl rfl rfl) ?_
        refine OW.nil ?_
        refine QW.then_n ?_
        refine CW.drawsU 11 mixed (by kernel_rfl) rfl ?_
        refine UW.rv 0 rfl (by kernel_rfl) rfl (RV.move rfl) rfl ?_
        refine UW.rv 1 rfl (by kernel_rfl) rfl (RV.field rfl rfl rfl rfl) rfl ?_
        refine UW.rv 2 rfl (by kernel_rfl) rfl (RV.load rfl (List.Mem.head _) rfl rfl rfl rfl) rfl ?_
        refine UW.rv 3 rfl (by kernel_rfl) rfl (RV.field rfl rfl rfl rfl) rfl ?_
        refine UW.rv 4 rfl (by kernel_rfl) rfl (RV.load rfl (List.Mem.head _) rfl rfl rfl rfl) rfl ?_
        refine UW.rv 6 rfl (by kernel_rfl) rfl (RV.field rfl rfl rfl rfl) rfl ?_
        refine UW.rv 7 rfl (by kernel_rfl) rfl (RV.load rfl (List.Mem.head _) rfl rfl rfl rfl) rfl ?_
        obtain ⟨x59, hx58, hl31⟩ := some_bind hl31
        refine UW.callG 5 rfl (by kernel_rfl) rfl Try.call62 rfl (fun N' hN' => waybillref07_bytes_does w0 (More w0 Φ B19) N' (fun w m => More.of hΦ 2 (hN' w m) rfl) A45 c46 x39.data x59 v47 hx58) rfl ?_
        rintro L65 M66 ⟨B60, ob61, c62, r63, o64, e67, e68⟩
        rw [e67, e68]
        clear e67 e68 L65 M66
        refine UW.mem (M' := ((ob61, blk ((u8s x59) ++ r63) 5) :: (some b57, blk [.bool (x39.list), .slice A45 x39.data.length c46, .slice A48 x39.items.length c49] 29) :: (ob24, blk (cs22 ++ r26) 29) :: ((B60 ++ B19) ++ N))) (fun w m => by have h := Mem.sinkAt (A := B60) m 1 2 rfl rfl; exact h) ?_
        replace va0 := va0.mono (Ψ := More w0 Φ (B60 ++ B19)) (fun w q => More.mono (fun w m => (m).appR) q)
        replace ha0 := ha0.mono (ItRd.mono (Ψ := More w0 Φ (B60 ++ B19)) (fun w q => More.mono (fun w m => (m).appR) q))
        replace h23 := h23.mono (ItRd.mono (Ψ := More w0 Φ (B60 ++ B19)) (fun w q => More.mono (fun w m => (m).appR) q))
        replace h54 := ItRd.mono (Ψ := More w0 Φ (B60 ++ B19)) (fun w q => More.mono (fun w m => (m).appR) q) _ _ h54
        replace v47 := v47.mono (Ψ := More w0 Φ (B60 ++ B19)) (fun w q => More.mono (fun w m => (m).appR) q)
        replace v50 := v50.mono (Ψ := More w0 Φ (B60 ++ B19)) (fun w q => More.mono (fun w m => (m).appR) q)
        replace h52 := h52.mono (ItRd.mono (Ψ := More w0 Φ (B60 ++ B19)) (fun w q => More.mono (fun w m => (m).appR) q))
        have m69 := o64.mx
        obtain ⟨x71, hx70, hl31⟩ := some_bind hl31
        refine UW.callG 8 rfl (by kernel_rfl) rfl Try.call16 rfl (fun N' hN' => ih (More w0 Φ (B60 ++ B19)) N' (fun w m => More.of hΦ 3 (hN' w m) rfl) A48 c49 cs51 x39.items x71 v50 h52 hx70) rfl ?_
        rintro L79 M80 ⟨B72, cs73, ob75, c76, r77, h74, o78, e81, e82⟩
        rw [e81, e82]
        clear e81 e82 L79 M80
        refine UW.mem (M' := ((ob75, blk (cs73 ++ r77) 29) :: (ob61, blk ((u8s x59) ++ r63) 5) :: (some b57, blk [.bool (x39.list), .slice A45 x39.data.length c46, .slice A48 x39.items.length c49] 29) :: (ob24, blk (cs22 ++ r26) 29) :: ((B72 ++ (B60 ++ B19)) ++ N))) (fun w m => by have h := Mem.sinkAt (A := B72) m 1 3 rfl rfl; exact h) ?_
        replace va0 := va0.mono (Ψ := More w0 Φ (B72 ++ (B60 ++ B19))) (fun w q => More.mono (fun w m => (m).appR) q)
        replace ha0 := ha0.mono (ItRd.mono (Ψ := More w0 Φ (B72 ++ (B60 ++ B19))) (fun w q => More.mono (fun w m => (m).appR) q))
        replace h23 := h23.mono (ItRd.mono (Ψ := More w0 Φ (B72 ++ (B60 ++ B19))) (fun w q => More.mono (fun w m => (m).appR) q))
        replace h54 := ItRd.mono (Ψ := More w0 Φ (B72 ++ (B60 ++ B19))) (fun w q => More.mono (fun w m => (m).appR) q) _ _ h54
        replace v47 := v47.mono (Ψ := More w0 Φ (B72 ++ (B60 ++ B19))) (fun w q => More.mono (fun w m => (m).appR) q)
        replace v50 := v50.mono (Ψ := More w0 Φ (B72 ++ (B60 ++ B19))) (fun w q => More.mono (fun w m => (m).appR) q)
        replace h52 := h52.mono (ItRd.mono (Ψ := More w0 Φ (B72 ++ (B60 ++ B19))) (fun w q => More.mono (fun w m => (m).appR) q))
        replace h74 := h74.mono (ItRd.mono (Ψ := (More w0 Φ (B72 ++ (B60 ++ B19)))) (fun w q => More.flat q))
        have m83 := o78.mx
        refine UW.rv 9 rfl (by kernel_rfl) rfl (RV.buildSt (l := [.bool false, .slice none 0 0, .slice none 0 0]) (cs := [.bool (x39.list), sl ob61 0 x59.length c62, sl ob75 0 x71.length c76]) [(0, [.bool (x39.list)]), (1, [sl ob61 0 x59.length c62]), (2, [sl ob75 0 x71.length c76])] rfl rfl rfl rfl rfl rfl rfl) rfl ?_
        refine UW.mem (M' := (ob75, blk (cs73 ++ r77) 29) :: (some b57, blk [.bool (x39.list), .slice A45 x39.data.length c46, .slice A48 x39.items.length c49] 29) :: (ob24, blk (cs22 ++ r26) 29) :: (((ob61, blk ((u8s x59) ++ r63) 5) :: (B72 ++ (B60 ++ B19))) ++ N)) (fun w m => m.pick [0, 2, 3, 1] 4 rfl rfl) ?_
        replace va0 := va0.mono (Ψ := More w0 Φ ((ob61, blk ((u8s x59) ++ r63) 5) :: (B72 ++ (B60 ++ B19)))) (fun w q => More.mono (fun w m => (m).tail) q)
        replace ha0 := ha0.mono (ItRd.mono (Ψ := More w0 Φ ((ob61, blk ((u8s x59) ++ r63) 5) :: (B72 ++ (B60 ++ B19)))) (fun w q => More.mono (fun w m => (m).tail) q))
        replace h23 := h23.mono (ItRd.mono (Ψ := More w0 Φ ((ob61, blk ((u8s x59) ++ r63) 5) :: (B72 ++ (B60 ++ B19)))) (fun w q => More.mono (fun w m => (m).tail) q))
        replace h54 := ItRd.mono (Ψ := More w0 Φ ((ob61, blk ((u8s x59) ++ r63) 5) :: (B72 ++ (B60 ++ B19)))) (fun w q => More.mono (fun w m => (m).tail) q) _ _ h54
        replace v47 := v47.mono (Ψ := More w0 Φ ((ob61, blk ((u8s x59) ++ r63) 5) :: (B72 ++ (B60 ++ B19)))) (fun w q => More.mono (fun w m => (m).tail) q)
        replace v50 := v50.mono (Ψ := More w0 Φ ((ob61, blk ((u8s x59) ++ r63) 5) :: (B72 ++ (B60 ++ B19)))) (fun w q => More.mono (fun w m => (m).tail) q)
        replace h52 := h52.mono (ItRd.mono (Ψ := More w0 Φ ((ob61, blk ((u8s x59) ++ r63) 5) :: (B72 ++ (B60 ++ B19)))) (fun w q => More.mono (fun w m => (m).tail) q))
        replace h74 := h74.mono (ItRd.mono (Ψ := More w0 Φ ((ob61, blk ((u8s x59) ++ r63) 5) :: (B72 ++ (B60 ++ B19)))) (fun w q => More.mono (fun w m => (m).tail) q))
        have v86 : View (More w0 Φ ((ob61, blk ((u8s x59) ++ r63) 5) :: (B72 ++ (B60 ++ B19)))) ((ob61).map fun k => ⟨k, 0, none⟩) x59.length c62 1 (u8s x59) := o64.view (by decide) (fun w q => q.2.sublist (List.singleton_sublist.2 (List.mem_cons_self ..)))
        have v86k := v86
        have h74k := h74
        refine UW.mem (M' := (some b57, blk [.bool (x39.list), .slice A45 x39.data.length c46, .slice A48 x39.items.length c49] 29) :: (ob24, blk (cs22 ++ r26) 29) :: (((ob75, blk (cs73 ++ r77) 29) :: ((ob61, blk ((u8s x59) ++ r63) 5) :: (B72 ++ (B60 ++ B19)))) ++ N)) (fun w m => m.pick [1, 2, 0] 3 rfl rfl) ?_
        replace va0 := va0.mono (Ψ := More w0 Φ ((ob75, blk (cs73 ++ r77) 29) :: ((ob61, blk ((u8s x59) ++ r63) 5) :: (B72 ++ (B60 ++ B19))))) (fun w q => More.mono (fun w m => (m).tail) q)
        replace ha0 := ha0.mono (ItRd.mono (Ψ := More w0 Φ ((ob75, blk (cs73 ++ r77) 29) :: ((ob61, blk ((u8s x59) ++ r63) 5) :: (B72 ++ (B60 ++ B19))))) (fun w q => More.mono (fun w m => (m).tail) q))
        replace h23 := h23.mono (ItRd.mono (Ψ := More w0 Φ ((ob75, blk (cs73 ++ r77) 29) :: ((ob61, blk ((u8s x59) ++ r63) 5) :: (B72 ++ (B60 ++ B19))))) (fun w q => More.mono (fun w m => (m).tail) q))
        replace h54 := ItRd.mono (Ψ := More w0 Φ ((ob75, blk (cs73 ++ r77) 29) :: ((ob61, blk ((u8s x59) ++ r63) 5) :: (B72 ++ (B60 ++ B19))))) (fun w q => More.mono (fun w m => (m).tail) q) _ _ h54
        replace v47 := v47.mono (Ψ := More w0 Φ ((ob75, blk (cs73 ++ r77) 29) :: ((ob61, blk ((u8s x59) ++ r63) 5) :: (B72 ++ (B60 ++ B19))))) (fun w q => More.mono (fun w m => (m).tail) q)
        replace v50 := v50.mono (Ψ := More w0 Φ ((ob75, blk (cs73 ++ r77) 29) :: ((ob61, blk ((u8s x59) ++ r63) 5) :: (B72 ++ (B60 ++ B19))))) (fun w q => More.mono (fun w m => (m).tail) q)
        replace h52 := h52.mono (ItRd.mono (Ψ := More w0 Φ ((ob75, blk (cs73 ++ r77) 29) :: ((ob61, blk ((u8s x59) ++ r63) 5) :: (B72 ++ (B60 ++ B19))))) (fun w q => More.mono (fun w m => (m).tail) q))
        replace v86 := v86.mono (Ψ := More w0 Φ ((ob75, blk (cs73 ++ r77) 29) :: ((ob61, blk ((u8s x59) ++ r63) 5) :: (B72 ++ (B60 ++ B19))))) (fun w q => More.mono (fun w m => (m).tail) q)
        replace h74 := h74.mono (ItRd.mono (Ψ := More w0 Φ ((ob75, blk (cs73 ++ r77) 29) :: ((ob61, blk ((u8s x59) ++ r63) 5) :: (B72 ++ (B60 ++ B19))))) (fun w q => More.mono (fun w m => (m).tail) q))
        have v87 : View (More w0 Φ ((ob75, blk (cs73 ++ r77) 29) :: ((ob61, blk ((u8s x59) ++ r63) 5) :: (B72 ++ (B60 ++ B19))))) ((ob75).map fun k => ⟨k, 0, none⟩) x71.length c76 3 cs73 := o78.view (by decide) (fun w q => q.2.sublist (List.singleton_sublist.2 (List.mem_cons_self ..)))
        refine UW.new 10 rfl (by kernel_rfl) rfl (NV.bsA rfl rfl (by intro x hx; simp at hx; subst hx; rfl) rfl rfl rfl (by decide) (by decide) rfl) rfl (fun b84 => ?_)
        have h89 : Reps (ItRd (More w0 Φ ((ob75, blk (cs73 ++ r77) 29) :: ((ob61, blk ((u8s x59) ++ r63) 5) :: (B72 ++ (B60 ++ B19)))))) (([.bool (x39.list), .slice ((ob61).map fun k => ⟨k, 0, none⟩) x59.length c62, .slice ((ob75).map fun k => ⟨k, 0, none⟩) x71.length c76] : List Value)) [(It.mk (x39.list) x59 x71)] := Reps.one (ItRd.mk v86 v87 h74)
        refine UW.mem (M' := (((some b84), blk ((([.bool (x39.list), .slice ((ob61).map fun k => ⟨k, 0, none⟩) x59.length c62, .slice ((ob75).map fun k => ⟨k, 0, none⟩) x71.length c76] : List Value)) ++ []) 29) :: (some b57, blk [.bool (x39.list), .slice A45 x39.data.length c46, .slice A48 x39.items.length c49] 29) :: (ob24, blk (cs22 ++ r26) 29) :: (((ob75, blk (cs73 ++ r77) 29) :: ((ob61, blk ((u8s x59) ++ r63) 5) :: (B72 ++ (B60 ++ B19)))) ++ N))) (fun w m => m) ?_
        have o85 : OwnS (some b84) ([(It.mk (x39.list) x59 x71)] : List (It)).length 1 3 (([.bool (x39.list), .slice ((ob61).map fun k => ⟨k, 0, none⟩) x59.length c62, .slice ((ob75).map fun k => ⟨k, 0, none⟩) x71.length c76] : List Value)) [] := ⟨by simp [ItRd], by simp [ItRd], (fun h => nomatch h), by simp⟩
        refine UW.slot (sl (some b84) 0 ([(It.mk (x39.list) x59 x71)] : List (It)).length 1) (rfl) ?_
        refine UW.nil (by kernel_rfl) ?_
        refine OW.rot2 ?_
        obtain ⟨g90, hl31⟩ := some_if hl31
        have h95 := h23.app h89
        refine OW.appendOwn (s := 3) rfl rfl rfl rfl rfl rfl o27 (fun w m => m.rd0 (List.Mem.tail _ (List.Mem.head _)) (fun e => o85.nilc (by decide) e)) o85.n (h89.cell1 ItRd.one) (o85.zeroO (by decide)) (by decide) (by decide) (by first | omega | (simp only [i29, List.length_nil]; omega)) rfl rfl ((l21 ++ ([(It.mk (x39.list) x59 x71)] : List (It))).length) (cs22 ++ (([.bool (x39.list), .slice ((ob61).map fun k => ⟨k, 0, none⟩) x59.length c62, .slice ((ob75).map fun k => ⟨k, 0, none⟩) x71.length c76] : List Value))) (List.length_append ..).symm rfl (fun ob91 r92 c93 o94 => ?_)
        have m96 := o94.mx
        refine OW.rv (RV.assign rfl) rfl ?_
        refine OW.nil ?_
        refine QW.block_n ?_
        refine QW.then_n ?_
        refine CW.region ?_
        refine OW.rv (RV.move rfl) rfl ?_
        refine OW.rv (RV.add rfl rfl (by omega)) rfl ?_
        refine OW.slot (.int .i64 (((n28 + 1) : Nat) : Int)) (by first | rfl | (congr 1) | (congr 1; omega)) ?_
        refine OW.rv (RV.assign rfl) rfl ?_
        refine OW.nil ?_
        subst el
        subst ec
        subst en
        exact QW.againJ (k' := k30) (Nat.lt_succ_self _) (.inr ⟨(ob61, blk ((u8s x59) ++ r63) 5) :: (B72 ++ (B60 ++ B19)), It.mk (x39.list) x59 x71, _, c62, ob75, c76, cs73, r77, ob91, c93, r92, hl31, v86k, h74k, o78, o94, rfl, rfl⟩) ⟨rfl, rfl, rfl, trivial⟩ (fun w m => m.pick [0] 3 rfl rfl)
      · omega
    · rw [e35, e36]
      clear e35 e36 L33 M34
      rcases k30 with _ | k30
      · rw [waybillref07_Copy.l1] at hl31; cases hl31
      rw [waybillref07_Copy.l1] at hl31
      refine CW.seq ?_
      refine CW.seq ?_
      refine CW.region ?_
      refine OW.rv (RV.move rfl) rfl ?_
      refine OW.rv (RV.move rfl) rfl ?_
      refine OW.rv (RV.len rfl rfl) rfl ?_
      refine OW.rv (RV.lss rfl rfl) rfl ?_
      refine OW.slot (.bool (decide (1 < a0.length))) (congrArg Value.bool (decide_eq_decide.2 (by omega))) ?_
      refine OW.nil ?_
      refine QW.then_n ?_
      have h38 : ¬ 1 < a0.length := by omega
      replace hl31 := if_f hl31 h38
      refine CW.is_f rfl (decide_eq_false h38) ?_
      refine CW.exit ?_
      refine QW.then_x ?_
      refine QW.then_x ?_
      refine QW.block_xe ?_
      exact QW.join ⟨B, x, A1, c1, ob2, c2, cells, r2, ob3, c3, r3, (Option.some.inj hl31).symm, hv, hr, ho2, ho3, rfl, rfl⟩ ⟨rfl, trivial⟩ (fun w m => m)

theorem twin_own (w0 : World) (Φ : Ctx) (N : List Ent) (hΦ : ∀ w, Mem w0 w N → Φ w) (cs0_ : List Value) (a0 : It) (res0 : It) (ha0 : ItRd Φ cs0_ a0) (hf : waybilllaw07_twin a0 = some res0) : DoesG Try.prog 57 [.agg cs0_.toArray] w0 [] N (fun v G => ∃ (B : List Ent) (A1 : Option Addr) (c1 : Nat) (cells : List Value) (ob2 : Option Nat) (c2 : Nat) (r2 : List Value), View (More w0 Φ B) A1 res0.data.length c1 1 (u8s res0.data) ∧ Reps (ItRd (More w0 Φ B)) cells res0.items ∧ OwnS ob2 res0.items.length c2 3 cells r2 ∧ v = .agg ([.bool res0.list, .slice A1 res0.data.length c1, sl ob2 0 res0.items.length c2] : List Value).toArray ∧ G = (ob2, blk (cells ++ r2) 29) :: B) := by
  unfold waybilllaw07_twin at hf
  replace ha0 := ItRd.mono (Ψ := More w0 Φ []) (fun w q => q.1) _ _ ha0
  have h10 := ha0
  obtain ⟨A1, c2, A4, c5, cs7, e9, v3, v6, h8⟩ := ItRd.opn ha0
  subst e9
  have m11 := v3.mx
  have m12 := v6.mx
  refine DoesG.enter Try.func57 rfl Try.ntmps57 rfl (M := (([] ++ N))) rfl ?_
  refine CW.seq ?_
  refine CW.region ?_
  refine OW.boxA rfl rfl (fun b13 => ?_)
  refine OW.alloc (l := [.bool false, .slice none 0 0, .slice none 0 0]) rfl rfl rfl (fun b14 => ?_)
  refine OW.nil ?_
  refine QW.then_n ?_
  refine CW.seq ?_
  refine CW.region ?_
  refine OW.rv (RV.loadW rfl (List.Mem.tail _ (List.Mem.head _)) rfl rfl rfl rfl rfl) rfl ?_
  refine OW.ofN (NV.bsA rfl rfl (by intro x hx; simp at hx; subst hx; rfl) rfl rfl rfl (by decide) (by decide) rfl) rfl (fun b15 => ?_)
  have h18 : Reps (ItRd (More w0 Φ [])) (([.bool (a0.list), .slice A1 a0.data.length c2, .slice A4 a0.items.length c5] : List Value)) [a0] := Reps.one h10
  refine OW.mem (M' := (((some b15), blk ((([.bool (a0.list), .slice A1 a0.data.length c2, .slice A4 a0.items.length c5] : List Value)) ++ []) 29) :: (some b14, blk [.bool false, .slice none 0 0, .slice none 0 0] 29) :: (some b13, blk [.bool (a0.list), .slice A1 a0.data.length c2, .slice A4 a0.items.length c5] 29) :: ([] ++ N))) (fun w m => m) ?_
  have o16 : OwnS (some b15) ([a0] : List (It)).length 1 3 (([.bool (a0.list), .slice A1 a0.data.length c2, .slice A4 a0.items.length c5] : List Value)) [] := ⟨by simp [ItRd], by simp [ItRd], (fun h => nomatch h), by simp⟩
  refine OW.slot (sl (some b15) 0 ([a0] : List (It)).length 1) (rfl) ?_
  refine OW.mem (M' := (some b14, blk [.bool false, .slice none 0 0, .slice none 0 0] 29) :: (some b13, blk [.bool (a0.list), .slice A1 a0.data.length c2, .slice A4 a0.items.length c5] 29) :: ((((some b15), blk ((([.bool (a0.list), .slice A1 a0.data.length c2, .slice A4 a0.items.length c5] : List Value)) ++ []) 29) :: []) ++ N)) (fun w m => m.pick [1, 2, 0] 3 rfl rfl) ?_
  replace h10 := ItRd.mono (Ψ := More w0 Φ (((some b15), blk ((([.bool (a0.list), .slice A1 a0.data.length c2, .slice A4 a0.items.length c5] : List Value)) ++ []) 29) :: [])) (fun w q => More.mono (fun w m => (m).tail) q) _ _ h10
  replace v3 := v3.mono (Ψ := More w0 Φ (((some b15), blk ((([.bool (a0.list), .slice A1 a0.data.length c2, .slice A4 a0.items.length c5] : List Value)) ++ []) 29) :: [])) (fun w q => More.mono (fun w m => (m).tail) q)
  replace v6 := v6.mono (Ψ := More w0 Φ (((some b15), blk ((([.bool (a0.list), .slice A1 a0.data.length c2, .slice A4 a0.items.length c5] : List Value)) ++ []) 29) :: [])) (fun w q => More.mono (fun w m => (m).tail) q)
  replace h8 := h8.mono (ItRd.mono (Ψ := More w0 Φ (((some b15), blk ((([.bool (a0.list), .slice A1 a0.data.length c2, .slice A4 a0.items.length c5] : List Value)) ++ []) 29) :: [])) (fun w q => More.mono (fun w m => (m).tail) q))
  replace h18 := h18.mono (ItRd.mono (Ψ := More w0 Φ (((some b15), blk ((([.bool (a0.list), .slice A1 a0.data.length c2, .slice A4 a0.items.length c5] : List Value)) ++ []) 29) :: [])) (fun w q => More.mono (fun w m => (m).tail) q))
  have v19 : View (More w0 Φ (((some b15), blk ((([.bool (a0.list), .slice A1 a0.data.length c2, .slice A4 a0.items.length c5] : List Value)) ++ []) 29) :: [])) (((some b15)).map fun k => ⟨k, 0, none⟩) ([a0] : List (It)).length 1 3 (([.bool (a0.list), .slice A1 a0.data.length c2, .slice A4 a0.items.length c5] : List Value)) := o16.view (by decide) (fun w q => q.2.sublist (List.singleton_sublist.2 (List.mem_cons_self ..)))
  obtain ⟨x21, hx20, hf⟩ := some_bind hf
  refine OW.callG Try.call16 rfl (copy_one w0 _ (More w0 Φ (((some b15), blk ((([.bool (a0.list), .slice A1 a0.data.length c2, .slice A4 a0.items.length c5] : List Value)) ++ []) 29) :: [])) ((some b14, blk [.bool false, .slice none 0 0, .slice none 0 0] 29) :: (some b13, blk [.bool (a0.list), .slice A1 a0.data.length c2, .slice A4 a0.items.length c5] 29) :: ((((some b15), blk ((([.bool (a0.list), .slice A1 a0.data.length c2, .slice A4 a0.items.length c5] : List Value)) ++ []) 29) :: []) ++ N)) (fun w m => More.of hΦ 2 m rfl) (((some b15)).map fun k => ⟨k, 0, none⟩) 1 (([.bool (a0.list), .slice A1 a0.data.length c2, .slice A4 a0.items.length c5] : List Value)) ([a0] : List (It)) x21 rfl v19 h18 hx20) rfl rfl ?_
  rintro L29 M30 ⟨B22, x, A1', c1', ob2, c2', cells, r2, ob3, c3, r3, ex, hv, hr, ho2, ho3, e31, e32⟩
  rw [e31, e32]
  clear e31 e32 L29 M30
  subst ex
  refine OW.mem (M' := ((ob3, blk ([.bool x.list, .slice A1' x.data.length c1', sl ob2 0 x.items.length c2'] ++ r3) 29) :: (ob2, blk (cells ++ r2) 29) :: (some b14, blk [.bool false, .slice none 0 0, .slice none 0 0] 29) :: (some b13, blk [.bool (a0.list), .slice A1 a0.data.length c2, .slice A4 a0.items.length c5] 29) :: ((B22 ++ (((some b15), blk ((([.bool (a0.list), .slice A1 a0.data.length c2, .slice A4 a0.items.length c5] : List Value)) ++ []) 29) :: [])) ++ N))) (fun w m => by have h := Mem.sinkAt (A := B22) m 2 2 rfl rfl; exact h) ?_
  replace hv := hv.mono (Ψ := More w0 Φ (B22 ++ (((some b15), blk ((([.bool (a0.list), .slice A1 a0.data.length c2, .slice A4 a0.items.length c5] : List Value)) ++ []) 29) :: []))) (fun w q => More.flat q)
  replace hr := hr.mono (ItRd.mono (Ψ := More w0 Φ (B22 ++ (((some b15), blk ((([.bool (a0.list), .slice A1 a0.data.length c2, .slice A4 a0.items.length c5] : List Value)) ++ []) 29) :: []))) (fun w q => More.flat q))
  have m33 := ho3.mx
  have m34 := hv.mx
  have m35 := ho2.mx
  refine OW.mem (M' := ((some b14, blk [.bool false, .slice none 0 0, .slice none 0 0] 29) :: (some b13, blk [.bool (a0.list), .slice A1 a0.data.length c2, .slice A4 a0.items.length c5] 29) :: (ob2, blk (cells ++ r2) 29) :: ((((ob3, blk ([.bool x.list, .slice A1' x.data.length c1', sl ob2 0 x.items.length c2'] ++ r3) 29) :: (B22 ++ (((some b15), blk ((([.bool (a0.list), .slice A1 a0.data.length c2, .slice A4 a0.items.length c5] : List Value)) ++ []) 29) :: [])))) ++ N))) (fun w m => m.pick [2, 3, 1, 0] 4 rfl rfl) ?_
  replace hv := hv.mono (Ψ := More w0 Φ ((ob3, blk ([.bool x.list, .slice A1' x.data.length c1', sl ob2 0 x.items.length c2'] ++ r3) 29) :: (B22 ++ (((some b15), blk ((([.bool (a0.list), .slice A1 a0.data.length c2, .slice A4 a0.items.length c5] : List Value)) ++ []) 29) :: [])))) (fun w q => More.mono (fun w m => (m).tail) q)
  replace hr := hr.mono (ItRd.mono (Ψ := More w0 Φ ((ob3, blk ([.bool x.list, .slice A1' x.data.length c1', sl ob2 0 x.items.length c2'] ++ r3) 29) :: (B22 ++ (((some b15), blk ((([.bool (a0.list), .slice A1 a0.data.length c2, .slice A4 a0.items.length c5] : List Value)) ++ []) 29) :: [])))) (fun w q => More.mono (fun w m => (m).tail) q))
  have v34 : View (More w0 Φ ((ob3, blk ([.bool x.list, .slice A1' x.data.length c1', sl ob2 0 x.items.length c2'] ++ r3) 29) :: (B22 ++ (((some b15), blk ((([.bool (a0.list), .slice A1 a0.data.length c2, .slice A4 a0.items.length c5] : List Value)) ++ []) 29) :: [])))) ((ob3).map fun k => ⟨k, 0, none⟩) 1 c3 3 [.bool x.list, .slice A1' x.data.length c1', sl ob2 0 x.items.length c2'] := ho3.view (by decide) (fun w q => q.2.sublist (List.singleton_sublist.2 (List.mem_cons_self ..)))
  obtain ⟨x35, hx36, hf⟩ := some_bind hf
  cases hx36
  refine OW.rv (RV.idx_rs (0) rfl rfl rfl rfl rfl (v34.isSome (by decide) (show 0 < 1 by decide)) (by omega)) rfl ?_
  refine OW.rv (RV.loadAs (vs := [.bool x.list, .slice A1' x.data.length c1', sl ob2 0 x.items.length c2']) rfl rfl rfl rfl (fun w m => v34.load (off := 0 * 3) (More.of hΦ 3 m rfl) (fun j u h => by simpa using h)) rfl) rfl ?_
  refine OW.sv (SV.storeW rfl rfl rfl (by intro u hu; simp at hu; rcases hu with rfl | rfl | rfl <;> rfl) rfl rfl rfl) ?_
  refine OW.nil ?_
  refine QW.then_n ?_
  refine CW.ret ?_
  have e0 := Option.some.inj hf
  subst e0
  refine QW.retG (rs := [.cell 2 29]) ([.agg ([.bool x.list, .slice A1' x.data.length c1', sl ob2 0 x.items.length c2'] : List Value).toArray]) ((ob2, blk (cells ++ r2) 29) :: ((ob3, blk ([.bool x.list, .slice A1' x.data.length c1', sl ob2 0 x.items.length c2'] ++ r3) 29) :: (B22 ++ (((some b15), blk ((([.bool (a0.list), .slice A1 a0.data.length c2, .slice A4 a0.items.length c5] : List Value)) ++ []) 29) :: [])))) rfl ?_ rfl ?_ ?_ _ (.inl rfl)
  · exact ⟨⟨_, _, _, _, rfl, (List.Mem.head _), rfl, rfl, rfl, rfl⟩, trivial⟩
  · exact ⟨((ob3, blk ([.bool x.list, .slice A1' x.data.length c1', sl ob2 0 x.items.length c2'] ++ r3) 29) :: (B22 ++ (((some b15), blk ((([.bool (a0.list), .slice A1 a0.data.length c2, .slice A4 a0.items.length c5] : List Value)) ++ []) 29) :: []))), _, c1', cells, ob2, c2', r2, hv, hr, ho2, rfl, rfl⟩
  · exact (fun w m => m.pick [2] 3 rfl rfl)
theorem waybilllaw07_room_does (w0 : World) (Φ : Ctx) (N : List Ent) (hΦ : ∀ w, Mem w0 w N → Φ w) (cs0_ : List Value) (a0 : It) (res0 : It) (ha0 : ItRd Φ cs0_ a0) (hf : waybilllaw07_room a0 = some res0) : DoesG Try.prog 33 [.agg cs0_.toArray] w0 [] N (fun v G => ∃ B : List Ent, ∃ cr0 : List Value, (RtRd (More w0 Φ B) cr0 res0) ∧ v = .agg cr0.toArray ∧ G = B) := by
  unfold waybilllaw07_room at hf
  replace ha0 := ItRd.mono (Ψ := More w0 Φ []) (fun w q => q.1) _ _ ha0
  have h10 := ha0
  obtain ⟨A1, c2, A4, c5, cs7, e9, v3, v6, h8⟩ := ItRd.opn ha0
  subst e9
  have m11 := v3.mx
  have m12 := v6.mx
  refine DoesG.enter Try.func33 rfl Try.ntmps33 rfl (M := (([] ++ N))) rfl ?_
  refine CW.seq ?_
  refine CW.region ?_
  refine OW.boxA rfl rfl (fun b13 => ?_)
  refine OW.alloc (l := [.bool false, .slice none 0 0, .slice none 0 0]) rfl rfl rfl (fun b14 => ?_)
  refine OW.nil ?_
  refine QW.then_n ?_
  refine CW.seq ?_
  refine CW.region ?_
  refine OW.rv (RV.loadW rfl (List.Mem.tail _ (List.Mem.head _)) rfl rfl rfl rfl rfl) rfl ?_
  obtain ⟨x16, hx15, hf⟩ := some_bind hf
  refine OW.callG Try.call57 rfl (twin_own w0 (More w0 Φ []) ((some b14, blk [.bool false, .slice none 0 0, .slice none 0 0] 29) :: (some b13, blk [.bool (a0.list), .slice A1 a0.data.length c2, .slice A4 a0.items.length c5] 29) :: ([] ++ N)) (fun w m => More.of hΦ 2 m rfl) [.bool (a0.list), .slice A1 a0.data.length c2, .slice A4 a0.items.length c5] a0 x16 h10 hx15) rfl rfl ?_
  rintro L27 M28 ⟨B17, A18, c19, cs20, ob21, c22, r23, v24, h25, o26, e29, e30⟩
  rw [e29, e30]
  clear e29 e30 L27 M28
  refine OW.mem (M' := ((ob21, blk (cs20 ++ r23) 29) :: (some b14, blk [.bool false, .slice none 0 0, .slice none 0 0] 29) :: (some b13, blk [.bool (a0.list), .slice A1 a0.data.length c2, .slice A4 a0.items.length c5] 29) :: ((B17 ++ []) ++ N))) (fun w m => by have h := Mem.sinkAt (A := B17) m 1 2 rfl rfl; exact h) ?_
  replace h10 := ItRd.mono (Ψ := More w0 Φ (B17 ++ [])) (fun w q => More.mono (fun w m => (m).appR) q) _ _ h10
  replace v3 := v3.mono (Ψ := More w0 Φ (B17 ++ [])) (fun w q => More.mono (fun w m => (m).appR) q)
  replace v6 := v6.mono (Ψ := More w0 Φ (B17 ++ [])) (fun w q => More.mono (fun w m => (m).appR) q)
  replace h8 := h8.mono (ItRd.mono (Ψ := More w0 Φ (B17 ++ [])) (fun w q => More.mono (fun w m => (m).appR) q))
  replace v24 := v24.mono (Ψ := (More w0 Φ (B17 ++ []))) (fun w q => More.flat q)
  replace h25 := h25.mono (ItRd.mono (Ψ := (More w0 Φ (B17 ++ []))) (fun w q => More.flat q))
  have m31 := v24.mx
  have m32 := o26.mx
  have m33 := v24.mx
  have m34 := o26.mx
  refine OW.alloc (l := [.bool false, .slice none 0 0, .slice none 0 0]) rfl rfl rfl (fun b35 => ?_)
  refine OW.sv (SV.storeW rfl rfl rfl (by intro u hu; simp at hu; rcases hu with rfl | rfl | rfl <;> rfl) rfl rfl rfl) ?_
  refine OW.nil ?_
  refine QW.then_n ?_
  refine CW.seq ?_
  refine CW.region ?_
  refine OW.rv (RV.field rfl rfl rfl rfl) rfl ?_
  refine OW.rv (RV.load rfl (List.Mem.head _) rfl rfl rfl rfl) rfl ?_
  obtain ⟨x37, hx36, hf⟩ := some_bind hf
  refine OW.callG Try.call15 rfl (waybilllaw07_roomy_does w0 (More w0 Φ (B17 ++ [])) ((some b35, blk [.bool (x16.list), .slice A18 x16.data.length c19, sl ob21 0 x16.items.length c22] 29) :: (ob21, blk (cs20 ++ r23) 29) :: (some b14, blk [.bool false, .slice none 0 0, .slice none 0 0] 29) :: (some b13, blk [.bool (a0.list), .slice A1 a0.data.length c2, .slice A4 a0.items.length c5] 29) :: ((B17 ++ []) ++ N)) (fun w m => More.of hΦ 4 m rfl) A18 c19 x16.data x37 v24 hx36) rfl rfl ?_
  rintro L42 M43 ⟨B38, A39, v40, e44, e45⟩
  rw [e44, e45]
  clear e44 e45 L42 M43
  refine OW.mem (M' := ((some b35, blk [.bool (x16.list), .slice A18 x16.data.length c19, sl ob21 0 x16.items.length c22] 29) :: (ob21, blk (cs20 ++ r23) 29) :: (some b14, blk [.bool false, .slice none 0 0, .slice none 0 0] 29) :: (some b13, blk [.bool (a0.list), .slice A1 a0.data.length c2, .slice A4 a0.items.length c5] 29) :: ((B38 ++ (B17 ++ [])) ++ N))) (fun w m => by have h := Mem.sinkAt (A := B38) m 0 4 rfl rfl; exact h) ?_
  replace h10 := ItRd.mono (Ψ := More w0 Φ (B38 ++ (B17 ++ []))) (fun w q => More.mono (fun w m => (m).appR) q) _ _ h10
  replace v3 := v3.mono (Ψ := More w0 Φ (B38 ++ (B17 ++ []))) (fun w q => More.mono (fun w m => (m).appR) q)
  replace v6 := v6.mono (Ψ := More w0 Φ (B38 ++ (B17 ++ []))) (fun w q => More.mono (fun w m => (m).appR) q)
  replace h8 := h8.mono (ItRd.mono (Ψ := More w0 Φ (B38 ++ (B17 ++ []))) (fun w q => More.mono (fun w m => (m).appR) q))
  replace v24 := v24.mono (Ψ := More w0 Φ (B38 ++ (B17 ++ []))) (fun w q => More.mono (fun w m => (m).appR) q)
  replace h25 := h25.mono (ItRd.mono (Ψ := More w0 Φ (B38 ++ (B17 ++ []))) (fun w q => More.mono (fun w m => (m).appR) q))
  replace v40 := v40.mono (Ψ := (More w0 Φ (B38 ++ (B17 ++ [])))) (fun w q => More.flat q)
  have v41 := v40.view
  have m46 := v41.mx
  refine OW.rv (RV.field rfl rfl rfl rfl) rfl ?_
  refine OW.sv (SV.store rfl rfl rfl rfl rfl (by simp)) ?_
  refine OW.cells [.bool (x16.list), .slice A39 x37.length (x37.length + 9), sl ob21 0 x16.items.length c22] rfl ?_
  refine OW.nil ?_
  refine QW.then_n ?_
  refine CW.seq ?_
  refine CW.region ?_
  refine OW.rv (RV.field rfl rfl rfl rfl) rfl ?_
  refine OW.rv (RV.load rfl (List.Mem.head _) rfl rfl rfl rfl) rfl ?_
  refine OW.rv (RV.len rfl rfl) rfl ?_
  refine OW.rv (RV.assign rfl) rfl ?_
  refine OW.nil ?_
  refine QW.then_n ?_
  refine CW.seq ?_
  refine CW.region ?_
  refine OW.rv (RV.field rfl rfl rfl rfl) rfl ?_
  refine OW.rv (RV.load rfl (List.Mem.head _) rfl rfl rfl rfl) rfl ?_
  refine OW.ofN (NV.bs1 rfl rfl rfl rfl rfl rfl) rfl (fun b47 => ?_)
  refine OW.mem (M' := (((some b47), blk ((u8s ([164#8] : List (BitVec 8))) ++ []) 5) :: (some b35, blk [.bool (x16.list), .slice A39 x37.length (x37.length + 9), sl ob21 0 x16.items.length c22] 29) :: (ob21, blk (cs20 ++ r23) 29) :: (some b14, blk [.bool false, .slice none 0 0, .slice none 0 0] 29) :: (some b13, blk [.bool (a0.list), .slice A1 a0.data.length c2, .slice A4 a0.items.length c5] 29) :: ((B38 ++ (B17 ++ [])) ++ N))) (fun w m => by first | exact m | simpa [u8s] using m) ?_
  have o48 : OwnS (some b47) ([164#8] : List (BitVec 8)).length 1 1 (u8s ([164#8] : List (BitVec 8))) [] := ⟨by simp [u8s], by simp [u8s], (fun h => nomatch h), by simp⟩
  refine OW.slot (sl (some b47) 0 ([164#8] : List (BitVec 8)).length 1) (rfl) ?_
  refine OW.rv (RV.buildSt (l := [.bool false, .slice none 0 0, .slice none 0 0]) (cs := [.bool false, sl (some b47) 0 ([164#8] : List (BitVec 8)).length 1, .slice none 0 0]) [(1, [sl (some b47) 0 ([164#8] : List (BitVec 8)).length 1])] rfl rfl rfl rfl rfl rfl rfl) rfl ?_
  refine OW.mem (M' := (some b35, blk [.bool (x16.list), .slice A39 x37.length (x37.length + 9), sl ob21 0 x16.items.length c22] 29) :: (ob21, blk (cs20 ++ r23) 29) :: (some b14, blk [.bool false, .slice none 0 0, .slice none 0 0] 29) :: (some b13, blk [.bool (a0.list), .slice A1 a0.data.length c2, .slice A4 a0.items.length c5] 29) :: ((((some b47), blk ((u8s ([164#8] : List (BitVec 8))) ++ []) 5) :: (B38 ++ (B17 ++ []))) ++ N)) (fun w m => m.pick [1, 2, 3, 4, 0] 5 rfl rfl) ?_
  replace h10 := ItRd.mono (Ψ := More w0 Φ (((some b47), blk ((u8s ([164#8] : List (BitVec 8))) ++ []) 5) :: (B38 ++ (B17 ++ [])))) (fun w q => More.mono (fun w m => (m).tail) q) _ _ h10
  replace v3 := v3.mono (Ψ := More w0 Φ (((some b47), blk ((u8s ([164#8] : List (BitVec 8))) ++ []) 5) :: (B38 ++ (B17 ++ [])))) (fun w q => More.mono (fun w m => (m).tail) q)
  replace v6 := v6.mono (Ψ := More w0 Φ (((some b47), blk ((u8s ([164#8] : List (BitVec 8))) ++ []) 5) :: (B38 ++ (B17 ++ [])))) (fun w q => More.mono (fun w m => (m).tail) q)
  replace h8 := h8.mono (ItRd.mono (Ψ := More w0 Φ (((some b47), blk ((u8s ([164#8] : List (BitVec 8))) ++ []) 5) :: (B38 ++ (B17 ++ [])))) (fun w q => More.mono (fun w m => (m).tail) q))
  replace v24 := v24.mono (Ψ := More w0 Φ (((some b47), blk ((u8s ([164#8] : List (BitVec 8))) ++ []) 5) :: (B38 ++ (B17 ++ [])))) (fun w q => More.mono (fun w m => (m).tail) q)
  replace h25 := h25.mono (ItRd.mono (Ψ := More w0 Φ (((some b47), blk ((u8s ([164#8] : List (BitVec 8))) ++ []) 5) :: (B38 ++ (B17 ++ [])))) (fun w q => More.mono (fun w m => (m).tail) q))
  replace v41 := v41.mono (Ψ := More w0 Φ (((some b47), blk ((u8s ([164#8] : List (BitVec 8))) ++ []) 5) :: (B38 ++ (B17 ++ [])))) (fun w q => More.mono (fun w m => (m).tail) q)
  replace v40 := v40.mono (Ψ := More w0 Φ (((some b47), blk ((u8s ([164#8] : List (BitVec 8))) ++ []) 5) :: (B38 ++ (B17 ++ [])))) (fun w q => More.mono (fun w m => (m).tail) q)
  have v51 : View (More w0 Φ (((some b47), blk ((u8s ([164#8] : List (BitVec 8))) ++ []) 5) :: (B38 ++ (B17 ++ [])))) (((some b47)).map fun k => ⟨k, 0, none⟩) ([164#8] : List (BitVec 8)).length 1 1 (u8s ([164#8] : List (BitVec 8))) := o48.view (by decide) (fun w q => q.2.sublist (List.singleton_sublist.2 (List.mem_cons_self ..)))
  refine OW.ofN (NV.bsA rfl rfl (by intro x hx; simp at hx; subst hx; rfl) rfl rfl rfl (by decide) (by decide) rfl) rfl (fun b49 => ?_)
  have v54 : View (More w0 Φ (((some b47), blk ((u8s ([164#8] : List (BitVec 8))) ++ []) 5) :: (B38 ++ (B17 ++ [])))) none ([] : List (It)).length 0 3 [] := View.nil
  have v55 : View (More w0 Φ (((some b47), blk ((u8s ([164#8] : List (BitVec 8))) ++ []) 5) :: (B38 ++ (B17 ++ [])))) none ([] : List (It)).length 0 3 [] := View.nil
  have h53 : Reps (ItRd (More w0 Φ (((some b47), blk ((u8s ([164#8] : List (BitVec 8))) ++ []) 5) :: (B38 ++ (B17 ++ []))))) (([.bool false, .slice (((some b47)).map fun k => ⟨k, 0, none⟩) ([164#8] : List (BitVec 8)).length 1, .slice none 0 0] : List Value)) [(It.mk false ([164#8] : List (BitVec 8)) ([] : List (It)))] := Reps.one (ItRd.mk v51 v55 (Reps.nil))
  refine OW.mem (M' := (((some b49), blk ((([.bool false, .slice (((some b47)).map fun k => ⟨k, 0, none⟩) ([164#8] : List (BitVec 8)).length 1, .slice none 0 0] : List Value)) ++ []) 29) :: (some b35, blk [.bool (x16.list), .slice A39 x37.length (x37.length + 9), sl ob21 0 x16.items.length c22] 29) :: (ob21, blk (cs20 ++ r23) 29) :: (some b14, blk [.bool false, .slice none 0 0, .slice none 0 0] 29) :: (some b13, blk [.bool (a0.list), .slice A1 a0.data.length c2, .slice A4 a0.items.length c5] 29) :: ((((some b47), blk ((u8s ([164#8] : List (BitVec 8))) ++ []) 5) :: (B38 ++ (B17 ++ []))) ++ N))) (fun w m => m) ?_
  have o50 : OwnS (some b49) ([(It.mk false ([164#8] : List (BitVec 8)) ([] : List (It)))] : List (It)).length 1 3 (([.bool false, .slice (((some b47)).map fun k => ⟨k, 0, none⟩) ([164#8] : List (BitVec 8)).length 1, .slice none 0 0] : List Value)) [] := ⟨by simp [ItRd], by simp [ItRd], (fun h => nomatch h), by simp⟩
  refine OW.slot (sl (some b49) 0 ([(It.mk false ([164#8] : List (BitVec 8)) ([] : List (It)))] : List (It)).length 1) (rfl) ?_
  refine OW.rot2 ?_
  obtain ⟨g56, hf⟩ := some_if hf
  have h61 := h25.app h53
  refine OW.appendOwn (s := 3) rfl rfl rfl rfl rfl rfl o26 (fun w m => m.rd0 (List.Mem.tail _ (List.Mem.head _)) (fun e => o50.nilc (by decide) e)) o50.n (h53.cell1 ItRd.one) (o50.zeroO (by decide)) (by decide) (by decide) (by first | omega | (simp only [i29, List.length_nil]; omega)) rfl rfl ((x16.items ++ ([(It.mk false ([164#8] : List (BitVec 8)) ([] : List (It)))] : List (It))).length) (cs20 ++ (([.bool false, .slice (((some b47)).map fun k => ⟨k, 0, none⟩) ([164#8] : List (BitVec 8)).length 1, .slice none 0 0] : List Value))) (List.length_append ..).symm rfl (fun ob57 r58 c59 o60 => ?_)
  have m62 := o60.mx
  refine OW.rv (RV.move rfl) rfl ?_
  refine OW.mem (M' := ((some b49), blk ((([.bool false, .slice (((some b47)).map fun k => ⟨k, 0, none⟩) ([164#8] : List (BitVec 8)).length 1, .slice none 0 0] : List Value)) ++ []) 29) :: (some b35, blk [.bool (x16.list), .slice A39 x37.length (x37.length + 9), sl ob21 0 x16.items.length c22] 29) :: (some b14, blk [.bool false, .slice none 0 0, .slice none 0 0] 29) :: (some b13, blk [.bool (a0.list), .slice A1 a0.data.length c2, .slice A4 a0.items.length c5] 29) :: (((ob57, blk ((cs20 ++ (([.bool false, .slice (((some b47)).map fun k => ⟨k, 0, none⟩) ([164#8] : List (BitVec 8)).length 1, .slice none 0 0] : List Value))) ++ r58) 29) :: (((some b47), blk ((u8s ([164#8] : List (BitVec 8))) ++ []) 5) :: (B38 ++ (B17 ++ [])))) ++ N)) (fun w m => m.pick [1, 2, 3, 4, 0] 5 rfl rfl) ?_
  replace h10 := ItRd.mono (Ψ := More w0 Φ ((ob57, blk ((cs20 ++ (([.bool false, .slice (((some b47)).map fun k => ⟨k, 0, none⟩) ([164#8] : List (BitVec 8)).length 1, .slice none 0 0] : List Value))) ++ r58) 29) :: (((some b47), blk ((u8s ([164#8] : List (BitVec 8))) ++ []) 5) :: (B38 ++ (B17 ++ []))))) (fun w q => More.mono (fun w m => (m).tail) q) _ _ h10
  replace v3 := v3.mono (Ψ := More w0 Φ ((ob57, blk ((cs20 ++ (([.bool false, .slice (((some b47)).map fun k => ⟨k, 0, none⟩) ([164#8] : List (BitVec 8)).length 1, .slice none 0 0] : List Value))) ++ r58) 29) :: (((some b47), blk ((u8s ([164#8] : List (BitVec 8))) ++ []) 5) :: (B38 ++ (B17 ++ []))))) (fun w q => More.mono (fun w m => (m).tail) q)
  replace v6 := v6.mono (Ψ := More w0 Φ ((ob57, blk ((cs20 ++ (([.bool false, .slice (((some b47)).map fun k => ⟨k, 0, none⟩) ([164#8] : List (BitVec 8)).length 1, .slice none 0 0] : List Value))) ++ r58) 29) :: (((some b47), blk ((u8s ([164#8] : List (BitVec 8))) ++ []) 5) :: (B38 ++ (B17 ++ []))))) (fun w q => More.mono (fun w m => (m).tail) q)
  replace h8 := h8.mono (ItRd.mono (Ψ := More w0 Φ ((ob57, blk ((cs20 ++ (([.bool false, .slice (((some b47)).map fun k => ⟨k, 0, none⟩) ([164#8] : List (BitVec 8)).length 1, .slice none 0 0] : List Value))) ++ r58) 29) :: (((some b47), blk ((u8s ([164#8] : List (BitVec 8))) ++ []) 5) :: (B38 ++ (B17 ++ []))))) (fun w q => More.mono (fun w m => (m).tail) q))
  replace v24 := v24.mono (Ψ := More w0 Φ ((ob57, blk ((cs20 ++ (([.bool false, .slice (((some b47)).map fun k => ⟨k, 0, none⟩) ([164#8] : List (BitVec 8)).length 1, .slice none 0 0] : List Value))) ++ r58) 29) :: (((some b47), blk ((u8s ([164#8] : List (BitVec 8))) ++ []) 5) :: (B38 ++ (B17 ++ []))))) (fun w q => More.mono (fun w m => (m).tail) q)
  replace h25 := h25.mono (ItRd.mono (Ψ := More w0 Φ ((ob57, blk ((cs20 ++ (([.bool false, .slice (((some b47)).map fun k => ⟨k, 0, none⟩) ([164#8] : List (BitVec 8)).length 1, .slice none 0 0] : List Value))) ++ r58) 29) :: (((some b47), blk ((u8s ([164#8] : List (BitVec 8))) ++ []) 5) :: (B38 ++ (B17 ++ []))))) (fun w q => More.mono (fun w m => (m).tail) q))
  replace v41 := v41.mono (Ψ := More w0 Φ ((ob57, blk ((cs20 ++ (([.bool false, .slice (((some b47)).map fun k => ⟨k, 0, none⟩) ([164#8] : List (BitVec 8)).length 1, .slice none 0 0] : List Value))) ++ r58) 29) :: (((some b47), blk ((u8s ([164#8] : List (BitVec 8))) ++ []) 5) :: (B38 ++ (B17 ++ []))))) (fun w q => More.mono (fun w m => (m).tail) q)
  replace v40 := v40.mono (Ψ := More w0 Φ ((ob57, blk ((cs20 ++ (([.bool false, .slice (((some b47)).map fun k => ⟨k, 0, none⟩) ([164#8] : List (BitVec 8)).length 1, .slice none 0 0] : List Value))) ++ r58) 29) :: (((some b47), blk ((u8s ([164#8] : List (BitVec 8))) ++ []) 5) :: (B38 ++ (B17 ++ []))))) (fun w q => More.mono (fun w m => (m).tail) q)
  replace v51 := v51.mono (Ψ := More w0 Φ ((ob57, blk ((cs20 ++ (([.bool false, .slice (((some b47)).map fun k => ⟨k, 0, none⟩) ([164#8] : List (BitVec 8)).length 1, .slice none 0 0] : List Value))) ++ r58) 29) :: (((some b47), blk ((u8s ([164#8] : List (BitVec 8))) ++ []) 5) :: (B38 ++ (B17 ++ []))))) (fun w q => More.mono (fun w m => (m).tail) q)
  replace h53 := h53.mono (ItRd.mono (Ψ := More w0 Φ ((ob57, blk ((cs20 ++ (([.bool false, .slice (((some b47)).map fun k => ⟨k, 0, none⟩) ([164#8] : List (BitVec 8)).length 1, .slice none 0 0] : List Value))) ++ r58) 29) :: (((some b47), blk ((u8s ([164#8] : List (BitVec 8))) ++ []) 5) :: (B38 ++ (B17 ++ []))))) (fun w q => More.mono (fun w m => (m).tail) q))
  replace h61 := h61.mono (ItRd.mono (Ψ := More w0 Φ ((ob57, blk ((cs20 ++ (([.bool false, .slice (((some b47)).map fun k => ⟨k, 0, none⟩) ([164#8] : List (BitVec 8)).length 1, .slice none 0 0] : List Value))) ++ r58) 29) :: (((some b47), blk ((u8s ([164#8] : List (BitVec 8))) ++ []) 5) :: (B38 ++ (B17 ++ []))))) (fun w q => More.mono (fun w m => (m).tail) q))
  have v63 : View (More w0 Φ ((ob57, blk ((cs20 ++ (([.bool false, .slice (((some b47)).map fun k => ⟨k, 0, none⟩) ([164#8] : List (BitVec 8)).length 1, .slice none 0 0] : List Value))) ++ r58) 29) :: (((some b47), blk ((u8s ([164#8] : List (BitVec 8))) ++ []) 5) :: (B38 ++ (B17 ++ []))))) ((ob57).map fun k => ⟨k, 0, none⟩) (x16.items ++ ([(It.mk false ([164#8] : List (BitVec 8)) ([] : List (It)))] : List (It))).length c59 3 (cs20 ++ (([.bool false, .slice (((some b47)).map fun k => ⟨k, 0, none⟩) ([164#8] : List (BitVec 8)).length 1, .slice none 0 0] : List Value))) := o60.view (by decide) (fun w q => q.2.sublist (List.singleton_sublist.2 (List.mem_cons_self ..)))
  obtain ⟨g65, hf⟩ := some_if hf
  have hle := v63.le
  have hlen_ : (x16.items ++ ([(It.mk false ([164#8] : List (BitVec 8)) ([] : List (It)))] : List (It))).length = (x16.items ++ ([(It.mk false ([164#8] : List (BitVec 8)) ([] : List (It)))] : List (It))).length := rfl
  refine OW.rv (RV.cut_hi (x16.items.length) rfl rfl (by omega) rfl rfl (by omega)) rfl ?_
  refine OW.slot (.slice ((ob57).map fun k => ⟨k, 0, none⟩) ((x16.items ++ ([(It.mk false ([164#8] : List (BitVec 8)) ([] : List (It)))] : List (It))).take x16.items.length).length c59) (by rw [show (((x16.items ++ ([(It.mk false ([164#8] : List (BitVec 8)) ([] : List (It)))] : List (It))).take x16.items.length)).length = x16.items.length from List.length_take.trans (Nat.min_eq_left (by omega))]) ?_
  have v64 : View (More w0 Φ ((ob57, blk ((cs20 ++ (([.bool false, .slice (((some b47)).map fun k => ⟨k, 0, none⟩) ([164#8] : List (BitVec 8)).length 1, .slice none 0 0] : List Value))) ++ r58) 29) :: (((some b47), blk ((u8s ([164#8] : List (BitVec 8))) ++ []) 5) :: (B38 ++ (B17 ++ []))))) ((ob57).map fun k => ⟨k, 0, none⟩) ((x16.items ++ ([(It.mk false ([164#8] : List (BitVec 8)) ([] : List (It)))] : List (It))).take x16.items.length).length c59 3 ((cs20 ++ (([.bool false, .slice (((some b47)).map fun k => ⟨k, 0, none⟩) ([164#8] : List (BitVec 8)).length 1, .slice none 0 0] : List Value))).take (x16.items.length * 3)) := v63.hiD (by omega)
  have h66 := h61.take ItRd.len x16.items.length
  have m67 := v64.mx
  refine OW.rv (RV.field rfl rfl rfl rfl) rfl ?_
  refine OW.rot1 ?_
  refine OW.sv (SV.store rfl rfl rfl rfl rfl (by simp)) ?_
  refine OW.cells [.bool (x16.list), .slice A39 x37.length (x37.length + 9), .slice ((ob57).map fun k => ⟨k, 0, none⟩) ((x16.items ++ ([(It.mk false ([164#8] : List (BitVec 8)) ([] : List (It)))] : List (It))).take x16.items.length).length c59] rfl ?_
  refine OW.nil ?_
  refine QW.then_n ?_
  refine CW.seq ?_
  refine CW.region ?_
  refine OW.rv (RV.loadW rfl (List.Mem.head _) rfl rfl rfl rfl rfl) rfl ?_
  refine OW.rot2 ?_
  refine OW.sv (SV.storeW rfl rfl rfl (by intro u hu; simp at hu; rcases hu with rfl | rfl | rfl <;> rfl) rfl rfl rfl) ?_
  refine OW.nil ?_
  refine QW.then_n ?_
  refine CW.ret ?_
  have e0 := Option.some.inj hf
  subst e0
  refine QW.retG (rs := [.cell 2 29]) ([.agg [.bool (x16.list), .slice A39 x37.length (x37.length + 9), .slice ((ob57).map fun k => ⟨k, 0, none⟩) ((x16.items ++ ([(It.mk false ([164#8] : List (BitVec 8)) ([] : List (It)))] : List (It))).take x16.items.length).length c59].toArray]) (((ob57, blk ((cs20 ++ (([.bool false, .slice (((some b47)).map fun k => ⟨k, 0, none⟩) ([164#8] : List (BitVec 8)).length 1, .slice none 0 0] : List Value))) ++ r58) 29) :: (((some b47), blk ((u8s ([164#8] : List (BitVec 8))) ++ []) 5) :: (B38 ++ (B17 ++ []))))) rfl ?_ rfl ?_ ?_ _ (.inl rfl)
  · exact ⟨⟨_, _, _, _, rfl, (List.Mem.head _), rfl, rfl, rfl, rfl⟩, trivial⟩
  · exact ⟨((ob57, blk ((cs20 ++ (([.bool false, .slice (((some b47)).map fun k => ⟨k, 0, none⟩) ([164#8] : List (BitVec 8)).length 1, .slice none 0 0] : List Value))) ++ r58) 29) :: (((some b47), blk ((u8s ([164#8] : List (BitVec 8))) ++ []) 5) :: (B38 ++ (B17 ++ [])))), [.bool (x16.list), .slice A39 x37.length (x37.length + 9), .slice ((ob57).map fun k => ⟨k, 0, none⟩) ((x16.items ++ ([(It.mk false ([164#8] : List (BitVec 8)) ([] : List (It)))] : List (It))).take x16.items.length).length c59], (RtRd.mk v40 v63 h61 (by simp)), rfl, rfl⟩
  · exact (fun w m => m.pick [] 4 rfl rfl)

theorem waybilllaw07_stays_does (w0 : World) (Φ : Ctx) (N : List Ent) (hΦ : ∀ w, Mem w0 w N → Φ w) (cs0_ : List Value) (a0 : It) (cs1_ : List Value) (a1 : It) (res0 : Bool) (ha0 : RtRd Φ cs0_ a0) (ha1 : ItRd Φ cs1_ a1) (hf : waybilllaw07_stays a0 a1 = some res0) : DoesG Try.prog 44 [.agg cs0_.toArray, .agg cs1_.toArray] w0 [] N (fun v G => v = .bool res0) := by
  unfold waybilllaw07_stays at hf
  replace ha0 := RtRd.mono (Ψ := More w0 Φ []) (fun w q => q.1) _ _ ha0
  have h11 := ha0
  obtain ⟨A1, A2, c3, cs4, e10, v5, v6, h7, v8, h9⟩ := RtRd.opn ha0
  subst e10
  have v12 := v5.view
  have m13 := v12.mx
  have m14 := v6.mx
  have m15 := v8.mx
  replace ha1 := ItRd.mono (Ψ := More w0 Φ []) (fun w q => q.1) _ _ ha1
  have h25 := ha1
  obtain ⟨A16, c17, A19, c20, cs22, e24, v18, v21, h23⟩ := ItRd.opn ha1
  subst e24
  have m26 := v18.mx
  have m27 := v21.mx
  refine DoesG.enter Try.func44 rfl Try.ntmps44 rfl (M := (([] ++ N))) rfl ?_
  refine CW.seq ?_
  refine CW.region ?_
  refine OW.boxA rfl rfl (fun b28 => ?_)
  refine OW.boxA rfl rfl (fun b29 => ?_)
  refine OW.rv (RV.assign rfl) rfl ?_
  refine OW.nil ?_
  refine QW.then_n ?_
  refine CW.seq ?_
  refine CW.seq ?_
  obtain ⟨q30, hq31, hf⟩ := some_bind hf
  refine CW.cutJ (fun L' M' => ∃ p32 : Bool, q30 = p32 ∧ L' = [(2, ptr (some b28) 0), (3, ptr (some b29) 0), (16, .bool (p32))] ∧ M' = ((some b29, blk [.bool (a1.list), .slice A16 a1.data.length c17, .slice A19 a1.items.length c20] 29) :: (some b28, blk [.bool (a0.list), .slice A1 a0.data.length (a0.data.length + 9), .slice A2 a0.items.length c3] 29) :: ([] ++ N))) ?_ ?_
  · rintro L34 M35 ⟨p32, e33, e36, e37⟩
    rw [e36, e37]
    clear e36 e37 L34 M35
    clear hq31
    rw [e33] at hf
    clear e33
    try dsimp only at hf
    refine QW.then_n ?_
    by_cases h38 : p32 = true
    · replace hf := if_t hf h38
      refine CW.is_t rfl (h38) ?_
      refine CW.seq ?_
      refine CW.region ?_
      refine OW.rv (RV.assign rfl) rfl ?_
      refine OW.nil ?_
      refine QW.then_n ?_
      refine CW.ret ?_
      refine QW.then_r ?_
      have e0 := Option.some.inj hf
      subst e0
      refine QW.retG (rs := [.tmp 4]) ([.bool false]) ((some b29, blk [.bool (a1.list), .slice A16 a1.data.length c17, .slice A19 a1.items.length c20] 29) :: (some b28, blk [.bool (a0.list), .slice A1 a0.data.length (a0.data.length + 9), .slice A2 a0.items.length c3] 29) :: []) rfl ?_ rfl ?_ ?_ _ (.inl rfl)
      · exact ⟨rfl, trivial⟩
      · exact rfl
      · exact (fun w m => m)
    · replace hf := if_f hf h38
      refine CW.is_f rfl (Bool.eq_false_iff.2 h38) ?_
      refine CW.skip ?_
      refine QW.then_n ?_
      refine CW.seq ?_
      refine CW.region ?_
      refine OW.rv (RV.field rfl rfl rfl rfl) rfl ?_
      refine OW.rv (RV.load rfl (List.Mem.head _) rfl rfl rfl rfl) rfl ?_
      refine OW.rv (RV.len rfl rfl) rfl ?_
      refine OW.rv (RV.assign rfl) rfl ?_
      refine OW.nil ?_
      refine QW.then_n ?_
      refine CW.seq ?_
      refine CW.region ?_
      refine OW.rv (RV.field rfl rfl rfl rfl) rfl ?_
      refine OW.rv (RV.load rfl (List.Mem.tail _ (List.Mem.head _)) rfl rfl rfl rfl) rfl ?_
      refine OW.rv (RV.move rfl) rfl ?_
      refine OW.rv (RV.add rfl rfl (by omega)) rfl ?_
      refine OW.slot (.int .i64 (((a1.items.length + 1) : Nat) : Int)) (by first | rfl | (congr 1) | (congr 1; omega)) ?_
      obtain ⟨g40, hf⟩ := some_if hf
      have hle := v8.le
      have hlen_ : (a0.items ++ [(It.mk false ([164#8] : List (BitVec 8)) ([] : List (It)))]).length = (a0.items ++ [(It.mk false ([164#8] : List (BitVec 8)) ([] : List (It)))]).length := rfl
      refine OW.rv (RV.cut_hi ((a1.items.length + 1)) rfl rfl (by omega) rfl rfl (by omega)) rfl ?_
      refine OW.slot (.slice A2 ((a0.items ++ [(It.mk false ([164#8] : List (BitVec 8)) ([] : List (It)))]).take (a1.items.length + 1)).length c3) (by rw [show (((a0.items ++ [(It.mk false ([164#8] : List (BitVec 8)) ([] : List (It)))]).take (a1.items.length + 1))).length = (a1.items.length + 1) from List.length_take.trans (Nat.min_eq_left (by omega))]) ?_
      have v39 : View (More w0 Φ []) A2 ((a0.items ++ [(It.mk false ([164#8] : List (BitVec 8)) ([] : List (It)))]).take (a1.items.length + 1)).length c3 3 (cs4.take ((a1.items.length + 1) * 3)) := v8.hiD (by omega)
      have h41 := h9.take ItRd.len (a1.items.length + 1)
      have m42 := v39.mx
      refine OW.rv (RV.move rfl) rfl ?_
      obtain ⟨x43, hx44, hf⟩ := some_bind hf
      have hl45 := lt_of_at hx44
      refine OW.rv (RV.idx_rs (a1.items.length) rfl rfl rfl rfl rfl (v39.isSome (by decide) hl45) (by omega)) rfl ?_
      obtain ⟨cs46, h47, h48⟩ := h41.get ItRd.len hx44
      have h58 := h47
      obtain ⟨A49, c50, A52, c53, cs55, e57, v51, v54, h56⟩ := ItRd.opn h47
      subst e57
      have m59 := v51.mx
      have m60 := v54.mx
      refine OW.rv (RV.loadAs rfl rfl rfl rfl (fun w m => v39.load (More.of hΦ 2 m rfl) h48) rfl) rfl ?_
      refine OW.alloc (l := [.bool false, .slice none 0 0, .slice none 0 0]) rfl rfl rfl (fun b61 => ?_)
      refine OW.sv (SV.storeW rfl rfl rfl (by intro u hu; simp at hu; rcases hu with rfl | rfl | rfl <;> rfl) rfl rfl rfl) ?_
      refine OW.nil ?_
      refine QW.then_n ?_
      refine CW.seq ?_
      obtain ⟨q62, hq63, hf⟩ := some_bind hf
      refine CW.cutJ (fun L' M' => ∃ p66 : Bool, ∃ B64 : List Ent, q62 = p66 ∧ (∀ w, Mem w0 w B64 → Mem w0 w []) ∧ L' = [(4, .bool (p66))] ∧ M' = ((B64 ++ N))) ?_ ?_
      · rintro L68 M69 ⟨p66, B64, e67, hB65, e70, e71⟩
        rw [e70, e71]
        clear e70 e71 L68 M69
        clear hq63
        rw [e67] at hf
        clear e67
        try dsimp only at hf
        refine QW.then_n ?_
        refine CW.ret ?_
        have e0 := Option.some.inj hf
        subst e0
        refine QW.retG (rs := [.tmp 4]) ([.bool (p66)]) (B64) rfl ?_ rfl ?_ ?_ _ (.inl rfl)
        · exact ⟨rfl, trivial⟩
        · exact rfl
        · exact (fun w m => m)
      · skip
        refine CW.region ?_
        refine OW.rv (RV.field rfl rfl rfl rfl) rfl ?_
        refine OW.rv (RV.load rfl (List.Mem.head _) rfl rfl rfl rfl) rfl ?_
        refine OW.rv (RV.not rfl) rfl ?_
        refine OW.rv (RV.move rfl) rfl ?_
        by_cases h72 : x43.list = true
        · replace hq63 := if_t hq63 h72
          refine OW.slot (.bool false) (congrArg Value.bool (congrArg (fun b => !b) (h72))) ?_
          refine OW.skip rfl rfl rfl ?_
          refine OW.skip rfl rfl rfl ?_
          refine OW.skip rfl rfl rfl ?_
          refine OW.skip rfl rfl rfl ?_
          refine OW.rv (RV.pick_f rfl rfl rfl) rfl ?_
          refine OW.rv (RV.assign rfl) rfl ?_
          refine OW.nil ?_
          exact QW.join ⟨false, [], (Option.some.inj hq63).symm, (fun w m => m), rfl, rfl⟩ ⟨rfl, trivial⟩ (fun w m => m.pick [] 3 rfl rfl)
        · replace hq63 := if_f hq63 h72
          refine OW.slot (.bool true) (congrArg Value.bool (congrArg (fun b => !b) (Bool.eq_false_iff.2 h72))) ?_
          refine OW.want rfl ?_
          refine OW.rv (RV.field rfl rfl rfl rfl) rfl ?_
          refine OW.want rfl ?_
          refine OW.rv (RV.load rfl (List.Mem.head _) rfl rfl rfl rfl) rfl ?_
          refine OW.want rfl ?_
          refine OW.ofN (NV.bs1 rfl rfl rfl rfl rfl rfl) rfl (fun b73 => ?_)
          refine OW.mem (M' := (((some b73), blk ((u8s ([164#8] : List (BitVec 8))) ++ []) 5) :: (some b61, blk [.bool (x43.list), .slice A49 x43.data.length c50, .slice A52 x43.items.length c53] 29) :: (some b29, blk [.bool (a1.list), .slice A16 a1.data.length c17, .slice A19 a1.items.length c20] 29) :: (some b28, blk [.bool (a0.list), .slice A1 a0.data.length (a0.data.length + 9), .slice A2 a0.items.length c3] 29) :: ([] ++ N))) (fun w m => by first | exact m | simpa [u8s] using m) ?_
          have o74 : OwnS (some b73) ([164#8] : List (BitVec 8)).length 1 1 (u8s ([164#8] : List (BitVec 8))) [] := ⟨by simp [u8s], by simp [u8s], (fun h => nomatch h), by simp⟩
          refine OW.slot (sl (some b73) 0 ([164#8] : List (BitVec 8)).length 1) (rfl) ?_
          refine OW.want rfl ?_
          refine OW.mem (M' := (some b61, blk [.bool (x43.list), .slice A49 x43.data.length c50, .slice A52 x43.items.length c53] 29) :: (some b29, blk [.bool (a1.list), .slice A16 a1.data.length c17, .slice A19 a1.items.length c20] 29) :: (some b28, blk [.bool (a0.list), .slice A1 a0.data.length (a0.data.length + 9), .slice A2 a0.items.length c3] 29) :: ((((some b73), blk ((u8s ([164#8] : List (BitVec 8))) ++ []) 5) :: []) ++ N)) (fun w m => m.pick [1, 2, 3, 0] 4 rfl rfl) ?_
          replace v21 := v21.mono (Ψ := More w0 Φ (((some b73), blk ((u8s ([164#8] : List (BitVec 8))) ++ []) 5) :: [])) (fun w q => More.mono (fun w m => (m).tail) q)
          replace h23 := h23.mono (ItRd.mono (Ψ := More w0 Φ (((some b73), blk ((u8s ([164#8] : List (BitVec 8))) ++ []) 5) :: [])) (fun w q => More.mono (fun w m => (m).tail) q))
          replace v6 := v6.mono (Ψ := More w0 Φ (((some b73), blk ((u8s ([164#8] : List (BitVec 8))) ++ []) 5) :: [])) (fun w q => More.mono (fun w m => (m).tail) q)
          replace h7 := h7.mono (ItRd.mono (Ψ := More w0 Φ (((some b73), blk ((u8s ([164#8] : List (BitVec 8))) ++ []) 5) :: [])) (fun w q => More.mono (fun w m => (m).tail) q))
          replace v8 := v8.mono (Ψ := More w0 Φ (((some b73), blk ((u8s ([164#8] : List (BitVec 8))) ++ []) 5) :: [])) (fun w q => More.mono (fun w m => (m).tail) q)
          replace h9 := h9.mono (ItRd.mono (Ψ := More w0 Φ (((some b73), blk ((u8s ([164#8] : List (BitVec 8))) ++ []) 5) :: [])) (fun w q => More.mono (fun w m => (m).tail) q))
          replace v39 := v39.mono (Ψ := More w0 Φ (((some b73), blk ((u8s ([164#8] : List (BitVec 8))) ++ []) 5) :: [])) (fun w q => More.mono (fun w m => (m).tail) q)
          replace h41 := h41.mono (ItRd.mono (Ψ := More w0 Φ (((some b73), blk ((u8s ([164#8] : List (BitVec 8))) ++ []) 5) :: [])) (fun w q => More.mono (fun w m => (m).tail) q))
          replace h58 := ItRd.mono (Ψ := More w0 Φ (((some b73), blk ((u8s ([164#8] : List (BitVec 8))) ++ []) 5) :: [])) (fun w q => More.mono (fun w m => (m).tail) q) _ _ h58
          replace v51 := v51.mono (Ψ := More w0 Φ (((some b73), blk ((u8s ([164#8] : List (BitVec 8))) ++ []) 5) :: [])) (fun w q => More.mono (fun w m => (m).tail) q)
          replace v54 := v54.mono (Ψ := More w0 Φ (((some b73), blk ((u8s ([164#8] : List (BitVec 8))) ++ []) 5) :: [])) (fun w q => More.mono (fun w m => (m).tail) q)
          replace h56 := h56.mono (ItRd.mono (Ψ := More w0 Φ (((some b73), blk ((u8s ([164#8] : List (BitVec 8))) ++ []) 5) :: [])) (fun w q => More.mono (fun w m => (m).tail) q))
          replace h25 := ItRd.mono (Ψ := More w0 Φ (((some b73), blk ((u8s ([164#8] : List (BitVec 8))) ++ []) 5) :: [])) (fun w q => More.mono (fun w m => (m).tail) q) _ _ h25
          replace v18 := v18.mono (Ψ := More w0 Φ (((some b73), blk ((u8s ([164#8] : List (BitVec 8))) ++ []) 5) :: [])) (fun w q => More.mono (fun w m => (m).tail) q)
          replace h11 := RtRd.mono (Ψ := More w0 Φ (((some b73), blk ((u8s ([164#8] : List (BitVec 8))) ++ []) 5) :: [])) (fun w q => More.mono (fun w m => (m).tail) q) _ _ h11
          replace v12 := v12.mono (Ψ := More w0 Φ (((some b73), blk ((u8s ([164#8] : List (BitVec 8))) ++ []) 5) :: [])) (fun w q => More.mono (fun w m => (m).tail) q)
          replace v5 := v5.mono (Ψ := More w0 Φ (((some b73), blk ((u8s ([164#8] : List (BitVec 8))) ++ []) 5) :: [])) (fun w q => More.mono (fun w m => (m).tail) q)
          have v75 : View (More w0 Φ (((some b73), blk ((u8s ([164#8] : List (BitVec 8))) ++ []) 5) :: [])) (((some b73)).map fun k => ⟨k, 0, none⟩) ([164#8] : List (BitVec 8)).length 1 1 (u8s ([164#8] : List (BitVec 8))) := o74.view (by decide) (fun w q => q.2.sublist (List.singleton_sublist.2 (List.mem_cons_self ..)))
          obtain ⟨x77, hx76, hq63⟩ := some_bind hq63
          refine OW.callG Try.call26 rfl (waybilllaw07_same_does w0 (More w0 Φ (((some b73), blk ((u8s ([164#8] : List (BitVec 8))) ++ []) 5) :: [])) ((some b61, blk [.bool (x43.list), .slice A49 x43.data.length c50, .slice A52 x43.items.length c53] 29) :: (some b29, blk [.bool (a1.list), .slice A16 a1.data.length c17, .slice A19 a1.items.length c20] 29) :: (some b28, blk [.bool (a0.list), .slice A1 a0.data.length (a0.data.length + 9), .slice A2 a0.items.length c3] 29) :: ((((some b73), blk ((u8s ([164#8] : List (BitVec 8))) ++ []) 5) :: []) ++ N)) (fun w m => More.of hΦ 3 m rfl) A49 c50 x43.data (((some b73)).map fun k => ⟨k, 0, none⟩) 1 ([164#8] : List (BitVec 8)) x77 v51 v75 hx76) rfl rfl ?_
          rintro _ G78 rfl
          refine OW.mem (M' := ((some b61, blk [.bool (x43.list), .slice A49 x43.data.length c50, .slice A52 x43.items.length c53] 29) :: (some b29, blk [.bool (a1.list), .slice A16 a1.data.length c17, .slice A19 a1.items.length c20] 29) :: (some b28, blk [.bool (a0.list), .slice A1 a0.data.length (a0.data.length + 9), .slice A2 a0.items.length c3] 29) :: ((((some b73), blk ((u8s ([164#8] : List (BitVec 8))) ++ []) 5) :: []) ++ N))) (fun w m => m.appR) ?_
          refine OW.rv (RV.pick_t rfl rfl rfl) rfl ?_
          refine OW.rv (RV.assign rfl) rfl ?_
          refine OW.nil ?_
          exact QW.join ⟨(x77), (((some b73), blk ((u8s ([164#8] : List (BitVec 8))) ++ []) 5) :: []), (Option.some.inj hq63).symm, (fun w m => (m).tail), rfl, rfl⟩ ⟨rfl, trivial⟩ (fun w m => m.pick [] 3 rfl rfl)
  · skip
    refine CW.region ?_
    refine OW.rv (RV.loadW rfl (List.Mem.tail _ (List.Mem.head _)) rfl rfl rfl rfl rfl) rfl ?_
    refine OW.rv (RV.loadW rfl (List.Mem.head _) rfl rfl rfl rfl rfl) rfl ?_
    obtain ⟨x81, hx80, hq31⟩ := some_bind hq31
    refine OW.callG Try.call17 rfl (waybillref07_Same_does w0 (More w0 Φ []) ((some b29, blk [.bool (a1.list), .slice A16 a1.data.length c17, .slice A19 a1.items.length c20] 29) :: (some b28, blk [.bool (a0.list), .slice A1 a0.data.length (a0.data.length + 9), .slice A2 a0.items.length c3] 29) :: ([] ++ N)) (fun w m => More.of hΦ 2 m rfl) [.bool (a0.list), .slice A1 a0.data.length (a0.data.length + 9), .slice A2 a0.items.length c3] a0 [.bool (a1.list), .slice A16 a1.data.length c17, .slice A19 a1.items.length c20] a1 x81 (RtRd.it h11) h25 hx80) rfl rfl ?_
    rintro _ G82 rfl
    refine OW.mem (M' := ((some b29, blk [.bool (a1.list), .slice A16 a1.data.length c17, .slice A19 a1.items.length c20] 29) :: (some b28, blk [.bool (a0.list), .slice A1 a0.data.length (a0.data.length + 9), .slice A2 a0.items.length c3] 29) :: ([] ++ N))) (fun w m => m.appR) ?_
    refine OW.rv (RV.not rfl) rfl ?_
    refine OW.rv (RV.move rfl) rfl ?_
    by_cases h84 : x81 = true
    · replace hq31 := if_t hq31 h84
      refine OW.slot (.bool false) (congrArg Value.bool (congrArg (fun b => !b) (h84))) ?_
      refine OW.want rfl ?_
      refine OW.rv (RV.field rfl rfl rfl rfl) rfl ?_
      refine OW.want rfl ?_
      refine OW.rv (RV.load rfl (List.Mem.tail _ (List.Mem.head _)) rfl rfl rfl rfl) rfl ?_
      refine OW.want rfl ?_
      obtain ⟨x86, hx85, hq31⟩ := some_bind hq31
      refine OW.callG Try.call27 rfl (waybilllaw07_spared_does w0 (More w0 Φ []) ((some b29, blk [.bool (a1.list), .slice A16 a1.data.length c17, .slice A19 a1.items.length c20] 29) :: (some b28, blk [.bool (a0.list), .slice A1 a0.data.length (a0.data.length + 9), .slice A2 a0.items.length c3] 29) :: ([] ++ N)) (fun w m => More.of hΦ 2 m rfl) A1 a0.data x86 v5 hx85) rfl rfl ?_
      rintro _ G87 rfl
      refine OW.mem (M' := ((some b29, blk [.bool (a1.list), .slice A16 a1.data.length c17, .slice A19 a1.items.length c20] 29) :: (some b28, blk [.bool (a0.list), .slice A1 a0.data.length (a0.data.length + 9), .slice A2 a0.items.length c3] 29) :: ([] ++ N))) (fun w m => m.appR) ?_
      refine OW.want rfl ?_
      refine OW.rv (RV.not rfl) rfl ?_
      refine OW.rv (RV.pick_f rfl rfl rfl) rfl ?_
      refine OW.nil ?_
      exact QW.join ⟨(!x86), (Option.some.inj hq31).symm, rfl, rfl⟩ ⟨rfl, rfl, rfl, trivial⟩ (fun w m => m.pick [0, 1] 2 rfl rfl)
    · replace hq31 := if_f hq31 h84
      refine OW.slot (.bool true) (congrArg Value.bool (congrArg (fun b => !b) (Bool.eq_false_iff.2 h84))) ?_
      refine OW.skip rfl rfl rfl ?_
      refine OW.skip rfl rfl rfl ?_
      refine OW.skip rfl rfl rfl ?_
      refine OW.skip rfl rfl rfl ?_
      refine OW.rv (RV.pick_t rfl rfl rfl) rfl ?_
      refine OW.nil ?_
      exact QW.join ⟨true, (Option.some.inj hq31).symm, rfl, rfl⟩ ⟨rfl, rfl, rfl, trivial⟩ (fun w m => m.pick [0, 1] 2 rfl rfl)

theorem waybilllaw07_RlpTrees_does (w0 : World) (Φ : Ctx) (N : List Ent) (hΦ : ∀ w, Mem w0 w N → Φ w) (cs0_ : List Value) (a0 : It) (res0 : Bool) (ha0 : ItRd Φ cs0_ a0) (hf : waybilllaw07_RlpTrees a0 = some res0) : DoesG Try.prog 7 [.agg cs0_.toArray] w0 [] N (fun v G => v = .bool res0) := by
  unfold waybilllaw07_RlpTrees at hf
  replace ha0 := ItRd.mono (Ψ := More w0 Φ []) (fun w q => q.1) _ _ ha0
  have h10 := ha0
  obtain ⟨A1, c2, A4, c5, cs7, e9, v3, v6, h8⟩ := ItRd.opn ha0
  subst e9
  have m11 := v3.mx
  have m12 := v6.mx
  refine DoesG.enter Try.func7 rfl Try.ntmps7 rfl (M := (([] ++ N))) rfl ?_
  refine CW.seq ?_
  refine CW.region ?_
  refine OW.boxA rfl rfl (fun b13 => ?_)
  refine OW.rv (RV.assign rfl) rfl ?_
  refine OW.nil ?_
  refine QW.then_n ?_
  refine CW.seq ?_
  refine CW.seq ?_
  refine CW.region ?_
  refine OW.rv (RV.loadW rfl (List.Mem.head _) rfl rfl rfl rfl rfl) rfl ?_
  obtain ⟨x15, hx14, hf⟩ := some_bind hf
  refine OW.callG Try.call14 rfl (waybillref07_Beyond_does w0 (More w0 Φ []) ((some b13, blk [.bool (a0.list), .slice A1 a0.data.length c2, .slice A4 a0.items.length c5] 29) :: ([] ++ N)) (fun w m => More.of hΦ 1 m rfl) [.bool (a0.list), .slice A1 a0.data.length c2, .slice A4 a0.items.length c5] a0 x15 h10 hx14) rfl rfl ?_
  rintro _ G16 rfl
  refine OW.mem (M' := ((some b13, blk [.bool (a0.list), .slice A1 a0.data.length c2, .slice A4 a0.items.length c5] 29) :: ([] ++ N))) (fun w m => m.appR) ?_
  refine OW.nil ?_
  refine QW.then_n ?_
  by_cases h18 : x15 = true
  · replace hf := if_t hf h18
    refine CW.is_t rfl (h18) ?_
    refine CW.seq ?_
    refine CW.region ?_
    refine OW.rv (RV.assign rfl) rfl ?_
    refine OW.nil ?_
    refine QW.then_n ?_
    refine CW.ret ?_
    refine QW.then_r ?_
    have e0 := Option.some.inj hf
    subst e0
    refine QW.retG (rs := [.tmp 2]) ([.bool true]) ((some b13, blk [.bool (a0.list), .slice A1 a0.data.length c2, .slice A4 a0.items.length c5] 29) :: []) rfl ?_ rfl ?_ ?_ _ (.inl rfl)
    · exact ⟨rfl, trivial⟩
    · exact rfl
    · exact (fun w m => m)
  · replace hf := if_f hf h18
    refine CW.is_f rfl (Bool.eq_false_iff.2 h18) ?_
    refine CW.skip ?_
    refine QW.then_n ?_
    refine CW.seq ?_
    refine CW.region ?_
    refine OW.rv (RV.loadW rfl (List.Mem.head _) rfl rfl rfl rfl rfl) rfl ?_
    obtain ⟨x20, hx19, hf⟩ := some_bind hf
    refine OW.callG Try.call33 rfl (waybilllaw07_room_does w0 (More w0 Φ []) ((some b13, blk [.bool (a0.list), .slice A1 a0.data.length c2, .slice A4 a0.items.length c5] 29) :: ([] ++ N)) (fun w m => More.of hΦ 1 m rfl) [.bool (a0.list), .slice A1 a0.data.length c2, .slice A4 a0.items.length c5] a0 x20 h10 hx19) rfl rfl ?_
    rintro L24 M25 ⟨B21, cs22, h23, e26, e27⟩
    rw [e26, e27]
    clear e26 e27 L24 M25
    refine OW.mem (M' := ((some b13, blk [.bool (a0.list), .slice A1 a0.data.length c2, .slice A4 a0.items.length c5] 29) :: ((B21 ++ []) ++ N))) (fun w m => by have h := Mem.sinkAt (A := B21) m 0 1 rfl rfl; exact h) ?_
    replace h10 := ItRd.mono (Ψ := More w0 Φ (B21 ++ [])) (fun w q => More.mono (fun w m => (m).appR) q) _ _ h10
    replace v3 := v3.mono (Ψ := More w0 Φ (B21 ++ [])) (fun w q => More.mono (fun w m => (m).appR) q)
    replace v6 := v6.mono (Ψ := More w0 Φ (B21 ++ [])) (fun w q => More.mono (fun w m => (m).appR) q)
    replace h8 := h8.mono (ItRd.mono (Ψ := More w0 Φ (B21 ++ [])) (fun w q => More.mono (fun w m => (m).appR) q))
    replace h23 := RtRd.mono (Ψ := (More w0 Φ (B21 ++ []))) (fun w q => More.flat q) _ _ h23
    have h38 := h23
    obtain ⟨A28, A29, c30, cs31, e37, v32, v33, h34, v35, h36⟩ := RtRd.opn h23
    subst e37
    have v39 := v32.view
    have m40 := v39.mx
    have m41 := v33.mx
    have m42 := v35.mx
    have m43 := v39.mx
    have m44 := v33.mx
    refine OW.alloc (l := [.bool false, .slice none 0 0, .slice none 0 0]) rfl rfl rfl (fun b45 => ?_)
    refine OW.sv (SV.storeW rfl rfl rfl (by intro u hu; simp at hu; rcases hu with rfl | rfl | rfl <;> rfl) rfl rfl rfl) ?_
    refine OW.nil ?_
    refine QW.then_n ?_
    refine CW.seq ?_
    refine CW.seq ?_
    refine CW.drawsU 6 mixed (by kernel_rfl) rfl ?_
    refine UW.rv 0 rfl (by kernel_rfl) rfl (RV.loadW rfl (List.Mem.head _) rfl rfl rfl rfl rfl) rfl ?_
    refine UW.rv 3 rfl (by kernel_rfl) rfl (RV.loadW rfl (List.Mem.tail _ (List.Mem.head _)) rfl rfl rfl rfl rfl) rfl ?_
    obtain ⟨x47, hx46, hf⟩ := some_bind hf
    refine UW.callG 1 rfl (by kernel_rfl) rfl Try.call49 rfl (fun N' hN' => rlp_Check_does w0 (More w0 Φ (B21 ++ [])) N' (fun w m => More.of hΦ 2 (hN' w m) rfl) [.bool (x20.list), .slice A28 x20.data.length (x20.data.length + 9), .slice A29 x20.items.length c30] x20 x47 (RtRd.it h38) hx46) rfl ?_
    rintro _ G49 ⟨b48, rfl⟩
    refine UW.mem (M' := ((some b45, blk [.bool (x20.list), .slice A28 x20.data.length (x20.data.length + 9), .slice A29 x20.items.length c30] 29) :: (some b13, blk [.bool (a0.list), .slice A1 a0.data.length c2, .slice A4 a0.items.length c5] 29) :: ((B21 ++ []) ++ N))) (fun w m => m.appR) ?_
    obtain ⟨x52, hx51, hf⟩ := some_bind hf
    refine UW.callG 2 rfl (by kernel_rfl) rfl Try.call31 rfl (fun N' hN' => waybilllaw07_num_does w0 (More w0 Φ (B21 ++ [])) N' (fun w m => More.of hΦ 2 (hN' w m) rfl) ((x47 : Nat) : Int) x52 (by omega) hx51) rfl ?_
    rintro _ G54 ⟨b53, rfl⟩
    refine UW.mem (M' := ((some b45, blk [.bool (x20.list), .slice A28 x20.data.length (x20.data.length + 9), .slice A29 x20.items.length c30] 29) :: (some b13, blk [.bool (a0.list), .slice A1 a0.data.length c2, .slice A4 a0.items.length c5] 29) :: ((B21 ++ []) ++ N))) (fun w m => m.appR) ?_
    obtain ⟨x57, hx56, hf⟩ := some_bind hf
    refine UW.callG 4 rfl (by kernel_rfl) rfl Try.call50 rfl (fun N' hN' => waybillref07_Check_does w0 (More w0 Φ (B21 ++ [])) N' (fun w m => More.of hΦ 2 (hN' w m) rfl) [.bool (a0.list), .slice A1 a0.data.length c2, .slice A4 a0.items.length c5] a0 x57 h10 hx56) rfl ?_
    rintro _ G59 ⟨b58, rfl⟩
    refine UW.mem (M' := ((some b45, blk [.bool (x20.list), .slice A28 x20.data.length (x20.data.length + 9), .slice A29 x20.items.length c30] 29) :: (some b13, blk [.bool (a0.list), .slice A1 a0.data.length c2, .slice A4 a0.items.length c5] 29) :: ((B21 ++ []) ++ N))) (fun w m => m.appR) ?_
    refine UW.rv 5 rfl (by kernel_rfl) rfl (RV.neq rfl rfl) rfl ?_
    refine UW.nil (by kernel_rfl) ?_
    refine OW.nil ?_
    refine QW.then_n ?_
    by_cases h61 : x52 = ((x57 : Nat) : Int)
    · replace hf := if_t hf h61
      refine CW.is_f rfl (congrArg (fun b => !b) (decide_eq_true h61)) ?_
      refine CW.skip ?_
      refine QW.then_n ?_
      refine CW.seq ?_
      refine CW.region ?_
      refine OW.rv (RV.loadW rfl (List.Mem.head _) rfl rfl rfl rfl rfl) rfl ?_
      obtain ⟨⟨x63, x64⟩, hx62, hf⟩ := some_bind hf
      try dsimp only at hf
      refine OW.callG Try.call51 rfl (rlp_Size_does w0 (More w0 Φ (B21 ++ [])) ((some b45, blk [.bool (x20.list), .slice A28 x20.data.length (x20.data.length + 9), .slice A29 x20.items.length c30] 29) :: (some b13, blk [.bool (a0.list), .slice A1 a0.data.length c2, .slice A4 a0.items.length c5] 29) :: ((B21 ++ []) ++ N)) (fun w m => More.of hΦ 2 m rfl) [.bool (x20.list), .slice A28 x20.data.length (x20.data.length + 9), .slice A29 x20.items.length c30] x20 x63 x64 (RtRd.it h38) hx62) rfl rfl ?_
      rintro _ G67 ⟨b65, b66, rfl⟩
      refine OW.mem (M' := ((some b45, blk [.bool (x20.list), .slice A28 x20.data.length (x20.data.length + 9), .slice A29 x20.items.length c30] 29) :: (some b13, blk [.bool (a0.list), .slice A1 a0.data.length c2, .slice A4 a0.items.length c5] 29) :: ((B21 ++ []) ++ N))) (fun w m => m.appR) ?_
      refine OW.rv (RV.move rfl) rfl ?_
      refine OW.rv (RV.extract rfl rfl) rfl ?_
      refine OW.slot (.int .i64 ((x63 : Nat) : Int)) (rfl) ?_
      refine OW.rv (RV.extract rfl rfl) rfl ?_
      refine OW.slot (.int .i64 ((x64 : Nat) : Int)) (rfl) ?_
      refine OW.rv (RV.assign rfl) rfl ?_
      refine OW.rv (RV.assign rfl) rfl ?_
      refine OW.nil ?_
      refine QW.then_n ?_
      refine CW.seq ?_
      refine CW.region ?_
      refine OW.rv (RV.loadW rfl (List.Mem.tail _ (List.Mem.head _)) rfl rfl rfl rfl rfl) rfl ?_
      obtain ⟨⟨x70, x71⟩, hx69, hf⟩ := some_bind hf
      try dsimp only at hf
      refine OW.callG Try.call52 rfl (waybillref07_Size_does w0 (More w0 Φ (B21 ++ [])) ((some b45, blk [.bool (x20.list), .slice A28 x20.data.length (x20.data.length + 9), .slice A29 x20.items.length c30] 29) :: (some b13, blk [.bool (a0.list), .slice A1 a0.data.length c2, .slice A4 a0.items.length c5] 29) :: ((B21 ++ []) ++ N)) (fun w m => More.of hΦ 2 m rfl) [.bool (a0.list), .slice A1 a0.data.length c2, .slice A4 a0.items.length c5] a0 x70 x71 h10 hx69) rfl rfl ?_
      rintro _ G74 ⟨b72, b73, rfl⟩
      refine OW.mem (M' := ((some b45, blk [.bool (x20.list), .slice A28 x20.data.length (x20.data.length + 9), .slice A29 x20.items.length c30] 29) :: (some b13, blk [.bool (a0.list), .slice A1 a0.data.length c2, .slice A4 a0.items.length c5] 29) :: ((B21 ++ []) ++ N))) (fun w m => m.appR) ?_
      refine OW.rv (RV.move rfl) rfl ?_
      refine OW.rv (RV.extract rfl rfl) rfl ?_
      refine OW.slot (.int .i64 ((x70 : Nat) : Int)) (rfl) ?_
      refine OW.rv (RV.extract rfl rfl) rfl ?_
      refine OW.slot (.int .i64 ((x71 : Nat) : Int)) (rfl) ?_
      refine OW.rv (RV.assign rfl) rfl ?_
      refine OW.rv (RV.assign rfl) rfl ?_
      refine OW.nil ?_
      refine QW.then_n ?_
      refine CW.seq ?_
      refine CW.seq ?_
      obtain ⟨q76, hq77, hf⟩ := some_bind hf
      refine CW.cutJ (fun L' M' => ∃ p78 : Bool, q76 = p78 ∧ L' = [(1, ptr (some b13) 0), (3, ptr (some b45) 0), (40, .bool (p78))] ∧ M' = ((some b45, blk [.bool (x20.list), .slice A28 x20.data.length (x20.data.length + 9), .slice A29 x20.items.length c30] 29) :: (some b13, blk [.bool (a0.list), .slice A1 a0.data.length c2, .slice A4 a0.items.length c5] 29) :: ((B21 ++ []) ++ N))) ?_ ?_
      · rintro L80 M81 ⟨p78, e79, e82, e83⟩
        rw [e82, e83]
        clear e82 e83 L80 M81
        clear hq77
        rw [e79] at hf
        clear e79
        try dsimp only at hf
        refine QW.then_n ?_
        by_cases h84 : p78 = true
        · replace hf := if_t hf h84
          refine CW.is_t rfl (h84) ?_
          refine CW.seq ?_
          refine CW.region ?_
          refine OW.rv (RV.assign rfl) rfl ?_
          refine OW.nil ?_
          refine QW.then_n ?_
          refine CW.ret ?_
          refine QW.then_r ?_
          have e0 := Option.some.inj hf
          subst e0
          refine QW.retG (rs := [.tmp 2]) ([.bool false]) ((some b45, blk [.bool (x20.list), .slice A28 x20.data.length (x20.data.length + 9), .slice A29 x20.items.length c30] 29) :: (some b13, blk [.bool (a0.list), .slice A1 a0.data.length c2, .slice A4 a0.items.length c5] 29) :: (B21 ++ [])) rfl ?_ rfl ?_ ?_ _ (.inl rfl)
          · exact ⟨rfl, trivial⟩
          · exact rfl
          · exact (fun w m => m)
        · replace hf := if_f hf h84
          refine CW.is_f rfl (Bool.eq_false_iff.2 h84) ?_
          refine CW.skip ?_
          refine QW.then_n ?_
          refine CW.seq ?_
          refine CW.region ?_
          refine OW.rv (RV.loadW rfl (List.Mem.head _) rfl rfl rfl rfl rfl) rfl ?_
          obtain ⟨⟨x86, x87⟩, hx85, hf⟩ := some_bind hf
          try dsimp only at hf
          refine OW.callG Try.call53 rfl (rlp_Encode_does w0 (More w0 Φ (B21 ++ [])) ((some b45, blk [.bool (x20.list), .slice A28 x20.data.length (x20.data.length + 9), .slice A29 x20.items.length c30] 29) :: (some b13, blk [.bool (a0.list), .slice A1 a0.data.length c2, .slice A4 a0.items.length c5] 29) :: ((B21 ++ []) ++ N)) (fun w m => More.of hΦ 2 m rfl) [.bool (x20.list), .slice A28 x20.data.length (x20.data.length + 9), .slice A29 x20.items.length c30] x20 x86 x87 (RtRd.it h38) hx85) rfl rfl ?_
          rintro L94 M95 ⟨B88, ob89, c90, r91, o92, b93, e96, e97⟩
          rw [e96, e97]
          clear e96 e97 L94 M95
          refine OW.mem (M' := ((ob89, blk ((u8s x86) ++ r91) 5) :: (some b45, blk [.bool (x20.list), .slice A28 x20.data.length (x20.data.length + 9), .slice A29 x20.items.length c30] 29) :: (some b13, blk [.bool (a0.list), .slice A1 a0.data.length c2, .slice A4 a0.items.length c5] 29) :: ((B88 ++ (B21 ++ [])) ++ N))) (fun w m => by have h := Mem.sinkAt (A := B88) m 1 2 rfl rfl; exact h) ?_
          replace h38 := RtRd.mono (Ψ := More w0 Φ (B88 ++ (B21 ++ []))) (fun w q => More.mono (fun w m => (m).appR) q) _ _ h38
          replace v39 := v39.mono (Ψ := More w0 Φ (B88 ++ (B21 ++ []))) (fun w q => More.mono (fun w m => (m).appR) q)
          replace v32 := v32.mono (Ψ := More w0 Φ (B88 ++ (B21 ++ []))) (fun w q => More.mono (fun w m => (m).appR) q)
          replace v33 := v33.mono (Ψ := More w0 Φ (B88 ++ (B21 ++ []))) (fun w q => More.mono (fun w m => (m).appR) q)
          replace h34 := h34.mono (ItRd.mono (Ψ := More w0 Φ (B88 ++ (B21 ++ []))) (fun w q => More.mono (fun w m => (m).appR) q))
          replace v35 := v35.mono (Ψ := More w0 Φ (B88 ++ (B21 ++ []))) (fun w q => More.mono (fun w m => (m).appR) q)
          replace h36 := h36.mono (ItRd.mono (Ψ := More w0 Φ (B88 ++ (B21 ++ []))) (fun w q => More.mono (fun w m => (m).appR) q))
          replace h10 := ItRd.mono (Ψ := More w0 Φ (B88 ++ (B21 ++ []))) (fun w q => More.mono (fun w m => (m).appR) q) _ _ h10
          replace v3 := v3.mono (Ψ := More w0 Φ (B88 ++ (B21 ++ []))) (fun w q => More.mono (fun w m => (m).appR) q)
          replace v6 := v6.mono (Ψ := More w0 Φ (B88 ++ (B21 ++ []))) (fun w q => More.mono (fun w m => (m).appR) q)
          replace h8 := h8.mono (ItRd.mono (Ψ := More w0 Φ (B88 ++ (B21 ++ []))) (fun w q => More.mono (fun w m => (m).appR) q))
          have m98 := o92.mx
          refine OW.rv (RV.move rfl) rfl ?_
          refine OW.rv (RV.extract rfl rfl) rfl ?_
          refine OW.slot (sl ob89 0 x86.length c90) (rfl) ?_
          refine OW.rv (RV.extract rfl rfl) rfl ?_
          refine OW.slot (.int .i64 ((x87 : Nat) : Int)) (rfl) ?_
          refine OW.rv (RV.assign rfl) rfl ?_
          refine OW.rv (RV.assign rfl) rfl ?_
          refine OW.nil ?_
          refine QW.then_n ?_
          refine CW.seq ?_
          refine CW.region ?_
          refine OW.rv (RV.loadW rfl (List.Mem.tail _ (List.Mem.tail _ (List.Mem.head _))) rfl rfl rfl rfl rfl) rfl ?_
          obtain ⟨⟨x100, x101⟩, hx99, hf⟩ := some_bind hf
          try dsimp only at hf
          refine OW.callG Try.call54 rfl (waybillref07_Encode_does w0 (More w0 Φ (B88 ++ (B21 ++ []))) ((ob89, blk ((u8s x86) ++ r91) 5) :: (some b45, blk [.bool (x20.list), .slice A28 x20.data.length (x20.data.length + 9), .slice A29 x20.items.length c30] 29) :: (some b13, blk [.bool (a0.list), .slice A1 a0.data.length c2, .slice A4 a0.items.length c5] 29) :: ((B88 ++ (B21 ++ [])) ++ N)) (fun w m => More.of hΦ 3 m rfl) [.bool (a0.list), .slice A1 a0.data.length c2, .slice A4 a0.items.length c5] a0 x100 x101 h10 hx99) rfl rfl ?_
          rintro L108 M109 ⟨B102, ob103, c104, r105, o106, b107, e110, e111⟩
          rw [e110, e111]
          clear e110 e111 L108 M109
          refine OW.mem (M' := ((ob103, blk ((u8s x100) ++ r105) 5) :: (ob89, blk ((u8s x86) ++ r91) 5) :: (some b45, blk [.bool (x20.list), .slice A28 x20.data.length (x20.data.length + 9), .slice A29 x20.items.length c30] 29) :: (some b13, blk [.bool (a0.list), .slice A1 a0.data.length c2, .slice A4 a0.items.length c5] 29) :: ((B102 ++ (B88 ++ (B21 ++ []))) ++ N))) (fun w m => by have h := Mem.sinkAt (A := B102) m 1 3 rfl rfl; exact h) ?_
          replace h38 := RtRd.mono (Ψ := More w0 Φ (B102 ++ (B88 ++ (B21 ++ [])))) (fun w q => More.mono (fun w m => (m).appR) q) _ _ h38
          replace v39 := v39.mono (Ψ := More w0 Φ (B102 ++ (B88 ++ (B21 ++ [])))) (fun w q => More.mono (fun w m => (m).appR) q)
          replace v32 := v32.mono (Ψ := More w0 Φ (B102 ++ (B88 ++ (B21 ++ [])))) (fun w q => More.mono (fun w m => (m).appR) q)
          replace v33 := v33.mono (Ψ := More w0 Φ (B102 ++ (B88 ++ (B21 ++ [])))) (fun w q => More.mono (fun w m => (m).appR) q)
          replace h34 := h34.mono (ItRd.mono (Ψ := More w0 Φ (B102 ++ (B88 ++ (B21 ++ [])))) (fun w q => More.mono (fun w m => (m).appR) q))
          replace v35 := v35.mono (Ψ := More w0 Φ (B102 ++ (B88 ++ (B21 ++ [])))) (fun w q => More.mono (fun w m => (m).appR) q)
          replace h36 := h36.mono (ItRd.mono (Ψ := More w0 Φ (B102 ++ (B88 ++ (B21 ++ [])))) (fun w q => More.mono (fun w m => (m).appR) q))
          replace h10 := ItRd.mono (Ψ := More w0 Φ (B102 ++ (B88 ++ (B21 ++ [])))) (fun w q => More.mono (fun w m => (m).appR) q) _ _ h10
          replace v3 := v3.mono (Ψ := More w0 Φ (B102 ++ (B88 ++ (B21 ++ [])))) (fun w q => More.mono (fun w m => (m).appR) q)
          replace v6 := v6.mono (Ψ := More w0 Φ (B102 ++ (B88 ++ (B21 ++ [])))) (fun w q => More.mono (fun w m => (m).appR) q)
          replace h8 := h8.mono (ItRd.mono (Ψ := More w0 Φ (B102 ++ (B88 ++ (B21 ++ [])))) (fun w q => More.mono (fun w m => (m).appR) q))
          have m112 := o106.mx
          refine OW.rv (RV.move rfl) rfl ?_
          refine OW.rv (RV.extract rfl rfl) rfl ?_
          refine OW.slot (sl ob103 0 x100.length c104) (rfl) ?_
          refine OW.rv (RV.extract rfl rfl) rfl ?_
          refine OW.slot (.int .i64 ((x101 : Nat) : Int)) (rfl) ?_
          refine OW.rv (RV.assign rfl) rfl ?_
          refine OW.rv (RV.assign rfl) rfl ?_
          refine OW.nil ?_
          refine QW.then_n ?_
          refine CW.seq ?_
          obtain ⟨q113, hq114, hf⟩ := some_bind hf
          refine CW.cutJ (fun L' M' => ∃ p117 : Bool, ∃ B115 : List Ent, q113 = p117 ∧ (∀ w, Mem w0 w B115 → Mem w0 w (B102 ++ (B88 ++ (B21 ++ [])))) ∧ L' = [(2, .bool (p117))] ∧ M' = ((B115 ++ N))) ?_ ?_
          · rintro L119 M120 ⟨p117, B115, e118, hB116, e121, e122⟩
            rw [e121, e122]
            clear e121 e122 L119 M120
            clear hq114
            rw [e118] at hf
            clear e118
            try dsimp only at hf
            refine QW.then_n ?_
            refine CW.ret ?_
            have e0 := Option.some.inj hf
            subst e0
            refine QW.retG (rs := [.tmp 2]) ([.bool (p117)]) (B115) rfl ?_ rfl ?_ ?_ _ (.inl rfl)
            · exact ⟨rfl, trivial⟩
            · exact rfl
            · exact (fun w m => m)
          · skip
            refine CW.region ?_
            refine OW.rv (RV.move rfl) rfl ?_
            obtain ⟨x124, hx123, hq114⟩ := some_bind hq114
            refine OW.callG Try.call31 rfl (waybilllaw07_num_does w0 (More w0 Φ (B102 ++ (B88 ++ (B21 ++ [])))) ((ob103, blk ((u8s x100) ++ r105) 5) :: (ob89, blk ((u8s x86) ++ r91) 5) :: (some b45, blk [.bool (x20.list), .slice A28 x20.data.length (x20.data.length + 9), .slice A29 x20.items.length c30] 29) :: (some b13, blk [.bool (a0.list), .slice A1 a0.data.length c2, .slice A4 a0.items.length c5] 29) :: ((B102 ++ (B88 ++ (B21 ++ []))) ++ N)) (fun w m => More.of hΦ 4 m rfl) ((x87 : Nat) : Int) x124 (by omega) hx123) rfl rfl ?_
            rintro _ G126 ⟨b125, rfl⟩
            refine OW.mem (M' := ((ob103, blk ((u8s x100) ++ r105) 5) :: (ob89, blk ((u8s x86) ++ r91) 5) :: (some b45, blk [.bool (x20.list), .slice A28 x20.data.length (x20.data.length + 9), .slice A29 x20.items.length c30] 29) :: (some b13, blk [.bool (a0.list), .slice A1 a0.data.length c2, .slice A4 a0.items.length c5] 29) :: ((B102 ++ (B88 ++ (B21 ++ []))) ++ N))) (fun w m => m.appR) ?_
            refine OW.rv (RV.move rfl) rfl ?_
            refine OW.rv (RV.eql rfl rfl) rfl ?_
            refine OW.rv (RV.move rfl) rfl ?_
            by_cases h128 : x124 = ((x101 : Nat) : Int)
            · replace hq114 := if_t hq114 h128
              refine OW.slot (.bool true) (congrArg Value.bool (decide_eq_true h128)) ?_
              refine OW.want rfl ?_
              refine OW.rv (RV.move rfl) rfl ?_
              refine OW.want rfl ?_
              refine OW.rv (RV.move rfl) rfl ?_
              refine OW.want rfl ?_
              refine OW.mem (M' := (ob103, blk ((u8s x100) ++ r105) 5) :: (some b45, blk [.bool (x20.list), .slice A28 x20.data.length (x20.data.length + 9), .slice A29 x20.items.length c30] 29) :: (some b13, blk [.bool (a0.list), .slice A1 a0.data.length c2, .slice A4 a0.items.length c5] 29) :: (((ob89, blk ((u8s x86) ++ r91) 5) :: (B102 ++ (B88 ++ (B21 ++ [])))) ++ N)) (fun w m => m.pick [0, 2, 3, 1] 4 rfl rfl) ?_
              replace h38 := RtRd.mono (Ψ := More w0 Φ ((ob89, blk ((u8s x86) ++ r91) 5) :: (B102 ++ (B88 ++ (B21 ++ []))))) (fun w q => More.mono (fun w m => (m).tail) q) _ _ h38
              replace v39 := v39.mono (Ψ := More w0 Φ ((ob89, blk ((u8s x86) ++ r91) 5) :: (B102 ++ (B88 ++ (B21 ++ []))))) (fun w q => More.mono (fun w m => (m).tail) q)
              replace v32 := v32.mono (Ψ := More w0 Φ ((ob89, blk ((u8s x86) ++ r91) 5) :: (B102 ++ (B88 ++ (B21 ++ []))))) (fun w q => More.mono (fun w m => (m).tail) q)
              replace v33 := v33.mono (Ψ := More w0 Φ ((ob89, blk ((u8s x86) ++ r91) 5) :: (B102 ++ (B88 ++ (B21 ++ []))))) (fun w q => More.mono (fun w m => (m).tail) q)
              replace h34 := h34.mono (ItRd.mono (Ψ := More w0 Φ ((ob89, blk ((u8s x86) ++ r91) 5) :: (B102 ++ (B88 ++ (B21 ++ []))))) (fun w q => More.mono (fun w m => (m).tail) q))
              replace v35 := v35.mono (Ψ := More w0 Φ ((ob89, blk ((u8s x86) ++ r91) 5) :: (B102 ++ (B88 ++ (B21 ++ []))))) (fun w q => More.mono (fun w m => (m).tail) q)
              replace h36 := h36.mono (ItRd.mono (Ψ := More w0 Φ ((ob89, blk ((u8s x86) ++ r91) 5) :: (B102 ++ (B88 ++ (B21 ++ []))))) (fun w q => More.mono (fun w m => (m).tail) q))
              replace h10 := ItRd.mono (Ψ := More w0 Φ ((ob89, blk ((u8s x86) ++ r91) 5) :: (B102 ++ (B88 ++ (B21 ++ []))))) (fun w q => More.mono (fun w m => (m).tail) q) _ _ h10
              replace v3 := v3.mono (Ψ := More w0 Φ ((ob89, blk ((u8s x86) ++ r91) 5) :: (B102 ++ (B88 ++ (B21 ++ []))))) (fun w q => More.mono (fun w m => (m).tail) q)
              replace v6 := v6.mono (Ψ := More w0 Φ ((ob89, blk ((u8s x86) ++ r91) 5) :: (B102 ++ (B88 ++ (B21 ++ []))))) (fun w q => More.mono (fun w m => (m).tail) q)
              replace h8 := h8.mono (ItRd.mono (Ψ := More w0 Φ ((ob89, blk ((u8s x86) ++ r91) 5) :: (B102 ++ (B88 ++ (B21 ++ []))))) (fun w q => More.mono (fun w m => (m).tail) q))
              have v129 : View (More w0 Φ ((ob89, blk ((u8s x86) ++ r91) 5) :: (B102 ++ (B88 ++ (B21 ++ []))))) ((ob89).map fun k => ⟨k, 0, none⟩) x86.length c90 1 (u8s x86) := o92.view (by decide) (fun w q => q.2.sublist (List.singleton_sublist.2 (List.mem_cons_self ..)))
              refine OW.mem (M' := (some b45, blk [.bool (x20.list), .slice A28 x20.data.length (x20.data.length + 9), .slice A29 x20.items.length c30] 29) :: (some b13, blk [.bool (a0.list), .slice A1 a0.data.length c2, .slice A4 a0.items.length c5] 29) :: (((ob103, blk ((u8s x100) ++ r105) 5) :: ((ob89, blk ((u8s x86) ++ r91) 5) :: (B102 ++ (B88 ++ (B21 ++ []))))) ++ N)) (fun w m => m.pick [1, 2, 0] 3 rfl rfl) ?_
              replace h38 := RtRd.mono (Ψ := More w0 Φ ((ob103, blk ((u8s x100) ++ r105) 5) :: ((ob89, blk ((u8s x86) ++ r91) 5) :: (B102 ++ (B88 ++ (B21 ++ [])))))) (fun w q => More.mono (fun w m => (m).tail) q) _ _ h38
              replace v39 := v39.mono (Ψ := More w0 Φ ((ob103, blk ((u8s x100) ++ r105) 5) :: ((ob89, blk ((u8s x86) ++ r91) 5) :: (B102 ++ (B88 ++ (B21 ++ [])))))) (fun w q => More.mono (fun w m => (m).tail) q)
              replace v32 := v32.mono (Ψ := More w0 Φ ((ob103, blk ((u8s x100) ++ r105) 5) :: ((ob89, blk ((u8s x86) ++ r91) 5) :: (B102 ++ (B88 ++ (B21 ++ [])))))) (fun w q => More.mono (fun w m => (m).tail) q)
              replace v33 := v33.mono (Ψ := More w0 Φ ((ob103, blk ((u8s x100) ++ r105) 5) :: ((ob89, blk ((u8s x86) ++ r91) 5) :: (B102 ++ (B88 ++ (B21 ++ [])))))) (fun w q => More.mono (fun w m => (m).tail) q)
              replace h34 := h34.mono (ItRd.mono (Ψ := More w0 Φ ((ob103, blk ((u8s x100) ++ r105) 5) :: ((ob89, blk ((u8s x86) ++ r91) 5) :: (B102 ++ (B88 ++ (B21 ++ [])))))) (fun w q => More.mono (fun w m => (m).tail) q))
              replace v35 := v35.mono (Ψ := More w0 Φ ((ob103, blk ((u8s x100) ++ r105) 5) :: ((ob89, blk ((u8s x86) ++ r91) 5) :: (B102 ++ (B88 ++ (B21 ++ [])))))) (fun w q => More.mono (fun w m => (m).tail) q)
              replace h36 := h36.mono (ItRd.mono (Ψ := More w0 Φ ((ob103, blk ((u8s x100) ++ r105) 5) :: ((ob89, blk ((u8s x86) ++ r91) 5) :: (B102 ++ (B88 ++ (B21 ++ [])))))) (fun w q => More.mono (fun w m => (m).tail) q))
              replace v129 := v129.mono (Ψ := More w0 Φ ((ob103, blk ((u8s x100) ++ r105) 5) :: ((ob89, blk ((u8s x86) ++ r91) 5) :: (B102 ++ (B88 ++ (B21 ++ [])))))) (fun w q => More.mono (fun w m => (m).tail) q)
              replace h10 := ItRd.mono (Ψ := More w0 Φ ((ob103, blk ((u8s x100) ++ r105) 5) :: ((ob89, blk ((u8s x86) ++ r91) 5) :: (B102 ++ (B88 ++ (B21 ++ [])))))) (fun w q => More.mono (fun w m => (m).tail) q) _ _ h10
              replace v3 := v3.mono (Ψ := More w0 Φ ((ob103, blk ((u8s x100) ++ r105) 5) :: ((ob89, blk ((u8s x86) ++ r91) 5) :: (B102 ++ (B88 ++ (B21 ++ [])))))) (fun w q => More.mono (fun w m => (m).tail) q)
              replace v6 := v6.mono (Ψ := More w0 Φ ((ob103, blk ((u8s x100) ++ r105) 5) :: ((ob89, blk ((u8s x86) ++ r91) 5) :: (B102 ++ (B88 ++ (B21 ++ [])))))) (fun w q => More.mono (fun w m => (m).tail) q)
              replace h8 := h8.mono (ItRd.mono (Ψ := More w0 Φ ((ob103, blk ((u8s x100) ++ r105) 5) :: ((ob89, blk ((u8s x86) ++ r91) 5) :: (B102 ++ (B88 ++ (B21 ++ [])))))) (fun w q => More.mono (fun w m => (m).tail) q))
              have v130 : View (More w0 Φ ((ob103, blk ((u8s x100) ++ r105) 5) :: ((ob89, blk ((u8s x86) ++ r91) 5) :: (B102 ++ (B88 ++ (B21 ++ [])))))) ((ob103).map fun k => ⟨k, 0, none⟩) x100.length c104 1 (u8s x100) := o106.view (by decide) (fun w q => q.2.sublist (List.singleton_sublist.2 (List.mem_cons_self ..)))
              obtain ⟨x132, hx131, hq114⟩ := some_bind hq114
              refine OW.callG Try.call26 rfl (waybilllaw07_same_does w0 (More w0 Φ ((ob103, blk ((u8s x100) ++ r105) 5) :: ((ob89, blk ((u8s x86) ++ r91) 5) :: (B102 ++ (B88 ++ (B21 ++ [])))))) ((some b45, blk [.bool (x20.list), .slice A28 x20.data.length (x20.data.length + 9), .slice A29 x20.items.length c30] 29) :: (some b13, blk [.bool (a0.list), .slice A1 a0.data.length c2, .slice A4 a0.items.length c5] 29) :: (((ob103, blk ((u8s x100) ++ r105) 5) :: ((ob89, blk ((u8s x86) ++ r91) 5) :: (B102 ++ (B88 ++ (B21 ++ []))))) ++ N)) (fun w m => More.of hΦ 2 m rfl) ((ob89).map fun k => ⟨k, 0, none⟩) c90 x86 ((ob103).map fun k => ⟨k, 0, none⟩) c104 x100 x132 v129 v130 hx131) rfl rfl ?_
              rintro _ G133 rfl
              refine OW.mem (M' := ((some b45, blk [.bool (x20.list), .slice A28 x20.data.length (x20.data.length + 9), .slice A29 x20.items.length c30] 29) :: (some b13, blk [.bool (a0.list), .slice A1 a0.data.length c2, .slice A4 a0.items.length c5] 29) :: (((ob103, blk ((u8s x100) ++ r105) 5) :: ((ob89, blk ((u8s x86) ++ r91) 5) :: (B102 ++ (B88 ++ (B21 ++ []))))) ++ N))) (fun w m => m.appR) ?_
              refine OW.rv (RV.pick_t rfl rfl rfl) rfl ?_
              refine OW.rv (RV.move rfl) rfl ?_
              by_cases h135 : x132 = true
              · replace hq114 := if_t hq114 h135
                refine OW.slot (.bool true) (congrArg Value.bool (h135)) ?_
                refine OW.want rfl ?_
                refine OW.rv (RV.loadW rfl (List.Mem.head _) rfl rfl rfl rfl rfl) rfl ?_
                refine OW.want rfl ?_
                refine OW.rv (RV.loadW rfl (List.Mem.tail _ (List.Mem.head _)) rfl rfl rfl rfl rfl) rfl ?_
                refine OW.want rfl ?_
                obtain ⟨x137, hx136, hq114⟩ := some_bind hq114
                refine OW.callG Try.call44 rfl (waybilllaw07_stays_does w0 (More w0 Φ ((ob103, blk ((u8s x100) ++ r105) 5) :: ((ob89, blk ((u8s x86) ++ r91) 5) :: (B102 ++ (B88 ++ (B21 ++ [])))))) ((some b45, blk [.bool (x20.list), .slice A28 x20.data.length (x20.data.length + 9), .slice A29 x20.items.length c30] 29) :: (some b13, blk [.bool (a0.list), .slice A1 a0.data.length c2, .slice A4 a0.items.length c5] 29) :: (((ob103, blk ((u8s x100) ++ r105) 5) :: ((ob89, blk ((u8s x86) ++ r91) 5) :: (B102 ++ (B88 ++ (B21 ++ []))))) ++ N)) (fun w m => More.of hΦ 2 m rfl) [.bool (x20.list), .slice A28 x20.data.length (x20.data.length + 9), .slice A29 x20.items.length c30] x20 [.bool (a0.list), .slice A1 a0.data.length c2, .slice A4 a0.items.length c5] a0 x137 h38 h10 hx136) rfl rfl ?_
                rintro _ G138 rfl
                refine OW.mem (M' := ((some b45, blk [.bool (x20.list), .slice A28 x20.data.length (x20.data.length + 9), .slice A29 x20.items.length c30] 29) :: (some b13, blk [.bool (a0.list), .slice A1 a0.data.length c2, .slice A4 a0.items.length c5] 29) :: (((ob103, blk ((u8s x100) ++ r105) 5) :: ((ob89, blk ((u8s x86) ++ r91) 5) :: (B102 ++ (B88 ++ (B21 ++ []))))) ++ N))) (fun w m => m.appR) ?_
                refine OW.rv (RV.pick_t rfl rfl rfl) rfl ?_
                refine OW.rv (RV.assign rfl) rfl ?_
                refine OW.nil ?_
                exact QW.join ⟨(x137), ((ob103, blk ((u8s x100) ++ r105) 5) :: ((ob89, blk ((u8s x86) ++ r91) 5) :: (B102 ++ (B88 ++ (B21 ++ []))))), (Option.some.inj hq114).symm, (fun w m => ((m).tail).tail), rfl, rfl⟩ ⟨rfl, trivial⟩ (fun w m => m.pick [] 2 rfl rfl)
              · replace hq114 := if_f hq114 h135
                refine OW.slot (.bool false) (congrArg Value.bool (Bool.eq_false_iff.2 h135)) ?_
                refine OW.skip rfl rfl rfl ?_
                refine OW.skip rfl rfl rfl ?_
                refine OW.skip rfl rfl rfl ?_
                refine OW.rv (RV.pick_f rfl rfl rfl) rfl ?_
                refine OW.rv (RV.assign rfl) rfl ?_
                refine OW.nil ?_
                exact QW.join ⟨false, ((ob103, blk ((u8s x100) ++ r105) 5) :: ((ob89, blk ((u8s x86) ++ r91) 5) :: (B102 ++ (B88 ++ (B21 ++ []))))), (Option.some.inj hq114).symm, (fun w m => ((m).tail).tail), rfl, rfl⟩ ⟨rfl, trivial⟩ (fun w m => m.pick [] 2 rfl rfl)
            · replace hq114 := if_f hq114 h128
              refine OW.slot (.bool false) (congrArg Value.bool (decide_eq_false h128)) ?_
              refine OW.skip rfl rfl rfl ?_
              refine OW.skip rfl rfl rfl ?_
              refine OW.skip rfl rfl rfl ?_
              refine OW.rv (RV.pick_f rfl rfl rfl) rfl ?_
              refine OW.rv (RV.move rfl) rfl ?_
              refine OW.skip rfl rfl rfl ?_
              refine OW.skip rfl rfl rfl ?_
              refine OW.skip rfl rfl rfl ?_
              refine OW.rv (RV.pick_f rfl rfl rfl) rfl ?_
              refine OW.rv (RV.assign rfl) rfl ?_
              refine OW.nil ?_
              exact QW.join ⟨false, (B102 ++ (B88 ++ (B21 ++ []))), (Option.some.inj hq114).symm, (fun w m => m), rfl, rfl⟩ ⟨rfl, trivial⟩ (fun w m => m.pick [] 4 rfl rfl)
      · skip
        refine CW.region ?_
        refine OW.rv (RV.move rfl) rfl ?_
        refine OW.rv (RV.move rfl) rfl ?_
        refine OW.rv (RV.neq rfl rfl) rfl ?_
        refine OW.slot (.bool (!decide (x63 = x70))) (congrArg (fun b => Value.bool (!b)) (decide_eq_decide.2 (by omega))) ?_
        refine OW.rv (RV.move rfl) rfl ?_
        by_cases h140 : x63 = x70
        · replace hq77 := if_t hq77 h140
          refine OW.slot (.bool false) (congrArg Value.bool (congrArg (fun b => !b) (decide_eq_true h140))) ?_
          refine OW.want rfl ?_
          refine OW.rv (RV.move rfl) rfl ?_
          refine OW.want rfl ?_
          obtain ⟨x142, hx141, hq77⟩ := some_bind hq77
          refine OW.callG Try.call31 rfl (waybilllaw07_num_does w0 (More w0 Φ (B21 ++ [])) ((some b45, blk [.bool (x20.list), .slice A28 x20.data.length (x20.data.length + 9), .slice A29 x20.items.length c30] 29) :: (some b13, blk [.bool (a0.list), .slice A1 a0.data.length c2, .slice A4 a0.items.length c5] 29) :: ((B21 ++ []) ++ N)) (fun w m => More.of hΦ 2 m rfl) ((x64 : Nat) : Int) x142 (by omega) hx141) rfl rfl ?_
          rintro _ G144 ⟨b143, rfl⟩
          refine OW.mem (M' := ((some b45, blk [.bool (x20.list), .slice A28 x20.data.length (x20.data.length + 9), .slice A29 x20.items.length c30] 29) :: (some b13, blk [.bool (a0.list), .slice A1 a0.data.length c2, .slice A4 a0.items.length c5] 29) :: ((B21 ++ []) ++ N))) (fun w m => m.appR) ?_
          refine OW.want rfl ?_
          refine OW.rv (RV.move rfl) rfl ?_
          refine OW.want rfl ?_
          refine OW.rv (RV.neq rfl rfl) rfl ?_
          refine OW.rv (RV.pick_f rfl rfl rfl) rfl ?_
          refine OW.nil ?_
          exact QW.join ⟨(!decide (x142 = ((x71 : Nat) : Int))), (Option.some.inj hq77).symm, rfl, rfl⟩ ⟨rfl, rfl, rfl, trivial⟩ (fun w m => m.pick [0, 1] 2 rfl rfl)
        · replace hq77 := if_f hq77 h140
          refine OW.slot (.bool true) (congrArg Value.bool (congrArg (fun b => !b) (decide_eq_false h140))) ?_
          refine OW.skip rfl rfl rfl ?_
          refine OW.skip rfl rfl rfl ?_
          refine OW.skip rfl rfl rfl ?_
          refine OW.skip rfl rfl rfl ?_
          refine OW.rv (RV.pick_t rfl rfl rfl) rfl ?_
          refine OW.nil ?_
          exact QW.join ⟨true, (Option.some.inj hq77).symm, rfl, rfl⟩ ⟨rfl, rfl, rfl, trivial⟩ (fun w m => m.pick [0, 1] 2 rfl rfl)
    · replace hf := if_f hf h61
      refine CW.is_t rfl (congrArg (fun b => !b) (decide_eq_false h61)) ?_
      refine CW.seq ?_
      refine CW.region ?_
      refine OW.rv (RV.assign rfl) rfl ?_
      refine OW.nil ?_
      refine QW.then_n ?_
      refine CW.ret ?_
      refine QW.then_r ?_
      have e0 := Option.some.inj hf
      subst e0
      refine QW.retG (rs := [.tmp 2]) ([.bool false]) ((some b45, blk [.bool (x20.list), .slice A28 x20.data.length (x20.data.length + 9), .slice A29 x20.items.length c30] 29) :: (some b13, blk [.bool (a0.list), .slice A1 a0.data.length c2, .slice A4 a0.items.length c5] 29) :: (B21 ++ [])) rfl ?_ rfl ?_ ?_ _ (.inl rfl)
      · exact ⟨rfl, trivial⟩
      · exact rfl
      · exact (fun w m => m)
end Go.Fw.Try
