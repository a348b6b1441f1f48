/- Part of a proof over Ytgdohhccpghofaa: rules and contracts that the law's text uses. No condition. -/
import Derived.Test.YtgdohhccpghofaaTy
import Derived.Test.YtgdohhccpghofaaExt
import Derived.Test.YtgdohhccpghofaaRlpRoom
import Derived.Test.YtgdohhccpghofaaRtL
import Derived.Test.YtgdohhccpghofaaRlpP1
import Derived.Test.YtgdohhccpghofaaRlpP2
import Derived.Test.YtgdohhccpghofaaRlpP3
import Derived.Test.YtgdohhccpghofaaRlpP4
import Derived.Test.YtgdohhccpghofaaRlpP5
namespace Go.Fw.Try
open Go Go.Proofs Go.Fw
set_option maxRecDepth 100000
set_option linter.unusedVariables false
set_option linter.unusedSimpArgs false
set_option maxHeartbeats 1000000

theorem rlp_clone_does (w0 : World) (Φ : Ctx) (N : List Ent) (hΦ : ∀ w, Mem w0 w N → Φ w) (A0_ : Option Addr) (c0_ : Nat) (a0 : List (BitVec 8)) (res0 : List (BitVec 8)) (va0 : View Φ A0_ a0.length c0_ 1 (u8s a0)) (hf : rlp_clone a0 = some res0) : DoesG Try.prog 63 [.slice A0_ a0.length c0_] w0 [] N (fun v G => ∃ B : List Ent, ∃ or0 : Option Nat, ∃ kr0 : Nat, ∃ rr0 : List Value, (OwnS or0 res0.length kr0 1 (u8s res0) rr0) ∧ v = sl or0 0 res0.length kr0 ∧ G = (or0, blk ((u8s res0) ++ rr0) 5) :: B) := by
  unfold rlp_clone at hf
  replace va0 := va0.mono (Ψ := More w0 Φ []) (fun w q => q.1)
  have m1 := va0.mx
  refine DoesG.enter Try.func63 rfl Try.ntmps63 rfl (M := (([] ++ N))) rfl ?_
  refine CW.seq ?_
  refine CW.region ?_
  refine OW.rv (RV.assign rfl) rfl ?_
  refine OW.nil ?_
  refine QW.then_n ?_
  refine CW.seq ?_
  refine CW.region ?_
  refine OW.rv (RV.move rfl) rfl ?_
  refine OW.mem (M' := ((none, blk ((u8s ([] : List (BitVec 8))) ++ []) 5) :: ([] ++ N))) (fun w m => m.nil_ent _) ?_
  refine OW.appendOwn (s := 1) rfl rfl rfl rfl rfl rfl OwnS.nil (fun w m => va0.rd w (More.of hΦ 1 m rfl)) va0.n (u8s_one _) (va0.zero (by decide)) (by decide) (by decide) (by first | omega | (simp only [i5, List.length_nil]; omega)) rfl rfl (a0.length) (u8s a0) (Nat.zero_add _) rfl (fun ob2 r3 c4 o5 => ?_)
  have m6 := o5.mx
  refine OW.rv (RV.assign rfl) rfl ?_
  refine OW.nil ?_
  refine QW.then_n ?_
  refine CW.ret ?_
  have e0 := Option.some.inj hf
  subst e0
  refine QW.retG (rs := [.tmp 2]) ([sl ob2 0 a0.length c4]) ((ob2, blk ((u8s a0) ++ r3) 5) :: []) rfl ?_ rfl ?_ ?_ _ (.inl rfl)
  · exact ⟨rfl, trivial⟩
  · exact ⟨[], ob2, c4, r3, o5, rfl, rfl⟩
  · exact (fun w m => m.pick [0] 1 rfl rfl)

theorem waybillref07_bytes_does (w0 : World) (Φ : Ctx) (N : List Ent) (hΦ : ∀ w, Mem w0 w N → Φ w) (A0_ : Option Addr) (c0_ : Nat) (a0 : List (BitVec 8)) (res0 : List (BitVec 8)) (va0 : View Φ A0_ a0.length c0_ 1 (u8s a0)) (hf : waybillref07_bytes a0 = some res0) : DoesG Try.prog 62 [.slice A0_ a0.length c0_] w0 [] N (fun v G => ∃ B : List Ent, ∃ or0 : Option Nat, ∃ kr0 : Nat, ∃ rr0 : List Value, (OwnS or0 res0.length kr0 1 (u8s res0) rr0) ∧ v = sl or0 0 res0.length kr0 ∧ G = (or0, blk ((u8s res0) ++ rr0) 5) :: B) := by
  unfold waybillref07_bytes at hf
  replace va0 := va0.mono (Ψ := More w0 Φ []) (fun w q => q.1)
  have m1 := va0.mx
  refine DoesG.enter Try.func62 rfl Try.ntmps62 rfl (M := (([] ++ N))) rfl ?_
  refine CW.seq ?_
  refine CW.region ?_
  refine OW.rv (RV.assign rfl) rfl ?_
  refine OW.nil ?_
  refine QW.then_n ?_
  refine CW.seq ?_
  refine CW.region ?_
  refine OW.rv (RV.assign rfl) rfl ?_
  refine OW.nil ?_
  refine QW.then_n ?_
  refine CW.seq ?_
  refine CW.region ?_
  refine OW.rv (RV.move rfl) rfl ?_
  refine OW.rv (RV.move rfl) rfl ?_
  refine OW.mem (M' := ((none, blk ((u8s ([] : List (BitVec 8))) ++ []) 5) :: ([] ++ N))) (fun w m => m.nil_ent _) ?_
  refine OW.appendOwn (s := 1) rfl rfl rfl rfl rfl rfl OwnS.nil (fun w m => va0.rd w (More.of hΦ 1 m rfl)) va0.n (u8s_one _) (va0.zero (by decide)) (by decide) (by decide) (by first | omega | (simp only [i5, List.length_nil]; omega)) rfl rfl (a0.length) (u8s a0) (Nat.zero_add _) rfl (fun ob2 r3 c4 o5 => ?_)
  have m6 := o5.mx
  refine OW.rv (RV.assign rfl) rfl ?_
  refine OW.nil ?_
  refine QW.then_n ?_
  refine CW.ret ?_
  have e0 := Option.some.inj hf
  subst e0
  refine QW.retG (rs := [.tmp 2]) ([sl ob2 0 a0.length c4]) ((ob2, blk ((u8s a0) ++ r3) 5) :: []) rfl ?_ rfl ?_ ?_ _ (.inl rfl)
  · exact ⟨rfl, trivial⟩
  · exact ⟨[], ob2, c4, r3, o5, rfl, rfl⟩
  · exact (fun w m => m.pick [0] 1 rfl rfl)

theorem waybilllaw07_num_does (w0 : World) (Φ : Ctx) (N : List Ent) (hΦ : ∀ w, Mem w0 w N → Φ w) (a0 : Int) (res0 : Int) (ba0 : -9223372036854775808 ≤ a0 ∧ a0 ≤ 9223372036854775807) (hf : waybilllaw07_num a0 = some res0) : DoesG Try.prog 31 [.int .i64 a0] w0 [] N (fun v G => (-9223372036854775808 ≤ res0 ∧ res0 ≤ 9223372036854775807) ∧ v = .int .i64 res0) := by
  unfold waybilllaw07_num at hf
  refine DoesG.enter Try.func31 rfl Try.ntmps31 rfl (M := (([] ++ N))) rfl ?_
  refine CW.seq ?_
  refine CW.region ?_
  refine OW.rv (RV.assign rfl) rfl ?_
  refine OW.nil ?_
  refine QW.then_n ?_
  refine CW.seq ?_
  refine CW.region ?_
  refine OW.rv (RV.move rfl) rfl ?_
  refine OW.rv (RV.assign rfl) rfl ?_
  refine OW.nil ?_
  refine QW.then_n ?_
  refine CW.ret ?_
  have e0 := Option.some.inj hf
  subst e0
  refine QW.retG (rs := [.tmp 2]) ([.int .i64 a0]) ([]) rfl ?_ rfl ?_ ?_ _ (.inl rfl)
  · exact ⟨rfl, trivial⟩
  · exact ⟨(by omega), rfl⟩
  · exact (fun w m => m)

theorem rlp_odd_does (w0 : World) (Φ : Ctx) (N : List Ent) (hΦ : ∀ w, Mem w0 w N → Φ w) (cs0_ : List Value) (a0 : It) (res0 : Bool) (ha0 : ItRd Φ cs0_ a0) (hf : rlp_odd a0 = some res0) : DoesG Try.prog 88 [.agg cs0_.toArray] w0 [] N (fun v G => v = .bool res0) := by
  unfold rlp_odd at hf
  replace ha0 := ItRd.mono (Ψ := More w0 Φ []) (fun w q => q.1) _ _ ha0
  have h10 := ha0
  obtain ⟨A1, c2, A4, c5, cs7, e9, v3, v6, h8⟩ := ItRd.opn ha0
  subst e9
  have m11 := v3.mx
  have m12 := v6.mx
  refine DoesG.enter Try.func88 rfl Try.ntmps88 rfl (M := (([] ++ N))) rfl ?_
  refine CW.seq ?_
  refine CW.region ?_
  refine OW.boxA rfl rfl (fun b13 => ?_)
  refine OW.rv (RV.assign rfl) rfl ?_
  refine OW.nil ?_
  refine QW.then_n ?_
  refine CW.seq ?_
  obtain ⟨q14, hq15, hf⟩ := some_bind hf
  refine CW.cutJ (fun L' M' => ∃ p16 : Bool, q14 = p16 ∧ L' = [(2, .bool (p16))] ∧ M' = (([] ++ N))) ?_ ?_
  · rintro L18 M19 ⟨p16, e17, e20, e21⟩
    rw [e20, e21]
    clear e20 e21 L18 M19
    clear hq15
    rw [e17] at hf
    clear e17
    try dsimp only at hf
    refine QW.then_n ?_
    refine CW.ret ?_
    have e0 := Option.some.inj hf
    subst e0
    refine QW.retG (rs := [.tmp 2]) ([.bool (p16)]) ([]) rfl ?_ rfl ?_ ?_ _ (.inl rfl)
    · exact ⟨rfl, trivial⟩
    · exact rfl
    · exact (fun w m => m)
  · skip
    refine CW.region ?_
    refine OW.rv (RV.field rfl rfl rfl rfl) rfl ?_
    refine OW.rv (RV.load rfl (List.Mem.head _) rfl rfl rfl rfl) rfl ?_
    refine OW.rv (RV.move rfl) rfl ?_
    by_cases h22 : a0.list = true
    · replace hq15 := if_t hq15 h22
      refine OW.slot (.bool true) (congrArg Value.bool (h22)) ?_
      refine OW.want rfl ?_
      refine OW.rv (RV.field rfl rfl rfl rfl) rfl ?_
      refine OW.want rfl ?_
      refine OW.rv (RV.load rfl (List.Mem.head _) rfl rfl rfl rfl) rfl ?_
      refine OW.want rfl ?_
      refine OW.rv (RV.len rfl rfl) rfl ?_
      refine OW.want rfl ?_
      refine OW.rv (RV.gtr rfl rfl) rfl ?_
      refine OW.slot (.bool (decide (0 < a0.data.length))) (congrArg Value.bool (decide_eq_decide.2 (by omega))) ?_
      refine OW.rv (RV.pick_t rfl rfl rfl) rfl ?_
      refine OW.rv (RV.move rfl) rfl ?_
      by_cases h23 : 0 < a0.data.length
      · replace hq15 := if_t hq15 h23
        refine OW.slot (.bool true) (congrArg Value.bool (decide_eq_true h23)) ?_
        refine OW.skip rfl rfl rfl ?_
        refine OW.skip rfl rfl rfl ?_
        refine OW.skip rfl rfl rfl ?_
        refine OW.skip rfl rfl rfl ?_
        refine OW.skip rfl rfl rfl ?_
        refine OW.skip rfl rfl rfl ?_
        refine OW.skip rfl rfl rfl ?_
        refine OW.skip rfl rfl rfl ?_
        refine OW.skip rfl rfl rfl ?_
        refine OW.rv (RV.pick_t rfl rfl rfl) rfl ?_
        refine OW.rv (RV.assign rfl) rfl ?_
        refine OW.nil ?_
        exact QW.join ⟨true, (Option.some.inj hq15).symm, rfl, rfl⟩ ⟨rfl, trivial⟩ (fun w m => m.pick [] 1 rfl rfl)
      · replace hq15 := if_f hq15 h23
        refine OW.slot (.bool false) (congrArg Value.bool (decide_eq_false h23)) ?_
        refine OW.want rfl ?_
        refine OW.rv (RV.field rfl rfl rfl rfl) rfl ?_
        refine OW.want rfl ?_
        refine OW.rv (RV.load rfl (List.Mem.head _) rfl rfl rfl rfl) rfl ?_
        refine OW.want rfl ?_
        refine OW.rv (RV.not rfl) rfl ?_
        refine OW.want rfl ?_
        refine OW.rv (RV.move rfl) rfl ?_
        by_cases h24 : a0.list = true
        · replace hq15 := if_t hq15 h24
          refine OW.slot (.bool false) (congrArg Value.bool (congrArg (fun b => !b) (h24))) ?_
          refine OW.skip rfl rfl rfl ?_
          refine OW.skip rfl rfl rfl ?_
          refine OW.skip rfl rfl rfl ?_
          refine OW.skip rfl rfl rfl ?_
          refine OW.want rfl ?_
          refine OW.rv (RV.pick_f rfl rfl rfl) rfl ?_
          refine OW.rv (RV.pick_f rfl rfl rfl) rfl ?_
          refine OW.rv (RV.assign rfl) rfl ?_
          refine OW.nil ?_
          exact QW.join ⟨false, (Option.some.inj hq15).symm, rfl, rfl⟩ ⟨rfl, trivial⟩ (fun w m => m.pick [] 1 rfl rfl)
        · replace hq15 := if_f hq15 h24
          refine OW.slot (.bool true) (congrArg Value.bool (congrArg (fun b => !b) (Bool.eq_false_iff.2 h24))) ?_
          refine OW.want rfl ?_
          refine OW.rv (RV.field rfl rfl rfl rfl) rfl ?_
          refine OW.want rfl ?_
          refine OW.rv (RV.load rfl (List.Mem.head _) rfl rfl rfl rfl) rfl ?_
          refine OW.want rfl ?_
          refine OW.rv (RV.len rfl rfl) rfl ?_
          refine OW.want rfl ?_
          refine OW.rv (RV.gtr rfl rfl) rfl ?_
          refine OW.slot (.bool (decide (0 < a0.items.length))) (congrArg Value.bool (decide_eq_decide.2 (by omega))) ?_
          refine OW.want rfl ?_
          refine OW.rv (RV.pick_t rfl rfl rfl) rfl ?_
          refine OW.rv (RV.pick_f rfl rfl rfl) rfl ?_
          refine OW.rv (RV.assign rfl) rfl ?_
          refine OW.nil ?_
          exact QW.join ⟨(decide (0 < a0.items.length)), (Option.some.inj hq15).symm, rfl, rfl⟩ ⟨rfl, trivial⟩ (fun w m => m.pick [] 1 rfl rfl)
    · replace hq15 := if_f hq15 h22
      refine OW.slot (.bool false) (congrArg Value.bool (Bool.eq_false_iff.2 h22)) ?_
      refine OW.skip rfl rfl rfl ?_
      refine OW.skip rfl rfl rfl ?_
      refine OW.skip rfl rfl rfl ?_
      refine OW.skip rfl rfl rfl ?_
      refine OW.rv (RV.pick_f rfl rfl rfl) rfl ?_
      refine OW.rv (RV.move rfl) rfl ?_
      refine OW.want rfl ?_
      refine OW.rv (RV.field rfl rfl rfl rfl) rfl ?_
      refine OW.want rfl ?_
      refine OW.rv (RV.load rfl (List.Mem.head _) rfl rfl rfl rfl) rfl ?_
      refine OW.want rfl ?_
      refine OW.rv (RV.not rfl) rfl ?_
      refine OW.want rfl ?_
      refine OW.rv (RV.move rfl) rfl ?_
      by_cases h25 : a0.list = true
      · replace hq15 := if_t hq15 h25
        refine OW.slot (.bool false) (congrArg Value.bool (congrArg (fun b => !b) (h25))) ?_
        refine OW.skip rfl rfl rfl ?_
        refine OW.skip rfl rfl rfl ?_
        refine OW.skip rfl rfl rfl ?_
        refine OW.skip rfl rfl rfl ?_
        refine OW.want rfl ?_
        refine OW.rv (RV.pick_f rfl rfl rfl) rfl ?_
        refine OW.rv (RV.pick_f rfl rfl rfl) rfl ?_
        refine OW.rv (RV.assign rfl) rfl ?_
        refine OW.nil ?_
        exact QW.join ⟨false, (Option.some.inj hq15).symm, rfl, rfl⟩ ⟨rfl, trivial⟩ (fun w m => m.pick [] 1 rfl rfl)
      · replace hq15 := if_f hq15 h25
        refine OW.slot (.bool true) (congrArg Value.bool (congrArg (fun b => !b) (Bool.eq_false_iff.2 h25))) ?_
        refine OW.want rfl ?_
        refine OW.rv (RV.field rfl rfl rfl rfl) rfl ?_
        refine OW.want rfl ?_
        refine OW.rv (RV.load rfl (List.Mem.head _) rfl rfl rfl rfl) rfl ?_
        refine OW.want rfl ?_
        refine OW.rv (RV.len rfl rfl) rfl ?_
        refine OW.want rfl ?_
        refine OW.rv (RV.gtr rfl rfl) rfl ?_
        refine OW.slot (.bool (decide (0 < a0.items.length))) (congrArg Value.bool (decide_eq_decide.2 (by omega))) ?_
        refine OW.want rfl ?_
        refine OW.rv (RV.pick_t rfl rfl rfl) rfl ?_
        refine OW.rv (RV.pick_f rfl rfl rfl) rfl ?_
        refine OW.rv (RV.assign rfl) rfl ?_
        refine OW.nil ?_
        exact QW.join ⟨(decide (0 < a0.items.length)), (Option.some.inj hq15).symm, rfl, rfl⟩ ⟨rfl, trivial⟩ (fun w m => m.pick [] 1 rfl rfl)

theorem waybillref07_odd_does (w0 : World) (Φ : Ctx) (N : List Ent) (hΦ : ∀ w, Mem w0 w N → Φ w) (cs0_ : List Value) (a0 : It) (res0 : Bool) (ha0 : ItRd Φ cs0_ a0) (hf : waybillref07_odd a0 = some res0) : DoesG Try.prog 89 [.agg cs0_.toArray] w0 [] N (fun v G => v = .bool res0) := by
  unfold waybillref07_odd at hf
  replace ha0 := ItRd.mono (Ψ := More w0 Φ []) (fun w q => q.1) _ _ ha0
  have h10 := ha0
  obtain ⟨A1, c2, A4, c5, cs7, e9, v3, v6, h8⟩ := ItRd.opn ha0
  subst e9
  have m11 := v3.mx
  have m12 := v6.mx
  refine DoesG.enter Try.func89 rfl Try.ntmps89 rfl (M := (([] ++ N))) rfl ?_
  refine CW.seq ?_
  refine CW.region ?_
  refine OW.boxA rfl rfl (fun b13 => ?_)
  refine OW.rv (RV.assign rfl) rfl ?_
  refine OW.nil ?_
  refine QW.then_n ?_
  refine CW.seq ?_
  refine CW.seq ?_
  refine CW.region ?_
  refine OW.rv (RV.field rfl rfl rfl rfl) rfl ?_
  refine OW.rv (RV.load rfl (List.Mem.head _) rfl rfl rfl rfl) rfl ?_
  refine OW.nil ?_
  refine QW.then_n ?_
  by_cases h14 : a0.list = true
  · replace hf := if_t hf h14
    refine CW.is_t rfl (h14) ?_
    refine CW.seq ?_
    refine CW.region ?_
    refine OW.rv (RV.field rfl rfl rfl rfl) rfl ?_
    refine OW.rv (RV.load rfl (List.Mem.head _) rfl rfl rfl rfl) rfl ?_
    refine OW.rv (RV.len rfl rfl) rfl ?_
    refine OW.rv (RV.gtr rfl rfl) rfl ?_
    refine OW.slot (.bool (decide (0 < a0.data.length))) (congrArg Value.bool (decide_eq_decide.2 (by omega))) ?_
    refine OW.rv (RV.assign rfl) rfl ?_
    refine OW.nil ?_
    refine QW.then_n ?_
    refine CW.ret ?_
    refine QW.then_r ?_
    have e0 := Option.some.inj hf
    subst e0
    refine QW.retG (rs := [.tmp 2]) ([.bool (decide (0 < a0.data.length))]) ((some b13, blk [.bool (a0.list), .slice A1 a0.data.length c2, .slice A4 a0.items.length c5] 29) :: []) rfl ?_ rfl ?_ ?_ _ (.inl rfl)
    · exact ⟨rfl, trivial⟩
    · exact rfl
    · exact (fun w m => m)
  · replace hf := if_f hf h14
    refine CW.is_f rfl (Bool.eq_false_iff.2 h14) ?_
    refine CW.skip ?_
    refine QW.then_n ?_
    refine CW.seq ?_
    refine CW.region ?_
    refine OW.rv (RV.field rfl rfl rfl rfl) rfl ?_
    refine OW.rv (RV.load rfl (List.Mem.head _) rfl rfl rfl rfl) rfl ?_
    refine OW.rv (RV.len rfl rfl) rfl ?_
    refine OW.rv (RV.gtr rfl rfl) rfl ?_
    refine OW.slot (.bool (decide (0 < a0.items.length))) (congrArg Value.bool (decide_eq_decide.2 (by omega))) ?_
    refine OW.rv (RV.assign rfl) rfl ?_
    refine OW.nil ?_
    refine QW.then_n ?_
    refine CW.ret ?_
    have e0 := Option.some.inj hf
    subst e0
    refine QW.retG (rs := [.tmp 2]) ([.bool (decide (0 < a0.items.length))]) ((some b13, blk [.bool (a0.list), .slice A1 a0.data.length c2, .slice A4 a0.items.length c5] 29) :: []) rfl ?_ rfl ?_ ?_ _ (.inl rfl)
    · exact ⟨rfl, trivial⟩
    · exact rfl
    · exact (fun w m => m)

theorem rlp_kind_does (w0 : World) (Φ : Ctx) (N : List Ent) (hΦ : ∀ w, Mem w0 w N → Φ w) (cs0_ : List Value) (a0 : It) (a1 : Bool) (res0 : Nat) (ha0 : ItRd Φ cs0_ a0) (hf : rlp_kind a0 a1 = some res0) : DoesG Try.prog 71 [.agg cs0_.toArray, .bool (a1)] w0 [] N (fun v G => (res0 ≤ 9223372036854775807) ∧ v = .int .i64 ((res0 : Nat) : Int)) := by
  unfold rlp_kind at hf
  replace ha0 := ItRd.mono (Ψ := More w0 Φ []) (fun w q => q.1) _ _ ha0
  have h10 := ha0
  obtain ⟨A1, c2, A4, c5, cs7, e9, v3, v6, h8⟩ := ItRd.opn ha0
  subst e9
  have m11 := v3.mx
  have m12 := v6.mx
  refine DoesG.enter Try.func71 rfl Try.ntmps71 rfl (M := (([] ++ N))) rfl ?_
  refine CW.seq ?_
  refine CW.region ?_
  refine OW.boxA rfl rfl (fun b13 => ?_)
  refine OW.rv (RV.assign rfl) rfl ?_
  refine OW.nil ?_
  refine QW.then_n ?_
  refine CW.seq ?_
  refine CW.block ?_
  refine CW.seq ?_
  refine CW.region ?_
  refine OW.rv (RV.loadW rfl (List.Mem.head _) rfl rfl rfl rfl rfl) rfl ?_
  obtain ⟨x15, hx14, hf⟩ := some_bind hf
  refine OW.callG Try.call88 rfl (rlp_odd_does w0 (More w0 Φ []) ((some b13, blk [.bool (a0.list), .slice A1 a0.data.length c2, .slice A4 a0.items.length c5] 29) :: ([] ++ N)) (fun w m => More.of hΦ 1 m rfl) [.bool (a0.list), .slice A1 a0.data.length c2, .slice A4 a0.items.length c5] a0 x15 h10 hx14) rfl rfl ?_
  rintro _ G16 rfl
  refine OW.mem (M' := ((some b13, blk [.bool (a0.list), .slice A1 a0.data.length c2, .slice A4 a0.items.length c5] 29) :: ([] ++ N))) (fun w m => m.appR) ?_
  refine OW.rv (RV.assign rfl) rfl ?_
  refine OW.nil ?_
  refine QW.then_n ?_
  by_cases h18 : x15 = true
  · replace hf := if_t hf h18
    refine CW.is_t rfl (h18) ?_
    refine CW.seq ?_
    refine CW.region ?_
    refine OW.rv (RV.assign rfl) rfl ?_
    refine OW.nil ?_
    refine QW.then_n ?_
    refine CW.ret ?_
    refine QW.block_r ?_
    refine QW.then_r ?_
    have e0 := Option.some.inj hf
    subst e0
    refine QW.retG (rs := [.tmp 4]) ([.int .i64 (78 : Int)]) ((some b13, blk [.bool (a0.list), .slice A1 a0.data.length c2, .slice A4 a0.items.length c5] 29) :: []) rfl ?_ rfl ?_ ?_ _ (.inl rfl)
    · exact ⟨rfl, trivial⟩
    · exact ⟨(by omega), rfl⟩
    · exact (fun w m => m)
  · replace hf := if_f hf h18
    refine CW.is_f rfl (Bool.eq_false_iff.2 h18) ?_
    refine CW.seq ?_
    refine CW.region ?_
    refine OW.rv (RV.field rfl rfl rfl rfl) rfl ?_
    refine OW.rv (RV.load rfl (List.Mem.head _) rfl rfl rfl rfl) rfl ?_
    refine OW.rv (RV.move rfl) rfl ?_
    refine OW.rv (RV.neqB rfl rfl rfl) rfl ?_
    refine OW.slot (.bool (!decide ((a0.list) = (a1)))) (by first | rfl | (congr 1) | simp) ?_
    refine OW.rv (RV.assign rfl) rfl ?_
    refine OW.nil ?_
    refine QW.then_n ?_
    by_cases h19 : (a0.list) = (a1)
    · replace hf := if_t hf h19
      refine CW.is_f rfl (congrArg (fun b => !b) (decide_eq_true h19)) ?_
      refine CW.skip ?_
      refine QW.block_n ?_
      refine QW.then_n ?_
      refine CW.seq ?_
      refine CW.region ?_
      refine OW.rv (RV.assign rfl) rfl ?_
      refine OW.nil ?_
      refine QW.then_n ?_
      refine CW.ret ?_
      have e0 := Option.some.inj hf
      subst e0
      refine QW.retG (rs := [.tmp 4]) ([.int .i64 (0 : Int)]) ((some b13, blk [.bool (a0.list), .slice A1 a0.data.length c2, .slice A4 a0.items.length c5] 29) :: []) rfl ?_ rfl ?_ ?_ _ (.inl rfl)
      · exact ⟨rfl, trivial⟩
      · exact ⟨(by omega), rfl⟩
      · exact (fun w m => m)
    · replace hf := if_f hf h19
      refine CW.is_t rfl (congrArg (fun b => !b) (decide_eq_false h19)) ?_
      refine CW.seq ?_
      refine CW.region ?_
      refine OW.rv (RV.assign rfl) rfl ?_
      refine OW.nil ?_
      refine QW.then_n ?_
      refine CW.ret ?_
      refine QW.block_r ?_
      refine QW.then_r ?_
      have e0 := Option.some.inj hf
      subst e0
      refine QW.retG (rs := [.tmp 4]) ([.int .i64 (75 : Int)]) ((some b13, blk [.bool (a0.list), .slice A1 a0.data.length c2, .slice A4 a0.items.length c5] 29) :: []) rfl ?_ rfl ?_ ?_ _ (.inl rfl)
      · exact ⟨rfl, trivial⟩
      · exact ⟨(by omega), rfl⟩
      · exact (fun w m => m)

theorem waybillref07_wanted_does (w0 : World) (Φ : Ctx) (N : List Ent) (hΦ : ∀ w, Mem w0 w N → Φ w) (cs0_ : List Value) (a0 : It) (a1 : Bool) (res0 : Nat) (ha0 : ItRd Φ cs0_ a0) (hf : waybillref07_wanted a0 a1 = some res0) : DoesG Try.prog 72 [.agg cs0_.toArray, .bool (a1)] w0 [] N (fun v G => (res0 ≤ 9223372036854775807) ∧ v = .int .i64 ((res0 : Nat) : Int)) := by
  unfold waybillref07_wanted at hf
  replace ha0 := ItRd.mono (Ψ := More w0 Φ []) (fun w q => q.1) _ _ ha0
  have h10 := ha0
  obtain ⟨A1, c2, A4, c5, cs7, e9, v3, v6, h8⟩ := ItRd.opn ha0
  subst e9
  have m11 := v3.mx
  have m12 := v6.mx
  refine DoesG.enter Try.func72 rfl Try.ntmps72 rfl (M := (([] ++ N))) rfl ?_
  refine CW.seq ?_
  refine CW.region ?_
  refine OW.boxA rfl rfl (fun b13 => ?_)
  refine OW.rv (RV.assign rfl) rfl ?_
  refine OW.nil ?_
  refine QW.then_n ?_
  refine CW.seq ?_
  refine CW.seq ?_
  refine CW.region ?_
  refine OW.rv (RV.loadW rfl (List.Mem.head _) rfl rfl rfl rfl rfl) rfl ?_
  obtain ⟨x15, hx14, hf⟩ := some_bind hf
  refine OW.callG Try.call89 rfl (waybillref07_odd_does w0 (More w0 Φ []) ((some b13, blk [.bool (a0.list), .slice A1 a0.data.length c2, .slice A4 a0.items.length c5] 29) :: ([] ++ N)) (fun w m => More.of hΦ 1 m rfl) [.bool (a0.list), .slice A1 a0.data.length c2, .slice A4 a0.items.length c5] a0 x15 h10 hx14) rfl rfl ?_
  rintro _ G16 rfl
  refine OW.mem (M' := ((some b13, blk [.bool (a0.list), .slice A1 a0.data.length c2, .slice A4 a0.items.length c5] 29) :: ([] ++ N))) (fun w m => m.appR) ?_
  refine OW.nil ?_
  refine QW.then_n ?_
  by_cases h18 : x15 = true
  · replace hf := if_t hf h18
    refine CW.is_t rfl (h18) ?_
    refine CW.seq ?_
    refine CW.region ?_
    refine OW.rv (RV.assign rfl) rfl ?_
    refine OW.nil ?_
    refine QW.then_n ?_
    refine CW.ret ?_
    refine QW.then_r ?_
    have e0 := Option.some.inj hf
    subst e0
    refine QW.retG (rs := [.tmp 4]) ([.int .i64 (78 : Int)]) ((some b13, blk [.bool (a0.list), .slice A1 a0.data.length c2, .slice A4 a0.items.length c5] 29) :: []) rfl ?_ rfl ?_ ?_ _ (.inl rfl)
    · exact ⟨rfl, trivial⟩
    · exact ⟨(by omega), rfl⟩
    · exact (fun w m => m)
  · replace hf := if_f hf h18
    refine CW.is_f rfl (Bool.eq_false_iff.2 h18) ?_
    refine CW.skip ?_
    refine QW.then_n ?_
    refine CW.seq ?_
    refine CW.seq ?_
    refine CW.region ?_
    refine OW.rv (RV.field rfl rfl rfl rfl) rfl ?_
    refine OW.rv (RV.load rfl (List.Mem.head _) rfl rfl rfl rfl) rfl ?_
    refine OW.rv (RV.move rfl) rfl ?_
    refine OW.rv (RV.neqB rfl rfl rfl) rfl ?_
    refine OW.slot (.bool (!decide ((a0.list) = (a1)))) (by first | rfl | (congr 1) | simp) ?_
    refine OW.nil ?_
    refine QW.then_n ?_
    by_cases h19 : (a0.list) = (a1)
    · replace hf := if_t hf h19
      refine CW.is_f rfl (congrArg (fun b => !b) (decide_eq_true h19)) ?_
      refine CW.skip ?_
      refine QW.then_n ?_
      refine CW.seq ?_
      refine CW.region ?_
      refine OW.rv (RV.assign rfl) rfl ?_
      refine OW.nil ?_
      refine QW.then_n ?_
      refine CW.ret ?_
      have e0 := Option.some.inj hf
      subst e0
      refine QW.retG (rs := [.tmp 4]) ([.int .i64 (0 : Int)]) ((some b13, blk [.bool (a0.list), .slice A1 a0.data.length c2, .slice A4 a0.items.length c5] 29) :: []) rfl ?_ rfl ?_ ?_ _ (.inl rfl)
      · exact ⟨rfl, trivial⟩
      · exact ⟨(by omega), rfl⟩
      · exact (fun w m => m)
    · replace hf := if_f hf h19
      refine CW.is_t rfl (congrArg (fun b => !b) (decide_eq_false h19)) ?_
      refine CW.seq ?_
      refine CW.region ?_
      refine OW.rv (RV.assign rfl) rfl ?_
      refine OW.nil ?_
      refine QW.then_n ?_
      refine CW.ret ?_
      refine QW.then_r ?_
      have e0 := Option.some.inj hf
      subst e0
      refine QW.retG (rs := [.tmp 4]) ([.int .i64 (75 : Int)]) ((some b13, blk [.bool (a0.list), .slice A1 a0.data.length c2, .slice A4 a0.items.length c5] 29) :: []) rfl ?_ rfl ?_ ?_ _ (.inl rfl)
      · exact ⟨rfl, trivial⟩
      · exact ⟨(by omega), rfl⟩
      · exact (fun w m => m)

theorem u256_Get_does (w0 : World) (Φ : Ctx) (N : List Ent) (hΦ : ∀ w, Mem w0 w N → Φ w) (A0_ : Option Addr) (c0_ : Nat) (a0 : List (BitVec 8)) (res0 : Vector (BitVec 64) 4) (res1 : Nat) (va0 : View Φ A0_ a0.length c0_ 1 (u8s a0)) (hf : u256_Get a0 = some (res0, res1)) : DoesG Try.prog 92 [.slice A0_ a0.length c0_] w0 [] N (fun v G => (res1 ≤ 9223372036854775807) ∧ v = .tuple #[.agg (u64s res0.toList).toArray, .int .i64 ((res1 : Nat) : Int)]) := by
  unfold u256_Get at hf
  replace va0 := va0.mono (Ψ := More w0 Φ []) (fun w q => q.1)
  have m1 := va0.mx
  refine DoesG.enter Try.func92 rfl Try.ntmps92 rfl (M := (([] ++ N))) rfl ?_
  refine CW.seq ?_
  refine CW.region ?_
  refine OW.alloc (l := (u64s (Vector.replicate 4 0#64).toList)) rfl (by rw [Vector.toList_replicate, ← u64s_rep]; rfl) rfl (fun b2 => ?_)
  refine OW.rv (RV.assign rfl) rfl ?_
  refine OW.nil ?_
  refine QW.then_n ?_
  refine CW.seq ?_
  refine CW.seq ?_
  refine CW.region ?_
  refine OW.rv (RV.move rfl) rfl ?_
  refine OW.rv (RV.len rfl rfl) rfl ?_
  refine OW.rv (RV.gtr rfl rfl) rfl ?_
  refine OW.slot (.bool (decide (32 < a0.length))) (congrArg Value.bool (decide_eq_decide.2 (by omega))) ?_
  refine OW.nil ?_
  refine QW.then_n ?_
  by_cases h3 : 32 < a0.length
  · replace hf := if_t hf h3
    refine CW.is_t rfl (decide_eq_true h3) ?_
    refine CW.seq ?_
    refine CW.region ?_
    refine OW.rv (RV.build0 (l := (u64s (Vector.replicate 4 0#64).toList)) rfl rfl rfl (by rw [Vector.toList_replicate, ← u64s_rep]; rfl)) rfl ?_
    refine OW.sv (SV.storeW rfl rfl rfl (u64s_one _) rfl ((u64s_length _).trans Vector.length_toList) ((u64s_length _).trans Vector.length_toList)) ?_
    refine OW.rv (RV.assign rfl) rfl ?_
    refine OW.nil ?_
    refine QW.then_n ?_
    refine CW.ret ?_
    refine QW.then_r ?_
    have er0 := Option.some.inj hf
    obtain ⟨e0, er1⟩ := Prod.mk.inj er0
    clear er0
    subst e0
    subst er1
    refine QW.retG (rs := [.cell 2 25, .tmp 3]) ([.agg (u64s (Vector.replicate 4 0#64).toList).toArray, .int .i64 (11 : Int)]) ((some b2, blk (u64s (Vector.replicate 4 0#64).toList) 25) :: []) rfl ?_ rfl ?_ ?_ _ (.inl rfl)
    · exact ⟨⟨_, _, _, _, rfl, (List.Mem.head _), rfl, rfl, (congrArg some ((u64s_length _).trans Vector.length_toList).symm), rfl⟩, rfl, trivial⟩
    · exact ⟨(by omega), rfl⟩
    · exact (fun w m => m)
  · replace hf := if_f hf h3
    refine CW.is_f rfl (decide_eq_false h3) ?_
    refine CW.skip ?_
    refine QW.then_n ?_
    refine CW.seq ?_
    refine CW.region ?_
    refine OW.alloc (l := (u64s (Vector.replicate 4 0#64).toList)) rfl (by rw [Vector.toList_replicate, ← u64s_rep]; rfl) rfl (fun b4 => ?_)
    refine OW.nil ?_
    refine QW.then_n ?_
    refine CW.seq ?_
    refine CW.seq ?_
    refine CW.region ?_
    refine OW.rv (RV.move rfl) rfl ?_
    refine OW.rv (RV.len rfl rfl) rfl ?_
    refine OW.rv (RV.move rfl) rfl ?_
    refine OW.nil ?_
    refine QW.then_n ?_
    obtain ⟨q5, hq6, hf⟩ := some_bind hf
    refine CW.cutJ (fun L' M' => ∃ w7 : Vector (BitVec 64) 4, q5 = w7 ∧ L' = [(2, ptr (some b2) 0), (4, ptr (some b4) 0)] ∧ M' = ((some b4, blk (u64s w7.toList) 25) :: (some b2, blk (u64s (Vector.replicate 4 0#64).toList) 25) :: ([] ++ N))) ?_ ?_
    · rintro L9 M10 ⟨w7, e8, e11, e12⟩
      rw [e11, e12]
      clear e11 e12 L9 M10
      clear hq6
      rw [e8] at hf
      clear e8
      try dsimp only at hf
      refine QW.then_n ?_
      refine CW.seq ?_
      refine CW.region ?_
      refine OW.rv (RV.loadW rfl (List.Mem.head _) rfl rfl rfl rfl ((u64s_length _).trans Vector.length_toList)) rfl ?_
      refine OW.rot1 ?_
      refine OW.sv (SV.storeW rfl rfl rfl (u64s_one _) rfl ((u64s_length _).trans Vector.length_toList) ((u64s_length _).trans Vector.length_toList)) ?_
      refine OW.rv (RV.assign rfl) rfl ?_
      refine OW.nil ?_
      refine QW.then_n ?_
      refine CW.ret ?_
      have er0 := Option.some.inj hf
      obtain ⟨e0, er1⟩ := Prod.mk.inj er0
      clear er0
      subst e0
      subst er1
      refine QW.retG (rs := [.cell 2 25, .tmp 3]) ([.agg (u64s w7.toList).toArray, .int .i64 (0 : Int)]) ((some b2, blk (u64s w7.toList) 25) :: (some b4, blk (u64s w7.toList) 25) :: []) rfl ?_ rfl ?_ ?_ _ (.inl rfl)
      · exact ⟨⟨_, _, _, _, rfl, (List.Mem.head _), rfl, rfl, (congrArg some ((u64s_length _).trans Vector.length_toList).symm), rfl⟩, rfl, trivial⟩
      · exact ⟨(by omega), rfl⟩
      · exact (fun w m => m)
    · skip
      refine CW.block ?_
      refine CW.loopJ (fun k L' M' => ∃ n13 : Nat, ∃ w15 : Vector (BitVec 64) 4, (u256_Get.l1 a0 k n13 w15) = some q5 ∧ (n13 ≤ 9223372036854775807) ∧ L' = [(0, .slice A0_ a0.length c0_), (2, ptr (some b2) 0), (4, ptr (some b4) 0), (12, .int .i64 ((a0.length : Nat) : Int)), (13, .int .i64 ((n13 : Nat) : Int))] ∧ M' = ((some b4, blk (u64s w15.toList) 25) :: (some b2, blk (u64s (Vector.replicate 4 0#64).toList) 25) :: ([] ++ N))) (k0 := (a0.length - 0 + 2)) ⟨0, (Vector.replicate 4 0#64), hq6, (by omega), rfl, rfl⟩ ⟨rfl, rfl, rfl, rfl, rfl, trivial⟩ (fun w m => m.pick [0, 1] 2 rfl rfl) ?_
      clear hq6
      rintro k16 L19 M20 ⟨n13, w15, hl17, b14, e21, e22⟩
      rw [e21, e22]
      clear e21 e22 L19 M20
      rcases k16 with _ | k16
      · rw [u256_Get.l1] at hl17; cases hl17
      rw [u256_Get.l1] at hl17
      refine CW.seq ?_
      refine CW.region ?_
      refine OW.rv (RV.lss rfl rfl) rfl ?_
      refine OW.slot (.bool (decide (n13 < a0.length))) (congrArg Value.bool (decide_eq_decide.2 (by omega))) ?_
      refine OW.nil ?_
      refine QW.then_n ?_
      refine CW.seq ?_
      by_cases h23 : n13 < a0.length
      · replace hl17 := if_t hl17 h23
        refine CW.is_t rfl (decide_eq_true h23) ?_
        refine CW.skip ?_
        refine QW.then_n ?_
        refine CW.seq ?_
        refine CW.block ?_
        refine CW.seq ?_
        refine CW.region ?_
        refine OW.rv (RV.move rfl) rfl ?_
        refine OW.rv (RV.assign rfl) rfl ?_
        refine OW.nil ?_
        refine QW.then_n ?_
        refine CW.seq ?_
        refine CW.region ?_
        refine OW.rv (RV.move rfl) rfl ?_
        refine OW.rv (RV.len rfl rfl) rfl ?_
        obtain ⟨g24, hl17⟩ := some_if hl17
        refine OW.rv (RV.sub rfl rfl (by omega)) rfl ?_
        refine OW.slot (.int .i64 ((a0.length - 1 : Nat) : Int)) (by congr 1; omega) ?_
        refine OW.rv (RV.move rfl) rfl ?_
        obtain ⟨g25, hl17⟩ := some_if hl17
        refine OW.rv (RV.sub rfl rfl (by omega)) rfl ?_
        refine OW.slot (.int .i64 (((a0.length - 1) - n13 : Nat) : Int)) (by congr 1; omega) ?_
        refine OW.rv (RV.assign rfl) rfl ?_
        refine OW.nil ?_
        refine QW.then_n ?_
        refine CW.drawsX ((some b2, blk (u64s (Vector.replicate 4 0#64).toList) 25) :: ([] ++ N)) [15] (fun w m => m.pick [1] 2 rfl rfl) mixed (by kernel_rfl) ?_
        refine XW.rs 0 rfl (by kernel_rfl) rfl (RV.move rfl) rfl ?_
        refine XW.rs 1 rfl (by kernel_rfl) rfl (RV.quo rfl rfl (by omega) (by omega) (by omega)) rfl ?_
        refine XW.slot (.int .i64 ((((a0.length - 1) - n13) / 8 : Nat) : Int)) (by first | rfl | (congr 1; omega)) ?_
        obtain ⟨g26, hl17⟩ := some_if hl17
        refine XW.rs 2 rfl (by kernel_rfl) rfl (RV.idx_a ((((a0.length - 1) - n13) / 8)) rfl rfl rfl rfl rfl (by omega)) rfl ?_
        obtain ⟨x27, hx28, hl17⟩ := some_bind hl17
        refine XW.rv 3 rfl (by kernel_rfl) rfl (by kernel_rfl) (RV.load rfl (List.Mem.head _) rfl rfl rfl (by rw [Nat.zero_add]; exact u64s_at (vat hx28))) rfl ?_
        refine XW.rs 4 rfl (by kernel_rfl) rfl (RV.move rfl) rfl ?_
        refine XW.rs 5 rfl (by kernel_rfl) rfl (RV.move rfl) rfl ?_
        obtain ⟨x29, hx30, hl17⟩ := some_bind hl17
        have hl31 := lt_of_at hx30
        refine XW.rs 6 rfl (by kernel_rfl) rfl (RV.idx_r (n13) rfl rfl rfl rfl rfl (va0.isSome (by decide) hl31) (by omega)) rfl ?_
        refine XW.rs 7 rfl (by kernel_rfl) rfl (RV.load_at rfl rfl rfl (fun w m => va0.cell (More.of hΦ 1 m rfl) (u8s_at hx30))) rfl ?_
        refine XW.rs 8 rfl (by kernel_rfl) rfl (RV.conv8_64 rfl (by first | rfl | exact lit8 _ rfl) rfl rfl) rfl ?_
        refine XW.rs 9 rfl (by kernel_rfl) rfl (RV.move rfl) rfl ?_
        refine XW.rs 10 rfl (by kernel_rfl) rfl (RV.rem rfl rfl (by omega) (by omega)) rfl ?_
        refine XW.slot (.int .i64 ((((a0.length - 1) - n13) % 8 : Nat) : Int)) (by first | rfl | (congr 1; omega)) ?_
        refine XW.rs 11 rfl (by kernel_rfl) rfl (RV.mul rfl rfl (by omega)) rfl ?_
        refine XW.slot (.int .i64 (((8 * (((a0.length - 1) - n13) % 8)) : Nat) : Int)) (by first | rfl | (congr 1) | (congr 1; omega)) ?_
        refine XW.rs 12 rfl (by kernel_rfl) rfl (RV.shl64 (s := (8 * (((a0.length - 1) - n13) % 8))) rfl (by first | rfl | exact lit64 _ rfl) rfl (by first | rfl | (congr 1))) rfl ?_
        refine XW.rs 13 rfl (by kernel_rfl) rfl (RV.or64 rfl (by first | rfl | exact lit64 _ rfl) rfl (by first | rfl | exact lit64 _ rfl)) rfl ?_
        refine XW.rs 14 rfl (by kernel_rfl) rfl (RV.idx_a ((((a0.length - 1) - n13) / 8)) rfl rfl rfl rfl rfl (by omega)) rfl ?_
        refine XW.sv 15 rfl (by kernel_rfl) (SV.store rfl rfl rfl rfl rfl (by rw [u64s_length, Vector.length_toList]; omega)) (fun w m => m.pick [1] 2 rfl rfl) ?_
        refine XW.cells (u64s (w15.setIfInBounds (((a0.length - 1) - n13) / 8) (x27 ||| ((x29.setWidth 64) <<< (8 * (((a0.length - 1) - n13) % 8))))).toList) (by rw [Nat.zero_add, u64s_set', vset]) ?_
        refine XW.nil (by kernel_rfl) ?_
        refine QW.block_n ?_
        refine QW.then_n ?_
        refine CW.region ?_
        refine OW.rv (RV.add rfl rfl (by omega)) rfl ?_
        refine OW.slot (.int .i64 (((n13 + 1) : Nat) : Int)) (by first | rfl | (congr 1) | (congr 1; omega)) ?_
        refine OW.rv (RV.move rfl) rfl ?_
        refine OW.nil ?_
        exact QW.againJ (k' := k16) (Nat.lt_succ_self _) ⟨(n13 + 1), (w15.setIfInBounds (((a0.length - 1) - n13) / 8) (x27 ||| ((x29.setWidth 64) <<< (8 * (((a0.length - 1) - n13) % 8))))), hl17, (by omega), rfl, rfl⟩ ⟨rfl, rfl, rfl, rfl, rfl, trivial⟩ (fun w m => m.pick [0, 1] 2 rfl rfl)
      · replace hl17 := if_f hl17 h23
        refine CW.is_f rfl (decide_eq_false h23) ?_
        refine CW.exit ?_
        refine QW.then_x ?_
        refine QW.then_x ?_
        refine QW.block_xe ?_
        exact QW.join ⟨w15, (Option.some.inj hl17).symm, rfl, rfl⟩ ⟨rfl, rfl, trivial⟩ (fun w m => m.pick [0, 1] 2 rfl rfl)

theorem waybillref01_Get_does (w0 : World) (Φ : Ctx) (N : List Ent) (hΦ : ∀ w, Mem w0 w N → Φ w) (A0_ : Option Addr) (c0_ : Nat) (a0 : List (BitVec 8)) (res0 : Vector (BitVec 64) 4) (res1 : Nat) (va0 : View Φ A0_ a0.length c0_ 1 (u8s a0)) (hf : waybillref01_Get a0 = some (res0, res1)) : DoesG Try.prog 91 [.slice A0_ a0.length c0_] w0 [] N (fun v G => (res1 ≤ 9223372036854775807) ∧ v = .tuple #[.agg (u64s res0.toList).toArray, .int .i64 ((res1 : Nat) : Int)]) := by
  unfold waybillref01_Get at hf
  replace va0 := va0.mono (Ψ := More w0 Φ []) (fun w q => q.1)
  have m1 := va0.mx
  refine DoesG.enter Try.func91 rfl Try.ntmps91 rfl (M := (([] ++ N))) rfl ?_
  refine CW.seq ?_
  refine CW.region ?_
  refine OW.alloc (l := (u64s (Vector.replicate 4 0#64).toList)) rfl (by rw [Vector.toList_replicate, ← u64s_rep]; rfl) rfl (fun b2 => ?_)
  refine OW.rv (RV.assign rfl) rfl ?_
  refine OW.nil ?_
  refine QW.then_n ?_
  refine CW.seq ?_
  refine CW.region ?_
  refine OW.alloc (l := (u64s (Vector.replicate 4 0#64).toList)) rfl (by rw [Vector.toList_replicate, ← u64s_rep]; rfl) rfl (fun b3 => ?_)
  refine OW.nil ?_
  refine QW.then_n ?_
  refine CW.seq ?_
  refine CW.seq ?_
  refine CW.region ?_
  refine OW.rv (RV.move rfl) rfl ?_
  refine OW.rv (RV.len rfl rfl) rfl ?_
  refine OW.rv (RV.gtr rfl rfl) rfl ?_
  refine OW.slot (.bool (decide (32 < a0.length))) (congrArg Value.bool (decide_eq_decide.2 (by omega))) ?_
  refine OW.nil ?_
  refine QW.then_n ?_
  by_cases h4 : 32 < a0.length
  · replace hf := if_t hf h4
    refine CW.is_t rfl (decide_eq_true h4) ?_
    refine CW.seq ?_
    refine CW.region ?_
    refine OW.rv (RV.loadW rfl (List.Mem.head _) rfl rfl rfl rfl ((u64s_length _).trans Vector.length_toList)) rfl ?_
    refine OW.rot1 ?_
    refine OW.sv (SV.storeW rfl rfl rfl (u64s_one _) rfl ((u64s_length _).trans Vector.length_toList) ((u64s_length _).trans Vector.length_toList)) ?_
    refine OW.rv (RV.assign rfl) rfl ?_
    refine OW.nil ?_
    refine QW.then_n ?_
    refine CW.ret ?_
    refine QW.then_r ?_
    have er0 := Option.some.inj hf
    obtain ⟨e0, er1⟩ := Prod.mk.inj er0
    clear er0
    subst e0
    subst er1
    refine QW.retG (rs := [.cell 2 25, .tmp 3]) ([.agg (u64s (Vector.replicate 4 0#64).toList).toArray, .int .i64 (11 : Int)]) ((some b2, blk (u64s (Vector.replicate 4 0#64).toList) 25) :: (some b3, blk (u64s (Vector.replicate 4 0#64).toList) 25) :: []) rfl ?_ rfl ?_ ?_ _ (.inl rfl)
    · exact ⟨⟨_, _, _, _, rfl, (List.Mem.head _), rfl, rfl, (congrArg some ((u64s_length _).trans Vector.length_toList).symm), rfl⟩, rfl, trivial⟩
    · exact ⟨(by omega), rfl⟩
    · exact (fun w m => m)
  · replace hf := if_f hf h4
    refine CW.is_f rfl (decide_eq_false h4) ?_
    refine CW.skip ?_
    refine QW.then_n ?_
    refine CW.seq ?_
    refine CW.seq ?_
    refine CW.region ?_
    refine OW.rv (RV.assign rfl) rfl ?_
    refine OW.nil ?_
    refine QW.then_n ?_
    obtain ⟨q5, hq6, hf⟩ := some_bind hf
    refine CW.cutJ (fun L' M' => ∃ w7 : Vector (BitVec 64) 4, q5 = w7 ∧ L' = [(2, ptr (some b2) 0), (4, ptr (some b3) 0)] ∧ M' = ((some b3, blk (u64s w7.toList) 25) :: (some b2, blk (u64s (Vector.replicate 4 0#64).toList) 25) :: ([] ++ N))) ?_ ?_
    · rintro L9 M10 ⟨w7, e8, e11, e12⟩
      rw [e11, e12]
      clear e11 e12 L9 M10
      clear hq6
      rw [e8] at hf
      clear e8
      try dsimp only at hf
      refine QW.then_n ?_
      refine CW.seq ?_
      refine CW.region ?_
      refine OW.rv (RV.loadW rfl (List.Mem.head _) rfl rfl rfl rfl ((u64s_length _).trans Vector.length_toList)) rfl ?_
      refine OW.rot1 ?_
      refine OW.sv (SV.storeW rfl rfl rfl (u64s_one _) rfl ((u64s_length _).trans Vector.length_toList) ((u64s_length _).trans Vector.length_toList)) ?_
      refine OW.rv (RV.assign rfl) rfl ?_
      refine OW.nil ?_
      refine QW.then_n ?_
      refine CW.ret ?_
      have er0 := Option.some.inj hf
      obtain ⟨e0, er1⟩ := Prod.mk.inj er0
      clear er0
      subst e0
      subst er1
      refine QW.retG (rs := [.cell 2 25, .tmp 3]) ([.agg (u64s w7.toList).toArray, .int .i64 (0 : Int)]) ((some b2, blk (u64s w7.toList) 25) :: (some b3, blk (u64s w7.toList) 25) :: []) rfl ?_ rfl ?_ ?_ _ (.inl rfl)
      · exact ⟨⟨_, _, _, _, rfl, (List.Mem.head _), rfl, rfl, (congrArg some ((u64s_length _).trans Vector.length_toList).symm), rfl⟩, rfl, trivial⟩
      · exact ⟨(by omega), rfl⟩
      · exact (fun w m => m)
    · skip
      refine CW.block ?_
      refine CW.loopJ (fun k L' M' => ∃ n13 : Nat, ∃ w15 : Vector (BitVec 64) 4, (waybillref01_Get.l1 a0 k n13 w15) = some q5 ∧ (n13 ≤ 9223372036854775807) ∧ L' = [(0, .slice A0_ a0.length c0_), (2, ptr (some b2) 0), (4, ptr (some b3) 0), (5, .int .i64 ((n13 : Nat) : Int))] ∧ M' = ((some b3, blk (u64s w15.toList) 25) :: (some b2, blk (u64s (Vector.replicate 4 0#64).toList) 25) :: ([] ++ N))) (k0 := (a0.length - 0 + 2)) ⟨0, (Vector.replicate 4 0#64), hq6, (by omega), rfl, rfl⟩ ⟨rfl, rfl, rfl, rfl, trivial⟩ (fun w m => m.pick [0, 1] 2 rfl rfl) ?_
      clear hq6
      rintro k16 L19 M20 ⟨n13, w15, hl17, b14, e21, e22⟩
      rw [e21, e22]
      clear e21 e22 L19 M20
      rcases k16 with _ | k16
      · rw [waybillref01_Get.l1] at hl17; cases hl17
      rw [waybillref01_Get.l1] at hl17
      refine CW.seq ?_
      refine CW.seq ?_
      refine CW.region ?_
      refine OW.rv (RV.move rfl) rfl ?_
      refine OW.rv (RV.move rfl) rfl ?_
      refine OW.rv (RV.len rfl rfl) rfl ?_
      refine OW.rv (RV.lss rfl rfl) rfl ?_
      refine OW.slot (.bool (decide (n13 < a0.length))) (congrArg Value.bool (decide_eq_decide.2 (by omega))) ?_
      refine OW.nil ?_
      refine QW.then_n ?_
      by_cases h23 : n13 < a0.length
      · replace hl17 := if_t hl17 h23
        refine CW.is_t rfl (decide_eq_true h23) ?_
        refine CW.skip ?_
        refine QW.then_n ?_
        refine CW.seq ?_
        refine CW.block ?_
        refine CW.seq ?_
        refine CW.region ?_
        refine OW.rv (RV.move rfl) rfl ?_
        refine OW.rv (RV.len rfl rfl) rfl ?_
        obtain ⟨g24, hl17⟩ := some_if hl17
        refine OW.rv (RV.sub rfl rfl (by omega)) rfl ?_
        refine OW.slot (.int .i64 ((a0.length - 1 : Nat) : Int)) (by congr 1; omega) ?_
        refine OW.rv (RV.move rfl) rfl ?_
        obtain ⟨g25, hl17⟩ := some_if hl17
        refine OW.rv (RV.sub rfl rfl (by omega)) rfl ?_
        refine OW.slot (.int .i64 (((a0.length - 1) - n13 : Nat) : Int)) (by congr 1; omega) ?_
        refine OW.rv (RV.assign rfl) rfl ?_
        refine OW.nil ?_
        refine QW.then_n ?_
        refine CW.drawsX ((some b2, blk (u64s (Vector.replicate 4 0#64).toList) 25) :: ([] ++ N)) [18] (fun w m => m.pick [1] 2 rfl rfl) mixed (by kernel_rfl) ?_
        refine XW.rs 0 rfl (by kernel_rfl) rfl (RV.move rfl) rfl ?_
        refine XW.rs 1 rfl (by kernel_rfl) rfl (RV.quo rfl rfl (by omega) (by omega) (by omega)) rfl ?_
        refine XW.slot (.int .i64 ((((a0.length - 1) - n13) / 8 : Nat) : Int)) (by first | rfl | (congr 1; omega)) ?_
        refine XW.rs 2 rfl (by kernel_rfl) rfl (RV.move rfl) rfl ?_
        refine XW.rs 3 rfl (by kernel_rfl) rfl (RV.quo rfl rfl (by omega) (by omega) (by omega)) rfl ?_
        refine XW.slot (.int .i64 ((((a0.length - 1) - n13) / 8 : Nat) : Int)) (by first | rfl | (congr 1; omega)) ?_
        obtain ⟨g26, hl17⟩ := some_if hl17
        refine XW.rs 4 rfl (by kernel_rfl) rfl (RV.idx_a ((((a0.length - 1) - n13) / 8)) rfl rfl rfl rfl rfl (by omega)) rfl ?_
        obtain ⟨x27, hx28, hl17⟩ := some_bind hl17
        refine XW.rv 5 rfl (by kernel_rfl) rfl (by kernel_rfl) (RV.load rfl (List.Mem.head _) rfl rfl rfl (by rw [Nat.zero_add]; exact u64s_at (vat hx28))) rfl ?_
        refine XW.rs 6 rfl (by kernel_rfl) rfl (RV.move rfl) rfl ?_
        refine XW.rs 7 rfl (by kernel_rfl) rfl (RV.move rfl) rfl ?_
        obtain ⟨x29, hx30, hl17⟩ := some_bind hl17
        have hl31 := lt_of_at hx30
        refine XW.rs 8 rfl (by kernel_rfl) rfl (RV.idx_r (n13) rfl rfl rfl rfl rfl (va0.isSome (by decide) hl31) (by omega)) rfl ?_
        refine XW.rs 9 rfl (by kernel_rfl) rfl (RV.load_at rfl rfl rfl (fun w m => va0.cell (More.of hΦ 1 m rfl) (u8s_at hx30))) rfl ?_
        refine XW.rs 10 rfl (by kernel_rfl) rfl (RV.conv8_64 rfl (by first | rfl | exact lit8 _ rfl) rfl rfl) rfl ?_
        refine XW.rs 11 rfl (by kernel_rfl) rfl (RV.move rfl) rfl ?_
        refine XW.rs 12 rfl (by kernel_rfl) rfl (RV.rem rfl rfl (by omega) (by omega)) rfl ?_
        refine XW.slot (.int .i64 ((((a0.length - 1) - n13) % 8 : Nat) : Int)) (by first | rfl | (congr 1; omega)) ?_
        refine XW.rs 13 rfl (by kernel_rfl) rfl (RV.mul rfl rfl (by omega)) rfl ?_
        refine XW.slot (.int .i64 (((8 * (((a0.length - 1) - n13) % 8)) : Nat) : Int)) (by first | rfl | (congr 1) | (congr 1; omega)) ?_
        refine XW.rs 14 rfl (by kernel_rfl) rfl (RV.conv_i64 rfl rfl rfl) rfl ?_
        refine XW.slot (U64 (BitVec.ofNat 64 (8 * (((a0.length - 1) - n13) % 8)))) (congrArg U64 (BitVec.ofInt_natCast ..)) ?_
        refine XW.rs 15 rfl (by kernel_rfl) rfl (RV.shl64 (s := (BitVec.ofNat 64 (8 * (((a0.length - 1) - n13) % 8))).toNat) rfl (by first | rfl | exact lit64 _ rfl) rfl (by first | rfl | (simp [U64]; done))) rfl ?_
        refine XW.rs 16 rfl (by kernel_rfl) rfl (RV.add64 rfl (by first | rfl | exact lit64 _ rfl) rfl (by first | rfl | exact lit64 _ rfl)) rfl ?_
        refine XW.rs 17 rfl (by kernel_rfl) rfl (RV.idx_a ((((a0.length - 1) - n13) / 8)) rfl rfl rfl rfl rfl (by omega)) rfl ?_
        refine XW.sv 18 rfl (by kernel_rfl) (SV.store rfl rfl rfl rfl rfl (by rw [u64s_length, Vector.length_toList]; omega)) (fun w m => m.pick [1] 2 rfl rfl) ?_
        refine XW.cells (u64s (w15.setIfInBounds (((a0.length - 1) - n13) / 8) (x27 + ((x29.setWidth 64) <<< (BitVec.ofNat 64 (8 * (((a0.length - 1) - n13) % 8))).toNat))).toList) (by rw [Nat.zero_add, u64s_set', vset]) ?_
        refine XW.nil (by kernel_rfl) ?_
        refine QW.block_n ?_
        refine QW.then_n ?_
        refine CW.region ?_
        refine OW.rv (RV.move rfl) rfl ?_
        refine OW.rv (RV.add rfl rfl (by omega)) rfl ?_
        refine OW.slot (.int .i64 (((n13 + 1) : Nat) : Int)) (by first | rfl | (congr 1) | (congr 1; omega)) ?_
        refine OW.rv (RV.assign rfl) rfl ?_
        refine OW.nil ?_
        exact QW.againJ (k' := k16) (Nat.lt_succ_self _) ⟨(n13 + 1), (w15.setIfInBounds (((a0.length - 1) - n13) / 8) (x27 + ((x29.setWidth 64) <<< (BitVec.ofNat 64 (8 * (((a0.length - 1) - n13) % 8))).toNat))), hl17, (by omega), rfl, rfl⟩ ⟨rfl, rfl, rfl, rfl, trivial⟩ (fun w m => m.pick [0, 1] 2 rfl rfl)
      · replace hl17 := if_f hl17 h23
        refine CW.is_f rfl (decide_eq_false h23) ?_
        refine CW.exit ?_
        refine QW.then_x ?_
        refine QW.then_x ?_
        refine QW.block_xe ?_
        exact QW.join ⟨w15, (Option.some.inj hl17).symm, rfl, rfl⟩ ⟨rfl, rfl, trivial⟩ (fun w m => m.pick [0, 1] 2 rfl rfl)

theorem u256_Strict_does (w0 : World) (Φ : Ctx) (N : List Ent) (hΦ : ∀ w, Mem w0 w N → Φ w) (A0_ : Option Addr) (c0_ : Nat) (a0 : List (BitVec 8)) (res0 : Vector (BitVec 64) 4) (res1 : Nat) (va0 : View Φ A0_ a0.length c0_ 1 (u8s a0)) (hf : u256_Strict a0 = some (res0, res1)) : DoesG Try.prog 90 [.slice A0_ a0.length c0_] w0 [] N (fun v G => (res1 ≤ 9223372036854775807) ∧ v = .tuple #[.agg (u64s res0.toList).toArray, .int .i64 ((res1 : Nat) : Int)]) := by
  unfold u256_Strict at hf
  replace va0 := va0.mono (Ψ := More w0 Φ []) (fun w q => q.1)
  have m1 := va0.mx
  refine DoesG.enter Try.func90 rfl Try.ntmps90 rfl (M := (([] ++ N))) rfl ?_
  refine CW.seq ?_
  refine CW.region ?_
  refine OW.alloc (l := (u64s (Vector.replicate 4 0#64).toList)) rfl (by rw [Vector.toList_replicate, ← u64s_rep]; rfl) rfl (fun b2 => ?_)
  refine OW.rv (RV.assign rfl) rfl ?_
  refine OW.nil ?_
  refine QW.then_n ?_
  refine CW.seq ?_
  refine CW.region ?_
  refine OW.rv (RV.move rfl) rfl ?_
  obtain ⟨⟨x4, x5⟩, hx3, hf⟩ := some_bind hf
  try dsimp only at hf
  refine OW.callG Try.call92 rfl (u256_Get_does w0 (More w0 Φ []) ((some b2, blk (u64s (Vector.replicate 4 0#64).toList) 25) :: ([] ++ N)) (fun w m => More.of hΦ 1 m rfl) A0_ c0_ a0 x4 x5 va0 hx3) rfl rfl ?_
  rintro _ G7 ⟨b6, rfl⟩
  refine OW.mem (M' := ((some b2, blk (u64s (Vector.replicate 4 0#64).toList) 25) :: ([] ++ N))) (fun w m => m.appR) ?_
  refine OW.rv (RV.move rfl) rfl ?_
  refine OW.rv (RV.extract rfl rfl) rfl ?_
  refine OW.slot (.agg (u64s x4.toList).toArray) (rfl) ?_
  refine OW.rv (RV.extract rfl rfl) rfl ?_
  refine OW.slot (.int .i64 ((x5 : Nat) : Int)) (rfl) ?_
  refine OW.alloc (l := (u64s (Vector.replicate 4 0#64).toList)) rfl (by rw [Vector.toList_replicate, ← u64s_rep]; rfl) rfl (fun b9 => ?_)
  refine OW.sv (SV.storeW rfl rfl rfl (u64s_one _) rfl ((u64s_length _).trans Vector.length_toList) ((u64s_length _).trans Vector.length_toList)) ?_
  refine OW.rv (RV.assign rfl) rfl ?_
  refine OW.nil ?_
  refine QW.then_n ?_
  refine CW.seq ?_
  refine CW.seq ?_
  obtain ⟨q10, hq11, hf⟩ := some_bind hf
  refine CW.cutJ (fun L' M' => ∃ p12 : Bool, q10 = p12 ∧ L' = [(2, ptr (some b2) 0), (4, ptr (some b9) 0), (5, .int .i64 ((x5 : Nat) : Int)), (23, .bool (p12))] ∧ M' = ((some b9, blk (u64s x4.toList) 25) :: (some b2, blk (u64s (Vector.replicate 4 0#64).toList) 25) :: ([] ++ N))) ?_ ?_
  · rintro L14 M15 ⟨p12, e13, e16, e17⟩
    rw [e16, e17]
    clear e16 e17 L14 M15
    clear hq11
    rw [e13] at hf
    clear e13
    try dsimp only at hf
    refine QW.then_n ?_
    by_cases h18 : p12 = true
    · replace hf := if_t hf h18
      refine CW.is_t rfl (h18) ?_
      refine CW.seq ?_
      refine CW.region ?_
      refine OW.rv (RV.build0 (l := (u64s (Vector.replicate 4 0#64).toList)) rfl rfl rfl (by rw [Vector.toList_replicate, ← u64s_rep]; rfl)) rfl ?_
      refine OW.rot1 ?_
      refine OW.sv (SV.storeW rfl rfl rfl (u64s_one _) rfl ((u64s_length _).trans Vector.length_toList) ((u64s_length _).trans Vector.length_toList)) ?_
      refine OW.rv (RV.assign rfl) rfl ?_
      refine OW.nil ?_
      refine QW.then_n ?_
      refine CW.ret ?_
      refine QW.then_r ?_
      have er0 := Option.some.inj hf
      obtain ⟨e0, er1⟩ := Prod.mk.inj er0
      clear er0
      subst e0
      subst er1
      refine QW.retG (rs := [.cell 2 25, .tmp 3]) ([.agg (u64s (Vector.replicate 4 0#64).toList).toArray, .int .i64 (13 : Int)]) ((some b2, blk (u64s (Vector.replicate 4 0#64).toList) 25) :: (some b9, blk (u64s x4.toList) 25) :: []) rfl ?_ rfl ?_ ?_ _ (.inl rfl)
      · exact ⟨⟨_, _, _, _, rfl, (List.Mem.head _), rfl, rfl, (congrArg some ((u64s_length _).trans Vector.length_toList).symm), rfl⟩, rfl, trivial⟩
      · exact ⟨(by omega), rfl⟩
      · exact (fun w m => m)
    · replace hf := if_f hf h18
      refine CW.is_f rfl (Bool.eq_false_iff.2 h18) ?_
      refine CW.skip ?_
      refine QW.then_n ?_
      refine CW.seq ?_
      refine CW.region ?_
      refine OW.rv (RV.loadW rfl (List.Mem.head _) rfl rfl rfl rfl ((u64s_length _).trans Vector.length_toList)) rfl ?_
      refine OW.rv (RV.move rfl) rfl ?_
      refine OW.rot1 ?_
      refine OW.sv (SV.storeW rfl rfl rfl (u64s_one _) rfl ((u64s_length _).trans Vector.length_toList) ((u64s_length _).trans Vector.length_toList)) ?_
      refine OW.rv (RV.assign rfl) rfl ?_
      refine OW.nil ?_
      refine QW.then_n ?_
      refine CW.ret ?_
      have er0 := Option.some.inj hf
      obtain ⟨e0, er1⟩ := Prod.mk.inj er0
      clear er0
      subst e0
      subst er1
      refine QW.retG (rs := [.cell 2 25, .tmp 3]) ([.agg (u64s x4.toList).toArray, .int .i64 ((x5 : Nat) : Int)]) ((some b2, blk (u64s x4.toList) 25) :: (some b9, blk (u64s x4.toList) 25) :: []) rfl ?_ rfl ?_ ?_ _ (.inl rfl)
      · exact ⟨⟨_, _, _, _, rfl, (List.Mem.head _), rfl, rfl, (congrArg some ((u64s_length _).trans Vector.length_toList).symm), rfl⟩, rfl, trivial⟩
      · exact ⟨(by omega), rfl⟩
      · exact (fun w m => m)
  · skip
    refine CW.region ?_
    refine OW.rv (RV.move rfl) rfl ?_
    refine OW.rv (RV.eql rfl rfl) rfl ?_
    refine OW.slot (.bool (decide (x5 = 0))) (congrArg Value.bool (decide_eq_decide.2 (by omega))) ?_
    refine OW.rv (RV.move rfl) rfl ?_
    by_cases h19 : x5 = 0
    · replace hq11 := if_t hq11 h19
      refine OW.slot (.bool true) (congrArg Value.bool (decide_eq_true h19)) ?_
      refine OW.want rfl ?_
      refine OW.rv (RV.move rfl) rfl ?_
      refine OW.want rfl ?_
      refine OW.rv (RV.len rfl rfl) rfl ?_
      refine OW.want rfl ?_
      refine OW.rv (RV.gtr rfl rfl) rfl ?_
      refine OW.slot (.bool (decide (0 < a0.length))) (congrArg Value.bool (decide_eq_decide.2 (by omega))) ?_
      refine OW.rv (RV.pick_t rfl rfl rfl) rfl ?_
      refine OW.rv (RV.move rfl) rfl ?_
      by_cases h20 : 0 < a0.length
      · replace hq11 := if_t hq11 h20
        refine OW.slot (.bool true) (congrArg Value.bool (decide_eq_true h20)) ?_
        refine OW.want rfl ?_
        refine OW.rv (RV.move rfl) rfl ?_
        refine OW.want rfl ?_
        obtain ⟨x21, hx22, hq11⟩ := some_bind hq11
        have hl23 := lt_of_at hx22
        refine OW.rv (RV.idx_r (0) rfl rfl rfl rfl rfl (va0.isSome (by decide) hl23) (by omega)) rfl ?_
        refine OW.want rfl ?_
        refine OW.rv (RV.load_at rfl rfl rfl (fun w m => va0.cell (More.of hΦ 2 m rfl) (u8s_at hx22))) rfl ?_
        refine OW.want rfl ?_
        refine OW.rv (RV.eql8 rfl (by first | rfl | exact lit8 _ rfl) rfl (by first | rfl | exact lit8 _ rfl)) rfl ?_
        refine OW.rv (RV.pick_t rfl rfl rfl) rfl ?_
        refine OW.nil ?_
        exact QW.join ⟨(decide (x21 = 0#8)), (Option.some.inj hq11).symm, rfl, rfl⟩ ⟨rfl, rfl, rfl, rfl, trivial⟩ (fun w m => m.pick [0, 1] 2 rfl rfl)
      · replace hq11 := if_f hq11 h20
        refine OW.slot (.bool false) (congrArg Value.bool (decide_eq_false h20)) ?_
        refine OW.skip rfl rfl rfl ?_
        refine OW.skip rfl rfl rfl ?_
        refine OW.skip rfl rfl rfl ?_
        refine OW.skip rfl rfl rfl ?_
        refine OW.rv (RV.pick_f rfl rfl rfl) rfl ?_
        refine OW.nil ?_
        exact QW.join ⟨false, (Option.some.inj hq11).symm, rfl, rfl⟩ ⟨rfl, rfl, rfl, rfl, trivial⟩ (fun w m => m.pick [0, 1] 2 rfl rfl)
    · replace hq11 := if_f hq11 h19
      refine OW.slot (.bool false) (congrArg Value.bool (decide_eq_false h19)) ?_
      refine OW.skip rfl rfl rfl ?_
      refine OW.skip rfl rfl rfl ?_
      refine OW.skip rfl rfl rfl ?_
      refine OW.rv (RV.pick_f rfl rfl rfl) rfl ?_
      refine OW.rv (RV.move rfl) rfl ?_
      refine OW.skip rfl rfl rfl ?_
      refine OW.skip rfl rfl rfl ?_
      refine OW.skip rfl rfl rfl ?_
      refine OW.skip rfl rfl rfl ?_
      refine OW.rv (RV.pick_f rfl rfl rfl) rfl ?_
      refine OW.nil ?_
      exact QW.join ⟨false, (Option.some.inj hq11).symm, rfl, rfl⟩ ⟨rfl, rfl, rfl, rfl, trivial⟩ (fun w m => m.pick [0, 1] 2 rfl rfl)

theorem waybillref07_Same_rec (w0 : World) : ∀ (kf : Nat) (Φ : Ctx) (N : List Ent) (hΦ : ∀ w, Mem w0 w N → Φ w) (cs0_ : List Value) (a0 : It) (cs1_ : List Value) (a1 : It) (res0 : Bool) (ha0 : ItRd Φ cs0_ a0) (ha1 : ItRd Φ cs1_ a1) (hf : waybillref07_Same.r kf a0 a1 = some res0), DoesG Try.prog 17 [.agg cs0_.toArray, .agg cs1_.toArray] w0 [] N (fun v G => v = .bool res0) := by
  intro kf
  induction kf with
  | zero => intro Φ N hΦ cs0_ a0 cs1_ a1 res0 ha0 ha1 hf; rw [waybillref07_Same.r] at hf; cases hf
  | succ kf ih =>
    intro Φ N hΦ cs0_ a0 cs1_ a1 res0 ha0 ha1 hf
    rw [waybillref07_Same.r] at hf
    replace ha0 := ItRd.mono (Ψ := More w0 Φ []) (fun w q => q.1) _ _ ha0
    have h10 := ha0
    obtain ⟨A1, c2, A4, c5, cs7, e9, v3, v6, h8⟩ := ItRd.opn ha0
    subst e9
    have m11 := v3.mx
    have m12 := v6.mx
    replace ha1 := ItRd.mono (Ψ := More w0 Φ []) (fun w q => q.1) _ _ ha1
    have h22 := ha1
    obtain ⟨A13, c14, A16, c17, cs19, e21, v15, v18, h20⟩ := ItRd.opn ha1
    subst e21
    have m23 := v15.mx
    have m24 := v18.mx
    refine DoesG.enter Try.func17 rfl Try.ntmps17 rfl (M := (([] ++ N))) rfl ?_
    refine CW.seq ?_
    refine CW.region ?_
    refine OW.boxA rfl rfl (fun b25 => ?_)
    refine OW.boxA rfl rfl (fun b26 => ?_)
    refine OW.rv (RV.assign rfl) rfl ?_
    refine OW.nil ?_
    refine QW.then_n ?_
    refine CW.seq ?_
    refine CW.seq ?_
    obtain ⟨q27, hq28, hf⟩ := some_bind hf
    refine CW.cutJ (fun L' M' => ∃ p29 : Bool, q27 = p29 ∧ L' = [(2, ptr (some b25) 0), (3, ptr (some b26) 0), (29, .bool (p29))] ∧ M' = ((some b26, blk [.bool (a1.list), .slice A13 a1.data.length c14, .slice A16 a1.items.length c17] 29) :: (some b25, blk [.bool (a0.list), .slice A1 a0.data.length c2, .slice A4 a0.items.length c5] 29) :: ([] ++ N))) ?_ ?_
    · rintro L31 M32 ⟨p29, e30, e33, e34⟩
      rw [e33, e34]
      clear e33 e34 L31 M32
      clear hq28
      rw [e30] at hf
      clear e30
      try dsimp only at hf
      refine QW.then_n ?_
      by_cases h35 : p29 = true
      · replace hf := if_t hf h35
        refine CW.is_t rfl (h35) ?_
        refine CW.seq ?_
        refine CW.region ?_
        refine OW.rv (RV.assign rfl) rfl ?_
        refine OW.nil ?_
        refine QW.then_n ?_
        refine CW.ret ?_
        refine QW.then_r ?_
        have e0 := Option.some.inj hf
        subst e0
        refine QW.retG (rs := [.tmp 4]) ([.bool false]) ((some b26, blk [.bool (a1.list), .slice A13 a1.data.length c14, .slice A16 a1.items.length c17] 29) :: (some b25, blk [.bool (a0.list), .slice A1 a0.data.length c2, .slice A4 a0.items.length c5] 29) :: []) rfl ?_ rfl ?_ ?_ _ (.inl rfl)
        · exact ⟨rfl, trivial⟩
        · exact rfl
        · exact (fun w m => m)
      · replace hf := if_f hf h35
        refine CW.is_f rfl (Bool.eq_false_iff.2 h35) ?_
        refine CW.skip ?_
        refine QW.then_n ?_
        refine CW.seq ?_
        refine CW.seq ?_
        refine CW.region ?_
        refine OW.rv (RV.assign rfl) rfl ?_
        refine OW.nil ?_
        refine QW.then_n ?_
        obtain ⟨q36, hq37, hf⟩ := some_bind hf
        refine CW.cutJ (fun L' M' => q36 = Lp.go () ∧ L' = [(2, ptr (some b25) 0), (3, ptr (some b26) 0)] ∧ M' = ((some b26, blk [.bool (a1.list), .slice A13 a1.data.length c14, .slice A16 a1.items.length c17] 29) :: (some b25, blk [.bool (a0.list), .slice A1 a0.data.length c2, .slice A4 a0.items.length c5] 29) :: ([] ++ N))) ?_ ?_
        · rintro L39 M40 ⟨e38, e41, e42⟩
          rw [e41, e42]
          clear e41 e42 L39 M40
          clear hq37
          rw [e38] at hf
          clear e38
          try dsimp only at hf
          refine QW.then_n ?_
          refine CW.seq ?_
          refine CW.seq ?_
          refine CW.region ?_
          refine OW.rv (RV.assign rfl) rfl ?_
          refine OW.nil ?_
          refine QW.then_n ?_
          obtain ⟨q43, hq44, hf⟩ := some_bind hf
          refine CW.cutJ (fun L' M' => q43 = Lp.go () ∧ L' = [] ∧ M' = (([] ++ N))) ?_ ?_
          · rintro L46 M47 ⟨e45, e48, e49⟩
            rw [e48, e49]
            clear e48 e49 L46 M47
            clear hq44
            rw [e45] at hf
            clear e45
            try dsimp only at hf
            refine QW.then_n ?_
            refine CW.seq ?_
            refine CW.region ?_
            refine OW.rv (RV.assign rfl) rfl ?_
            refine OW.nil ?_
            refine QW.then_n ?_
            refine CW.ret ?_
            have e0 := Option.some.inj hf
            subst e0
            refine QW.retG (rs := [.tmp 4]) ([.bool true]) ([]) rfl ?_ rfl ?_ ?_ _ (.inl rfl)
            · exact ⟨rfl, trivial⟩
            · exact rfl
            · exact (fun w m => m)
          · skip
            refine CW.block ?_
            refine CW.loopJ (fun k L' M' => ∃ n50 : Nat, (waybillref07_Same.l1 a0 a1 (waybillref07_Same.r kf) k n50) = some q43 ∧ (n50 ≤ 9223372036854775807) ∧ L' = [(2, ptr (some b25) 0), (3, ptr (some b26) 0), (6, .int .i64 ((n50 : Nat) : Int))] ∧ M' = ((some b26, blk [.bool (a1.list), .slice A13 a1.data.length c14, .slice A16 a1.items.length c17] 29) :: (some b25, blk [.bool (a0.list), .slice A1 a0.data.length c2, .slice A4 a0.items.length c5] 29) :: ([] ++ N))) (k0 := (a0.items.length - 0 + 2)) ⟨0, hq44, (by omega), rfl, rfl⟩ ⟨rfl, rfl, rfl, trivial⟩ (fun w m => m.pick [0, 1] 2 rfl rfl) ?_
            clear hq44
            rintro k52 L55 M56 ⟨n50, hl53, b51, e57, e58⟩
            rw [e57, e58]
            clear e57 e58 L55 M56
            rcases k52 with _ | k52
            · rw [waybillref07_Same.l1] at hl53; cases hl53
            rw [waybillref07_Same.l1] at hl53
            refine CW.seq ?_
            refine CW.seq ?_
            refine CW.region ?_
            refine OW.rv (RV.move rfl) rfl ?_
            refine OW.rv (RV.field rfl rfl rfl rfl) rfl ?_
            refine OW.rv (RV.load rfl (List.Mem.tail _ (List.Mem.head _)) rfl rfl rfl rfl) rfl ?_
            refine OW.rv (RV.len rfl rfl) rfl ?_
            refine OW.rv (RV.lss rfl rfl) rfl ?_
            refine OW.slot (.bool (decide (n50 < a0.items.length))) (congrArg Value.bool (decide_eq_decide.2 (by omega))) ?_
            refine OW.nil ?_
            refine QW.then_n ?_
            by_cases h59 : n50 < a0.items.length
            · replace hl53 := if_t hl53 h59
              refine CW.is_t rfl (decide_eq_true h59) ?_
              refine CW.skip ?_
              refine QW.then_n ?_
              refine CW.seq ?_
              refine CW.block ?_
              refine CW.seq ?_
              refine CW.drawsU 12 mixed (by kernel_rfl) rfl ?_
              refine UW.rv 0 rfl (by kernel_rfl) rfl (RV.field rfl rfl rfl rfl) rfl ?_
              refine UW.rv 1 rfl (by kernel_rfl) rfl (RV.load rfl (List.Mem.tail _ (List.Mem.head _)) rfl rfl rfl rfl) rfl ?_
              refine UW.rv 2 rfl (by kernel_rfl) rfl (RV.move rfl) rfl ?_
              obtain ⟨x60, hx61, hl53⟩ := some_bind hl53
              have hl62 := lt_of_at hx61
              refine UW.rv 3 rfl (by kernel_rfl) rfl (RV.idx_rs (n50) rfl rfl rfl rfl rfl (v6.isSome (by decide) hl62) (by omega)) rfl ?_
              obtain ⟨cs63, h64, h65⟩ := h8.get ItRd.len hx61
              have h75 := h64
              obtain ⟨A66, c67, A69, c70, cs72, e74, v68, v71, h73⟩ := ItRd.opn h64
              subst e74
              have m76 := v68.mx
              have m77 := v71.mx
              refine UW.rv 4 rfl (by kernel_rfl) rfl (RV.loadAs rfl rfl rfl rfl (fun w m => v6.load (More.of hΦ 2 m rfl) h65) rfl) rfl ?_
              refine UW.rv 5 rfl (by kernel_rfl) rfl (RV.field rfl rfl rfl rfl) rfl ?_
              refine UW.rv 6 rfl (by kernel_rfl) rfl (RV.load rfl (List.Mem.head _) rfl rfl rfl rfl) rfl ?_
              refine UW.rv 7 rfl (by kernel_rfl) rfl (RV.move rfl) rfl ?_
              obtain ⟨x78, hx79, hl53⟩ := some_bind hl53
              have hl80 := lt_of_at hx79
              refine UW.rv 8 rfl (by kernel_rfl) rfl (RV.idx_rs (n50) rfl rfl rfl rfl rfl (v18.isSome (by decide) hl80) (by omega)) rfl ?_
              obtain ⟨cs81, h82, h83⟩ := h20.get ItRd.len hx79
              have h93 := h82
              obtain ⟨A84, c85, A87, c88, cs90, e92, v86, v89, h91⟩ := ItRd.opn h82
              subst e92
              have m94 := v86.mx
              have m95 := v89.mx
              refine UW.rv 9 rfl (by kernel_rfl) rfl (RV.loadAs rfl rfl rfl rfl (fun w m => v18.load (More.of hΦ 2 m rfl) h83) rfl) rfl ?_
              obtain ⟨x97, hx96, hl53⟩ := some_bind hl53
              refine UW.callG 10 rfl (by kernel_rfl) rfl Try.call17 rfl (fun N' hN' => ih (More w0 Φ []) N' (fun w m => More.of hΦ 2 (hN' w m) rfl) [.bool (x60.list), .slice A66 x60.data.length c67, .slice A69 x60.items.length c70] x60 [.bool (x78.list), .slice A84 x78.data.length c85, .slice A87 x78.items.length c88] x78 x97 h75 h93 hx96) rfl ?_
              rintro _ G98 rfl
              refine UW.mem (M' := ((some b26, blk [.bool (a1.list), .slice A13 a1.data.length c14, .slice A16 a1.items.length c17] 29) :: (some b25, blk [.bool (a0.list), .slice A1 a0.data.length c2, .slice A4 a0.items.length c5] 29) :: ([] ++ N))) (fun w m => m.appR) ?_
              refine UW.rv 11 rfl (by kernel_rfl) rfl (RV.not rfl) rfl ?_
              refine UW.nil (by kernel_rfl) ?_
              refine OW.nil ?_
              refine QW.then_n ?_
              by_cases h100 : x97 = true
              · replace hl53 := if_t hl53 h100
                refine CW.is_f rfl (congrArg (fun b => !b) (h100)) ?_
                refine CW.skip ?_
                refine QW.block_n ?_
                refine QW.then_n ?_
                refine CW.region ?_
                refine OW.rv (RV.move rfl) rfl ?_
                refine OW.rv (RV.add rfl rfl (by omega)) rfl ?_
                refine OW.slot (.int .i64 (((n50 + 1) : Nat) : Int)) (by first | rfl | (congr 1) | (congr 1; omega)) ?_
                refine OW.rv (RV.assign rfl) rfl ?_
                refine OW.nil ?_
                exact QW.againJ (k' := k52) (Nat.lt_succ_self _) ⟨(n50 + 1), hl53, (by omega), rfl, rfl⟩ ⟨rfl, rfl, rfl, trivial⟩ (fun w m => m.pick [0, 1] 2 rfl rfl)
              · replace hl53 := if_f hl53 h100
                refine CW.is_t rfl (congrArg (fun b => !b) (Bool.eq_false_iff.2 h100)) ?_
                refine CW.seq ?_
                refine CW.region ?_
                refine OW.rv (RV.assign rfl) rfl ?_
                refine OW.nil ?_
                refine QW.then_n ?_
                refine CW.ret ?_
                refine QW.block_r ?_
                refine QW.then_r ?_
                refine QW.then_r ?_
                refine QW.block_r ?_
                refine QW.then_r ?_
                have hc := Option.some.inj hl53
                subst hc
                try dsimp only at hf
                refine QW.then_r ?_
                have e0 := Option.some.inj hf
                subst e0
                refine QW.retG (rs := [.tmp 4]) ([.bool false]) ((some b26, blk [.bool (a1.list), .slice A13 a1.data.length c14, .slice A16 a1.items.length c17] 29) :: (some b25, blk [.bool (a0.list), .slice A1 a0.data.length c2, .slice A4 a0.items.length c5] 29) :: []) rfl ?_ rfl ?_ ?_ _ (.inl rfl)
                · exact ⟨rfl, trivial⟩
                · exact rfl
                · exact (fun w m => m)
            · replace hl53 := if_f hl53 h59
              refine CW.is_f rfl (decide_eq_false h59) ?_
              refine CW.exit ?_
              refine QW.then_x ?_
              refine QW.then_x ?_
              refine QW.block_xe ?_
              exact QW.join ⟨(Option.some.inj hl53).symm, rfl, rfl⟩ trivial (fun w m => m.pick [] 2 rfl rfl)
        · skip
          refine CW.block ?_
          refine CW.loopJ (fun k L' M' => ∃ n101 : Nat, (waybillref07_Same.l2 a0 a1 k n101) = some q36 ∧ (n101 ≤ 9223372036854775807) ∧ L' = [(2, ptr (some b25) 0), (3, ptr (some b26) 0), (5, .int .i64 ((n101 : Nat) : Int))] ∧ M' = ((some b26, blk [.bool (a1.list), .slice A13 a1.data.length c14, .slice A16 a1.items.length c17] 29) :: (some b25, blk [.bool (a0.list), .slice A1 a0.data.length c2, .slice A4 a0.items.length c5] 29) :: ([] ++ N))) (k0 := (a0.data.length - 0 + 2)) ⟨0, hq37, (by omega), rfl, rfl⟩ ⟨rfl, rfl, rfl, trivial⟩ (fun w m => m.pick [0, 1] 2 rfl rfl) ?_
          clear hq37
          rintro k103 L106 M107 ⟨n101, hl104, b102, e108, e109⟩
          rw [e108, e109]
          clear e108 e109 L106 M107
          rcases k103 with _ | k103
          · rw [waybillref07_Same.l2] at hl104; cases hl104
          rw [waybillref07_Same.l2] at hl104
          refine CW.seq ?_
          refine CW.seq ?_
          refine CW.region ?_
          refine OW.rv (RV.move rfl) rfl ?_
          refine OW.rv (RV.field rfl rfl rfl rfl) rfl ?_
          refine OW.rv (RV.load rfl (List.Mem.tail _ (List.Mem.head _)) rfl rfl rfl rfl) rfl ?_
          refine OW.rv (RV.len rfl rfl) rfl ?_
          refine OW.rv (RV.lss rfl rfl) rfl ?_
          refine OW.slot (.bool (decide (n101 < a0.data.length))) (congrArg Value.bool (decide_eq_decide.2 (by omega))) ?_
          refine OW.nil ?_
          refine QW.then_n ?_
          by_cases h110 : n101 < a0.data.length
          · replace hl104 := if_t hl104 h110
            refine CW.is_t rfl (decide_eq_true h110) ?_
            refine CW.skip ?_
            refine QW.then_n ?_
            refine CW.seq ?_
            refine CW.block ?_
            refine CW.seq ?_
            refine CW.drawsU 11 mixed (by kernel_rfl) rfl ?_
            refine UW.rv 0 rfl (by kernel_rfl) rfl (RV.field rfl rfl rfl rfl) rfl ?_
            refine UW.rv 1 rfl (by kernel_rfl) rfl (RV.load rfl (List.Mem.tail _ (List.Mem.head _)) rfl rfl rfl rfl) rfl ?_
            refine UW.rv 2 rfl (by kernel_rfl) rfl (RV.move rfl) rfl ?_
            obtain ⟨x111, hx112, hl104⟩ := some_bind hl104
            have hl113 := lt_of_at hx112
            refine UW.rv 3 rfl (by kernel_rfl) rfl (RV.idx_r (n101) rfl rfl rfl rfl rfl (v3.isSome (by decide) hl113) (by omega)) rfl ?_
            refine UW.rv 4 rfl (by kernel_rfl) rfl (RV.load_at rfl rfl rfl (fun w m => v3.cell (More.of hΦ 2 m rfl) (u8s_at hx112))) rfl ?_
            refine UW.rv 5 rfl (by kernel_rfl) rfl (RV.field rfl rfl rfl rfl) rfl ?_
            refine UW.rv 6 rfl (by kernel_rfl) rfl (RV.load rfl (List.Mem.head _) rfl rfl rfl rfl) rfl ?_
            refine UW.rv 7 rfl (by kernel_rfl) rfl (RV.move rfl) rfl ?_
            obtain ⟨x114, hx115, hl104⟩ := some_bind hl104
            have hl116 := lt_of_at hx115
            refine UW.rv 8 rfl (by kernel_rfl) rfl (RV.idx_r (n101) rfl rfl rfl rfl rfl (v15.isSome (by decide) hl116) (by omega)) rfl ?_
            refine UW.rv 9 rfl (by kernel_rfl) rfl (RV.load_at rfl rfl rfl (fun w m => v15.cell (More.of hΦ 2 m rfl) (u8s_at hx115))) rfl ?_
            refine UW.rv 10 rfl (by kernel_rfl) rfl (RV.neq8 rfl (by first | rfl | exact lit8 _ rfl) rfl (by first | rfl | exact lit8 _ rfl)) rfl ?_
            refine UW.nil (by kernel_rfl) ?_
            refine OW.nil ?_
            refine QW.then_n ?_
            by_cases h117 : x111 = x114
            · replace hl104 := if_t hl104 h117
              refine CW.is_f rfl (congrArg (fun b => !b) (decide_eq_true h117)) ?_
              refine CW.skip ?_
              refine QW.block_n ?_
              refine QW.then_n ?_
              refine CW.region ?_
              refine OW.rv (RV.move rfl) rfl ?_
              refine OW.rv (RV.add rfl rfl (by omega)) rfl ?_
              refine OW.slot (.int .i64 (((n101 + 1) : Nat) : Int)) (by first | rfl | (congr 1) | (congr 1; omega)) ?_
              refine OW.rv (RV.assign rfl) rfl ?_
              refine OW.nil ?_
              exact QW.againJ (k' := k103) (Nat.lt_succ_self _) ⟨(n101 + 1), hl104, (by omega), rfl, rfl⟩ ⟨rfl, rfl, rfl, trivial⟩ (fun w m => m.pick [0, 1] 2 rfl rfl)
            · replace hl104 := if_f hl104 h117
              refine CW.is_t rfl (congrArg (fun b => !b) (decide_eq_false h117)) ?_
              refine CW.seq ?_
              refine CW.region ?_
              refine OW.rv (RV.assign rfl) rfl ?_
              refine OW.nil ?_
              refine QW.then_n ?_
              refine CW.ret ?_
              refine QW.block_r ?_
              refine QW.then_r ?_
              refine QW.then_r ?_
              refine QW.block_r ?_
              refine QW.then_r ?_
              have hc := Option.some.inj hl104
              subst hc
              try dsimp only at hf
              refine QW.then_r ?_
              have e0 := Option.some.inj hf
              subst e0
              refine QW.retG (rs := [.tmp 4]) ([.bool false]) ((some b26, blk [.bool (a1.list), .slice A13 a1.data.length c14, .slice A16 a1.items.length c17] 29) :: (some b25, blk [.bool (a0.list), .slice A1 a0.data.length c2, .slice A4 a0.items.length c5] 29) :: []) rfl ?_ rfl ?_ ?_ _ (.inl rfl)
              · exact ⟨rfl, trivial⟩
              · exact rfl
              · exact (fun w m => m)
          · replace hl104 := if_f hl104 h110
            refine CW.is_f rfl (decide_eq_false h110) ?_
            refine CW.exit ?_
            refine QW.then_x ?_
            refine QW.then_x ?_
            refine QW.block_xe ?_
            exact QW.join ⟨(Option.some.inj hl104).symm, rfl, rfl⟩ ⟨rfl, rfl, trivial⟩ (fun w m => m.pick [0, 1] 2 rfl rfl)
    · skip
      refine CW.region ?_
      refine OW.rv (RV.field rfl rfl rfl rfl) rfl ?_
      refine OW.rv (RV.load rfl (List.Mem.tail _ (List.Mem.head _)) rfl rfl rfl rfl) rfl ?_
      refine OW.rv (RV.field rfl rfl rfl rfl) rfl ?_
      refine OW.rv (RV.load rfl (List.Mem.head _) rfl rfl rfl rfl) rfl ?_
      refine OW.rv (RV.neqB rfl rfl rfl) rfl ?_
      refine OW.slot (.bool (!decide ((a0.list) = (a1.list)))) (by first | rfl | (congr 1) | simp) ?_
      refine OW.rv (RV.move rfl) rfl ?_
      by_cases h118 : (a0.list) = (a1.list)
      · replace hq28 := if_t hq28 h118
        refine OW.slot (.bool false) (congrArg Value.bool (congrArg (fun b => !b) (decide_eq_true h118))) ?_
        refine OW.want rfl ?_
        refine OW.rv (RV.field rfl rfl rfl rfl) rfl ?_
        refine OW.want rfl ?_
        refine OW.rv (RV.load rfl (List.Mem.tail _ (List.Mem.head _)) rfl rfl rfl rfl) rfl ?_
        refine OW.want rfl ?_
        refine OW.rv (RV.len rfl rfl) rfl ?_
        refine OW.want rfl ?_
        refine OW.rv (RV.field rfl rfl rfl rfl) rfl ?_
        refine OW.want rfl ?_
        refine OW.rv (RV.load rfl (List.Mem.head _) rfl rfl rfl rfl) rfl ?_
        refine OW.want rfl ?_
        refine OW.rv (RV.len rfl rfl) rfl ?_
        refine OW.want rfl ?_
        refine OW.rv (RV.neq rfl rfl) rfl ?_
        refine OW.slot (.bool (!decide (a0.data.length = a1.data.length))) (congrArg (fun b => Value.bool (!b)) (decide_eq_decide.2 (by omega))) ?_
        refine OW.rv (RV.pick_f rfl rfl rfl) rfl ?_
        refine OW.rv (RV.move rfl) rfl ?_
        by_cases h119 : a0.data.length = a1.data.length
        · replace hq28 := if_t hq28 h119
          refine OW.slot (.bool false) (congrArg Value.bool (congrArg (fun b => !b) (decide_eq_true h119))) ?_
          refine OW.want rfl ?_
          refine OW.rv (RV.field rfl rfl rfl rfl) rfl ?_
          refine OW.want rfl ?_
          refine OW.rv (RV.load rfl (List.Mem.tail _ (List.Mem.head _)) rfl rfl rfl rfl) rfl ?_
          refine OW.want rfl ?_
          refine OW.rv (RV.len rfl rfl) rfl ?_
          refine OW.want rfl ?_
          refine OW.rv (RV.field rfl rfl rfl rfl) rfl ?_
          refine OW.want rfl ?_
          refine OW.rv (RV.load rfl (List.Mem.head _) rfl rfl rfl rfl) rfl ?_
          refine OW.want rfl ?_
          refine OW.rv (RV.len rfl rfl) rfl ?_
          refine OW.want rfl ?_
          refine OW.rv (RV.neq rfl rfl) rfl ?_
          refine OW.slot (.bool (!decide (a0.items.length = a1.items.length))) (congrArg (fun b => Value.bool (!b)) (decide_eq_decide.2 (by omega))) ?_
          refine OW.rv (RV.pick_f rfl rfl rfl) rfl ?_
          refine OW.nil ?_
          exact QW.join ⟨(!decide (a0.items.length = a1.items.length)), (Option.some.inj hq28).symm, rfl, rfl⟩ ⟨rfl, rfl, rfl, trivial⟩ (fun w m => m.pick [0, 1] 2 rfl rfl)
        · replace hq28 := if_f hq28 h119
          refine OW.slot (.bool true) (congrArg Value.bool (congrArg (fun b => !b) (decide_eq_false h119))) ?_
          refine OW.skip rfl rfl rfl ?_
          refine OW.skip rfl rfl rfl ?_
          refine OW.skip rfl rfl rfl ?_
          refine OW.skip rfl rfl rfl ?_
          refine OW.skip rfl rfl rfl ?_
          refine OW.skip rfl rfl rfl ?_
          refine OW.skip rfl rfl rfl ?_
          refine OW.rv (RV.pick_t rfl rfl rfl) rfl ?_
          refine OW.nil ?_
          exact QW.join ⟨true, (Option.some.inj hq28).symm, rfl, rfl⟩ ⟨rfl, rfl, rfl, trivial⟩ (fun w m => m.pick [0, 1] 2 rfl rfl)
      · replace hq28 := if_f hq28 h118
        refine OW.slot (.bool true) (congrArg Value.bool (congrArg (fun b => !b) (decide_eq_false h118))) ?_
        refine OW.skip rfl rfl rfl ?_
        refine OW.skip rfl rfl rfl ?_
        refine OW.skip rfl rfl rfl ?_
        refine OW.skip rfl rfl rfl ?_
        refine OW.skip rfl rfl rfl ?_
        refine OW.skip rfl rfl rfl ?_
        refine OW.skip rfl rfl rfl ?_
        refine OW.rv (RV.pick_t rfl rfl rfl) rfl ?_
        refine OW.rv (RV.move rfl) rfl ?_
        refine OW.skip rfl rfl rfl ?_
        refine OW.skip rfl rfl rfl ?_
        refine OW.skip rfl rfl rfl ?_
        refine OW.skip rfl rfl rfl ?_
        refine OW.skip rfl rfl rfl ?_
        refine OW.skip rfl rfl rfl ?_
        refine OW.skip rfl rfl rfl ?_
        refine OW.rv (RV.pick_t rfl rfl rfl) rfl ?_
        refine OW.nil ?_
        exact QW.join ⟨true, (Option.some.inj hq28).symm, rfl, rfl⟩ ⟨rfl, rfl, rfl, trivial⟩ (fun w m => m.pick [0, 1] 2 rfl rfl)
theorem waybillref07_Same_does (w0 : World) (Φ : Ctx) (N : List Ent) (hΦ : ∀ w, Mem w0 w N → Φ w) (cs0_ : List Value) (a0 : It) (cs1_ : List Value) (a1 : It) (res0 : Bool) (ha0 : ItRd Φ cs0_ a0) (ha1 : ItRd Φ cs1_ a1) (hf : waybillref07_Same a0 a1 = some res0) : DoesG Try.prog 17 [.agg cs0_.toArray, .agg cs1_.toArray] w0 [] N (fun v G => v = .bool res0) := waybillref07_Same_rec w0 _ Φ N hΦ cs0_ a0 cs1_ a1 res0 ha0 ha1 hf

theorem rlp_twin_rec (w0 : World) : ∀ (kf : Nat) (Φ : Ctx) (N : List Ent) (hΦ : ∀ w, Mem w0 w N → Φ w) (A0_ : Option Addr) (c0_ : Nat) (cs0_ : List Value) (a0 : List (It)) (res0 : List (It)) (va0 : View Φ A0_ a0.length c0_ 3 cs0_) (ha0 : Reps (ItRd Φ) cs0_ a0) (hf : rlp_twin.r kf a0 = some res0), DoesG Try.prog 68 [.slice A0_ a0.length c0_] w0 [] N (fun v G => ∃ B : List Ent, ∃ cr0 : List Value, ∃ or0 : Option Nat, ∃ kr0 : Nat, ∃ rr0 : List Value, (Reps (ItRd (More w0 Φ B)) cr0 res0) ∧ (OwnS or0 res0.length kr0 3 cr0 rr0) ∧ v = sl or0 0 res0.length kr0 ∧ G = (or0, blk (cr0 ++ rr0) 29) :: B) := by
  intro kf
  induction kf with
  | zero => intro Φ N hΦ A0_ c0_ cs0_ a0 res0 va0 ha0 hf; rw [rlp_twin.r] at hf; cases hf
  | succ kf ih =>
    intro Φ N hΦ A0_ c0_ cs0_ a0 res0 va0 ha0 hf
    rw [rlp_twin.r] at hf
    replace va0 := va0.mono (Ψ := More w0 Φ []) (fun w q => q.1)
    replace ha0 := ha0.mono (ItRd.mono (Ψ := More w0 Φ []) (fun w q => q.1))
    have m1 := va0.mx
    refine DoesG.enter Try.func68 rfl Try.ntmps68 rfl (M := (([] ++ N))) rfl ?_
    refine CW.seq ?_
    refine CW.region ?_
    refine OW.rv (RV.assign rfl) rfl ?_
    refine OW.nil ?_
    refine QW.then_n ?_
    refine CW.seq ?_
    refine CW.region ?_
    refine OW.rv (RV.assign rfl) rfl ?_
    refine OW.nil ?_
    refine QW.then_n ?_
    refine CW.seq ?_
    refine CW.seq ?_
    refine CW.region ?_
    refine OW.rv (RV.move rfl) rfl ?_
    refine OW.rv (RV.len rfl rfl) rfl ?_
    refine OW.rv (RV.move rfl) rfl ?_
    refine OW.nil ?_
    refine QW.then_n ?_
    obtain ⟨q2, hq3, hf⟩ := some_bind hf
    refine CW.cutJ (fun L' M' => ∃ l6 : List (It), ∃ B4 : List Ent, ∃ cs7 : List Value, ∃ ob9 : Option Nat, ∃ c10 : Nat, ∃ r11 : List Value, q2 = l6 ∧ (∀ w, Mem w0 w B4 → Mem w0 w []) ∧ (Reps (ItRd (More w0 Φ B4)) cs7 l6) ∧ (OwnS ob9 l6.length c10 3 cs7 r11) ∧ L' = [(3, sl ob9 0 l6.length c10)] ∧ M' = ((ob9, blk (cs7 ++ r11) 29) :: (B4 ++ N))) ?_ ?_
    · rintro L14 M15 ⟨l6, B4, cs7, ob9, c10, r11, e13, hB5, h8, o12, e16, e17⟩
      rw [e16, e17]
      clear e16 e17 L14 M15
      clear hq3
      rw [e13] at hf
      clear e13
      try dsimp only at hf
      have m18 := o12.mx
      refine QW.then_n ?_
      refine CW.seq ?_
      refine CW.region ?_
      refine OW.rv (RV.move rfl) rfl ?_
      refine OW.rv (RV.assign rfl) rfl ?_
      refine OW.nil ?_
      refine QW.then_n ?_
      refine CW.ret ?_
      have e0 := Option.some.inj hf
      subst e0
      refine QW.retG (rs := [.tmp 2]) ([sl ob9 0 l6.length c10]) ((ob9, blk (cs7 ++ r11) 29) :: B4) rfl ?_ rfl ?_ ?_ _ (.inl rfl)
      · exact ⟨rfl, trivial⟩
      · exact ⟨B4, cs7, ob9, c10, r11, h8, o12, rfl, rfl⟩
      · exact (fun w m => m.pick [0] 1 rfl rfl)
    · skip
      refine CW.block ?_
      refine CW.mem (M' := ((none, blk ([] ++ []) 29) :: ([] ++ N))) (fun w m => m.nil_ent _) ?_
      refine CW.loopJ (fun k L' M' => ∃ l21 : List (It), ∃ n28 : Nat, ∃ B19 : List Ent, ∃ cs22 : List Value, ∃ ob24 : Option Nat, ∃ c25 : Nat, ∃ r26 : List Value, (rlp_twin.l1 a0 (rlp_twin.r kf) k l21 n28) = some q2 ∧ (∀ w, Mem w0 w B19 → Mem w0 w []) ∧ (Reps (ItRd (More w0 Φ B19)) cs22 l21) ∧ (OwnS ob24 l21.length c25 3 cs22 r26) ∧ (n28 ≤ 9223372036854775807) ∧ L' = [(3, sl ob24 0 l21.length c25), (6, .slice A0_ a0.length c0_), (7, .int .i64 ((a0.length : Nat) : Int)), (8, .int .i64 ((n28 : Nat) : Int))] ∧ M' = ((ob24, blk (cs22 ++ r26) 29) :: (B19 ++ N))) (k0 := (a0.length - 0 + 2)) ⟨([] : List (It)), 0, [], [], none, 0, [], hq3, (fun w m => m), Reps.nil, OwnS.nil, (by omega), rfl, rfl⟩ ⟨rfl, rfl, rfl, rfl, trivial⟩ (fun w m => m.pick [0] 1 rfl rfl) ?_
      clear hq3
      rintro k30 L33 M34 ⟨l21, n28, B19, cs22, ob24, c25, r26, hl31, hB20, h23, o27, b29, e35, e36⟩
      rw [e35, e36]
      clear e35 e36 L33 M34
      rcases k30 with _ | k30
      · rw [rlp_twin.l1] at hl31; cases hl31
      rw [rlp_twin.l1] at hl31
      replace va0 := va0.mono (Ψ := More w0 Φ B19) (fun w q => More.mono (fun w m => hB20 w (m)) q)
      replace ha0 := ha0.mono (ItRd.mono (Ψ := More w0 Φ B19) (fun w q => More.mono (fun w m => hB20 w (m)) q))
      have m37 := o27.mx
      refine CW.seq ?_
      refine CW.region ?_
      refine OW.rv (RV.lss rfl rfl) rfl ?_
      refine OW.slot (.bool (decide (n28 < a0.length))) (congrArg Value.bool (decide_eq_decide.2 (by omega))) ?_
      refine OW.nil ?_
      refine QW.then_n ?_
      refine CW.seq ?_
      by_cases h38 : n28 < a0.length
      · replace hl31 := if_t hl31 h38
        refine CW.is_t rfl (decide_eq_true h38) ?_
        refine CW.skip ?_
        refine QW.then_n ?_
        refine CW.seq ?_
        refine CW.block ?_
        refine CW.seq ?_
        refine CW.region ?_
        obtain ⟨x39, hx40, hl31⟩ := some_bind hl31
        have hl41 := lt_of_at hx40
        refine OW.rv (RV.idx_rs (n28) rfl rfl rfl rfl rfl (va0.isSome (by decide) hl41) (by omega)) rfl ?_
        obtain ⟨cs42, h43, h44⟩ := ha0.get ItRd.len hx40
        have h54 := h43
        obtain ⟨A45, c46, A48, c49, cs51, e53, v47, v50, h52⟩ := ItRd.opn h43
        subst e53
        have m55 := v47.mx
        have m56 := v50.mx
        refine OW.rv (RV.loadAs rfl rfl rfl rfl (fun w m => va0.load (More.of hΦ 1 m rfl) h44) rfl) rfl ?_
        refine OW.alloc (l := [.bool false, .slice none 0 0, .slice none 0 0]) rfl rfl rfl (fun b57 => ?_)
        refine OW.sv (SV.storeW rfl rfl rfl (by intro u hu; simp at hu; rcases hu with rfl | rfl | rfl <;> rfl) rfl rfl rfl) ?_
        refine OW.nil ?_
        refine QW.then_n ?_
        refine CW.drawsU 11 mixed (by kernel_rfl) rfl ?_
        refine UW.rv 0 rfl (by kernel_rfl) rfl (RV.move rfl) rfl ?_
        refine UW.rv 1 rfl (by kernel_rfl) rfl (RV.field rfl rfl rfl rfl) rfl ?_
        refine UW.rv 2 rfl (by kernel_rfl) rfl (RV.load rfl (List.Mem.head _) rfl rfl rfl rfl) rfl ?_
        refine UW.rv 3 rfl (by kernel_rfl) rfl (RV.field rfl rfl rfl rfl) rfl ?_
        refine UW.rv 4 rfl (by kernel_rfl) rfl (RV.load rfl (List.Mem.head _) rfl rfl rfl rfl) rfl ?_
        refine UW.rv 6 rfl (by kernel_rfl) rfl (RV.field rfl rfl rfl rfl) rfl ?_
        refine UW.rv 7 rfl (by kernel_rfl) rfl (RV.load rfl (List.Mem.head _) rfl rfl rfl rfl) rfl ?_
        obtain ⟨x59, hx58, hl31⟩ := some_bind hl31
        refine UW.callG 5 rfl (by kernel_rfl) rfl Try.call63 rfl (fun N' hN' => rlp_clone_does w0 (More w0 Φ B19) N' (fun w m => More.of hΦ 2 (hN' w m) rfl) A45 c46 x39.data x59 v47 hx58) rfl ?_
        rintro L65 M66 ⟨B60, ob61, c62, r63, o64, e67, e68⟩
        rw [e67, e68]
        clear e67 e68 L65 M66
        refine UW.mem (M' := ((ob61, blk ((u8s x59) ++ r63) 5) :: (some b57, blk [.bool (x39.list), .slice A45 x39.data.length c46, .slice A48 x39.items.length c49] 29) :: (ob24, blk (cs22 ++ r26) 29) :: ((B60 ++ B19) ++ N))) (fun w m => by have h := Mem.sinkAt (A := B60) m 1 2 rfl rfl; exact h) ?_
        replace va0 := va0.mono (Ψ := More w0 Φ (B60 ++ B19)) (fun w q => More.mono (fun w m => (m).appR) q)
        replace ha0 := ha0.mono (ItRd.mono (Ψ := More w0 Φ (B60 ++ B19)) (fun w q => More.mono (fun w m => (m).appR) q))
        replace h23 := h23.mono (ItRd.mono (Ψ := More w0 Φ (B60 ++ B19)) (fun w q => More.mono (fun w m => (m).appR) q))
        replace h54 := ItRd.mono (Ψ := More w0 Φ (B60 ++ B19)) (fun w q => More.mono (fun w m => (m).appR) q) _ _ h54
        replace v47 := v47.mono (Ψ := More w0 Φ (B60 ++ B19)) (fun w q => More.mono (fun w m => (m).appR) q)
        replace v50 := v50.mono (Ψ := More w0 Φ (B60 ++ B19)) (fun w q => More.mono (fun w m => (m).appR) q)
        replace h52 := h52.mono (ItRd.mono (Ψ := More w0 Φ (B60 ++ B19)) (fun w q => More.mono (fun w m => (m).appR) q))
        have m69 := o64.mx
        obtain ⟨x71, hx70, hl31⟩ := some_bind hl31
        refine UW.callG 8 rfl (by kernel_rfl) rfl Try.call68 rfl (fun N' hN' => ih (More w0 Φ (B60 ++ B19)) N' (fun w m => More.of hΦ 3 (hN' w m) rfl) A48 c49 cs51 x39.items x71 v50 h52 hx70) rfl ?_
        rintro L79 M80 ⟨B72, cs73, ob75, c76, r77, h74, o78, e81, e82⟩
        rw [e81, e82]
        clear e81 e82 L79 M80
        refine UW.mem (M' := ((ob75, blk (cs73 ++ r77) 29) :: (ob61, blk ((u8s x59) ++ r63) 5) :: (some b57, blk [.bool (x39.list), .slice A45 x39.data.length c46, .slice A48 x39.items.length c49] 29) :: (ob24, blk (cs22 ++ r26) 29) :: ((B72 ++ (B60 ++ B19)) ++ N))) (fun w m => by have h := Mem.sinkAt (A := B72) m 1 3 rfl rfl; exact h) ?_
        replace va0 := va0.mono (Ψ := More w0 Φ (B72 ++ (B60 ++ B19))) (fun w q => More.mono (fun w m => (m).appR) q)
        replace ha0 := ha0.mono (ItRd.mono (Ψ := More w0 Φ (B72 ++ (B60 ++ B19))) (fun w q => More.mono (fun w m => (m).appR) q))
        replace h23 := h23.mono (ItRd.mono (Ψ := More w0 Φ (B72 ++ (B60 ++ B19))) (fun w q => More.mono (fun w m => (m).appR) q))
        replace h54 := ItRd.mono (Ψ := More w0 Φ (B72 ++ (B60 ++ B19))) (fun w q => More.mono (fun w m => (m).appR) q) _ _ h54
        replace v47 := v47.mono (Ψ := More w0 Φ (B72 ++ (B60 ++ B19))) (fun w q => More.mono (fun w m => (m).appR) q)
        replace v50 := v50.mono (Ψ := More w0 Φ (B72 ++ (B60 ++ B19))) (fun w q => More.mono (fun w m => (m).appR) q)
        replace h52 := h52.mono (ItRd.mono (Ψ := More w0 Φ (B72 ++ (B60 ++ B19))) (fun w q => More.mono (fun w m => (m).appR) q))
        replace h74 := h74.mono (ItRd.mono (Ψ := (More w0 Φ (B72 ++ (B60 ++ B19)))) (fun w q => More.flat q))
        have m83 := o78.mx
        refine UW.rv 9 rfl (by kernel_rfl) rfl (RV.buildSt (l := [.bool false, .slice none 0 0, .slice none 0 0]) (cs := [.bool (x39.list), sl ob61 0 x59.length c62, sl ob75 0 x71.length c76]) [(0, [.bool (x39.list)]), (1, [sl ob61 0 x59.length c62]), (2, [sl ob75 0 x71.length c76])] rfl rfl rfl rfl rfl rfl rfl) rfl ?_
        refine UW.mem (M' := (ob75, blk (cs73 ++ r77) 29) :: (some b57, blk [.bool (x39.list), .slice A45 x39.data.length c46, .slice A48 x39.items.length c49] 29) :: (ob24, blk (cs22 ++ r26) 29) :: (((ob61, blk ((u8s x59) ++ r63) 5) :: (B72 ++ (B60 ++ B19))) ++ N)) (fun w m => m.pick [0, 2, 3, 1] 4 rfl rfl) ?_
        replace va0 := va0.mono (Ψ := More w0 Φ ((ob61, blk ((u8s x59) ++ r63) 5) :: (B72 ++ (B60 ++ B19)))) (fun w q => More.mono (fun w m => (m).tail) q)
        replace ha0 := ha0.mono (ItRd.mono (Ψ := More w0 Φ ((ob61, blk ((u8s x59) ++ r63) 5) :: (B72 ++ (B60 ++ B19)))) (fun w q => More.mono (fun w m => (m).tail) q))
        replace h23 := h23.mono (ItRd.mono (Ψ := More w0 Φ ((ob61, blk ((u8s x59) ++ r63) 5) :: (B72 ++ (B60 ++ B19)))) (fun w q => More.mono (fun w m => (m).tail) q))
        replace h54 := ItRd.mono (Ψ := More w0 Φ ((ob61, blk ((u8s x59) ++ r63) 5) :: (B72 ++ (B60 ++ B19)))) (fun w q => More.mono (fun w m => (m).tail) q) _ _ h54
        replace v47 := v47.mono (Ψ := More w0 Φ ((ob61, blk ((u8s x59) ++ r63) 5) :: (B72 ++ (B60 ++ B19)))) (fun w q => More.mono (fun w m => (m).tail) q)
        replace v50 := v50.mono (Ψ := More w0 Φ ((ob61, blk ((u8s x59) ++ r63) 5) :: (B72 ++ (B60 ++ B19)))) (fun w q => More.mono (fun w m => (m).tail) q)
        replace h52 := h52.mono (ItRd.mono (Ψ := More w0 Φ ((ob61, blk ((u8s x59) ++ r63) 5) :: (B72 ++ (B60 ++ B19)))) (fun w q => More.mono (fun w m => (m).tail) q))
        replace h74 := h74.mono (ItRd.mono (Ψ := More w0 Φ ((ob61, blk ((u8s x59) ++ r63) 5) :: (B72 ++ (B60 ++ B19)))) (fun w q => More.mono (fun w m => (m).tail) q))
        have v86 : View (More w0 Φ ((ob61, blk ((u8s x59) ++ r63) 5) :: (B72 ++ (B60 ++ B19)))) ((ob61).map fun k => ⟨k, 0, none⟩) x59.length c62 1 (u8s x59) := o64.view (by decide) (fun w q => q.2.sublist (List.singleton_sublist.2 (List.mem_cons_self ..)))
        refine UW.mem (M' := (some b57, blk [.bool (x39.list), .slice A45 x39.data.length c46, .slice A48 x39.items.length c49] 29) :: (ob24, blk (cs22 ++ r26) 29) :: (((ob75, blk (cs73 ++ r77) 29) :: ((ob61, blk ((u8s x59) ++ r63) 5) :: (B72 ++ (B60 ++ B19)))) ++ N)) (fun w m => m.pick [1, 2, 0] 3 rfl rfl) ?_
        replace va0 := va0.mono (Ψ := More w0 Φ ((ob75, blk (cs73 ++ r77) 29) :: ((ob61, blk ((u8s x59) ++ r63) 5) :: (B72 ++ (B60 ++ B19))))) (fun w q => More.mono (fun w m => (m).tail) q)
        replace ha0 := ha0.mono (ItRd.mono (Ψ := More w0 Φ ((ob75, blk (cs73 ++ r77) 29) :: ((ob61, blk ((u8s x59) ++ r63) 5) :: (B72 ++ (B60 ++ B19))))) (fun w q => More.mono (fun w m => (m).tail) q))
        replace h23 := h23.mono (ItRd.mono (Ψ := More w0 Φ ((ob75, blk (cs73 ++ r77) 29) :: ((ob61, blk ((u8s x59) ++ r63) 5) :: (B72 ++ (B60 ++ B19))))) (fun w q => More.mono (fun w m => (m).tail) q))
        replace h54 := ItRd.mono (Ψ := More w0 Φ ((ob75, blk (cs73 ++ r77) 29) :: ((ob61, blk ((u8s x59) ++ r63) 5) :: (B72 ++ (B60 ++ B19))))) (fun w q => More.mono (fun w m => (m).tail) q) _ _ h54
        replace v47 := v47.mono (Ψ := More w0 Φ ((ob75, blk (cs73 ++ r77) 29) :: ((ob61, blk ((u8s x59) ++ r63) 5) :: (B72 ++ (B60 ++ B19))))) (fun w q => More.mono (fun w m => (m).tail) q)
        replace v50 := v50.mono (Ψ := More w0 Φ ((ob75, blk (cs73 ++ r77) 29) :: ((ob61, blk ((u8s x59) ++ r63) 5) :: (B72 ++ (B60 ++ B19))))) (fun w q => More.mono (fun w m => (m).tail) q)
        replace h52 := h52.mono (ItRd.mono (Ψ := More w0 Φ ((ob75, blk (cs73 ++ r77) 29) :: ((ob61, blk ((u8s x59) ++ r63) 5) :: (B72 ++ (B60 ++ B19))))) (fun w q => More.mono (fun w m => (m).tail) q))
        replace v86 := v86.mono (Ψ := More w0 Φ ((ob75, blk (cs73 ++ r77) 29) :: ((ob61, blk ((u8s x59) ++ r63) 5) :: (B72 ++ (B60 ++ B19))))) (fun w q => More.mono (fun w m => (m).tail) q)
        replace h74 := h74.mono (ItRd.mono (Ψ := More w0 Φ ((ob75, blk (cs73 ++ r77) 29) :: ((ob61, blk ((u8s x59) ++ r63) 5) :: (B72 ++ (B60 ++ B19))))) (fun w q => More.mono (fun w m => (m).tail) q))
        have v87 : View (More w0 Φ ((ob75, blk (cs73 ++ r77) 29) :: ((ob61, blk ((u8s x59) ++ r63) 5) :: (B72 ++ (B60 ++ B19))))) ((ob75).map fun k => ⟨k, 0, none⟩) x71.length c76 3 cs73 := o78.view (by decide) (fun w q => q.2.sublist (List.singleton_sublist.2 (List.mem_cons_self ..)))
        refine UW.new 10 rfl (by kernel_rfl) rfl (NV.bsA rfl rfl (by intro x hx; simp at hx; subst hx; rfl) rfl rfl rfl (by decide) (by decide) rfl) rfl (fun b84 => ?_)
        have h89 : Reps (ItRd (More w0 Φ ((ob75, blk (cs73 ++ r77) 29) :: ((ob61, blk ((u8s x59) ++ r63) 5) :: (B72 ++ (B60 ++ B19)))))) (([.bool (x39.list), .slice ((ob61).map fun k => ⟨k, 0, none⟩) x59.length c62, .slice ((ob75).map fun k => ⟨k, 0, none⟩) x71.length c76] : List Value)) [(It.mk (x39.list) x59 x71)] := Reps.one (ItRd.mk v86 v87 h74)
        refine UW.mem (M' := (((some b84), blk ((([.bool (x39.list), .slice ((ob61).map fun k => ⟨k, 0, none⟩) x59.length c62, .slice ((ob75).map fun k => ⟨k, 0, none⟩) x71.length c76] : List Value)) ++ []) 29) :: (some b57, blk [.bool (x39.list), .slice A45 x39.data.length c46, .slice A48 x39.items.length c49] 29) :: (ob24, blk (cs22 ++ r26) 29) :: (((ob75, blk (cs73 ++ r77) 29) :: ((ob61, blk ((u8s x59) ++ r63) 5) :: (B72 ++ (B60 ++ B19)))) ++ N))) (fun w m => m) ?_
        have o85 : OwnS (some b84) ([(It.mk (x39.list) x59 x71)] : List (It)).length 1 3 (([.bool (x39.list), .slice ((ob61).map fun k => ⟨k, 0, none⟩) x59.length c62, .slice ((ob75).map fun k => ⟨k, 0, none⟩) x71.length c76] : List Value)) [] := ⟨by simp [ItRd], by simp [ItRd], (fun h => nomatch h), by simp⟩
        refine UW.slot (sl (some b84) 0 ([(It.mk (x39.list) x59 x71)] : List (It)).length 1) (rfl) ?_
        refine UW.nil (by kernel_rfl) ?_
        refine OW.rot2 ?_
        obtain ⟨g90, hl31⟩ := some_if hl31
        have h95 := h23.app h89
        refine OW.appendOwn (s := 3) rfl rfl rfl rfl rfl rfl o27 (fun w m => m.rd0 (List.Mem.tail _ (List.Mem.head _)) (fun e => o85.nilc (by decide) e)) o85.n (h89.cell1 ItRd.one) (o85.zeroO (by decide)) (by decide) (by decide) (by first | omega | (simp only [i29, List.length_nil]; omega)) rfl rfl ((l21 ++ ([(It.mk (x39.list) x59 x71)] : List (It))).length) (cs22 ++ (([.bool (x39.list), .slice ((ob61).map fun k => ⟨k, 0, none⟩) x59.length c62, .slice ((ob75).map fun k => ⟨k, 0, none⟩) x71.length c76] : List Value))) (List.length_append ..).symm rfl (fun ob91 r92 c93 o94 => ?_)
        have m96 := o94.mx
        refine OW.rv (RV.assign rfl) rfl ?_
        refine OW.nil ?_
        refine QW.block_n ?_
        refine QW.then_n ?_
        refine CW.region ?_
        refine OW.rv (RV.add rfl rfl (by omega)) rfl ?_
        refine OW.slot (.int .i64 (((n28 + 1) : Nat) : Int)) (by first | rfl | (congr 1) | (congr 1; omega)) ?_
        refine OW.rv (RV.move rfl) rfl ?_
        refine OW.nil ?_
        exact QW.againJ (k' := k30) (Nat.lt_succ_self _) ⟨(l21 ++ ([(It.mk (x39.list) x59 x71)] : List (It))), (n28 + 1), ((ob75, blk (cs73 ++ r77) 29) :: ((ob61, blk ((u8s x59) ++ r63) 5) :: (B72 ++ (B60 ++ B19)))), (cs22 ++ (([.bool (x39.list), .slice ((ob61).map fun k => ⟨k, 0, none⟩) x59.length c62, .slice ((ob75).map fun k => ⟨k, 0, none⟩) x71.length c76] : List Value))), ob91, c93, r92, hl31, (fun w m => hB20 w (((((m).tail).tail).appR).appR)), h95, o94, (by omega), rfl, rfl⟩ ⟨rfl, rfl, rfl, rfl, trivial⟩ (fun w m => m.pick [0] 3 rfl rfl)
      · replace hl31 := if_f hl31 h38
        refine CW.is_f rfl (decide_eq_false h38) ?_
        refine CW.exit ?_
        refine QW.then_x ?_
        refine QW.then_x ?_
        refine QW.block_xe ?_
        exact QW.join ⟨l21, B19, cs22, ob24, c25, r26, (Option.some.inj hl31).symm, (fun w m => hB20 w (m)), h23, o27, rfl, rfl⟩ ⟨rfl, trivial⟩ (fun w m => m.pick [0] 1 rfl rfl)
theorem rlp_twin_does (w0 : World) (Φ : Ctx) (N : List Ent) (hΦ : ∀ w, Mem w0 w N → Φ w) (A0_ : Option Addr) (c0_ : Nat) (cs0_ : List Value) (a0 : List (It)) (res0 : List (It)) (va0 : View Φ A0_ a0.length c0_ 3 cs0_) (ha0 : Reps (ItRd Φ) cs0_ a0) (hf : rlp_twin a0 = some res0) : DoesG Try.prog 68 [.slice A0_ a0.length c0_] w0 [] N (fun v G => ∃ B : List Ent, ∃ cr0 : List Value, ∃ or0 : Option Nat, ∃ kr0 : Nat, ∃ rr0 : List Value, (Reps (ItRd (More w0 Φ B)) cr0 res0) ∧ (OwnS or0 res0.length kr0 3 cr0 rr0) ∧ v = sl or0 0 res0.length kr0 ∧ G = (or0, blk (cr0 ++ rr0) 29) :: B) := rlp_twin_rec w0 _ Φ N hΦ A0_ c0_ cs0_ a0 res0 va0 ha0 hf

theorem waybillref07_Copy_rec (w0 : World) : ∀ (kf : Nat) (Φ : Ctx) (N : List Ent) (hΦ : ∀ w, Mem w0 w N → Φ w) (A0_ : Option Addr) (c0_ : Nat) (cs0_ : List Value) (a0 : List (It)) (res0 : List (It)) (va0 : View Φ A0_ a0.length c0_ 3 cs0_) (ha0 : Reps (ItRd Φ) cs0_ a0) (hf : waybillref07_Copy.r kf a0 = some res0), DoesG Try.prog 16 [.slice A0_ a0.length c0_] w0 [] N (fun v G => ∃ B : List Ent, ∃ cr0 : List Value, ∃ or0 : Option Nat, ∃ kr0 : Nat, ∃ rr0 : List Value, (Reps (ItRd (More w0 Φ B)) cr0 res0) ∧ (OwnS or0 res0.length kr0 3 cr0 rr0) ∧ v = sl or0 0 res0.length kr0 ∧ G = (or0, blk (cr0 ++ rr0) 29) :: B) := by
  intro kf
  induction kf with
  | zero => intro Φ N hΦ A0_ c0_ cs0_ a0 res0 va0 ha0 hf; rw [waybillref07_Copy.r] at hf; cases hf
  | succ kf ih =>
    intro Φ N hΦ A0_ c0_ cs0_ a0 res0 va0 ha0 hf
    rw [waybillref07_Copy.r] at hf
    replace va0 := va0.mono (Ψ := More w0 Φ []) (fun w q => q.1)
    replace ha0 := ha0.mono (ItRd.mono (Ψ := More w0 Φ []) (fun w q => q.1))
    have m1 := va0.mx
    refine DoesG.enter Try.func16 rfl Try.ntmps16 rfl (M := (([] ++ N))) rfl ?_
    refine CW.seq ?_
    refine CW.region ?_
    refine OW.rv (RV.assign rfl) rfl ?_
    refine OW.nil ?_
    refine QW.then_n ?_
    refine CW.seq ?_
    refine CW.region ?_
    refine OW.rv (RV.assign rfl) rfl ?_
    refine OW.nil ?_
    refine QW.then_n ?_
    refine CW.seq ?_
    refine CW.seq ?_
    refine CW.region ?_
    refine OW.rv (RV.assign rfl) rfl ?_
    refine OW.nil ?_
    refine QW.then_n ?_
    obtain ⟨q2, hq3, hf⟩ := some_bind hf
    refine CW.cutJ (fun L' M' => ∃ l6 : List (It), ∃ B4 : List Ent, ∃ cs7 : List Value, ∃ ob9 : Option Nat, ∃ c10 : Nat, ∃ r11 : List Value, q2 = l6 ∧ (∀ w, Mem w0 w B4 → Mem w0 w []) ∧ (Reps (ItRd (More w0 Φ B4)) cs7 l6) ∧ (OwnS ob9 l6.length c10 3 cs7 r11) ∧ L' = [(3, sl ob9 0 l6.length c10)] ∧ M' = ((ob9, blk (cs7 ++ r11) 29) :: (B4 ++ N))) ?_ ?_
    · rintro L14 M15 ⟨l6, B4, cs7, ob9, c10, r11, e13, hB5, h8, o12, e16, e17⟩
      rw [e16, e17]
      clear e16 e17 L14 M15
      clear hq3
      rw [e13] at hf
      clear e13
      try dsimp only at hf
      have m18 := o12.mx
      refine QW.then_n ?_
      refine CW.seq ?_
      refine CW.region ?_
      refine OW.rv (RV.move rfl) rfl ?_
      refine OW.rv (RV.assign rfl) rfl ?_
      refine OW.nil ?_
      refine QW.then_n ?_
      refine CW.ret ?_
      have e0 := Option.some.inj hf
      subst e0
      refine QW.retG (rs := [.tmp 2]) ([sl ob9 0 l6.length c10]) ((ob9, blk (cs7 ++ r11) 29) :: B4) rfl ?_ rfl ?_ ?_ _ (.inl rfl)
      · exact ⟨rfl, trivial⟩
      · exact ⟨B4, cs7, ob9, c10, r11, h8, o12, rfl, rfl⟩
      · exact (fun w m => m.pick [0] 1 rfl rfl)
    · skip
      refine CW.block ?_
      refine CW.mem (M' := ((none, blk ([] ++ []) 29) :: ([] ++ N))) (fun w m => m.nil_ent _) ?_
      refine CW.loopJ (fun k L' M' => ∃ l21 : List (It), ∃ n28 : Nat, ∃ B19 : List Ent, ∃ cs22 : List Value, ∃ ob24 : Option Nat, ∃ c25 : Nat, ∃ r26 : List Value, (waybillref07_Copy.l1 a0 (waybillref07_Copy.r kf) k l21 n28) = some q2 ∧ (∀ w, Mem w0 w B19 → Mem w0 w []) ∧ (Reps (ItRd (More w0 Φ B19)) cs22 l21) ∧ (OwnS ob24 l21.length c25 3 cs22 r26) ∧ (n28 ≤ 9223372036854775807) ∧ L' = [(0, .slice A0_ a0.length c0_), (3, sl ob24 0 l21.length c25), (4, .int .i64 ((n28 : Nat) : Int))] ∧ M' = ((ob24, blk (cs22 ++ r26) 29) :: (B19 ++ N))) (k0 := (a0.length - 0 + 2)) ⟨([] : List (It)), 0, [], [], none, 0, [], hq3, (fun w m => m), Reps.nil, OwnS.nil, (by omega), rfl, rfl⟩ ⟨rfl, rfl, rfl, trivial⟩ (fun w m => m.pick [0] 1 rfl rfl) ?_
      clear hq3
      rintro k30 L33 M34 ⟨l21, n28, B19, cs22, ob24, c25, r26, hl31, hB20, h23, o27, b29, e35, e36⟩
      rw [e35, e36]
      clear e35 e36 L33 M34
      rcases k30 with _ | k30
      · rw [waybillref07_Copy.l1] at hl31; cases hl31
      rw [waybillref07_Copy.l1] at hl31
      replace va0 := va0.mono (Ψ := More w0 Φ B19) (fun w q => More.mono (fun w m => hB20 w (m)) q)
      replace ha0 := ha0.mono (ItRd.mono (Ψ := More w0 Φ B19) (fun w q => More.mono (fun w m => hB20 w (m)) q))
      have m37 := o27.mx
      refine CW.seq ?_
      refine CW.seq ?_
      refine CW.region ?_
      refine OW.rv (RV.move rfl) rfl ?_
      refine OW.rv (RV.move rfl) rfl ?_
      refine OW.rv (RV.len rfl rfl) rfl ?_
      refine OW.rv (RV.lss rfl rfl) rfl ?_
      refine OW.slot (.bool (decide (n28 < a0.length))) (congrArg Value.bool (decide_eq_decide.2 (by omega))) ?_
      refine OW.nil ?_
      refine QW.then_n ?_
      by_cases h38 : n28 < a0.length
      · replace hl31 := if_t hl31 h38
        refine CW.is_t rfl (decide_eq_true h38) ?_
        refine CW.skip ?_
        refine QW.then_n ?_
        refine CW.seq ?_
        refine CW.block ?_
        refine CW.seq ?_
        refine CW.region ?_
        refine OW.rv (RV.move rfl) rfl ?_
        refine OW.rv (RV.move rfl) rfl ?_
        obtain ⟨x39, hx40, hl31⟩ := some_bind hl31
        have hl41 := lt_of_at hx40
        refine OW.rv (RV.idx_rs (n28) rfl rfl rfl rfl rfl (va0.isSome (by decide) hl41) (by omega)) rfl ?_
        obtain ⟨cs42, h43, h44⟩ := ha0.get ItRd.len hx40
        have h54 := h43
        obtain ⟨A45, c46, A48, c49, cs51, e53, v47, v50, h52⟩ := ItRd.opn h43
        subst e53
        have m55 := v47.mx
        have m56 := v50.mx
        refine OW.rv (RV.loadAs rfl rfl rfl rfl (fun w m => va0.load (More.of hΦ 1 m rfl) h44) rfl) rfl ?_
        refine OW.alloc (l := [.bool false, .slice none 0 0, .slice none 0 0]) rfl rfl rfl (fun b57 => ?_)
        refine OW.sv (SV.storeW rfl rfl rfl (by intro u hu; simp at hu; rcases hu with rfl | rfl | rfl <;> rfl) rfl rfl rfl) ?_
        refine OW.nil ?_
        refine QW.then_n ?_
        refine CW.drawsU 11 mixed (by kernel_rfl) rfl ?_
        refine UW.rv 0 rfl (by kernel_rfl) rfl (RV.move rfl) rfl ?_
        refine UW.rv 1 rfl (by kernel_rfl) rfl (RV.field rfl rfl rfl rfl) rfl ?_
        refine UW.rv 2 rfl (by kernel_rfl) rfl (RV.load rfl (List.Mem.head _) rfl rfl rfl rfl) rfl ?_
        refine UW.rv 3 rfl (by kernel_rfl) rfl (RV.field rfl rfl rfl rfl) rfl ?_
        refine UW.rv 4 rfl (by kernel_rfl) rfl (RV.load rfl (List.Mem.head _) rfl rfl rfl rfl) rfl ?_
        refine UW.rv 6 rfl (by kernel_rfl) rfl (RV.field rfl rfl rfl rfl) rfl ?_
        refine UW.rv 7 rfl (by kernel_rfl) rfl (RV.load rfl (List.Mem.head _) rfl rfl rfl rfl) rfl ?_
        obtain ⟨x59, hx58, hl31⟩ := some_bind hl31
        refine UW.callG 5 rfl (by kernel_rfl) rfl Try.call62 rfl (fun N' hN' => waybillref07_bytes_does w0 (More w0 Φ B19) N' (fun w m => More.of hΦ 2 (hN' w m) rfl) A45 c46 x39.data x59 v47 hx58) rfl ?_
        rintro L65 M66 ⟨B60, ob61, c62, r63, o64, e67, e68⟩
        rw [e67, e68]
        clear e67 e68 L65 M66
        refine UW.mem (M' := ((ob61, blk ((u8s x59) ++ r63) 5) :: (some b57, blk [.bool (x39.list), .slice A45 x39.data.length c46, .slice A48 x39.items.length c49] 29) :: (ob24, blk (cs22 ++ r26) 29) :: ((B60 ++ B19) ++ N))) (fun w m => by have h := Mem.sinkAt (A := B60) m 1 2 rfl rfl; exact h) ?_
        replace va0 := va0.mono (Ψ := More w0 Φ (B60 ++ B19)) (fun w q => More.mono (fun w m => (m).appR) q)
        replace ha0 := ha0.mono (ItRd.mono (Ψ := More w0 Φ (B60 ++ B19)) (fun w q => More.mono (fun w m => (m).appR) q))
        replace h23 := h23.mono (ItRd.mono (Ψ := More w0 Φ (B60 ++ B19)) (fun w q => More.mono (fun w m => (m).appR) q))
        replace h54 := ItRd.mono (Ψ := More w0 Φ (B60 ++ B19)) (fun w q => More.mono (fun w m => (m).appR) q) _ _ h54
        replace v47 := v47.mono (Ψ := More w0 Φ (B60 ++ B19)) (fun w q => More.mono (fun w m => (m).appR) q)
        replace v50 := v50.mono (Ψ := More w0 Φ (B60 ++ B19)) (fun w q => More.mono (fun w m => (m).appR) q)
        replace h52 := h52.mono (ItRd.mono (Ψ := More w0 Φ (B60 ++ B19)) (fun w q => More.mono (fun w m => (m).appR) q))
        have m69 := o64.mx
        obtain ⟨x71, hx70, hl31⟩ := some_bind hl31
        refine UW.callG 8 rfl (by kernel_rfl) rfl Try.call16 rfl (fun N' hN' => ih (More w0 Φ (B60 ++ B19)) N' (fun w m => More.of hΦ 3 (hN' w m) rfl) A48 c49 cs51 x39.items x71 v50 h52 hx70) rfl ?_
        rintro L79 M80 ⟨B72, cs73, ob75, c76, r77, h74, o78, e81, e82⟩
        rw [e81, e82]
        clear e81 e82 L79 M80
        refine UW.mem (M' := ((ob75, blk (cs73 ++ r77) 29) :: (ob61, blk ((u8s x59) ++ r63) 5) :: (some b57, blk [.bool (x39.list), .slice A45 x39.data.length c46, .slice A48 x39.items.length c49] 29) :: (ob24, blk (cs22 ++ r26) 29) :: ((B72 ++ (B60 ++ B19)) ++ N))) (fun w m => by have h := Mem.sinkAt (A := B72) m 1 3 rfl rfl; exact h) ?_
        replace va0 := va0.mono (Ψ := More w0 Φ (B72 ++ (B60 ++ B19))) (fun w q => More.mono (fun w m => (m).appR) q)
        replace ha0 := ha0.mono (ItRd.mono (Ψ := More w0 Φ (B72 ++ (B60 ++ B19))) (fun w q => More.mono (fun w m => (m).appR) q))
        replace h23 := h23.mono (ItRd.mono (Ψ := More w0 Φ (B72 ++ (B60 ++ B19))) (fun w q => More.mono (fun w m => (m).appR) q))
        replace h54 := ItRd.mono (Ψ := More w0 Φ (B72 ++ (B60 ++ B19))) (fun w q => More.mono (fun w m => (m).appR) q) _ _ h54
        replace v47 := v47.mono (Ψ := More w0 Φ (B72 ++ (B60 ++ B19))) (fun w q => More.mono (fun w m => (m).appR) q)
        replace v50 := v50.mono (Ψ := More w0 Φ (B72 ++ (B60 ++ B19))) (fun w q => More.mono (fun w m => (m).appR) q)
        replace h52 := h52.mono (ItRd.mono (Ψ := More w0 Φ (B72 ++ (B60 ++ B19))) (fun w q => More.mono (fun w m => (m).appR) q))
        replace h74 := h74.mono (ItRd.mono (Ψ := (More w0 Φ (B72 ++ (B60 ++ B19)))) (fun w q => More.flat q))
        have m83 := o78.mx
        refine UW.rv 9 rfl (by kernel_rfl) rfl (RV.buildSt (l := [.bool false, .slice none 0 0, .slice none 0 0]) (cs := [.bool (x39.list), sl ob61 0 x59.length c62, sl ob75 0 x71.length c76]) [(0, [.bool (x39.list)]), (1, [sl ob61 0 x59.length c62]), (2, [sl ob75 0 x71.length c76])] rfl rfl rfl rfl rfl rfl rfl) rfl ?_
        refine UW.mem (M' := (ob75, blk (cs73 ++ r77) 29) :: (some b57, blk [.bool (x39.list), .slice A45 x39.data.length c46, .slice A48 x39.items.length c49] 29) :: (ob24, blk (cs22 ++ r26) 29) :: (((ob61, blk ((u8s x59) ++ r63) 5) :: (B72 ++ (B60 ++ B19))) ++ N)) (fun w m => m.pick [0, 2, 3, 1] 4 rfl rfl) ?_
        replace va0 := va0.mono (Ψ := More w0 Φ ((ob61, blk ((u8s x59) ++ r63) 5) :: (B72 ++ (B60 ++ B19)))) (fun w q => More.mono (fun w m => (m).tail) q)
        replace ha0 := ha0.mono (ItRd.mono (Ψ := More w0 Φ ((ob61, blk ((u8s x59) ++ r63) 5) :: (B72 ++ (B60 ++ B19)))) (fun w q => More.mono (fun w m => (m).tail) q))
        replace h23 := h23.mono (ItRd.mono (Ψ := More w0 Φ ((ob61, blk ((u8s x59) ++ r63) 5) :: (B72 ++ (B60 ++ B19)))) (fun w q => More.mono (fun w m => (m).tail) q))
        replace h54 := ItRd.mono (Ψ := More w0 Φ ((ob61, blk ((u8s x59) ++ r63) 5) :: (B72 ++ (B60 ++ B19)))) (fun w q => More.mono (fun w m => (m).tail) q) _ _ h54
        replace v47 := v47.mono (Ψ := More w0 Φ ((ob61, blk ((u8s x59) ++ r63) 5) :: (B72 ++ (B60 ++ B19)))) (fun w q => More.mono (fun w m => (m).tail) q)
        replace v50 := v50.mono (Ψ := More w0 Φ ((ob61, blk ((u8s x59) ++ r63) 5) :: (B72 ++ (B60 ++ B19)))) (fun w q => More.mono (fun w m => (m).tail) q)
        replace h52 := h52.mono (ItRd.mono (Ψ := More w0 Φ ((ob61, blk ((u8s x59) ++ r63) 5) :: (B72 ++ (B60 ++ B19)))) (fun w q => More.mono (fun w m => (m).tail) q))
        replace h74 := h74.mono (ItRd.mono (Ψ := More w0 Φ ((ob61, blk ((u8s x59) ++ r63) 5) :: (B72 ++ (B60 ++ B19)))) (fun w q => More.mono (fun w m => (m).tail) q))
        have v86 : View (More w0 Φ ((ob61, blk ((u8s x59) ++ r63) 5) :: (B72 ++ (B60 ++ B19)))) ((ob61).map fun k => ⟨k, 0, none⟩) x59.length c62 1 (u8s x59) := o64.view (by decide) (fun w q => q.2.sublist (List.singleton_sublist.2 (List.mem_cons_self ..)))
        refine UW.mem (M' := (some b57, blk [.bool (x39.list), .slice A45 x39.data.length c46, .slice A48 x39.items.length c49] 29) :: (ob24, blk (cs22 ++ r26) 29) :: (((ob75, blk (cs73 ++ r77) 29) :: ((ob61, blk ((u8s x59) ++ r63) 5) :: (B72 ++ (B60 ++ B19)))) ++ N)) (fun w m => m.pick [1, 2, 0] 3 rfl rfl) ?_
        replace va0 := va0.mono (Ψ := More w0 Φ ((ob75, blk (cs73 ++ r77) 29) :: ((ob61, blk ((u8s x59) ++ r63) 5) :: (B72 ++ (B60 ++ B19))))) (fun w q => More.mono (fun w m => (m).tail) q)
        replace ha0 := ha0.mono (ItRd.mono (Ψ := More w0 Φ ((ob75, blk (cs73 ++ r77) 29) :: ((ob61, blk ((u8s x59) ++ r63) 5) :: (B72 ++ (B60 ++ B19))))) (fun w q => More.mono (fun w m => (m).tail) q))
        replace h23 := h23.mono (ItRd.mono (Ψ := More w0 Φ ((ob75, blk (cs73 ++ r77) 29) :: ((ob61, blk ((u8s x59) ++ r63) 5) :: (B72 ++ (B60 ++ B19))))) (fun w q => More.mono (fun w m => (m).tail) q))
        replace h54 := ItRd.mono (Ψ := More w0 Φ ((ob75, blk (cs73 ++ r77) 29) :: ((ob61, blk ((u8s x59) ++ r63) 5) :: (B72 ++ (B60 ++ B19))))) (fun w q => More.mono (fun w m => (m).tail) q) _ _ h54
        replace v47 := v47.mono (Ψ := More w0 Φ ((ob75, blk (cs73 ++ r77) 29) :: ((ob61, blk ((u8s x59) ++ r63) 5) :: (B72 ++ (B60 ++ B19))))) (fun w q => More.mono (fun w m => (m).tail) q)
        replace v50 := v50.mono (Ψ := More w0 Φ ((ob75, blk (cs73 ++ r77) 29) :: ((ob61, blk ((u8s x59) ++ r63) 5) :: (B72 ++ (B60 ++ B19))))) (fun w q => More.mono (fun w m => (m).tail) q)
        replace h52 := h52.mono (ItRd.mono (Ψ := More w0 Φ ((ob75, blk (cs73 ++ r77) 29) :: ((ob61, blk ((u8s x59) ++ r63) 5) :: (B72 ++ (B60 ++ B19))))) (fun w q => More.mono (fun w m => (m).tail) q))
        replace v86 := v86.mono (Ψ := More w0 Φ ((ob75, blk (cs73 ++ r77) 29) :: ((ob61, blk ((u8s x59) ++ r63) 5) :: (B72 ++ (B60 ++ B19))))) (fun w q => More.mono (fun w m => (m).tail) q)
        replace h74 := h74.mono (ItRd.mono (Ψ := More w0 Φ ((ob75, blk (cs73 ++ r77) 29) :: ((ob61, blk ((u8s x59) ++ r63) 5) :: (B72 ++ (B60 ++ B19))))) (fun w q => More.mono (fun w m => (m).tail) q))
        have v87 : View (More w0 Φ ((ob75, blk (cs73 ++ r77) 29) :: ((ob61, blk ((u8s x59) ++ r63) 5) :: (B72 ++ (B60 ++ B19))))) ((ob75).map fun k => ⟨k, 0, none⟩) x71.length c76 3 cs73 := o78.view (by decide) (fun w q => q.2.sublist (List.singleton_sublist.2 (List.mem_cons_self ..)))
        refine UW.new 10 rfl (by kernel_rfl) rfl (NV.bsA rfl rfl (by intro x hx; simp at hx; subst hx; rfl) rfl rfl rfl (by decide) (by decide) rfl) rfl (fun b84 => ?_)
        have h89 : Reps (ItRd (More w0 Φ ((ob75, blk (cs73 ++ r77) 29) :: ((ob61, blk ((u8s x59) ++ r63) 5) :: (B72 ++ (B60 ++ B19)))))) (([.bool (x39.list), .slice ((ob61).map fun k => ⟨k, 0, none⟩) x59.length c62, .slice ((ob75).map fun k => ⟨k, 0, none⟩) x71.length c76] : List Value)) [(It.mk (x39.list) x59 x71)] := Reps.one (ItRd.mk v86 v87 h74)
        refine UW.mem (M' := (((some b84), blk ((([.bool (x39.list), .slice ((ob61).map fun k => ⟨k, 0, none⟩) x59.length c62, .slice ((ob75).map fun k => ⟨k, 0, none⟩) x71.length c76] : List Value)) ++ []) 29) :: (some b57, blk [.bool (x39.list), .slice A45 x39.data.length c46, .slice A48 x39.items.length c49] 29) :: (ob24, blk (cs22 ++ r26) 29) :: (((ob75, blk (cs73 ++ r77) 29) :: ((ob61, blk ((u8s x59) ++ r63) 5) :: (B72 ++ (B60 ++ B19)))) ++ N))) (fun w m => m) ?_
        have o85 : OwnS (some b84) ([(It.mk (x39.list) x59 x71)] : List (It)).length 1 3 (([.bool (x39.list), .slice ((ob61).map fun k => ⟨k, 0, none⟩) x59.length c62, .slice ((ob75).map fun k => ⟨k, 0, none⟩) x71.length c76] : List Value)) [] := ⟨by simp [ItRd], by simp [ItRd], (fun h => nomatch h), by simp⟩
        refine UW.slot (sl (some b84) 0 ([(It.mk (x39.list) x59 x71)] : List (It)).length 1) (rfl) ?_
        refine UW.nil (by kernel_rfl) ?_
        refine OW.rot2 ?_
        obtain ⟨g90, hl31⟩ := some_if hl31
        have h95 := h23.app h89
        refine OW.appendOwn (s := 3) rfl rfl rfl rfl rfl rfl o27 (fun w m => m.rd0 (List.Mem.tail _ (List.Mem.head _)) (fun e => o85.nilc (by decide) e)) o85.n (h89.cell1 ItRd.one) (o85.zeroO (by decide)) (by decide) (by decide) (by first | omega | (simp only [i29, List.length_nil]; omega)) rfl rfl ((l21 ++ ([(It.mk (x39.list) x59 x71)] : List (It))).length) (cs22 ++ (([.bool (x39.list), .slice ((ob61).map fun k => ⟨k, 0, none⟩) x59.length c62, .slice ((ob75).map fun k => ⟨k, 0, none⟩) x71.length c76] : List Value))) (List.length_append ..).symm rfl (fun ob91 r92 c93 o94 => ?_)
        have m96 := o94.mx
        refine OW.rv (RV.assign rfl) rfl ?_
        refine OW.nil ?_
        refine QW.block_n ?_
        refine QW.then_n ?_
        refine CW.region ?_
        refine OW.rv (RV.move rfl) rfl ?_
        refine OW.rv (RV.add rfl rfl (by omega)) rfl ?_
        refine OW.slot (.int .i64 (((n28 + 1) : Nat) : Int)) (by first | rfl | (congr 1) | (congr 1; omega)) ?_
        refine OW.rv (RV.assign rfl) rfl ?_
        refine OW.nil ?_
        exact QW.againJ (k' := k30) (Nat.lt_succ_self _) ⟨(l21 ++ ([(It.mk (x39.list) x59 x71)] : List (It))), (n28 + 1), ((ob75, blk (cs73 ++ r77) 29) :: ((ob61, blk ((u8s x59) ++ r63) 5) :: (B72 ++ (B60 ++ B19)))), (cs22 ++ (([.bool (x39.list), .slice ((ob61).map fun k => ⟨k, 0, none⟩) x59.length c62, .slice ((ob75).map fun k => ⟨k, 0, none⟩) x71.length c76] : List Value))), ob91, c93, r92, hl31, (fun w m => hB20 w (((((m).tail).tail).appR).appR)), h95, o94, (by omega), rfl, rfl⟩ ⟨rfl, rfl, rfl, trivial⟩ (fun w m => m.pick [0] 3 rfl rfl)
      · replace hl31 := if_f hl31 h38
        refine CW.is_f rfl (decide_eq_false h38) ?_
        refine CW.exit ?_
        refine QW.then_x ?_
        refine QW.then_x ?_
        refine QW.block_xe ?_
        exact QW.join ⟨l21, B19, cs22, ob24, c25, r26, (Option.some.inj hl31).symm, (fun w m => hB20 w (m)), h23, o27, rfl, rfl⟩ ⟨rfl, trivial⟩ (fun w m => m.pick [0] 1 rfl rfl)
theorem waybillref07_Copy_does (w0 : World) (Φ : Ctx) (N : List Ent) (hΦ : ∀ w, Mem w0 w N → Φ w) (A0_ : Option Addr) (c0_ : Nat) (cs0_ : List Value) (a0 : List (It)) (res0 : List (It)) (va0 : View Φ A0_ a0.length c0_ 3 cs0_) (ha0 : Reps (ItRd Φ) cs0_ a0) (hf : waybillref07_Copy a0 = some res0) : DoesG Try.prog 16 [.slice A0_ a0.length c0_] w0 [] N (fun v G => ∃ B : List Ent, ∃ cr0 : List Value, ∃ or0 : Option Nat, ∃ kr0 : Nat, ∃ rr0 : List Value, (Reps (ItRd (More w0 Φ B)) cr0 res0) ∧ (OwnS or0 res0.length kr0 3 cr0 rr0) ∧ v = sl or0 0 res0.length kr0 ∧ G = (or0, blk (cr0 ++ rr0) 29) :: B) := waybillref07_Copy_rec w0 _ Φ N hΦ A0_ c0_ cs0_ a0 res0 va0 ha0 hf

theorem rlp_GetText_does (w0 : World) (Φ : Ctx) (N : List Ent) (hΦ : ∀ w, Mem w0 w N → Φ w) (cs0_ : List Value) (a0 : It) (res0 : List (BitVec 8)) (res1 : Nat) (ha0 : ItRd Φ cs0_ a0) (hf : rlp_GetText a0 = some (res0, res1)) : DoesG Try.prog 34 [.agg cs0_.toArray] w0 [] N (fun v G => ∃ B : List Ent, ∃ or0 : Option Nat, ∃ kr0 : Nat, ∃ rr0 : List Value, (OwnS or0 res0.length kr0 1 (u8s res0) rr0) ∧ (res1 ≤ 9223372036854775807) ∧ v = .tuple #[sl or0 0 res0.length kr0, .int .i64 ((res1 : Nat) : Int)] ∧ G = (or0, blk ((u8s res0) ++ rr0) 5) :: B) := by
  unfold rlp_GetText at hf
  replace ha0 := ItRd.mono (Ψ := More w0 Φ []) (fun w q => q.1) _ _ ha0
  have h10 := ha0
  obtain ⟨A1, c2, A4, c5, cs7, e9, v3, v6, h8⟩ := ItRd.opn ha0
  subst e9
  have m11 := v3.mx
  have m12 := v6.mx
  refine DoesG.enter Try.func34 rfl Try.ntmps34 rfl (M := (([] ++ N))) rfl ?_
  refine CW.seq ?_
  refine CW.region ?_
  refine OW.boxA rfl rfl (fun b13 => ?_)
  refine OW.rv (RV.assign rfl) rfl ?_
  refine OW.rv (RV.assign rfl) rfl ?_
  refine OW.nil ?_
  refine QW.then_n ?_
  refine CW.seq ?_
  refine CW.seq ?_
  refine CW.region ?_
  refine OW.rv (RV.loadW rfl (List.Mem.head _) rfl rfl rfl rfl rfl) rfl ?_
  obtain ⟨x15, hx14, hf⟩ := some_bind hf
  refine OW.callG Try.call71 rfl (rlp_kind_does w0 (More w0 Φ []) ((some b13, blk [.bool (a0.list), .slice A1 a0.data.length c2, .slice A4 a0.items.length c5] 29) :: ([] ++ N)) (fun w m => More.of hΦ 1 m rfl) [.bool (a0.list), .slice A1 a0.data.length c2, .slice A4 a0.items.length c5] a0 false x15 h10 hx14) rfl rfl ?_
  rintro _ G17 ⟨b16, rfl⟩
  refine OW.mem (M' := ((some b13, blk [.bool (a0.list), .slice A1 a0.data.length c2, .slice A4 a0.items.length c5] 29) :: ([] ++ N))) (fun w m => m.appR) ?_
  refine OW.rv (RV.assign rfl) rfl ?_
  refine OW.nil ?_
  refine QW.then_n ?_
  refine CW.seq ?_
  refine CW.region ?_
  refine OW.rv (RV.move rfl) rfl ?_
  refine OW.rv (RV.neq rfl rfl) rfl ?_
  refine OW.slot (.bool (!decide (x15 = 0))) (congrArg (fun b => Value.bool (!b)) (decide_eq_decide.2 (by omega))) ?_
  refine OW.nil ?_
  refine QW.then_n ?_
  by_cases h19 : x15 = 0
  · replace hf := if_t hf h19
    refine CW.is_f rfl (congrArg (fun b => !b) (decide_eq_true h19)) ?_
    refine CW.skip ?_
    refine QW.then_n ?_
    refine CW.seq ?_
    refine CW.region ?_
    refine OW.rv (RV.field rfl rfl rfl rfl) rfl ?_
    refine OW.rv (RV.load rfl (List.Mem.head _) rfl rfl rfl rfl) rfl ?_
    obtain ⟨x21, hx20, hf⟩ := some_bind hf
    refine OW.callG Try.call63 rfl (rlp_clone_does w0 (More w0 Φ []) ((some b13, blk [.bool (a0.list), .slice A1 a0.data.length c2, .slice A4 a0.items.length c5] 29) :: ([] ++ N)) (fun w m => More.of hΦ 1 m rfl) A1 c2 a0.data x21 v3 hx20) rfl rfl ?_
    rintro L27 M28 ⟨B22, ob23, c24, r25, o26, e29, e30⟩
    rw [e29, e30]
    clear e29 e30 L27 M28
    refine OW.mem (M' := ((ob23, blk ((u8s x21) ++ r25) 5) :: (some b13, blk [.bool (a0.list), .slice A1 a0.data.length c2, .slice A4 a0.items.length c5] 29) :: ((B22 ++ []) ++ N))) (fun w m => by have h := Mem.sinkAt (A := B22) m 1 1 rfl rfl; exact h) ?_
    replace h10 := ItRd.mono (Ψ := More w0 Φ (B22 ++ [])) (fun w q => More.mono (fun w m => (m).appR) q) _ _ h10
    replace v3 := v3.mono (Ψ := More w0 Φ (B22 ++ [])) (fun w q => More.mono (fun w m => (m).appR) q)
    replace v6 := v6.mono (Ψ := More w0 Φ (B22 ++ [])) (fun w q => More.mono (fun w m => (m).appR) q)
    replace h8 := h8.mono (ItRd.mono (Ψ := More w0 Φ (B22 ++ [])) (fun w q => More.mono (fun w m => (m).appR) q))
    have m31 := o26.mx
    refine OW.rv (RV.assign rfl) rfl ?_
    refine OW.rv (RV.assign rfl) rfl ?_
    refine OW.nil ?_
    refine QW.then_n ?_
    refine CW.ret ?_
    have er0 := Option.some.inj hf
    obtain ⟨e0, er1⟩ := Prod.mk.inj er0
    clear er0
    subst e0
    subst er1
    refine QW.retG (rs := [.tmp 2, .tmp 3]) ([sl ob23 0 x21.length c24, .int .i64 (0 : Int)]) ((ob23, blk ((u8s x21) ++ r25) 5) :: (B22 ++ [])) rfl ?_ rfl ?_ ?_ _ (.inl rfl)
    · exact ⟨rfl, rfl, trivial⟩
    · exact ⟨(B22 ++ []), ob23, c24, r25, o26, (by omega), rfl, rfl⟩
    · exact (fun w m => m.pick [0] 2 rfl rfl)
  · replace hf := if_f hf h19
    refine CW.is_t rfl (congrArg (fun b => !b) (decide_eq_false h19)) ?_
    refine CW.seq ?_
    refine CW.region ?_
    refine OW.rv (RV.move rfl) rfl ?_
    refine OW.rv (RV.assign rfl) rfl ?_
    refine OW.rv (RV.assign rfl) rfl ?_
    refine OW.nil ?_
    refine QW.then_n ?_
    refine CW.ret ?_
    refine QW.then_r ?_
    refine QW.mem (M' := ((none, blk ((u8s ([] : List (BitVec 8))) ++ []) 5) :: (some b13, blk [.bool (a0.list), .slice A1 a0.data.length c2, .slice A4 a0.items.length c5] 29) :: ([] ++ N))) (fun w m => m.nil_ent _) ?_
    have er0 := Option.some.inj hf
    obtain ⟨e0, er1⟩ := Prod.mk.inj er0
    clear er0
    subst e0
    subst er1
    refine QW.retG (rs := [.tmp 2, .tmp 3]) ([sl none 0 ([] : List (BitVec 8)).length 0, .int .i64 ((x15 : Nat) : Int)]) ((none, blk ((u8s ([] : List (BitVec 8))) ++ []) 5) :: []) rfl ?_ rfl ?_ ?_ _ (.inl rfl)
    · exact ⟨rfl, rfl, trivial⟩
    · exact ⟨[], none, 0, [], OwnS.nil, (by omega), rfl, rfl⟩
    · exact (fun w m => m.pick [0] 2 rfl rfl)

theorem waybillref07_GetText_does (w0 : World) (Φ : Ctx) (N : List Ent) (hΦ : ∀ w, Mem w0 w N → Φ w) (cs0_ : List Value) (a0 : It) (res0 : List (BitVec 8)) (res1 : Nat) (ha0 : ItRd Φ cs0_ a0) (hf : waybillref07_GetText a0 = some (res0, res1)) : DoesG Try.prog 35 [.agg cs0_.toArray] w0 [] N (fun v G => ∃ B : List Ent, ∃ or0 : Option Nat, ∃ kr0 : Nat, ∃ rr0 : List Value, (OwnS or0 res0.length kr0 1 (u8s res0) rr0) ∧ (res1 ≤ 9223372036854775807) ∧ v = .tuple #[sl or0 0 res0.length kr0, .int .i64 ((res1 : Nat) : Int)] ∧ G = (or0, blk ((u8s res0) ++ rr0) 5) :: B) := by
  unfold waybillref07_GetText at hf
  replace ha0 := ItRd.mono (Ψ := More w0 Φ []) (fun w q => q.1) _ _ ha0
  have h10 := ha0
  obtain ⟨A1, c2, A4, c5, cs7, e9, v3, v6, h8⟩ := ItRd.opn ha0
  subst e9
  have m11 := v3.mx
  have m12 := v6.mx
  refine DoesG.enter Try.func35 rfl Try.ntmps35 rfl (M := (([] ++ N))) rfl ?_
  refine CW.seq ?_
  refine CW.region ?_
  refine OW.boxA rfl rfl (fun b13 => ?_)
  refine OW.rv (RV.assign rfl) rfl ?_
  refine OW.rv (RV.assign rfl) rfl ?_
  refine OW.nil ?_
  refine QW.then_n ?_
  refine CW.seq ?_
  refine CW.region ?_
  refine OW.rv (RV.loadW rfl (List.Mem.head _) rfl rfl rfl rfl rfl) rfl ?_
  obtain ⟨x15, hx14, hf⟩ := some_bind hf
  refine OW.callG Try.call72 rfl (waybillref07_wanted_does w0 (More w0 Φ []) ((some b13, blk [.bool (a0.list), .slice A1 a0.data.length c2, .slice A4 a0.items.length c5] 29) :: ([] ++ N)) (fun w m => More.of hΦ 1 m rfl) [.bool (a0.list), .slice A1 a0.data.length c2, .slice A4 a0.items.length c5] a0 false x15 h10 hx14) rfl rfl ?_
  rintro _ G17 ⟨b16, rfl⟩
  refine OW.mem (M' := ((some b13, blk [.bool (a0.list), .slice A1 a0.data.length c2, .slice A4 a0.items.length c5] 29) :: ([] ++ N))) (fun w m => m.appR) ?_
  refine OW.rv (RV.assign rfl) rfl ?_
  refine OW.nil ?_
  refine QW.then_n ?_
  refine CW.seq ?_
  refine CW.seq ?_
  refine CW.region ?_
  refine OW.rv (RV.move rfl) rfl ?_
  refine OW.rv (RV.neq rfl rfl) rfl ?_
  refine OW.slot (.bool (!decide (x15 = 0))) (congrArg (fun b => Value.bool (!b)) (decide_eq_decide.2 (by omega))) ?_
  refine OW.nil ?_
  refine QW.then_n ?_
  by_cases h19 : x15 = 0
  · replace hf := if_t hf h19
    refine CW.is_f rfl (congrArg (fun b => !b) (decide_eq_true h19)) ?_
    refine CW.skip ?_
    refine QW.then_n ?_
    refine CW.seq ?_
    refine CW.region ?_
    refine OW.rv (RV.field rfl rfl rfl rfl) rfl ?_
    refine OW.rv (RV.load rfl (List.Mem.head _) rfl rfl rfl rfl) rfl ?_
    obtain ⟨x21, hx20, hf⟩ := some_bind hf
    refine OW.callG Try.call62 rfl (waybillref07_bytes_does w0 (More w0 Φ []) ((some b13, blk [.bool (a0.list), .slice A1 a0.data.length c2, .slice A4 a0.items.length c5] 29) :: ([] ++ N)) (fun w m => More.of hΦ 1 m rfl) A1 c2 a0.data x21 v3 hx20) rfl rfl ?_
    rintro L27 M28 ⟨B22, ob23, c24, r25, o26, e29, e30⟩
    rw [e29, e30]
    clear e29 e30 L27 M28
    refine OW.mem (M' := ((ob23, blk ((u8s x21) ++ r25) 5) :: (some b13, blk [.bool (a0.list), .slice A1 a0.data.length c2, .slice A4 a0.items.length c5] 29) :: ((B22 ++ []) ++ N))) (fun w m => by have h := Mem.sinkAt (A := B22) m 1 1 rfl rfl; exact h) ?_
    replace h10 := ItRd.mono (Ψ := More w0 Φ (B22 ++ [])) (fun w q => More.mono (fun w m => (m).appR) q) _ _ h10
    replace v3 := v3.mono (Ψ := More w0 Φ (B22 ++ [])) (fun w q => More.mono (fun w m => (m).appR) q)
    replace v6 := v6.mono (Ψ := More w0 Φ (B22 ++ [])) (fun w q => More.mono (fun w m => (m).appR) q)
    replace h8 := h8.mono (ItRd.mono (Ψ := More w0 Φ (B22 ++ [])) (fun w q => More.mono (fun w m => (m).appR) q))
    have m31 := o26.mx
    refine OW.rv (RV.assign rfl) rfl ?_
    refine OW.rv (RV.assign rfl) rfl ?_
    refine OW.nil ?_
    refine QW.then_n ?_
    refine CW.ret ?_
    have er0 := Option.some.inj hf
    obtain ⟨e0, er1⟩ := Prod.mk.inj er0
    clear er0
    subst e0
    subst er1
    refine QW.retG (rs := [.tmp 2, .tmp 3]) ([sl ob23 0 x21.length c24, .int .i64 (0 : Int)]) ((ob23, blk ((u8s x21) ++ r25) 5) :: (B22 ++ [])) rfl ?_ rfl ?_ ?_ _ (.inl rfl)
    · exact ⟨rfl, rfl, trivial⟩
    · exact ⟨(B22 ++ []), ob23, c24, r25, o26, (by omega), rfl, rfl⟩
    · exact (fun w m => m.pick [0] 2 rfl rfl)
  · replace hf := if_f hf h19
    refine CW.is_t rfl (congrArg (fun b => !b) (decide_eq_false h19)) ?_
    refine CW.seq ?_
    refine CW.region ?_
    refine OW.rv (RV.move rfl) rfl ?_
    refine OW.rv (RV.assign rfl) rfl ?_
    refine OW.rv (RV.assign rfl) rfl ?_
    refine OW.nil ?_
    refine QW.then_n ?_
    refine CW.ret ?_
    refine QW.then_r ?_
    refine QW.mem (M' := ((none, blk ((u8s ([] : List (BitVec 8))) ++ []) 5) :: (some b13, blk [.bool (a0.list), .slice A1 a0.data.length c2, .slice A4 a0.items.length c5] 29) :: ([] ++ N))) (fun w m => m.nil_ent _) ?_
    have er0 := Option.some.inj hf
    obtain ⟨e0, er1⟩ := Prod.mk.inj er0
    clear er0
    subst e0
    subst er1
    refine QW.retG (rs := [.tmp 2, .tmp 3]) ([sl none 0 ([] : List (BitVec 8)).length 0, .int .i64 ((x15 : Nat) : Int)]) ((none, blk ((u8s ([] : List (BitVec 8))) ++ []) 5) :: []) rfl ?_ rfl ?_ ?_ _ (.inl rfl)
    · exact ⟨rfl, rfl, trivial⟩
    · exact ⟨[], none, 0, [], OwnS.nil, (by omega), rfl, rfl⟩
    · exact (fun w m => m.pick [0] 2 rfl rfl)

theorem rlp_number_does (w0 : World) (Φ : Ctx) (N : List Ent) (hΦ : ∀ w, Mem w0 w N → Φ w) (cs0_ : List Value) (a0 : It) (a1 : Int) (res0 : Vector (BitVec 64) 4) (res1 : Nat) (ha0 : ItRd Φ cs0_ a0) (ba1 : -9223372036854775808 ≤ a1 ∧ a1 ≤ 9223372036854775807) (hf : rlp_number a0 a1 = some (res0, res1)) : DoesG Try.prog 73 [.agg cs0_.toArray, .int .i64 a1] w0 [] N (fun v G => (res1 ≤ 9223372036854775807) ∧ v = .tuple #[.agg (u64s res0.toList).toArray, .int .i64 ((res1 : Nat) : Int)]) := by
  unfold rlp_number at hf
  replace ha0 := ItRd.mono (Ψ := More w0 Φ []) (fun w q => q.1) _ _ ha0
  have h10 := ha0
  obtain ⟨A1, c2, A4, c5, cs7, e9, v3, v6, h8⟩ := ItRd.opn ha0
  subst e9
  have m11 := v3.mx
  have m12 := v6.mx
  refine DoesG.enter Try.func73 rfl Try.ntmps73 rfl (M := (([] ++ N))) rfl ?_
  refine CW.seq ?_
  refine CW.region ?_
  refine OW.boxA rfl rfl (fun b13 => ?_)
  refine OW.alloc (l := (u64s (Vector.replicate 4 0#64).toList)) rfl (by rw [Vector.toList_replicate, ← u64s_rep]; rfl) rfl (fun b14 => ?_)
  refine OW.rv (RV.assign rfl) rfl ?_
  refine OW.nil ?_
  refine QW.then_n ?_
  refine CW.seq ?_
  refine CW.seq ?_
  refine CW.region ?_
  refine OW.rv (RV.loadW rfl (List.Mem.tail _ (List.Mem.head _)) rfl rfl rfl rfl rfl) rfl ?_
  obtain ⟨x16, hx15, hf⟩ := some_bind hf
  refine OW.callG Try.call71 rfl (rlp_kind_does w0 (More w0 Φ []) ((some b14, blk (u64s (Vector.replicate 4 0#64).toList) 25) :: (some b13, blk [.bool (a0.list), .slice A1 a0.data.length c2, .slice A4 a0.items.length c5] 29) :: ([] ++ N)) (fun w m => More.of hΦ 2 m rfl) [.bool (a0.list), .slice A1 a0.data.length c2, .slice A4 a0.items.length c5] a0 false x16 h10 hx15) rfl rfl ?_
  rintro _ G18 ⟨b17, rfl⟩
  refine OW.mem (M' := ((some b14, blk (u64s (Vector.replicate 4 0#64).toList) 25) :: (some b13, blk [.bool (a0.list), .slice A1 a0.data.length c2, .slice A4 a0.items.length c5] 29) :: ([] ++ N))) (fun w m => m.appR) ?_
  refine OW.rv (RV.assign rfl) rfl ?_
  refine OW.nil ?_
  refine QW.then_n ?_
  refine CW.seq ?_
  refine CW.region ?_
  refine OW.rv (RV.move rfl) rfl ?_
  refine OW.rv (RV.neq rfl rfl) rfl ?_
  refine OW.slot (.bool (!decide (x16 = 0))) (congrArg (fun b => Value.bool (!b)) (decide_eq_decide.2 (by omega))) ?_
  refine OW.nil ?_
  refine QW.then_n ?_
  by_cases h20 : x16 = 0
  · replace hf := if_t hf h20
    refine CW.is_f rfl (congrArg (fun b => !b) (decide_eq_true h20)) ?_
    refine CW.skip ?_
    refine QW.then_n ?_
    refine CW.seq ?_
    refine CW.seq ?_
    refine CW.region ?_
    refine OW.rv (RV.field rfl rfl rfl rfl) rfl ?_
    refine OW.rv (RV.load rfl (List.Mem.tail _ (List.Mem.head _)) rfl rfl rfl rfl) rfl ?_
    refine OW.rv (RV.len rfl rfl) rfl ?_
    refine OW.rv (RV.move rfl) rfl ?_
    refine OW.rv (RV.gtr rfl rfl) rfl ?_
    refine OW.nil ?_
    refine QW.then_n ?_
    by_cases h21 : a1 < ((a0.data.length : Nat) : Int)
    · replace hf := if_t hf h21
      refine CW.is_t rfl (decide_eq_true h21) ?_
      refine CW.seq ?_
      refine CW.region ?_
      refine OW.rv (RV.build0 (l := (u64s (Vector.replicate 4 0#64).toList)) rfl rfl rfl (by rw [Vector.toList_replicate, ← u64s_rep]; rfl)) rfl ?_
      refine OW.sv (SV.storeW rfl rfl rfl (u64s_one _) rfl ((u64s_length _).trans Vector.length_toList) ((u64s_length _).trans Vector.length_toList)) ?_
      refine OW.rv (RV.assign rfl) rfl ?_
      refine OW.nil ?_
      refine QW.then_n ?_
      refine CW.ret ?_
      refine QW.then_r ?_
      have er0 := Option.some.inj hf
      obtain ⟨e0, er1⟩ := Prod.mk.inj er0
      clear er0
      subst e0
      subst er1
      refine QW.retG (rs := [.cell 4 25, .tmp 5]) ([.agg (u64s (Vector.replicate 4 0#64).toList).toArray, .int .i64 (77 : Int)]) ((some b14, blk (u64s (Vector.replicate 4 0#64).toList) 25) :: (some b13, blk [.bool (a0.list), .slice A1 a0.data.length c2, .slice A4 a0.items.length c5] 29) :: []) rfl ?_ rfl ?_ ?_ _ (.inl rfl)
      · exact ⟨⟨_, _, _, _, rfl, (List.Mem.head _), rfl, rfl, (congrArg some ((u64s_length _).trans Vector.length_toList).symm), rfl⟩, rfl, trivial⟩
      · exact ⟨(by omega), rfl⟩
      · exact (fun w m => m)
    · replace hf := if_f hf h21
      refine CW.is_f rfl (decide_eq_false h21) ?_
      refine CW.skip ?_
      refine QW.then_n ?_
      refine CW.seq ?_
      refine CW.region ?_
      refine OW.rv (RV.field rfl rfl rfl rfl) rfl ?_
      refine OW.rv (RV.load rfl (List.Mem.tail _ (List.Mem.head _)) rfl rfl rfl rfl) rfl ?_
      obtain ⟨⟨x23, x24⟩, hx22, hf⟩ := some_bind hf
      try dsimp only at hf
      refine OW.callG Try.call90 rfl (u256_Strict_does w0 (More w0 Φ []) ((some b14, blk (u64s (Vector.replicate 4 0#64).toList) 25) :: (some b13, blk [.bool (a0.list), .slice A1 a0.data.length c2, .slice A4 a0.items.length c5] 29) :: ([] ++ N)) (fun w m => More.of hΦ 2 m rfl) A1 c2 a0.data x23 x24 v3 hx22) rfl rfl ?_
      rintro _ G26 ⟨b25, rfl⟩
      refine OW.mem (M' := ((some b14, blk (u64s (Vector.replicate 4 0#64).toList) 25) :: (some b13, blk [.bool (a0.list), .slice A1 a0.data.length c2, .slice A4 a0.items.length c5] 29) :: ([] ++ N))) (fun w m => m.appR) ?_
      refine OW.rv (RV.move rfl) rfl ?_
      refine OW.rv (RV.extract rfl rfl) rfl ?_
      refine OW.slot (.agg (u64s x23.toList).toArray) (rfl) ?_
      refine OW.rv (RV.extract rfl rfl) rfl ?_
      refine OW.slot (.int .i64 ((x24 : Nat) : Int)) (rfl) ?_
      refine OW.alloc (l := (u64s (Vector.replicate 4 0#64).toList)) rfl (by rw [Vector.toList_replicate, ← u64s_rep]; rfl) rfl (fun b28 => ?_)
      refine OW.sv (SV.storeW rfl rfl rfl (u64s_one _) rfl ((u64s_length _).trans Vector.length_toList) ((u64s_length _).trans Vector.length_toList)) ?_
      refine OW.rv (RV.assign rfl) rfl ?_
      refine OW.nil ?_
      refine QW.then_n ?_
      refine CW.seq ?_
      refine CW.seq ?_
      refine CW.region ?_
      refine OW.rv (RV.move rfl) rfl ?_
      refine OW.rv (RV.neq rfl rfl) rfl ?_
      refine OW.slot (.bool (!decide (x24 = 0))) (congrArg (fun b => Value.bool (!b)) (decide_eq_decide.2 (by omega))) ?_
      refine OW.nil ?_
      refine QW.then_n ?_
      by_cases h29 : x24 = 0
      · replace hf := if_t hf h29
        refine CW.is_f rfl (congrArg (fun b => !b) (decide_eq_true h29)) ?_
        refine CW.skip ?_
        refine QW.then_n ?_
        refine CW.seq ?_
        refine CW.region ?_
        refine OW.rv (RV.loadW rfl (List.Mem.head _) rfl rfl rfl rfl ((u64s_length _).trans Vector.length_toList)) rfl ?_
        refine OW.rot1 ?_
        refine OW.sv (SV.storeW rfl rfl rfl (u64s_one _) rfl ((u64s_length _).trans Vector.length_toList) ((u64s_length _).trans Vector.length_toList)) ?_
        refine OW.rv (RV.assign rfl) rfl ?_
        refine OW.nil ?_
        refine QW.then_n ?_
        refine CW.ret ?_
        have er0 := Option.some.inj hf
        obtain ⟨e0, er1⟩ := Prod.mk.inj er0
        clear er0
        subst e0
        subst er1
        refine QW.retG (rs := [.cell 4 25, .tmp 5]) ([.agg (u64s x23.toList).toArray, .int .i64 (0 : Int)]) ((some b14, blk (u64s x23.toList) 25) :: (some b28, blk (u64s x23.toList) 25) :: (some b13, blk [.bool (a0.list), .slice A1 a0.data.length c2, .slice A4 a0.items.length c5] 29) :: []) rfl ?_ rfl ?_ ?_ _ (.inl rfl)
        · exact ⟨⟨_, _, _, _, rfl, (List.Mem.head _), rfl, rfl, (congrArg some ((u64s_length _).trans Vector.length_toList).symm), rfl⟩, rfl, trivial⟩
        · exact ⟨(by omega), rfl⟩
        · exact (fun w m => m)
      · replace hf := if_f hf h29
        refine CW.is_t rfl (congrArg (fun b => !b) (decide_eq_false h29)) ?_
        refine CW.seq ?_
        refine CW.region ?_
        refine OW.rv (RV.build0 (l := (u64s (Vector.replicate 4 0#64).toList)) rfl rfl rfl (by rw [Vector.toList_replicate, ← u64s_rep]; rfl)) rfl ?_
        refine OW.rot1 ?_
        refine OW.sv (SV.storeW rfl rfl rfl (u64s_one _) rfl ((u64s_length _).trans Vector.length_toList) ((u64s_length _).trans Vector.length_toList)) ?_
        refine OW.rv (RV.assign rfl) rfl ?_
        refine OW.nil ?_
        refine QW.then_n ?_
        refine CW.ret ?_
        refine QW.then_r ?_
        have er0 := Option.some.inj hf
        obtain ⟨e0, er1⟩ := Prod.mk.inj er0
        clear er0
        subst e0
        subst er1
        refine QW.retG (rs := [.cell 4 25, .tmp 5]) ([.agg (u64s (Vector.replicate 4 0#64).toList).toArray, .int .i64 (76 : Int)]) ((some b14, blk (u64s (Vector.replicate 4 0#64).toList) 25) :: (some b28, blk (u64s x23.toList) 25) :: (some b13, blk [.bool (a0.list), .slice A1 a0.data.length c2, .slice A4 a0.items.length c5] 29) :: []) rfl ?_ rfl ?_ ?_ _ (.inl rfl)
        · exact ⟨⟨_, _, _, _, rfl, (List.Mem.head _), rfl, rfl, (congrArg some ((u64s_length _).trans Vector.length_toList).symm), rfl⟩, rfl, trivial⟩
        · exact ⟨(by omega), rfl⟩
        · exact (fun w m => m)
  · replace hf := if_f hf h20
    refine CW.is_t rfl (congrArg (fun b => !b) (decide_eq_false h20)) ?_
    refine CW.seq ?_
    refine CW.region ?_
    refine OW.rv (RV.build0 (l := (u64s (Vector.replicate 4 0#64).toList)) rfl rfl rfl (by rw [Vector.toList_replicate, ← u64s_rep]; rfl)) rfl ?_
    refine OW.rv (RV.move rfl) rfl ?_
    refine OW.sv (SV.storeW rfl rfl rfl (u64s_one _) rfl ((u64s_length _).trans Vector.length_toList) ((u64s_length _).trans Vector.length_toList)) ?_
    refine OW.rv (RV.assign rfl) rfl ?_
    refine OW.nil ?_
    refine QW.then_n ?_
    refine CW.ret ?_
    refine QW.then_r ?_
    have er0 := Option.some.inj hf
    obtain ⟨e0, er1⟩ := Prod.mk.inj er0
    clear er0
    subst e0
    subst er1
    refine QW.retG (rs := [.cell 4 25, .tmp 5]) ([.agg (u64s (Vector.replicate 4 0#64).toList).toArray, .int .i64 ((x16 : Nat) : Int)]) ((some b14, blk (u64s (Vector.replicate 4 0#64).toList) 25) :: (some b13, blk [.bool (a0.list), .slice A1 a0.data.length c2, .slice A4 a0.items.length c5] 29) :: []) rfl ?_ rfl ?_ ?_ _ (.inl rfl)
    · exact ⟨⟨_, _, _, _, rfl, (List.Mem.head _), rfl, rfl, (congrArg some ((u64s_length _).trans Vector.length_toList).symm), rfl⟩, rfl, trivial⟩
    · exact ⟨(by omega), rfl⟩
    · exact (fun w m => m)

theorem waybillref07_narrow_does (w0 : World) (Φ : Ctx) (N : List Ent) (hΦ : ∀ w, Mem w0 w N → Φ w) (cs0_ : List Value) (a0 : It) (a1 : Int) (res0 : Vector (BitVec 64) 4) (res1 : Nat) (ha0 : ItRd Φ cs0_ a0) (ba1 : -9223372036854775808 ≤ a1 ∧ a1 ≤ 9223372036854775807) (hf : waybillref07_narrow a0 a1 = some (res0, res1)) : DoesG Try.prog 74 [.agg cs0_.toArray, .int .i64 a1] w0 [] N (fun v G => (res1 ≤ 9223372036854775807) ∧ v = .tuple #[.agg (u64s res0.toList).toArray, .int .i64 ((res1 : Nat) : Int)]) := by
  unfold waybillref07_narrow at hf
  replace ha0 := ItRd.mono (Ψ := More w0 Φ []) (fun w q => q.1) _ _ ha0
  have h10 := ha0
  obtain ⟨A1, c2, A4, c5, cs7, e9, v3, v6, h8⟩ := ItRd.opn ha0
  subst e9
  have m11 := v3.mx
  have m12 := v6.mx
  refine DoesG.enter Try.func74 rfl Try.ntmps74 rfl (M := (([] ++ N))) rfl ?_
  refine CW.seq ?_
  refine CW.region ?_
  refine OW.boxA rfl rfl (fun b13 => ?_)
  refine OW.alloc (l := (u64s (Vector.replicate 4 0#64).toList)) rfl (by rw [Vector.toList_replicate, ← u64s_rep]; rfl) rfl (fun b14 => ?_)
  refine OW.rv (RV.assign rfl) rfl ?_
  refine OW.nil ?_
  refine QW.then_n ?_
  refine CW.seq ?_
  refine CW.region ?_
  refine OW.rv (RV.loadW rfl (List.Mem.tail _ (List.Mem.head _)) rfl rfl rfl rfl rfl) rfl ?_
  obtain ⟨x16, hx15, hf⟩ := some_bind hf
  refine OW.callG Try.call72 rfl (waybillref07_wanted_does w0 (More w0 Φ []) ((some b14, blk (u64s (Vector.replicate 4 0#64).toList) 25) :: (some b13, blk [.bool (a0.list), .slice A1 a0.data.length c2, .slice A4 a0.items.length c5] 29) :: ([] ++ N)) (fun w m => More.of hΦ 2 m rfl) [.bool (a0.list), .slice A1 a0.data.length c2, .slice A4 a0.items.length c5] a0 false x16 h10 hx15) rfl rfl ?_
  rintro _ G18 ⟨b17, rfl⟩
  refine OW.mem (M' := ((some b14, blk (u64s (Vector.replicate 4 0#64).toList) 25) :: (some b13, blk [.bool (a0.list), .slice A1 a0.data.length c2, .slice A4 a0.items.length c5] 29) :: ([] ++ N))) (fun w m => m.appR) ?_
  refine OW.rv (RV.assign rfl) rfl ?_
  refine OW.nil ?_
  refine QW.then_n ?_
  refine CW.seq ?_
  refine CW.seq ?_
  refine CW.region ?_
  refine OW.rv (RV.move rfl) rfl ?_
  refine OW.rv (RV.neq rfl rfl) rfl ?_
  refine OW.slot (.bool (!decide (x16 = 0))) (congrArg (fun b => Value.bool (!b)) (decide_eq_decide.2 (by omega))) ?_
  refine OW.nil ?_
  refine QW.then_n ?_
  by_cases h20 : x16 = 0
  · replace hf := if_t hf h20
    refine CW.is_f rfl (congrArg (fun b => !b) (decide_eq_true h20)) ?_
    refine CW.skip ?_
    refine QW.then_n ?_
    refine CW.seq ?_
    refine CW.seq ?_
    refine CW.region ?_
    refine OW.rv (RV.field rfl rfl rfl rfl) rfl ?_
    refine OW.rv (RV.load rfl (List.Mem.tail _ (List.Mem.head _)) rfl rfl rfl rfl) rfl ?_
    refine OW.rv (RV.len rfl rfl) rfl ?_
    refine OW.rv (RV.move rfl) rfl ?_
    refine OW.rv (RV.gtr rfl rfl) rfl ?_
    refine OW.nil ?_
    refine QW.then_n ?_
    by_cases h21 : a1 < ((a0.data.length : Nat) : Int)
    · replace hf := if_t hf h21
      refine CW.is_t rfl (decide_eq_true h21) ?_
      refine CW.seq ?_
      refine CW.region ?_
      refine OW.rv (RV.build0 (l := (u64s (Vector.replicate 4 0#64).toList)) rfl rfl rfl (by rw [Vector.toList_replicate, ← u64s_rep]; rfl)) rfl ?_
      refine OW.sv (SV.storeW rfl rfl rfl (u64s_one _) rfl ((u64s_length _).trans Vector.length_toList) ((u64s_length _).trans Vector.length_toList)) ?_
      refine OW.rv (RV.assign rfl) rfl ?_
      refine OW.nil ?_
      refine QW.then_n ?_
      refine CW.ret ?_
      refine QW.then_r ?_
      have er0 := Option.some.inj hf
      obtain ⟨e0, er1⟩ := Prod.mk.inj er0
      clear er0
      subst e0
      subst er1
      refine QW.retG (rs := [.cell 4 25, .tmp 5]) ([.agg (u64s (Vector.replicate 4 0#64).toList).toArray, .int .i64 (77 : Int)]) ((some b14, blk (u64s (Vector.replicate 4 0#64).toList) 25) :: (some b13, blk [.bool (a0.list), .slice A1 a0.data.length c2, .slice A4 a0.items.length c5] 29) :: []) rfl ?_ rfl ?_ ?_ _ (.inl rfl)
      · exact ⟨⟨_, _, _, _, rfl, (List.Mem.head _), rfl, rfl, (congrArg some ((u64s_length _).trans Vector.length_toList).symm), rfl⟩, rfl, trivial⟩
      · exact ⟨(by omega), rfl⟩
      · exact (fun w m => m)
    · replace hf := if_f hf h21
      refine CW.is_f rfl (decide_eq_false h21) ?_
      refine CW.skip ?_
      refine QW.then_n ?_
      refine CW.seq ?_
      refine CW.seq ?_
      obtain ⟨q22, hq23, hf⟩ := some_bind hf
      refine CW.cutJ (fun L' M' => ∃ p24 : Bool, q22 = p24 ∧ L' = [(2, ptr (some b13) 0), (4, ptr (some b14) 0), (31, .bool (p24))] ∧ M' = ((some b14, blk (u64s (Vector.replicate 4 0#64).toList) 25) :: (some b13, blk [.bool (a0.list), .slice A1 a0.data.length c2, .slice A4 a0.items.length c5] 29) :: ([] ++ N))) ?_ ?_
      · rintro L26 M27 ⟨p24, e25, e28, e29⟩
        rw [e28, e29]
        clear e28 e29 L26 M27
        clear hq23
        rw [e25] at hf
        clear e25
        try dsimp only at hf
        refine QW.then_n ?_
        by_cases h30 : p24 = true
        · replace hf := if_t hf h30
          refine CW.is_t rfl (h30) ?_
          refine CW.seq ?_
          refine CW.region ?_
          refine OW.rv (RV.build0 (l := (u64s (Vector.replicate 4 0#64).toList)) rfl rfl rfl (by rw [Vector.toList_replicate, ← u64s_rep]; rfl)) rfl ?_
          refine OW.sv (SV.storeW rfl rfl rfl (u64s_one _) rfl ((u64s_length _).trans Vector.length_toList) ((u64s_length _).trans Vector.length_toList)) ?_
          refine OW.rv (RV.assign rfl) rfl ?_
          refine OW.nil ?_
          refine QW.then_n ?_
          refine CW.ret ?_
          refine QW.then_r ?_
          have er0 := Option.some.inj hf
          obtain ⟨e0, er1⟩ := Prod.mk.inj er0
          clear er0
          subst e0
          subst er1
          refine QW.retG (rs := [.cell 4 25, .tmp 5]) ([.agg (u64s (Vector.replicate 4 0#64).toList).toArray, .int .i64 (76 : Int)]) ((some b14, blk (u64s (Vector.replicate 4 0#64).toList) 25) :: (some b13, blk [.bool (a0.list), .slice A1 a0.data.length c2, .slice A4 a0.items.length c5] 29) :: []) rfl ?_ rfl ?_ ?_ _ (.inl rfl)
          · exact ⟨⟨_, _, _, _, rfl, (List.Mem.head _), rfl, rfl, (congrArg some ((u64s_length _).trans Vector.length_toList).symm), rfl⟩, rfl, trivial⟩
          · exact ⟨(by omega), rfl⟩
          · exact (fun w m => m)
        · replace hf := if_f hf h30
          refine CW.is_f rfl (Bool.eq_false_iff.2 h30) ?_
          refine CW.skip ?_
          refine QW.then_n ?_
          refine CW.seq ?_
          refine CW.region ?_
          refine OW.rv (RV.field rfl rfl rfl rfl) rfl ?_
          refine OW.rv (RV.load rfl (List.Mem.tail _ (List.Mem.head _)) rfl rfl rfl rfl) rfl ?_
          obtain ⟨⟨x32, x33⟩, hx31, hf⟩ := some_bind hf
          try dsimp only at hf
          refine OW.callG Try.call91 rfl (waybillref01_Get_does w0 (More w0 Φ []) ((some b14, blk (u64s (Vector.replicate 4 0#64).toList) 25) :: (some b13, blk [.bool (a0.list), .slice A1 a0.data.length c2, .slice A4 a0.items.length c5] 29) :: ([] ++ N)) (fun w m => More.of hΦ 2 m rfl) A1 c2 a0.data x32 x33 v3 hx31) rfl rfl ?_
          rintro _ G35 ⟨b34, rfl⟩
          refine OW.mem (M' := ((some b14, blk (u64s (Vector.replicate 4 0#64).toList) 25) :: (some b13, blk [.bool (a0.list), .slice A1 a0.data.length c2, .slice A4 a0.items.length c5] 29) :: ([] ++ N))) (fun w m => m.appR) ?_
          refine OW.rv (RV.move rfl) rfl ?_
          refine OW.rv (RV.extract rfl rfl) rfl ?_
          refine OW.slot (.agg (u64s x32.toList).toArray) (rfl) ?_
          refine OW.rv (RV.extract rfl rfl) rfl ?_
          refine OW.slot (.int .i64 ((x33 : Nat) : Int)) (rfl) ?_
          refine OW.alloc (l := (u64s (Vector.replicate 4 0#64).toList)) rfl (by rw [Vector.toList_replicate, ← u64s_rep]; rfl) rfl (fun b37 => ?_)
          refine OW.sv (SV.storeW rfl rfl rfl (u64s_one _) rfl ((u64s_length _).trans Vector.length_toList) ((u64s_length _).trans Vector.length_toList)) ?_
          refine OW.rv (RV.assign rfl) rfl ?_
          refine OW.nil ?_
          refine QW.then_n ?_
          refine CW.seq ?_
          refine CW.region ?_
          refine OW.rv (RV.loadW rfl (List.Mem.head _) rfl rfl rfl rfl ((u64s_length _).trans Vector.length_toList)) rfl ?_
          refine OW.rot1 ?_
          refine OW.sv (SV.storeW rfl rfl rfl (u64s_one _) rfl ((u64s_length _).trans Vector.length_toList) ((u64s_length _).trans Vector.length_toList)) ?_
          refine OW.rv (RV.assign rfl) rfl ?_
          refine OW.nil ?_
          refine QW.then_n ?_
          refine CW.ret ?_
          have er0 := Option.some.inj hf
          obtain ⟨e0, er1⟩ := Prod.mk.inj er0
          clear er0
          subst e0
          subst er1
          refine QW.retG (rs := [.cell 4 25, .tmp 5]) ([.agg (u64s x32.toList).toArray, .int .i64 (0 : Int)]) ((some b14, blk (u64s x32.toList) 25) :: (some b37, blk (u64s x32.toList) 25) :: (some b13, blk [.bool (a0.list), .slice A1 a0.data.length c2, .slice A4 a0.items.length c5] 29) :: []) rfl ?_ rfl ?_ ?_ _ (.inl rfl)
          · exact ⟨⟨_, _, _, _, rfl, (List.Mem.head _), rfl, rfl, (congrArg some ((u64s_length _).trans Vector.length_toList).symm), rfl⟩, rfl, trivial⟩
          · exact ⟨(by omega), rfl⟩
          · exact (fun w m => m)
      · skip
        refine CW.region ?_
        refine OW.rv (RV.field rfl rfl rfl rfl) rfl ?_
        refine OW.rv (RV.load rfl (List.Mem.tail _ (List.Mem.head _)) rfl rfl rfl rfl) rfl ?_
        refine OW.rv (RV.len rfl rfl) rfl ?_
        refine OW.rv (RV.gtr rfl rfl) rfl ?_
        refine OW.slot (.bool (decide (0 < a0.data.length))) (congrArg Value.bool (decide_eq_decide.2 (by omega))) ?_
        refine OW.rv (RV.move rfl) rfl ?_
        by_cases h38 : 0 < a0.data.length
        · replace hq23 := if_t hq23 h38
          refine OW.slot (.bool true) (congrArg Value.bool (decide_eq_true h38)) ?_
          refine OW.want rfl ?_
          refine OW.rv (RV.field rfl rfl rfl rfl) rfl ?_
          refine OW.want rfl ?_
          refine OW.rv (RV.load rfl (List.Mem.tail _ (List.Mem.head _)) rfl rfl rfl rfl) rfl ?_
          refine OW.want rfl ?_
          obtain ⟨x39, hx40, hq23⟩ := some_bind hq23
          have hl41 := lt_of_at hx40
          refine OW.rv (RV.idx_r (0) rfl rfl rfl rfl rfl (v3.isSome (by decide) hl41) (by omega)) rfl ?_
          refine OW.want rfl ?_
          refine OW.rv (RV.load_at rfl rfl rfl (fun w m => v3.cell (More.of hΦ 2 m rfl) (u8s_at hx40))) rfl ?_
          refine OW.want rfl ?_
          refine OW.rv (RV.eql8 rfl (by first | rfl | exact lit8 _ rfl) rfl (by first | rfl | exact lit8 _ rfl)) rfl ?_
          refine OW.rv (RV.pick_t rfl rfl rfl) rfl ?_
          refine OW.nil ?_
          exact QW.join ⟨(decide (x39 = 0#8)), (Option.some.inj hq23).symm, rfl, rfl⟩ ⟨rfl, rfl, rfl, trivial⟩ (fun w m => m.pick [0, 1] 2 rfl rfl)
        · replace hq23 := if_f hq23 h38
          refine OW.slot (.bool false) (congrArg Value.bool (decide_eq_false h38)) ?_
          refine OW.skip rfl rfl rfl ?_
          refine OW.skip rfl rfl rfl ?_
          refine OW.skip rfl rfl rfl ?_
          refine OW.skip rfl rfl rfl ?_
          refine OW.skip rfl rfl rfl ?_
          refine OW.rv (RV.pick_f rfl rfl rfl) rfl ?_
          refine OW.nil ?_
          exact QW.join ⟨false, (Option.some.inj hq23).symm, rfl, rfl⟩ ⟨rfl, rfl, rfl, trivial⟩ (fun w m => m.pick [0, 1] 2 rfl rfl)
  · replace hf := if_f hf h20
    refine CW.is_t rfl (congrArg (fun b => !b) (decide_eq_false h20)) ?_
    refine CW.seq ?_
    refine CW.region ?_
    refine OW.rv (RV.build0 (l := (u64s (Vector.replicate 4 0#64).toList)) rfl rfl rfl (by rw [Vector.toList_replicate, ← u64s_rep]; rfl)) rfl ?_
    refine OW.rv (RV.move rfl) rfl ?_
    refine OW.sv (SV.storeW rfl rfl rfl (u64s_one _) rfl ((u64s_length _).trans Vector.length_toList) ((u64s_length _).trans Vector.length_toList)) ?_
    refine OW.rv (RV.assign rfl) rfl ?_
    refine OW.nil ?_
    refine QW.then_n ?_
    refine CW.ret ?_
    refine QW.then_r ?_
    have er0 := Option.some.inj hf
    obtain ⟨e0, er1⟩ := Prod.mk.inj er0
    clear er0
    subst e0
    subst er1
    refine QW.retG (rs := [.cell 4 25, .tmp 5]) ([.agg (u64s (Vector.replicate 4 0#64).toList).toArray, .int .i64 ((x16 : Nat) : Int)]) ((some b14, blk (u64s (Vector.replicate 4 0#64).toList) 25) :: (some b13, blk [.bool (a0.list), .slice A1 a0.data.length c2, .slice A4 a0.items.length c5] 29) :: []) rfl ?_ rfl ?_ ?_ _ (.inl rfl)
    · exact ⟨⟨_, _, _, _, rfl, (List.Mem.head _), rfl, rfl, (congrArg some ((u64s_length _).trans Vector.length_toList).symm), rfl⟩, rfl, trivial⟩
    · exact ⟨(by omega), rfl⟩
    · exact (fun w m => m)

theorem rlp_GetNumber_does (w0 : World) (Φ : Ctx) (N : List Ent) (hΦ : ∀ w, Mem w0 w N → Φ w) (cs0_ : List Value) (a0 : It) (res0 : Vector (BitVec 64) 4) (res1 : Nat) (ha0 : ItRd Φ cs0_ a0) (hf : rlp_GetNumber a0 = some (res0, res1)) : DoesG Try.prog 36 [.agg cs0_.toArray] w0 [] N (fun v G => (res1 ≤ 9223372036854775807) ∧ v = .tuple #[.agg (u64s res0.toList).toArray, .int .i64 ((res1 : Nat) : Int)]) := by
  unfold rlp_GetNumber at hf
  replace ha0 := ItRd.mono (Ψ := More w0 Φ []) (fun w q => q.1) _ _ ha0
  have h10 := ha0
  obtain ⟨A1, c2, A4, c5, cs7, e9, v3, v6, h8⟩ := ItRd.opn ha0
  subst e9
  have m11 := v3.mx
  have m12 := v6.mx
  refine DoesG.enter Try.func36 rfl Try.ntmps36 rfl (M := (([] ++ N))) rfl ?_
  refine CW.seq ?_
  refine CW.region ?_
  refine OW.boxA rfl rfl (fun b13 => ?_)
  refine OW.alloc (l := (u64s (Vector.replicate 4 0#64).toList)) rfl (by rw [Vector.toList_replicate, ← u64s_rep]; rfl) rfl (fun b14 => ?_)
  refine OW.rv (RV.assign rfl) rfl ?_
  refine OW.nil ?_
  refine QW.then_n ?_
  refine CW.seq ?_
  refine CW.region ?_
  refine OW.rv (RV.loadW rfl (List.Mem.tail _ (List.Mem.head _)) rfl rfl rfl rfl rfl) rfl ?_
  obtain ⟨⟨x16, x17⟩, hx15, hf⟩ := some_bind hf
  try dsimp only at hf
  refine OW.callG Try.call73 rfl (rlp_number_does w0 (More w0 Φ []) ((some b14, blk (u64s (Vector.replicate 4 0#64).toList) 25) :: (some b13, blk [.bool (a0.list), .slice A1 a0.data.length c2, .slice A4 a0.items.length c5] 29) :: ([] ++ N)) (fun w m => More.of hΦ 2 m rfl) [.bool (a0.list), .slice A1 a0.data.length c2, .slice A4 a0.items.length c5] a0 (32 : Int) x16 x17 h10 (by omega) hx15) rfl rfl ?_
  rintro _ G19 ⟨b18, rfl⟩
  refine OW.mem (M' := ((some b14, blk (u64s (Vector.replicate 4 0#64).toList) 25) :: (some b13, blk [.bool (a0.list), .slice A1 a0.data.length c2, .slice A4 a0.items.length c5] 29) :: ([] ++ N))) (fun w m => m.appR) ?_
  refine OW.rv (RV.extract rfl rfl) rfl ?_
  refine OW.slot (.agg (u64s x16.toList).toArray) (rfl) ?_
  refine OW.rv (RV.extract rfl rfl) rfl ?_
  refine OW.slot (.int .i64 ((x17 : Nat) : Int)) (rfl) ?_
  refine OW.sv (SV.storeW rfl rfl rfl (u64s_one _) rfl ((u64s_length _).trans Vector.length_toList) ((u64s_length _).trans Vector.length_toList)) ?_
  refine OW.rv (RV.assign rfl) rfl ?_
  refine OW.nil ?_
  refine QW.then_n ?_
  refine CW.ret ?_
  have er0 := Option.some.inj hf
  obtain ⟨e0, er1⟩ := Prod.mk.inj er0
  clear er0
  subst e0
  subst er1
  refine QW.retG (rs := [.cell 2 25, .tmp 3]) ([.agg (u64s x16.toList).toArray, .int .i64 ((x17 : Nat) : Int)]) ((some b14, blk (u64s x16.toList) 25) :: (some b13, blk [.bool (a0.list), .slice A1 a0.data.length c2, .slice A4 a0.items.length c5] 29) :: []) rfl ?_ rfl ?_ ?_ _ (.inl rfl)
  · exact ⟨⟨_, _, _, _, rfl, (List.Mem.head _), rfl, rfl, (congrArg some ((u64s_length _).trans Vector.length_toList).symm), rfl⟩, rfl, trivial⟩
  · exact ⟨(by omega), rfl⟩
  · exact (fun w m => m)

theorem waybillref07_GetNumber_does (w0 : World) (Φ : Ctx) (N : List Ent) (hΦ : ∀ w, Mem w0 w N → Φ w) (cs0_ : List Value) (a0 : It) (res0 : Vector (BitVec 64) 4) (res1 : Nat) (ha0 : ItRd Φ cs0_ a0) (hf : waybillref07_GetNumber a0 = some (res0, res1)) : DoesG Try.prog 37 [.agg cs0_.toArray] w0 [] N (fun v G => (res1 ≤ 9223372036854775807) ∧ v = .tuple #[.agg (u64s res0.toList).toArray, .int .i64 ((res1 : Nat) : Int)]) := by
  unfold waybillref07_GetNumber at hf
  replace ha0 := ItRd.mono (Ψ := More w0 Φ []) (fun w q => q.1) _ _ ha0
  have h10 := ha0
  obtain ⟨A1, c2, A4, c5, cs7, e9, v3, v6, h8⟩ := ItRd.opn ha0
  subst e9
  have m11 := v3.mx
  have m12 := v6.mx
  refine DoesG.enter Try.func37 rfl Try.ntmps37 rfl (M := (([] ++ N))) rfl ?_
  refine CW.seq ?_
  refine CW.region ?_
  refine OW.boxA rfl rfl (fun b13 => ?_)
  refine OW.alloc (l := (u64s (Vector.replicate 4 0#64).toList)) rfl (by rw [Vector.toList_replicate, ← u64s_rep]; rfl) rfl (fun b14 => ?_)
  refine OW.rv (RV.assign rfl) rfl ?_
  refine OW.nil ?_
  refine QW.then_n ?_
  refine CW.seq ?_
  refine CW.region ?_
  refine OW.rv (RV.loadW rfl (List.Mem.tail _ (List.Mem.head _)) rfl rfl rfl rfl rfl) rfl ?_
  obtain ⟨⟨x16, x17⟩, hx15, hf⟩ := some_bind hf
  try dsimp only at hf
  refine OW.callG Try.call74 rfl (waybillref07_narrow_does w0 (More w0 Φ []) ((some b14, blk (u64s (Vector.replicate 4 0#64).toList) 25) :: (some b13, blk [.bool (a0.list), .slice A1 a0.data.length c2, .slice A4 a0.items.length c5] 29) :: ([] ++ N)) (fun w m => More.of hΦ 2 m rfl) [.bool (a0.list), .slice A1 a0.data.length c2, .slice A4 a0.items.length c5] a0 (32 : Int) x16 x17 h10 (by omega) hx15) rfl rfl ?_
  rintro _ G19 ⟨b18, rfl⟩
  refine OW.mem (M' := ((some b14, blk (u64s (Vector.replicate 4 0#64).toList) 25) :: (some b13, blk [.bool (a0.list), .slice A1 a0.data.length c2, .slice A4 a0.items.length c5] 29) :: ([] ++ N))) (fun w m => m.appR) ?_
  refine OW.rv (RV.extract rfl rfl) rfl ?_
  refine OW.slot (.agg (u64s x16.toList).toArray) (rfl) ?_
  refine OW.rv (RV.extract rfl rfl) rfl ?_
  refine OW.slot (.int .i64 ((x17 : Nat) : Int)) (rfl) ?_
  refine OW.sv (SV.storeW rfl rfl rfl (u64s_one _) rfl ((u64s_length _).trans Vector.length_toList) ((u64s_length _).trans Vector.length_toList)) ?_
  refine OW.rv (RV.assign rfl) rfl ?_
  refine OW.nil ?_
  refine QW.then_n ?_
  refine CW.ret ?_
  have er0 := Option.some.inj hf
  obtain ⟨e0, er1⟩ := Prod.mk.inj er0
  clear er0
  subst e0
  subst er1
  refine QW.retG (rs := [.cell 2 25, .tmp 3]) ([.agg (u64s x16.toList).toArray, .int .i64 ((x17 : Nat) : Int)]) ((some b14, blk (u64s x16.toList) 25) :: (some b13, blk [.bool (a0.list), .slice A1 a0.data.length c2, .slice A4 a0.items.length c5] 29) :: []) rfl ?_ rfl ?_ ?_ _ (.inl rfl)
  · exact ⟨⟨_, _, _, _, rfl, (List.Mem.head _), rfl, rfl, (congrArg some ((u64s_length _).trans Vector.length_toList).symm), rfl⟩, rfl, trivial⟩
  · exact ⟨(by omega), rfl⟩
  · exact (fun w m => m)

theorem rlp_GetSmall_does (w0 : World) (Φ : Ctx) (N : List Ent) (hΦ : ∀ w, Mem w0 w N → Φ w) (cs0_ : List Value) (a0 : It) (res0 : BitVec 64) (res1 : Nat) (ha0 : ItRd Φ cs0_ a0) (hf : rlp_GetSmall a0 = some (res0, res1)) : DoesG Try.prog 38 [.agg cs0_.toArray] w0 [] N (fun v G => (res1 ≤ 9223372036854775807) ∧ v = .tuple #[U64 res0, .int .i64 ((res1 : Nat) : Int)]) := by
  unfold rlp_GetSmall at hf
  replace ha0 := ItRd.mono (Ψ := More w0 Φ []) (fun w q => q.1) _ _ ha0
  have h10 := ha0
  obtain ⟨A1, c2, A4, c5, cs7, e9, v3, v6, h8⟩ := ItRd.opn ha0
  subst e9
  have m11 := v3.mx
  have m12 := v6.mx
  refine DoesG.enter Try.func38 rfl Try.ntmps38 rfl (M := (([] ++ N))) rfl ?_
  refine CW.seq ?_
  refine CW.region ?_
  refine OW.boxA rfl rfl (fun b13 => ?_)
  refine OW.rv (RV.assign rfl) rfl ?_
  refine OW.rv (RV.assign rfl) rfl ?_
  refine OW.nil ?_
  refine QW.then_n ?_
  refine CW.seq ?_
  refine CW.region ?_
  refine OW.rv (RV.loadW rfl (List.Mem.head _) rfl rfl rfl rfl rfl) rfl ?_
  obtain ⟨⟨x15, x16⟩, hx14, hf⟩ := some_bind hf
  try dsimp only at hf
  refine OW.callG Try.call73 rfl (rlp_number_does w0 (More w0 Φ []) ((some b13, blk [.bool (a0.list), .slice A1 a0.data.length c2, .slice A4 a0.items.length c5] 29) :: ([] ++ N)) (fun w m => More.of hΦ 1 m rfl) [.bool (a0.list), .slice A1 a0.data.length c2, .slice A4 a0.items.length c5] a0 (8 : Int) x15 x16 h10 (by omega) hx14) rfl rfl ?_
  rintro _ G18 ⟨b17, rfl⟩
  refine OW.mem (M' := ((some b13, blk [.bool (a0.list), .slice A1 a0.data.length c2, .slice A4 a0.items.length c5] 29) :: ([] ++ N))) (fun w m => m.appR) ?_
  refine OW.rv (RV.move rfl) rfl ?_
  refine OW.rv (RV.extract rfl rfl) rfl ?_
  refine OW.slot (.agg (u64s x15.toList).toArray) (rfl) ?_
  refine OW.rv (RV.extract rfl rfl) rfl ?_
  refine OW.slot (.int .i64 ((x16 : Nat) : Int)) (rfl) ?_
  refine OW.alloc (l := (u64s (Vector.replicate 4 0#64).toList)) rfl (by rw [Vector.toList_replicate, ← u64s_rep]; rfl) rfl (fun b20 => ?_)
  refine OW.sv (SV.storeW rfl rfl rfl (u64s_one _) rfl ((u64s_length _).trans Vector.length_toList) ((u64s_length _).trans Vector.length_toList)) ?_
  refine OW.rv (RV.assign rfl) rfl ?_
  refine OW.nil ?_
  refine QW.then_n ?_
  refine CW.seq ?_
  refine CW.region ?_
  refine OW.rv (RV.idx_a (0) rfl rfl rfl rfl rfl (by omega)) rfl ?_
  refine OW.rv (RV.load rfl (List.Mem.head _) rfl rfl rfl (u64s_at (vat' (by decide)))) rfl ?_
  refine OW.rv (RV.move rfl) rfl ?_
  refine OW.rv (RV.assign rfl) rfl ?_
  refine OW.rv (RV.assign rfl) rfl ?_
  refine OW.nil ?_
  refine QW.then_n ?_
  refine CW.ret ?_
  have er0 := Option.some.inj hf
  obtain ⟨e0, er1⟩ := Prod.mk.inj er0
  clear er0
  subst e0
  subst er1
  refine QW.retG (rs := [.tmp 2, .tmp 3]) ([U64 x15[0], .int .i64 ((x16 : Nat) : Int)]) ((some b20, blk (u64s x15.toList) 25) :: (some b13, blk [.bool (a0.list), .slice A1 a0.data.length c2, .slice A4 a0.items.length c5] 29) :: []) rfl ?_ rfl ?_ ?_ _ (.inl rfl)
  · exact ⟨rfl, rfl, trivial⟩
  · exact ⟨(by omega), rfl⟩
  · exact (fun w m => m)

theorem waybillref07_GetSmall_does (w0 : World) (Φ : Ctx) (N : List Ent) (hΦ : ∀ w, Mem w0 w N → Φ w) (cs0_ : List Value) (a0 : It) (res0 : BitVec 64) (res1 : Nat) (ha0 : ItRd Φ cs0_ a0) (hf : waybillref07_GetSmall a0 = some (res0, res1)) : DoesG Try.prog 39 [.agg cs0_.toArray] w0 [] N (fun v G => (res1 ≤ 9223372036854775807) ∧ v = .tuple #[U64 res0, .int .i64 ((res1 : Nat) : Int)]) := by
  unfold waybillref07_GetSmall at hf
  replace ha0 := ItRd.mono (Ψ := More w0 Φ []) (fun w q => q.1) _ _ ha0
  have h10 := ha0
  obtain ⟨A1, c2, A4, c5, cs7, e9, v3, v6, h8⟩ := ItRd.opn ha0
  subst e9
  have m11 := v3.mx
  have m12 := v6.mx
  refine DoesG.enter Try.func39 rfl Try.ntmps39 rfl (M := (([] ++ N))) rfl ?_
  refine CW.seq ?_
  refine CW.region ?_
  refine OW.boxA rfl rfl (fun b13 => ?_)
  refine OW.rv (RV.assign rfl) rfl ?_
  refine OW.rv (RV.assign rfl) rfl ?_
  refine OW.nil ?_
  refine QW.then_n ?_
  refine CW.seq ?_
  refine CW.region ?_
  refine OW.rv (RV.loadW rfl (List.Mem.head _) rfl rfl rfl rfl rfl) rfl ?_
  obtain ⟨⟨x15, x16⟩, hx14, hf⟩ := some_bind hf
  try dsimp only at hf
  refine OW.callG Try.call74 rfl (waybillref07_narrow_does w0 (More w0 Φ []) ((some b13, blk [.bool (a0.list), .slice A1 a0.data.length c2, .slice A4 a0.items.length c5] 29) :: ([] ++ N)) (fun w m => More.of hΦ 1 m rfl) [.bool (a0.list), .slice A1 a0.data.length c2, .slice A4 a0.items.length c5] a0 (8 : Int) x15 x16 h10 (by omega) hx14) rfl rfl ?_
  rintro _ G18 ⟨b17, rfl⟩
  refine OW.mem (M' := ((some b13, blk [.bool (a0.list), .slice A1 a0.data.length c2, .slice A4 a0.items.length c5] 29) :: ([] ++ N))) (fun w m => m.appR) ?_
  refine OW.rv (RV.move rfl) rfl ?_
  refine OW.rv (RV.extract rfl rfl) rfl ?_
  refine OW.slot (.agg (u64s x15.toList).toArray) (rfl) ?_
  refine OW.rv (RV.extract rfl rfl) rfl ?_
  refine OW.slot (.int .i64 ((x16 : Nat) : Int)) (rfl) ?_
  refine OW.alloc (l := (u64s (Vector.replicate 4 0#64).toList)) rfl (by rw [Vector.toList_replicate, ← u64s_rep]; rfl) rfl (fun b20 => ?_)
  refine OW.sv (SV.storeW rfl rfl rfl (u64s_one _) rfl ((u64s_length _).trans Vector.length_toList) ((u64s_length _).trans Vector.length_toList)) ?_
  refine OW.rv (RV.assign rfl) rfl ?_
  refine OW.nil ?_
  refine QW.then_n ?_
  refine CW.seq ?_
  refine CW.region ?_
  refine OW.rv (RV.idx_a (0) rfl rfl rfl rfl rfl (by omega)) rfl ?_
  refine OW.rv (RV.load rfl (List.Mem.head _) rfl rfl rfl (u64s_at (vat' (by decide)))) rfl ?_
  refine OW.rv (RV.move rfl) rfl ?_
  refine OW.rv (RV.assign rfl) rfl ?_
  refine OW.rv (RV.assign rfl) rfl ?_
  refine OW.nil ?_
  refine QW.then_n ?_
  refine CW.ret ?_
  have er0 := Option.some.inj hf
  obtain ⟨e0, er1⟩ := Prod.mk.inj er0
  clear er0
  subst e0
  subst er1
  refine QW.retG (rs := [.tmp 2, .tmp 3]) ([U64 x15[0], .int .i64 ((x16 : Nat) : Int)]) ((some b20, blk (u64s x15.toList) 25) :: (some b13, blk [.bool (a0.list), .slice A1 a0.data.length c2, .slice A4 a0.items.length c5] 29) :: []) rfl ?_ rfl ?_ ?_ _ (.inl rfl)
  · exact ⟨rfl, rfl, trivial⟩
  · exact ⟨(by omega), rfl⟩
  · exact (fun w m => m)

theorem rlp_GetFixed_does (w0 : World) (Φ : Ctx) (N : List Ent) (hΦ : ∀ w, Mem w0 w N → Φ w) (cs0_ : List Value) (a0 : It) (a1 : Int) (res0 : List (BitVec 8)) (res1 : Nat) (ha0 : ItRd Φ cs0_ a0) (ba1 : -9223372036854775808 ≤ a1 ∧ a1 ≤ 9223372036854775807) (hf : rlp_GetFixed a0 a1 = some (res0, res1)) : DoesG Try.prog 40 [.agg cs0_.toArray, .int .i64 a1] w0 [] N (fun v G => ∃ B : List Ent, ∃ or0 : Option Nat, ∃ kr0 : Nat, ∃ rr0 : List Value, (OwnS or0 res0.length kr0 1 (u8s res0) rr0) ∧ (res1 ≤ 9223372036854775807) ∧ v = .tuple #[sl or0 0 res0.length kr0, .int .i64 ((res1 : Nat) : Int)] ∧ G = (or0, blk ((u8s res0) ++ rr0) 5) :: B) := by
  unfold rlp_GetFixed at hf
  replace ha0 := ItRd.mono (Ψ := More w0 Φ []) (fun w q => q.1) _ _ ha0
  have h10 := ha0
  obtain ⟨A1, c2, A4, c5, cs7, e9, v3, v6, h8⟩ := ItRd.opn ha0
  subst e9
  have m11 := v3.mx
  have m12 := v6.mx
  refine DoesG.enter Try.func40 rfl Try.ntmps40 rfl (M := (([] ++ N))) rfl ?_
  refine CW.seq ?_
  refine CW.region ?_
  refine OW.boxA rfl rfl (fun b13 => ?_)
  refine OW.rv (RV.assign rfl) rfl ?_
  refine OW.rv (RV.assign rfl) rfl ?_
  refine OW.nil ?_
  refine QW.then_n ?_
  refine CW.seq ?_
  refine CW.seq ?_
  refine CW.region ?_
  refine OW.rv (RV.move rfl) rfl ?_
  refine OW.rv (RV.lss rfl rfl) rfl ?_
  refine OW.nil ?_
  refine QW.then_n ?_
  by_cases h14 : a1 < (0 : Int)
  · replace hf := if_t hf h14
    refine CW.is_t rfl (decide_eq_true h14) ?_
    refine CW.seq ?_
    refine CW.region ?_
    refine OW.rv (RV.assign rfl) rfl ?_
    refine OW.rv (RV.assign rfl) rfl ?_
    refine OW.nil ?_
    refine QW.then_n ?_
    refine CW.ret ?_
    refine QW.then_r ?_
    refine QW.mem (M' := ((none, blk ((u8s ([] : List (BitVec 8))) ++ []) 5) :: (some b13, blk [.bool (a0.list), .slice A1 a0.data.length c2, .slice A4 a0.items.length c5] 29) :: ([] ++ N))) (fun w m => m.nil_ent _) ?_
    have er0 := Option.some.inj hf
    obtain ⟨e0, er1⟩ := Prod.mk.inj er0
    clear er0
    subst e0
    subst er1
    refine QW.retG (rs := [.tmp 4, .tmp 5]) ([sl none 0 ([] : List (BitVec 8)).length 0, .int .i64 (1 : Int)]) ((none, blk ((u8s ([] : List (BitVec 8))) ++ []) 5) :: []) rfl ?_ rfl ?_ ?_ _ (.inl rfl)
    · exact ⟨rfl, rfl, trivial⟩
    · exact ⟨[], none, 0, [], OwnS.nil, (by omega), rfl, rfl⟩
    · exact (fun w m => m.pick [0] 2 rfl rfl)
  · replace hf := if_f hf h14
    refine CW.is_f rfl (decide_eq_false h14) ?_
    refine CW.skip ?_
    refine QW.then_n ?_
    refine CW.seq ?_
    refine CW.seq ?_
    refine CW.region ?_
    refine OW.rv (RV.loadW rfl (List.Mem.head _) rfl rfl rfl rfl rfl) rfl ?_
    obtain ⟨x16, hx15, hf⟩ := some_bind hf
    refine OW.callG Try.call71 rfl (rlp_kind_does w0 (More w0 Φ []) ((some b13, blk [.bool (a0.list), .slice A1 a0.data.length c2, .slice A4 a0.items.length c5] 29) :: ([] ++ N)) (fun w m => More.of hΦ 1 m rfl) [.bool (a0.list), .slice A1 a0.data.length c2, .slice A4 a0.items.length c5] a0 false x16 h10 hx15) rfl rfl ?_
    rintro _ G18 ⟨b17, rfl⟩
    refine OW.mem (M' := ((some b13, blk [.bool (a0.list), .slice A1 a0.data.length c2, .slice A4 a0.items.length c5] 29) :: ([] ++ N))) (fun w m => m.appR) ?_
    refine OW.rv (RV.assign rfl) rfl ?_
    refine OW.nil ?_
    refine QW.then_n ?_
    refine CW.seq ?_
    refine CW.region ?_
    refine OW.rv (RV.move rfl) rfl ?_
    refine OW.rv (RV.neq rfl rfl) rfl ?_
    refine OW.slot (.bool (!decide (x16 = 0))) (congrArg (fun b => Value.bool (!b)) (decide_eq_decide.2 (by omega))) ?_
    refine OW.nil ?_
    refine QW.then_n ?_
    by_cases h20 : x16 = 0
    · replace hf := if_t hf h20
      refine CW.is_f rfl (congrArg (fun b => !b) (decide_eq_true h20)) ?_
      refine CW.skip ?_
      refine QW.then_n ?_
      refine CW.seq ?_
      refine CW.seq ?_
      refine CW.region ?_
      refine OW.rv (RV.field rfl rfl rfl rfl) rfl ?_
      refine OW.rv (RV.load rfl (List.Mem.head _) rfl rfl rfl rfl) rfl ?_
      refine OW.rv (RV.len rfl rfl) rfl ?_
      refine OW.rv (RV.move rfl) rfl ?_
      refine OW.rv (RV.neq rfl rfl) rfl ?_
      refine OW.nil ?_
      refine QW.then_n ?_
      by_cases h21 : ((a0.data.length : Nat) : Int) = a1
      · replace hf := if_t hf h21
        refine CW.is_f rfl (congrArg (fun b => !b) (decide_eq_true h21)) ?_
        refine CW.skip ?_
        refine QW.then_n ?_
        refine CW.seq ?_
        refine CW.region ?_
        refine OW.rv (RV.field rfl rfl rfl rfl) rfl ?_
        refine OW.rv (RV.load rfl (List.Mem.head _) rfl rfl rfl rfl) rfl ?_
        obtain ⟨x23, hx22, hf⟩ := some_bind hf
        refine OW.callG Try.call63 rfl (rlp_clone_does w0 (More w0 Φ []) ((some b13, blk [.bool (a0.list), .slice A1 a0.data.length c2, .slice A4 a0.items.length c5] 29) :: ([] ++ N)) (fun w m => More.of hΦ 1 m rfl) A1 c2 a0.data x23 v3 hx22) rfl rfl ?_
        rintro L29 M30 ⟨B24, ob25, c26, r27, o28, e31, e32⟩
        rw [e31, e32]
        clear e31 e32 L29 M30
        refine OW.mem (M' := ((ob25, blk ((u8s x23) ++ r27) 5) :: (some b13, blk [.bool (a0.list), .slice A1 a0.data.length c2, .slice A4 a0.items.length c5] 29) :: ((B24 ++ []) ++ N))) (fun w m => by have h := Mem.sinkAt (A := B24) m 1 1 rfl rfl; exact h) ?_
        replace h10 := ItRd.mono (Ψ := More w0 Φ (B24 ++ [])) (fun w q => More.mono (fun w m => (m).appR) q) _ _ h10
        replace v3 := v3.mono (Ψ := More w0 Φ (B24 ++ [])) (fun w q => More.mono (fun w m => (m).appR) q)
        replace v6 := v6.mono (Ψ := More w0 Φ (B24 ++ [])) (fun w q => More.mono (fun w m => (m).appR) q)
        replace h8 := h8.mono (ItRd.mono (Ψ := More w0 Φ (B24 ++ [])) (fun w q => More.mono (fun w m => (m).appR) q))
        have m33 := o28.mx
        refine OW.rv (RV.assign rfl) rfl ?_
        refine OW.rv (RV.assign rfl) rfl ?_
        refine OW.nil ?_
        refine QW.then_n ?_
        refine CW.ret ?_
        have er0 := Option.some.inj hf
        obtain ⟨e0, er1⟩ := Prod.mk.inj er0
        clear er0
        subst e0
        subst er1
        refine QW.retG (rs := [.tmp 4, .tmp 5]) ([sl ob25 0 x23.length c26, .int .i64 (0 : Int)]) ((ob25, blk ((u8s x23) ++ r27) 5) :: (B24 ++ [])) rfl ?_ rfl ?_ ?_ _ (.inl rfl)
        · exact ⟨rfl, rfl, trivial⟩
        · exact ⟨(B24 ++ []), ob25, c26, r27, o28, (by omega), rfl, rfl⟩
        · exact (fun w m => m.pick [0] 2 rfl rfl)
      · replace hf := if_f hf h21
        refine CW.is_t rfl (congrArg (fun b => !b) (decide_eq_false h21)) ?_
        refine CW.seq ?_
        refine CW.region ?_
        refine OW.rv (RV.assign rfl) rfl ?_
        refine OW.rv (RV.assign rfl) rfl ?_
        refine OW.nil ?_
        refine QW.then_n ?_
        refine CW.ret ?_
        refine QW.then_r ?_
        refine QW.mem (M' := ((none, blk ((u8s ([] : List (BitVec 8))) ++ []) 5) :: (some b13, blk [.bool (a0.list), .slice A1 a0.data.length c2, .slice A4 a0.items.length c5] 29) :: ([] ++ N))) (fun w m => m.nil_ent _) ?_
        have er0 := Option.some.inj hf
        obtain ⟨e0, er1⟩ := Prod.mk.inj er0
        clear er0
        subst e0
        subst er1
        refine QW.retG (rs := [.tmp 4, .tmp 5]) ([sl none 0 ([] : List (BitVec 8)).length 0, .int .i64 (77 : Int)]) ((none, blk ((u8s ([] : List (BitVec 8))) ++ []) 5) :: []) rfl ?_ rfl ?_ ?_ _ (.inl rfl)
        · exact ⟨rfl, rfl, trivial⟩
        · exact ⟨[], none, 0, [], OwnS.nil, (by omega), rfl, rfl⟩
        · exact (fun w m => m.pick [0] 2 rfl rfl)
    · replace hf := if_f hf h20
      refine CW.is_t rfl (congrArg (fun b => !b) (decide_eq_false h20)) ?_
      refine CW.seq ?_
      refine CW.region ?_
      refine OW.rv (RV.move rfl) rfl ?_
      refine OW.rv (RV.assign rfl) rfl ?_
      refine OW.rv (RV.assign rfl) rfl ?_
      refine OW.nil ?_
      refine QW.then_n ?_
      refine CW.ret ?_
      refine QW.then_r ?_
      refine QW.mem (M' := ((none, blk ((u8s ([] : List (BitVec 8))) ++ []) 5) :: (some b13, blk [.bool (a0.list), .slice A1 a0.data.length c2, .slice A4 a0.items.length c5] 29) :: ([] ++ N))) (fun w m => m.nil_ent _) ?_
      have er0 := Option.some.inj hf
      obtain ⟨e0, er1⟩ := Prod.mk.inj er0
      clear er0
      subst e0
      subst er1
      refine QW.retG (rs := [.tmp 4, .tmp 5]) ([sl none 0 ([] : List (BitVec 8)).length 0, .int .i64 ((x16 : Nat) : Int)]) ((none, blk ((u8s ([] : List (BitVec 8))) ++ []) 5) :: []) rfl ?_ rfl ?_ ?_ _ (.inl rfl)
      · exact ⟨rfl, rfl, trivial⟩
      · exact ⟨[], none, 0, [], OwnS.nil, (by omega), rfl, rfl⟩
      · exact (fun w m => m.pick [0] 2 rfl rfl)

theorem waybillref07_GetFixed_does (w0 : World) (Φ : Ctx) (N : List Ent) (hΦ : ∀ w, Mem w0 w N → Φ w) (cs0_ : List Value) (a0 : It) (a1 : Int) (res0 : List (BitVec 8)) (res1 : Nat) (ha0 : ItRd Φ cs0_ a0) (ba1 : -9223372036854775808 ≤ a1 ∧ a1 ≤ 9223372036854775807) (hf : waybillref07_GetFixed a0 a1 = some (res0, res1)) : DoesG Try.prog 41 [.agg cs0_.toArray, .int .i64 a1] w0 [] N (fun v G => ∃ B : List Ent, ∃ or0 : Option Nat, ∃ kr0 : Nat, ∃ rr0 : List Value, (OwnS or0 res0.length kr0 1 (u8s res0) rr0) ∧ (res1 ≤ 9223372036854775807) ∧ v = .tuple #[sl or0 0 res0.length kr0, .int .i64 ((res1 : Nat) : Int)] ∧ G = (or0, blk ((u8s res0) ++ rr0) 5) :: B) := by
  unfold waybillref07_GetFixed at hf
  replace ha0 := ItRd.mono (Ψ := More w0 Φ []) (fun w q => q.1) _ _ ha0
  have h10 := ha0
  obtain ⟨A1, c2, A4, c5, cs7, e9, v3, v6, h8⟩ := ItRd.opn ha0
  subst e9
  have m11 := v3.mx
  have m12 := v6.mx
  refine DoesG.enter Try.func41 rfl Try.ntmps41 rfl (M := (([] ++ N))) rfl ?_
  refine CW.seq ?_
  refine CW.region ?_
  refine OW.boxA rfl rfl (fun b13 => ?_)
  refine OW.rv (RV.assign rfl) rfl ?_
  refine OW.rv (RV.assign rfl) rfl ?_
  refine OW.nil ?_
  refine QW.then_n ?_
  refine CW.seq ?_
  refine CW.seq ?_
  refine CW.region ?_
  refine OW.rv (RV.move rfl) rfl ?_
  refine OW.rv (RV.lss rfl rfl) rfl ?_
  refine OW.nil ?_
  refine QW.then_n ?_
  by_cases h14 : a1 < (0 : Int)
  · replace hf := if_t hf h14
    refine CW.is_t rfl (decide_eq_true h14) ?_
    refine CW.seq ?_
    refine CW.region ?_
    refine OW.rv (RV.assign rfl) rfl ?_
    refine OW.rv (RV.assign rfl) rfl ?_
    refine OW.nil ?_
    refine QW.then_n ?_
    refine CW.ret ?_
    refine QW.then_r ?_
    refine QW.mem (M' := ((none, blk ((u8s ([] : List (BitVec 8))) ++ []) 5) :: (some b13, blk [.bool (a0.list), .slice A1 a0.data.length c2, .slice A4 a0.items.length c5] 29) :: ([] ++ N))) (fun w m => m.nil_ent _) ?_
    have er0 := Option.some.inj hf
    obtain ⟨e0, er1⟩ := Prod.mk.inj er0
    clear er0
    subst e0
    subst er1
    refine QW.retG (rs := [.tmp 4, .tmp 5]) ([sl none 0 ([] : List (BitVec 8)).length 0, .int .i64 (1 : Int)]) ((none, blk ((u8s ([] : List (BitVec 8))) ++ []) 5) :: []) rfl ?_ rfl ?_ ?_ _ (.inl rfl)
    · exact ⟨rfl, rfl, trivial⟩
    · exact ⟨[], none, 0, [], OwnS.nil, (by omega), rfl, rfl⟩
    · exact (fun w m => m.pick [0] 2 rfl rfl)
  · replace hf := if_f hf h14
    refine CW.is_f rfl (decide_eq_false h14) ?_
    refine CW.skip ?_
    refine QW.then_n ?_
    refine CW.seq ?_
    refine CW.region ?_
    refine OW.rv (RV.loadW rfl (List.Mem.head _) rfl rfl rfl rfl rfl) rfl ?_
    obtain ⟨x16, hx15, hf⟩ := some_bind hf
    refine OW.callG Try.call72 rfl (waybillref07_wanted_does w0 (More w0 Φ []) ((some b13, blk [.bool (a0.list), .slice A1 a0.data.length c2, .slice A4 a0.items.length c5] 29) :: ([] ++ N)) (fun w m => More.of hΦ 1 m rfl) [.bool (a0.list), .slice A1 a0.data.length c2, .slice A4 a0.items.length c5] a0 false x16 h10 hx15) rfl rfl ?_
    rintro _ G18 ⟨b17, rfl⟩
    refine OW.mem (M' := ((some b13, blk [.bool (a0.list), .slice A1 a0.data.length c2, .slice A4 a0.items.length c5] 29) :: ([] ++ N))) (fun w m => m.appR) ?_
    refine OW.rv (RV.assign rfl) rfl ?_
    refine OW.nil ?_
    refine QW.then_n ?_
    refine CW.seq ?_
    refine CW.seq ?_
    refine CW.region ?_
    refine OW.rv (RV.move rfl) rfl ?_
    refine OW.rv (RV.neq rfl rfl) rfl ?_
    refine OW.slot (.bool (!decide (x16 = 0))) (congrArg (fun b => Value.bool (!b)) (decide_eq_decide.2 (by omega))) ?_
    refine OW.nil ?_
    refine QW.then_n ?_
    by_cases h20 : x16 = 0
    · replace hf := if_t hf h20
      refine CW.is_f rfl (congrArg (fun b => !b) (decide_eq_true h20)) ?_
      refine CW.skip ?_
      refine QW.then_n ?_
      refine CW.seq ?_
      refine CW.seq ?_
      refine CW.region ?_
      refine OW.rv (RV.field rfl rfl rfl rfl) rfl ?_
      refine OW.rv (RV.load rfl (List.Mem.head _) rfl rfl rfl rfl) rfl ?_
      refine OW.rv (RV.len rfl rfl) rfl ?_
      refine OW.rv (RV.move rfl) rfl ?_
      refine OW.rv (RV.neq rfl rfl) rfl ?_
      refine OW.nil ?_
      refine QW.then_n ?_
      by_cases h21 : ((a0.data.length : Nat) : Int) = a1
      · replace hf := if_t hf h21
        refine CW.is_f rfl (congrArg (fun b => !b) (decide_eq_true h21)) ?_
        refine CW.skip ?_
        refine QW.then_n ?_
        refine CW.seq ?_
        refine CW.region ?_
        refine OW.rv (RV.field rfl rfl rfl rfl) rfl ?_
        refine OW.rv (RV.load rfl (List.Mem.head _) rfl rfl rfl rfl) rfl ?_
        obtain ⟨x23, hx22, hf⟩ := some_bind hf
        refine OW.callG Try.call62 rfl (waybillref07_bytes_does w0 (More w0 Φ []) ((some b13, blk [.bool (a0.list), .slice A1 a0.data.length c2, .slice A4 a0.items.length c5] 29) :: ([] ++ N)) (fun w m => More.of hΦ 1 m rfl) A1 c2 a0.data x23 v3 hx22) rfl rfl ?_
        rintro L29 M30 ⟨B24, ob25, c26, r27, o28, e31, e32⟩
        rw [e31, e32]
        clear e31 e32 L29 M30
        refine OW.mem (M' := ((ob25, blk ((u8s x23) ++ r27) 5) :: (some b13, blk [.bool (a0.list), .slice A1 a0.data.length c2, .slice A4 a0.items.length c5] 29) :: ((B24 ++ []) ++ N))) (fun w m => by have h := Mem.sinkAt (A := B24) m 1 1 rfl rfl; exact h) ?_
        replace h10 := ItRd.mono (Ψ := More w0 Φ (B24 ++ [])) (fun w q => More.mono (fun w m => (m).appR) q) _ _ h10
        replace v3 := v3.mono (Ψ := More w0 Φ (B24 ++ [])) (fun w q => More.mono (fun w m => (m).appR) q)
        replace v6 := v6.mono (Ψ := More w0 Φ (B24 ++ [])) (fun w q => More.mono (fun w m => (m).appR) q)
        replace h8 := h8.mono (ItRd.mono (Ψ := More w0 Φ (B24 ++ [])) (fun w q => More.mono (fun w m => (m).appR) q))
        have m33 := o28.mx
        refine OW.rv (RV.assign rfl) rfl ?_
        refine OW.rv (RV.assign rfl) rfl ?_
        refine OW.nil ?_
        refine QW.then_n ?_
        refine CW.ret ?_
        have er0 := Option.some.inj hf
        obtain ⟨e0, er1⟩ := Prod.mk.inj er0
        clear er0
        subst e0
        subst er1
        refine QW.retG (rs := [.tmp 4, .tmp 5]) ([sl ob25 0 x23.length c26, .int .i64 (0 : Int)]) ((ob25, blk ((u8s x23) ++ r27) 5) :: (B24 ++ [])) rfl ?_ rfl ?_ ?_ _ (.inl rfl)
        · exact ⟨rfl, rfl, trivial⟩
        · exact ⟨(B24 ++ []), ob25, c26, r27, o28, (by omega), rfl, rfl⟩
        · exact (fun w m => m.pick [0] 2 rfl rfl)
      · replace hf := if_f hf h21
        refine CW.is_t rfl (congrArg (fun b => !b) (decide_eq_false h21)) ?_
        refine CW.seq ?_
        refine CW.region ?_
        refine OW.rv (RV.assign rfl) rfl ?_
        refine OW.rv (RV.assign rfl) rfl ?_
        refine OW.nil ?_
        refine QW.then_n ?_
        refine CW.ret ?_
        refine QW.then_r ?_
        refine QW.mem (M' := ((none, blk ((u8s ([] : List (BitVec 8))) ++ []) 5) :: (some b13, blk [.bool (a0.list), .slice A1 a0.data.length c2, .slice A4 a0.items.length c5] 29) :: ([] ++ N))) (fun w m => m.nil_ent _) ?_
        have er0 := Option.some.inj hf
        obtain ⟨e0, er1⟩ := Prod.mk.inj er0
        clear er0
        subst e0
        subst er1
        refine QW.retG (rs := [.tmp 4, .tmp 5]) ([sl none 0 ([] : List (BitVec 8)).length 0, .int .i64 (77 : Int)]) ((none, blk ((u8s ([] : List (BitVec 8))) ++ []) 5) :: []) rfl ?_ rfl ?_ ?_ _ (.inl rfl)
        · exact ⟨rfl, rfl, trivial⟩
        · exact ⟨[], none, 0, [], OwnS.nil, (by omega), rfl, rfl⟩
        · exact (fun w m => m.pick [0] 2 rfl rfl)
    · replace hf := if_f hf h20
      refine CW.is_t rfl (congrArg (fun b => !b) (decide_eq_false h20)) ?_
      refine CW.seq ?_
      refine CW.region ?_
      refine OW.rv (RV.move rfl) rfl ?_
      refine OW.rv (RV.assign rfl) rfl ?_
      refine OW.rv (RV.assign rfl) rfl ?_
      refine OW.nil ?_
      refine QW.then_n ?_
      refine CW.ret ?_
      refine QW.then_r ?_
      refine QW.mem (M' := ((none, blk ((u8s ([] : List (BitVec 8))) ++ []) 5) :: (some b13, blk [.bool (a0.list), .slice A1 a0.data.length c2, .slice A4 a0.items.length c5] 29) :: ([] ++ N))) (fun w m => m.nil_ent _) ?_
      have er0 := Option.some.inj hf
      obtain ⟨e0, er1⟩ := Prod.mk.inj er0
      clear er0
      subst e0
      subst er1
      refine QW.retG (rs := [.tmp 4, .tmp 5]) ([sl none 0 ([] : List (BitVec 8)).length 0, .int .i64 ((x16 : Nat) : Int)]) ((none, blk ((u8s ([] : List (BitVec 8))) ++ []) 5) :: []) rfl ?_ rfl ?_ ?_ _ (.inl rfl)
      · exact ⟨rfl, rfl, trivial⟩
      · exact ⟨[], none, 0, [], OwnS.nil, (by omega), rfl, rfl⟩
      · exact (fun w m => m.pick [0] 2 rfl rfl)

theorem rlp_GetList_does (w0 : World) (Φ : Ctx) (N : List Ent) (hΦ : ∀ w, Mem w0 w N → Φ w) (cs0_ : List Value) (a0 : It) (res0 : List (It)) (res1 : Nat) (ha0 : ItRd Φ cs0_ a0) (hf : rlp_GetList a0 = some (res0, res1)) : DoesG Try.prog 42 [.agg cs0_.toArray] w0 [] N (fun v G => ∃ B : List Ent, ∃ cr0 : List Value, ∃ or0 : Option Nat, ∃ kr0 : Nat, ∃ rr0 : List Value, (Reps (ItRd (More w0 Φ B)) cr0 res0) ∧ (OwnS or0 res0.length kr0 3 cr0 rr0) ∧ (res1 ≤ 9223372036854775807) ∧ v = .tuple #[sl or0 0 res0.length kr0, .int .i64 ((res1 : Nat) : Int)] ∧ G = (or0, blk (cr0 ++ rr0) 29) :: B) := by
  unfold rlp_GetList at hf
  replace ha0 := ItRd.mono (Ψ := More w0 Φ []) (fun w q => q.1) _ _ ha0
  have h10 := ha0
  obtain ⟨A1, c2, A4, c5, cs7, e9, v3, v6, h8⟩ := ItRd.opn ha0
  subst e9
  have m11 := v3.mx
  have m12 := v6.mx
  refine DoesG.enter Try.func42 rfl Try.ntmps42 rfl (M := (([] ++ N))) rfl ?_
  refine CW.seq ?_
  refine CW.region ?_
  refine OW.boxA rfl rfl (fun b13 => ?_)
  refine OW.rv (RV.assign rfl) rfl ?_
  refine OW.rv (RV.assign rfl) rfl ?_
  refine OW.nil ?_
  refine QW.then_n ?_
  refine CW.seq ?_
  refine CW.seq ?_
  refine CW.region ?_
  refine OW.rv (RV.loadW rfl (List.Mem.head _) rfl rfl rfl rfl rfl) rfl ?_
  obtain ⟨x15, hx14, hf⟩ := some_bind hf
  refine OW.callG Try.call71 rfl (rlp_kind_does w0 (More w0 Φ []) ((some b13, blk [.bool (a0.list), .slice A1 a0.data.length c2, .slice A4 a0.items.length c5] 29) :: ([] ++ N)) (fun w m => More.of hΦ 1 m rfl) [.bool (a0.list), .slice A1 a0.data.length c2, .slice A4 a0.items.length c5] a0 true x15 h10 hx14) rfl rfl ?_
  rintro _ G17 ⟨b16, rfl⟩
  refine OW.mem (M' := ((some b13, blk [.bool (a0.list), .slice A1 a0.data.length c2, .slice A4 a0.items.length c5] 29) :: ([] ++ N))) (fun w m => m.appR) ?_
  refine OW.rv (RV.assign rfl) rfl ?_
  refine OW.nil ?_
  refine QW.then_n ?_
  refine CW.seq ?_
  refine CW.region ?_
  refine OW.rv (RV.move rfl) rfl ?_
  refine OW.rv (RV.neq rfl rfl) rfl ?_
  refine OW.slot (.bool (!decide (x15 = 0))) (congrArg (fun b => Value.bool (!b)) (decide_eq_decide.2 (by omega))) ?_
  refine OW.nil ?_
  refine QW.then_n ?_
  by_cases h19 : x15 = 0
  · replace hf := if_t hf h19
    refine CW.is_f rfl (congrArg (fun b => !b) (decide_eq_true h19)) ?_
    refine CW.skip ?_
    refine QW.then_n ?_
    refine CW.seq ?_
    refine CW.region ?_
    refine OW.rv (RV.field rfl rfl rfl rfl) rfl ?_
    refine OW.rv (RV.load rfl (List.Mem.head _) rfl rfl rfl rfl) rfl ?_
    obtain ⟨x21, hx20, hf⟩ := some_bind hf
    refine OW.callG Try.call68 rfl (rlp_twin_does w0 (More w0 Φ []) ((some b13, blk [.bool (a0.list), .slice A1 a0.data.length c2, .slice A4 a0.items.length c5] 29) :: ([] ++ N)) (fun w m => More.of hΦ 1 m rfl) A4 c5 cs7 a0.items x21 v6 h8 hx20) rfl rfl ?_
    rintro L29 M30 ⟨B22, cs23, ob25, c26, r27, h24, o28, e31, e32⟩
    rw [e31, e32]
    clear e31 e32 L29 M30
    refine OW.mem (M' := ((ob25, blk (cs23 ++ r27) 29) :: (some b13, blk [.bool (a0.list), .slice A1 a0.data.length c2, .slice A4 a0.items.length c5] 29) :: ((B22 ++ []) ++ N))) (fun w m => by have h := Mem.sinkAt (A := B22) m 1 1 rfl rfl; exact h) ?_
    replace h10 := ItRd.mono (Ψ := More w0 Φ (B22 ++ [])) (fun w q => More.mono (fun w m => (m).appR) q) _ _ h10
    replace v3 := v3.mono (Ψ := More w0 Φ (B22 ++ [])) (fun w q => More.mono (fun w m => (m).appR) q)
    replace v6 := v6.mono (Ψ := More w0 Φ (B22 ++ [])) (fun w q => More.mono (fun w m => (m).appR) q)
    replace h8 := h8.mono (ItRd.mono (Ψ := More w0 Φ (B22 ++ [])) (fun w q => More.mono (fun w m => (m).appR) q))
    replace h24 := h24.mono (ItRd.mono (Ψ := (More w0 Φ (B22 ++ []))) (fun w q => More.flat q))
    have m33 := o28.mx
    refine OW.rv (RV.assign rfl) rfl ?_
    refine OW.rv (RV.assign rfl) rfl ?_
    refine OW.nil ?_
    refine QW.then_n ?_
    refine CW.ret ?_
    have er0 := Option.some.inj hf
    obtain ⟨e0, er1⟩ := Prod.mk.inj er0
    clear er0
    subst e0
    subst er1
    refine QW.retG (rs := [.tmp 2, .tmp 3]) ([sl ob25 0 x21.length c26, .int .i64 (0 : Int)]) ((ob25, blk (cs23 ++ r27) 29) :: (B22 ++ [])) rfl ?_ rfl ?_ ?_ _ (.inl rfl)
    · exact ⟨rfl, rfl, trivial⟩
    · exact ⟨(B22 ++ []), cs23, ob25, c26, r27, h24, o28, (by omega), rfl, rfl⟩
    · exact (fun w m => m.pick [0] 2 rfl rfl)
  · replace hf := if_f hf h19
    refine CW.is_t rfl (congrArg (fun b => !b) (decide_eq_false h19)) ?_
    refine CW.seq ?_
    refine CW.region ?_
    refine OW.rv (RV.move rfl) rfl ?_
    refine OW.rv (RV.assign rfl) rfl ?_
    refine OW.rv (RV.assign rfl) rfl ?_
    refine OW.nil ?_
    refine QW.then_n ?_
    refine CW.ret ?_
    refine QW.then_r ?_
    refine QW.mem (M' := ((none, blk ([] ++ []) 29) :: (some b13, blk [.bool (a0.list), .slice A1 a0.data.length c2, .slice A4 a0.items.length c5] 29) :: ([] ++ N))) (fun w m => m.nil_ent _) ?_
    have er0 := Option.some.inj hf
    obtain ⟨e0, er1⟩ := Prod.mk.inj er0
    clear er0
    subst e0
    subst er1
    refine QW.retG (rs := [.tmp 2, .tmp 3]) ([sl none 0 ([] : List (It)).length 0, .int .i64 ((x15 : Nat) : Int)]) ((none, blk ([] ++ []) 29) :: []) rfl ?_ rfl ?_ ?_ _ (.inl rfl)
    · exact ⟨rfl, rfl, trivial⟩
    · exact ⟨[], [], none, 0, [], Reps.nil, OwnS.nil, (by omega), rfl, rfl⟩
    · exact (fun w m => m.pick [0] 2 rfl rfl)

theorem waybillref07_GetList_does (w0 : World) (Φ : Ctx) (N : List Ent) (hΦ : ∀ w, Mem w0 w N → Φ w) (cs0_ : List Value) (a0 : It) (res0 : List (It)) (res1 : Nat) (ha0 : ItRd Φ cs0_ a0) (hf : waybillref07_GetList a0 = some (res0, res1)) : DoesG Try.prog 43 [.agg cs0_.toArray] w0 [] N (fun v G => ∃ B : List Ent, ∃ cr0 : List Value, ∃ or0 : Option Nat, ∃ kr0 : Nat, ∃ rr0 : List Value, (Reps (ItRd (More w0 Φ B)) cr0 res0) ∧ (OwnS or0 res0.length kr0 3 cr0 rr0) ∧ (res1 ≤ 9223372036854775807) ∧ v = .tuple #[sl or0 0 res0.length kr0, .int .i64 ((res1 : Nat) : Int)] ∧ G = (or0, blk (cr0 ++ rr0) 29) :: B) := by
  unfold waybillref07_GetList at hf
  replace ha0 := ItRd.mono (Ψ := More w0 Φ []) (fun w q => q.1) _ _ ha0
  have h10 := ha0
  obtain ⟨A1, c2, A4, c5, cs7, e9, v3, v6, h8⟩ := ItRd.opn ha0
  subst e9
  have m11 := v3.mx
  have m12 := v6.mx
  refine DoesG.enter Try.func43 rfl Try.ntmps43 rfl (M := (([] ++ N))) rfl ?_
  refine CW.seq ?_
  refine CW.region ?_
  refine OW.boxA rfl rfl (fun b13 => ?_)
  refine OW.rv (RV.assign rfl) rfl ?_
  refine OW.rv (RV.assign rfl) rfl ?_
  refine OW.nil ?_
  refine QW.then_n ?_
  refine CW.seq ?_
  refine CW.region ?_
  refine OW.rv (RV.loadW rfl (List.Mem.head _) rfl rfl rfl rfl rfl) rfl ?_
  obtain ⟨x15, hx14, hf⟩ := some_bind hf
  refine OW.callG Try.call72 rfl (waybillref07_wanted_does w0 (More w0 Φ []) ((some b13, blk [.bool (a0.list), .slice A1 a0.data.length c2, .slice A4 a0.items.length c5] 29) :: ([] ++ N)) (fun w m => More.of hΦ 1 m rfl) [.bool (a0.list), .slice A1 a0.data.length c2, .slice A4 a0.items.length c5] a0 true x15 h10 hx14) rfl rfl ?_
  rintro _ G17 ⟨b16, rfl⟩
  refine OW.mem (M' := ((some b13, blk [.bool (a0.list), .slice A1 a0.data.length c2, .slice A4 a0.items.length c5] 29) :: ([] ++ N))) (fun w m => m.appR) ?_
  refine OW.rv (RV.assign rfl) rfl ?_
  refine OW.nil ?_
  refine QW.then_n ?_
  refine CW.seq ?_
  refine CW.seq ?_
  refine CW.region ?_
  refine OW.rv (RV.move rfl) rfl ?_
  refine OW.rv (RV.neq rfl rfl) rfl ?_
  refine OW.slot (.bool (!decide (x15 = 0))) (congrArg (fun b => Value.bool (!b)) (decide_eq_decide.2 (by omega))) ?_
  refine OW.nil ?_
  refine QW.then_n ?_
  by_cases h19 : x15 = 0
  · replace hf := if_t hf h19
    refine CW.is_f rfl (congrArg (fun b => !b) (decide_eq_true h19)) ?_
    refine CW.skip ?_
    refine QW.then_n ?_
    refine CW.seq ?_
    refine CW.region ?_
    refine OW.rv (RV.field rfl rfl rfl rfl) rfl ?_
    refine OW.rv (RV.load rfl (List.Mem.head _) rfl rfl rfl rfl) rfl ?_
    obtain ⟨x21, hx20, hf⟩ := some_bind hf
    refine OW.callG Try.call16 rfl (waybillref07_Copy_does w0 (More w0 Φ []) ((some b13, blk [.bool (a0.list), .slice A1 a0.data.length c2, .slice A4 a0.items.length c5] 29) :: ([] ++ N)) (fun w m => More.of hΦ 1 m rfl) A4 c5 cs7 a0.items x21 v6 h8 hx20) rfl rfl ?_
    rintro L29 M30 ⟨B22, cs23, ob25, c26, r27, h24, o28, e31, e32⟩
    rw [e31, e32]
    clear e31 e32 L29 M30
    refine OW.mem (M' := ((ob25, blk (cs23 ++ r27) 29) :: (some b13, blk [.bool (a0.list), .slice A1 a0.data.length c2, .slice A4 a0.items.length c5] 29) :: ((B22 ++ []) ++ N))) (fun w m => by have h := Mem.sinkAt (A := B22) m 1 1 rfl rfl; exact h) ?_
    replace h10 := ItRd.mono (Ψ := More w0 Φ (B22 ++ [])) (fun w q => More.mono (fun w m => (m).appR) q) _ _ h10
    replace v3 := v3.mono (Ψ := More w0 Φ (B22 ++ [])) (fun w q => More.mono (fun w m => (m).appR) q)
    replace v6 := v6.mono (Ψ := More w0 Φ (B22 ++ [])) (fun w q => More.mono (fun w m => (m).appR) q)
    replace h8 := h8.mono (ItRd.mono (Ψ := More w0 Φ (B22 ++ [])) (fun w q => More.mono (fun w m => (m).appR) q))
    replace h24 := h24.mono (ItRd.mono (Ψ := (More w0 Φ (B22 ++ []))) (fun w q => More.flat q))
    have m33 := o28.mx
    refine OW.rv (RV.assign rfl) rfl ?_
    refine OW.rv (RV.assign rfl) rfl ?_
    refine OW.nil ?_
    refine QW.then_n ?_
    refine CW.ret ?_
    have er0 := Option.some.inj hf
    obtain ⟨e0, er1⟩ := Prod.mk.inj er0
    clear er0
    subst e0
    subst er1
    refine QW.retG (rs := [.tmp 2, .tmp 3]) ([sl ob25 0 x21.length c26, .int .i64 (0 : Int)]) ((ob25, blk (cs23 ++ r27) 29) :: (B22 ++ [])) rfl ?_ rfl ?_ ?_ _ (.inl rfl)
    · exact ⟨rfl, rfl, trivial⟩
    · exact ⟨(B22 ++ []), cs23, ob25, c26, r27, h24, o28, (by omega), rfl, rfl⟩
    · exact (fun w m => m.pick [0] 2 rfl rfl)
  · replace hf := if_f hf h19
    refine CW.is_t rfl (congrArg (fun b => !b) (decide_eq_false h19)) ?_
    refine CW.seq ?_
    refine CW.region ?_
    refine OW.rv (RV.move rfl) rfl ?_
    refine OW.rv (RV.assign rfl) rfl ?_
    refine OW.rv (RV.assign rfl) rfl ?_
    refine OW.nil ?_
    refine QW.then_n ?_
    refine CW.ret ?_
    refine QW.then_r ?_
    refine QW.mem (M' := ((none, blk ([] ++ []) 29) :: (some b13, blk [.bool (a0.list), .slice A1 a0.data.length c2, .slice A4 a0.items.length c5] 29) :: ([] ++ N))) (fun w m => m.nil_ent _) ?_
    have er0 := Option.some.inj hf
    obtain ⟨e0, er1⟩ := Prod.mk.inj er0
    clear er0
    subst e0
    subst er1
    refine QW.retG (rs := [.tmp 2, .tmp 3]) ([sl none 0 ([] : List (It)).length 0, .int .i64 ((x15 : Nat) : Int)]) ((none, blk ([] ++ []) 29) :: []) rfl ?_ rfl ?_ ?_ _ (.inl rfl)
    · exact ⟨rfl, rfl, trivial⟩
    · exact ⟨[], [], none, 0, [], Reps.nil, OwnS.nil, (by omega), rfl, rfl⟩
    · exact (fun w m => m.pick [0] 2 rfl rfl)

theorem waybillref07_Beyond_does (w0 : World) (Φ : Ctx) (N : List Ent) (hΦ : ∀ w, Mem w0 w N → Φ w) (cs0_ : List Value) (a0 : It) (res0 : Bool) (ha0 : ItRd Φ cs0_ a0) (hf : waybillref07_Beyond a0 = some res0) : DoesG Try.prog 14 [.agg cs0_.toArray] w0 [] N (fun v G => v = .bool res0) := by
  unfold waybillref07_Beyond at hf
  replace ha0 := ItRd.mono (Ψ := More w0 Φ []) (fun w q => q.1) _ _ ha0
  have h10 := ha0
  obtain ⟨A1, c2, A4, c5, cs7, e9, v3, v6, h8⟩ := ItRd.opn ha0
  subst e9
  have m11 := v3.mx
  have m12 := v6.mx
  refine DoesG.enter Try.func14 rfl Try.ntmps14 rfl (M := (([] ++ N))) rfl ?_
  refine CW.seq ?_
  refine CW.region ?_
  refine OW.boxA rfl rfl (fun b13 => ?_)
  refine OW.rv (RV.assign rfl) rfl ?_
  refine OW.nil ?_
  refine QW.then_n ?_
  refine CW.seq ?_
  refine CW.region ?_
  refine OW.rv (RV.loadW rfl (List.Mem.head _) rfl rfl rfl rfl rfl) rfl ?_
  refine OW.ofN (NV.bsA rfl rfl (by intro x hx; simp at hx; subst hx; rfl) rfl rfl rfl (by decide) (by decide) rfl) rfl (fun b14 => ?_)
  have h17 : Reps (ItRd (More w0 Φ [])) (([.bool (a0.list), .slice A1 a0.data.length c2, .slice A4 a0.items.length c5] : List Value)) [a0] := Reps.one h10
  refine OW.mem (M' := (((some b14), blk ((([.bool (a0.list), .slice A1 a0.data.length c2, .slice A4 a0.items.length c5] : List Value)) ++ []) 29) :: (some b13, blk [.bool (a0.list), .slice A1 a0.data.length c2, .slice A4 a0.items.length c5] 29) :: ([] ++ N))) (fun w m => m) ?_
  have o15 : OwnS (some b14) ([a0] : List (It)).length 1 3 (([.bool (a0.list), .slice A1 a0.data.length c2, .slice A4 a0.items.length c5] : List Value)) [] := ⟨by simp [ItRd], by simp [ItRd], (fun h => nomatch h), by simp⟩
  refine OW.slot (sl (some b14) 0 ([a0] : List (It)).length 1) (rfl) ?_
  refine OW.rv (RV.assign rfl) rfl ?_
  refine OW.nil ?_
  refine QW.then_n ?_
  refine CW.seq ?_
  refine CW.region ?_
  refine OW.rv (RV.assign rfl) rfl ?_
  refine OW.nil ?_
  refine QW.then_n ?_
  refine CW.seq ?_
  refine CW.seq ?_
  refine CW.region ?_
  refine OW.rv (RV.assign rfl) rfl ?_
  refine OW.nil ?_
  refine QW.then_n ?_
  obtain ⟨q18, hq19, hf⟩ := some_bind hf
  refine CW.cutJ (fun L' M' => ∃ B20 : List Ent, q18 = Lp.go () ∧ (∀ w, Mem w0 w B20 → Mem w0 w []) ∧ L' = [] ∧ M' = ((B20 ++ N))) ?_ ?_
  · rintro L23 M24 ⟨B20, e22, hB21, e25, e26⟩
    rw [e25, e26]
    clear e25 e26 L23 M24
    clear hq19
    rw [e22] at hf
    clear e22
    try dsimp only at hf
    refine QW.then_n ?_
    refine CW.seq ?_
    refine CW.region ?_
    refine OW.rv (RV.assign rfl) rfl ?_
    refine OW.nil ?_
    refine QW.then_n ?_
    refine CW.ret ?_
    have e0 := Option.some.inj hf
    subst e0
    refine QW.retG (rs := [.tmp 2]) ([.bool false]) (B20) rfl ?_ rfl ?_ ?_ _ (.inl rfl)
    · exact ⟨rfl, trivial⟩
    · exact rfl
    · exact (fun w m => m)
  · skip
    refine CW.block ?_
    refine CW.loopJ (fun k L' M' => ∃ l29 : List (It), ∃ n36 : Nat, ∃ n38 : Nat, ∃ B27 : List Ent, ∃ cs30 : List Value, ∃ ob32 : Option Nat, ∃ c33 : Nat, ∃ r34 : List Value, (waybillref07_Beyond.l1 k l29 n36 n38) = some q18 ∧ (∀ w, Mem w0 w B27 → Mem w0 w []) ∧ (Reps (ItRd (More w0 Φ B27)) cs30 l29) ∧ (OwnS ob32 l29.length c33 3 cs30 r34) ∧ (n36 ≤ 9223372036854775807) ∧ (n38 ≤ 9223372036854775807) ∧ L' = [(3, sl ob32 0 l29.length c33), (4, .int .i64 ((n36 : Nat) : Int)), (5, .int .i64 ((n38 : Nat) : Int))] ∧ M' = ((ob32, blk (cs30 ++ r34) 29) :: (B27 ++ N))) (k0 := 65540) ⟨([a0] : List (It)), 0, 0, [], (([.bool (a0.list), .slice A1 a0.data.length c2, .slice A4 a0.items.length c5] : List Value)), (some b14), 1, [], hq19, (fun w m => m), h17, o15, (by omega), (by omega), rfl, rfl⟩ ⟨rfl, rfl, rfl, trivial⟩ (fun w m => m.pick [0] 2 rfl rfl) ?_
    clear hq19
    rintro k40 L43 M44 ⟨l29, n36, n38, B27, cs30, ob32, c33, r34, hl41, hB28, h31, o35, b37, b39, e45, e46⟩
    rw [e45, e46]
    clear e45 e46 L43 M44
    rcases k40 with _ | k40
    · rw [waybillref07_Beyond.l1] at hl41; cases hl41
    rw [waybillref07_Beyond.l1] at hl41
    have m47 := o35.mx
    refine CW.seq ?_
    refine CW.seq ?_
    refine CW.region ?_
    refine OW.rv (RV.move rfl) rfl ?_
    refine OW.rv (RV.len rfl rfl) rfl ?_
    refine OW.rv (RV.gtr rfl rfl) rfl ?_
    refine OW.slot (.bool (decide (0 < l29.length))) (congrArg Value.bool (decide_eq_decide.2 (by omega))) ?_
    refine OW.nil ?_
    refine QW.then_n ?_
    by_cases h48 : 0 < l29.length
    · replace hl41 := if_t hl41 h48
      refine CW.is_t rfl (decide_eq_true h48) ?_
      refine CW.skip ?_
      refine QW.then_n ?_
      refine CW.seq ?_
      refine CW.block ?_
      refine CW.seq ?_
      refine CW.seq ?_
      refine CW.region ?_
      refine OW.rv (RV.move rfl) rfl ?_
      refine OW.rv (RV.gtr rfl rfl) rfl ?_
      refine OW.slot (.bool (decide (65536 < n38))) (congrArg Value.bool (decide_eq_decide.2 (by omega))) ?_
      refine OW.nil ?_
      refine QW.then_n ?_
      by_cases h49 : 65536 < n38
      · replace hl41 := if_t hl41 h49
        refine CW.is_t rfl (decide_eq_true h49) ?_
        refine CW.seq ?_
        refine CW.region ?_
        refine OW.rv (RV.assign rfl) rfl ?_
        refine OW.nil ?_
        refine QW.then_n ?_
        refine CW.ret ?_
        refine QW.then_r ?_
        refine QW.block_r ?_
        refine QW.then_r ?_
        refine QW.then_r ?_
        refine QW.block_r ?_
        refine QW.then_r ?_
        have hc := Option.some.inj hl41
        subst hc
        try dsimp only at hf
        refine QW.then_r ?_
        have e0 := Option.some.inj hf
        subst e0
        refine QW.retG (rs := [.tmp 2]) ([.bool true]) ((ob32, blk (cs30 ++ r34) 29) :: B27) rfl ?_ rfl ?_ ?_ _ (.inl rfl)
        · exact ⟨rfl, trivial⟩
        · exact rfl
        · exact (fun w m => m)
      · replace hl41 := if_f hl41 h49
        refine CW.is_f rfl (decide_eq_false h49) ?_
        refine CW.skip ?_
        refine QW.then_n ?_
        refine CW.seq ?_
        refine CW.region ?_
        refine OW.rv (RV.assign rfl) rfl ?_
        refine OW.nil ?_
        refine QW.then_n ?_
        refine CW.seq ?_
        refine CW.seq ?_
        refine CW.region ?_
        refine OW.rv (RV.assign rfl) rfl ?_
        refine OW.nil ?_
        refine QW.then_n ?_
        obtain ⟨q50, hq51, hl41⟩ := some_bind hl41
        refine CW.cutJ (fun L' M' => ∃ n54 : Nat, ∃ l56 : List (It), ∃ B52 : List Ent, ∃ cs57 : List Value, ∃ ob59 : Option Nat, ∃ c60 : Nat, ∃ r61 : List Value, q50 = Lp.go (n54, l56) ∧ (∀ w, Mem w0 w B52 → Mem w0 w B27) ∧ (n54 ≤ 9223372036854775807) ∧ (Reps (ItRd (More w0 Φ B52)) cs57 l56) ∧ (OwnS ob59 l56.length c60 3 cs57 r61) ∧ L' = [(4, .int .i64 ((n54 : Nat) : Int)), (5, .int .i64 ((n38 : Nat) : Int)), (6, sl ob59 0 l56.length c60)] ∧ M' = ((ob59, blk (cs57 ++ r61) 29) :: (B52 ++ N))) ?_ ?_
        · rintro L64 M65 ⟨n54, l56, B52, cs57, ob59, c60, r61, e63, hB53, b55, h58, o62, e66, e67⟩
          rw [e66, e67]
          clear e66 e67 L64 M65
          clear hq51
          rw [e63] at hl41
          clear e63
          try dsimp only at hl41
          have m68 := o62.mx
          refine QW.then_n ?_
          refine CW.region ?_
          refine OW.rv (RV.move rfl) rfl ?_
          refine OW.rv (RV.assign rfl) rfl ?_
          refine OW.nil ?_
          refine QW.block_n ?_
          refine QW.then_n ?_
          refine CW.region ?_
          refine OW.rv (RV.move rfl) rfl ?_
          refine OW.rv (RV.add rfl rfl (by omega)) rfl ?_
          refine OW.slot (.int .i64 (((n38 + 1) : Nat) : Int)) (by first | rfl | (congr 1) | (congr 1; omega)) ?_
          refine OW.rv (RV.assign rfl) rfl ?_
          refine OW.nil ?_
          exact QW.againJ (k' := k40) (Nat.lt_succ_self _) ⟨l56, n54, (n38 + 1), B52, cs57, ob59, c60, r61, hl41, (fun w m => hB28 w (hB53 w (m))), h58, o62, (by omega), (by omega), rfl, rfl⟩ ⟨rfl, rfl, rfl, trivial⟩ (fun w m => m.pick [0] 1 rfl rfl)
        · skip
          refine CW.block ?_
          refine CW.mem (M' := (((ob32, blk (cs30 ++ r34) 29) :: B27) ++ N)) (fun w m => m.pick [0] 1 rfl rfl) ?_
          replace h31 := h31.mono (ItRd.mono (Ψ := More w0 Φ ((ob32, blk (cs30 ++ r34) 29) :: B27)) (fun w q => More.mono (fun w m => (m).tail) q))
          have v90 : View (More w0 Φ ((ob32, blk (cs30 ++ r34) 29) :: B27)) ((ob32).map fun k => ⟨k, 0, none⟩) l29.length c33 3 cs30 := o35.view (by decide) (fun w q => q.2.sublist (List.singleton_sublist.2 (List.mem_cons_self ..)))
          refine CW.mem (M' := ((none, blk ([] ++ []) 29) :: (((ob32, blk (cs30 ++ r34) 29) :: B27) ++ N))) (fun w m => m.nil_ent _) ?_
          refine CW.loopJ (fun k L' M' => ∃ l93 : List (It), ∃ n99 : Nat, ∃ l101 : List (It), ∃ n108 : Nat, ∃ B91 : List Ent, ∃ cs94 : List Value, ∃ A96 : Option Addr, ∃ c97 : Nat, ∃ cs102 : List Value, ∃ ob104 : Option Nat, ∃ c105 : Nat, ∃ r106 : List Value, (waybillref07_Beyond.l2 k l93 n99 l101 n108) = some q50 ∧ (∀ w, Mem w0 w B91 → Mem w0 w ((ob32, blk (cs30 ++ r34) 29) :: B27)) ∧ (Reps (ItRd (More w0 Φ B91)) cs94 l93) ∧ (View (More w0 Φ B91) A96 l93.length c97 3 cs94) ∧ (n99 ≤ 9223372036854775807) ∧ (Reps (ItRd (More w0 Φ B91)) cs102 l101) ∧ (OwnS ob104 l101.length c105 3 cs102 r106) ∧ (n108 ≤ 9223372036854775807) ∧ L' = [(3, .slice A96 l93.length c97), (4, .int .i64 ((n99 : Nat) : Int)), (5, .int .i64 ((n38 : Nat) : Int)), (6, sl ob104 0 l101.length c105), (7, .int .i64 ((n108 : Nat) : Int))] ∧ M' = ((ob104, blk (cs102 ++ r106) 29) :: (B91 ++ N))) (k0 := (l29.length - 0 + 2)) ⟨l29, n36, ([] : List (It)), 0, ((ob32, blk (cs30 ++ r34) 29) :: B27), cs30, ((ob32).map fun k => ⟨k, 0, none⟩), c33, [], none, 0, [], hq51, (fun w m => m), h31, v90, (by omega), Reps.nil, OwnS.nil, (by omega), rfl, rfl⟩ ⟨rfl, rfl, rfl, rfl, rfl, trivial⟩ (fun w m => m.pick [0] 1 rfl rfl) ?_
          clear hq51
          rintro k88 L111 M112 ⟨l93, n99, l101, n108, B91, cs94, A96, c97, cs102, ob104, c105, r106, hl89, hB92, h95, v98, b100, h103, o107, b109, e113, e114⟩
          rw [e113, e114]
          clear e113 e114 L111 M112
          rcases k88 with _ | k88
          · rw [waybillref07_Beyond.l2] at hl89; cases hl89
          rw [waybillref07_Beyond.l2] at hl89
          have m115 := v98.mx
          have m116 := o107.mx
          refine CW.seq ?_
          refine CW.seq ?_
          refine CW.region ?_
          refine OW.rv (RV.move rfl) rfl ?_
          refine OW.rv (RV.move rfl) rfl ?_
          refine OW.rv (RV.len rfl rfl) rfl ?_
          refine OW.rv (RV.lss rfl rfl) rfl ?_
          refine OW.slot (.bool (decide (n108 < l93.length))) (congrArg Value.bool (decide_eq_decide.2 (by omega))) ?_
          refine OW.nil ?_
          refine QW.then_n ?_
          by_cases h117 : n108 < l93.length
          · replace hl89 := if_t hl89 h117
            refine CW.is_t rfl (decide_eq_true h117) ?_
            refine CW.skip ?_
            refine QW.then_n ?_
            refine CW.seq ?_
            refine CW.block ?_
            refine CW.seq ?_
            refine CW.drawsU 17 mixed (by kernel_rfl) rfl ?_
            refine UW.rv 0 rfl (by kernel_rfl) rfl (RV.move rfl) rfl ?_
            refine UW.rv 1 rfl (by kernel_rfl) rfl (RV.move rfl) rfl ?_
            refine UW.rv 2 rfl (by kernel_rfl) rfl (RV.move rfl) rfl ?_
            obtain ⟨x118, hx119, hl89⟩ := some_bind hl89
            have hl120 := lt_of_at hx119
            refine UW.rv 3 rfl (by kernel_rfl) rfl (RV.idx_rs (n108) rfl rfl rfl rfl rfl (v98.isSome (by decide) hl120) (by omega)) rfl ?_
            obtain ⟨cs121, h122, h123⟩ := h95.get ItRd.len hx119
            have h133 := h122
            obtain ⟨A124, c125, A127, c128, cs130, e132, v126, v129, h131⟩ := ItRd.opn h122
            subst e132
            have m134 := v126.mx
            have m135 := v129.mx
            refine UW.rv 4 rfl (by kernel_rfl) rfl (RV.field_at rfl rfl rfl rfl) rfl ?_
            refine UW.rv 5 rfl (by kernel_rfl) rfl (RV.load_at rfl rfl rfl (fun w m => v98.load (More.of hΦ 1 m rfl) h123 1 _ rfl)) rfl ?_
            refine UW.rv 6 rfl (by kernel_rfl) rfl (RV.len rfl rfl) rfl ?_
            obtain ⟨g136, hl89⟩ := some_if hl89
            refine UW.rv 7 rfl (by kernel_rfl) rfl (RV.add rfl rfl (by omega)) rfl ?_
            refine UW.slot (.int .i64 (((n99 + x118.data.length) : Nat) : Int)) (by first | rfl | (congr 1) | (congr 1; omega)) ?_
            refine UW.rv 8 rfl (by kernel_rfl) rfl (RV.move rfl) rfl ?_
            refine UW.rv 9 rfl (by kernel_rfl) rfl (RV.move rfl) rfl ?_
            obtain ⟨x137, hx138, hl89⟩ := some_bind hl89
            have hl139 := lt_of_at hx138
            refine UW.rv 10 rfl (by kernel_rfl) rfl (RV.idx_rs (n108) rfl rfl rfl rfl rfl (v98.isSome (by decide) hl139) (by omega)) rfl ?_
            obtain ⟨cs140, h141, h142⟩ := h95.get ItRd.len hx138
            have h152 := h141
            obtain ⟨A143, c144, A146, c147, cs149, e151, v145, v148, h150⟩ := ItRd.opn h141
            subst e151
            have m153 := v145.mx
            have m154 := v148.mx
            refine UW.rv 11 rfl (by kernel_rfl) rfl (RV.field_at rfl rfl rfl rfl) rfl ?_
            refine UW.rv 12 rfl (by kernel_rfl) rfl (RV.load_at rfl rfl rfl (fun w m => v98.load (More.of hΦ 1 m rfl) h142 2 _ rfl)) rfl ?_
            refine UW.rv 13 rfl (by kernel_rfl) rfl (RV.len rfl rfl) rfl ?_
            obtain ⟨g155, hl89⟩ := some_if hl89
            refine UW.rv 14 rfl (by kernel_rfl) rfl (RV.add rfl rfl (by omega)) rfl ?_
            refine UW.slot (.int .i64 ((((n99 + x118.data.length) + x137.items.length) : Nat) : Int)) (by first | rfl | (congr 1) | (congr 1; omega)) ?_
            obtain ⟨g156, hl89⟩ := some_if hl89
            refine UW.rv 15 rfl (by kernel_rfl) rfl (RV.add rfl rfl (by omega)) rfl ?_
            refine UW.slot (.int .i64 (((((n99 + x118.data.length) + x137.items.length) + 1) : Nat) : Int)) (by first | rfl | (congr 1) | (congr 1; omega)) ?_
            refine UW.rv 16 rfl (by kernel_rfl) rfl (RV.assign rfl) rfl ?_
            refine UW.nil (by kernel_rfl) ?_
            refine OW.nil ?_
            refine QW.then_n ?_
            refine CW.seq ?_
            refine CW.seq ?_
            refine CW.region ?_
            refine OW.rv (RV.move rfl) rfl ?_
            refine OW.rv (RV.gtr rfl rfl) rfl ?_
            refine OW.slot (.bool (decide (2147483647 < (((n99 + x118.data.length) + x137.items.length) + 1)))) (congrArg Value.bool (decide_eq_decide.2 (by omega))) ?_
            refine OW.nil ?_
            refine QW.then_n ?_
            by_cases h157 : 2147483647 < (((n99 + x118.data.length) + x137.items.length) + 1)
            · replace hl89 := if_t hl89 h157
              refine CW.is_t rfl (decide_eq_true h157) ?_
              refine CW.seq ?_
              refine CW.region ?_
              refine OW.rv (RV.assign rfl) rfl ?_
              refine OW.nil ?_
              refine QW.then_n ?_
              refine CW.ret ?_
              refine QW.then_r ?_
              refine QW.block_r ?_
              refine QW.then_r ?_
              refine QW.then_r ?_
              refine QW.block_r ?_
              refine QW.then_r ?_
              have hc := Option.some.inj hl89
              subst hc
              try dsimp only at hl41
              refine QW.then_r ?_
              refine QW.block_r ?_
              refine QW.then_r ?_
              refine QW.then_r ?_
              refine QW.block_r ?_
              refine QW.then_r ?_
              have hc := Option.some.inj hl41
              subst hc
              try dsimp only at hf
              refine QW.then_r ?_
              have e0 := Option.some.inj hf
              subst e0
              refine QW.retG (rs := [.tmp 2]) ([.bool true]) ((ob104, blk (cs102 ++ r106) 29) :: B91) rfl ?_ rfl ?_ ?_ _ (.inl rfl)
              · exact ⟨rfl, trivial⟩
              · exact rfl
              · exact (fun w m => m)
            · replace hl89 := if_f hl89 h157
              refine CW.is_f rfl (decide_eq_false h157) ?_
              refine CW.skip ?_
              refine QW.then_n ?_
              refine CW.region ?_
              refine OW.rv (RV.move rfl) rfl ?_
              refine OW.rv (RV.move rfl) rfl ?_
              refine OW.rv (RV.move rfl) rfl ?_
              obtain ⟨x158, hx159, hl89⟩ := some_bind hl89
              have hl160 := lt_of_at hx159
              refine OW.rv (RV.idx_rs (n108) rfl rfl rfl rfl rfl (v98.isSome (by decide) hl160) (by omega)) rfl ?_
              obtain ⟨cs161, h162, h163⟩ := h95.get ItRd.len hx159
              have h173 := h162
              obtain ⟨A164, c165, A167, c168, cs170, e172, v166, v169, h171⟩ := ItRd.opn h162
              subst e172
              have m174 := v166.mx
              have m175 := v169.mx
              refine OW.rv (RV.field_at rfl rfl rfl rfl) rfl ?_
              refine OW.rv (RV.load_at rfl rfl rfl (fun w m => v98.load (More.of hΦ 1 m rfl) h163 2 _ rfl)) rfl ?_
              obtain ⟨g176, hl89⟩ := some_if hl89
              have h181 := h103.app h171
              refine OW.appendOwn (s := 3) rfl rfl rfl rfl rfl rfl o107 (fun w m => v169.rd w (More.of hΦ 1 m rfl)) v169.n (h171.cell1 ItRd.one) (v169.zero (by decide)) (by decide) (by decide) (by first | omega | (simp only [i29, List.length_nil]; omega)) rfl rfl ((l101 ++ x158.items).length) (cs102 ++ cs170) (List.length_append ..).symm rfl (fun ob177 r178 c179 o180 => ?_)
              have m182 := o180.mx
              refine OW.rv (RV.assign rfl) rfl ?_
              refine OW.nil ?_
              refine QW.block_n ?_
              refine QW.then_n ?_
              refine CW.region ?_
              refine OW.rv (RV.move rfl) rfl ?_
              refine OW.rv (RV.add rfl rfl (by omega)) rfl ?_
              refine OW.slot (.int .i64 (((n108 + 1) : Nat) : Int)) (by first | rfl | (congr 1) | (congr 1; omega)) ?_
              refine OW.rv (RV.assign rfl) rfl ?_
              refine OW.nil ?_
              exact QW.againJ (k' := k88) (Nat.lt_succ_self _) ⟨l93, (((n99 + x118.data.length) + x137.items.length) + 1), (l101 ++ x158.items), (n108 + 1), B91, cs94, A96, c97, (cs102 ++ cs170), ob177, c179, r178, hl89, (fun w m => hB92 w (m)), h95, v98, (by omega), h181, o180, (by omega), rfl, rfl⟩ ⟨rfl, rfl, rfl, rfl, rfl, trivial⟩ (fun w m => m.pick [0] 1 rfl rfl)
          · replace hl89 := if_f hl89 h117
            refine CW.is_f rfl (decide_eq_false h117) ?_
            refine CW.exit ?_
            refine QW.then_x ?_
            refine QW.then_x ?_
            refine QW.block_xe ?_
            exact QW.join ⟨n99, l101, B91, cs102, ob104, c105, r106, (Option.some.inj hl89).symm, (fun w m => (hB92 w (m)).tail), (by omega), h103, o107, rfl, rfl⟩ ⟨rfl, rfl, rfl, trivial⟩ (fun w m => m.pick [0] 1 rfl rfl)
    · replace hl41 := if_f hl41 h48
      refine CW.is_f rfl (decide_eq_false h48) ?_
      refine CW.exit ?_
      refine QW.then_x ?_
      refine QW.then_x ?_
      refine QW.block_xe ?_
      exact QW.join ⟨B27, (Option.some.inj hl41).symm, (fun w m => hB28 w (m)), rfl, rfl⟩ trivial (fun w m => m.pick [] 1 rfl rfl)

theorem waybilllaw07_same_does (w0 : World) (Φ : Ctx) (N : List Ent) (hΦ : ∀ w, Mem w0 w N → Φ w) (A0_ : Option Addr) (c0_ : Nat) (a0 : List (BitVec 8)) (A1_ : Option Addr) (c1_ : Nat) (a1 : List (BitVec 8)) (res0 : Bool) (va0 : View Φ A0_ a0.length c0_ 1 (u8s a0)) (va1 : View Φ A1_ a1.length c1_ 1 (u8s a1)) (hf : waybilllaw07_same a0 a1 = some res0) : DoesG Try.prog 26 [.slice A0_ a0.length c0_, .slice A1_ a1.length c1_] w0 [] N (fun v G => v = .bool res0) := by
  unfold waybilllaw07_same at hf
  replace va0 := va0.mono (Ψ := More w0 Φ []) (fun w q => q.1)
  replace va1 := va1.mono (Ψ := More w0 Φ []) (fun w q => q.1)
  have m1 := va0.mx
  have m2 := va1.mx
  refine DoesG.enter Try.func26 rfl Try.ntmps26 rfl (M := (([] ++ N))) rfl ?_
  refine CW.seq ?_
  refine CW.region ?_
  refine OW.rv (RV.assign rfl) rfl ?_
  refine OW.nil ?_
  refine QW.then_n ?_
  refine CW.seq ?_
  refine CW.seq ?_
  refine CW.region ?_
  refine OW.rv (RV.move rfl) rfl ?_
  refine OW.rv (RV.len rfl rfl) rfl ?_
  refine OW.rv (RV.move rfl) rfl ?_
  refine OW.rv (RV.len rfl rfl) rfl ?_
  refine OW.rv (RV.neq rfl rfl) rfl ?_
  refine OW.slot (.bool (!decide (a0.length = a1.length))) (congrArg (fun b => Value.bool (!b)) (decide_eq_decide.2 (by omega))) ?_
  refine OW.nil ?_
  refine QW.then_n ?_
  by_cases h3 : a0.length = a1.length
  · replace hf := if_t hf h3
    refine CW.is_f rfl (congrArg (fun b => !b) (decide_eq_true h3)) ?_
    refine CW.skip ?_
    refine QW.then_n ?_
    refine CW.seq ?_
    refine CW.seq ?_
    refine CW.region ?_
    refine OW.rv (RV.assign rfl) rfl ?_
    refine OW.nil ?_
    refine QW.then_n ?_
    obtain ⟨q4, hq5, hf⟩ := some_bind hf
    refine CW.cutJ (fun L' M' => q4 = Lp.go () ∧ L' = [] ∧ M' = (([] ++ N))) ?_ ?_
    · rintro L7 M8 ⟨e6, e9, e10⟩
      rw [e9, e10]
      clear e9 e10 L7 M8
      clear hq5
      rw [e6] at hf
      clear e6
      try dsimp only at hf
      refine QW.then_n ?_
      refine CW.seq ?_
      refine CW.region ?_
      refine OW.rv (RV.assign rfl) rfl ?_
      refine OW.nil ?_
      refine QW.then_n ?_
      refine CW.ret ?_
      have e0 := Option.some.inj hf
      subst e0
      refine QW.retG (rs := [.tmp 4]) ([.bool true]) ([]) rfl ?_ rfl ?_ ?_ _ (.inl rfl)
      · exact ⟨rfl, trivial⟩
      · exact rfl
      · exact (fun w m => m)
    · skip
      refine CW.block ?_
      refine CW.loopJ (fun k L' M' => ∃ n11 : Nat, (waybilllaw07_same.l1 a0 a1 k n11) = some q4 ∧ (n11 ≤ 9223372036854775807) ∧ L' = [(0, .slice A0_ a0.length c0_), (1, .slice A1_ a1.length c1_), (5, .int .i64 ((n11 : Nat) : Int))] ∧ M' = (([] ++ N))) (k0 := (a0.length - 0 + 2)) ⟨0, hq5, (by omega), rfl, rfl⟩ ⟨rfl, rfl, rfl, trivial⟩ (fun w m => m.pick [] 0 rfl rfl) ?_
      clear hq5
      rintro k13 L16 M17 ⟨n11, hl14, b12, e18, e19⟩
      rw [e18, e19]
      clear e18 e19 L16 M17
      rcases k13 with _ | k13
      · rw [waybilllaw07_same.l1] at hl14; cases hl14
      rw [waybilllaw07_same.l1] at hl14
      refine CW.seq ?_
      refine CW.seq ?_
      refine CW.region ?_
      refine OW.rv (RV.move rfl) rfl ?_
      refine OW.rv (RV.move rfl) rfl ?_
      refine OW.rv (RV.len rfl rfl) rfl ?_
      refine OW.rv (RV.lss rfl rfl) rfl ?_
      refine OW.slot (.bool (decide (n11 < a0.length))) (congrArg Value.bool (decide_eq_decide.2 (by omega))) ?_
      refine OW.nil ?_
      refine QW.then_n ?_
      by_cases h20 : n11 < a0.length
      · replace hl14 := if_t hl14 h20
        refine CW.is_t rfl (decide_eq_true h20) ?_
        refine CW.skip ?_
        refine QW.then_n ?_
        refine CW.seq ?_
        refine CW.block ?_
        refine CW.seq ?_
        refine CW.drawsU 9 mixed (by kernel_rfl) rfl ?_
        refine UW.rv 0 rfl (by kernel_rfl) rfl (RV.move rfl) rfl ?_
        refine UW.rv 1 rfl (by kernel_rfl) rfl (RV.move rfl) rfl ?_
        obtain ⟨x21, hx22, hl14⟩ := some_bind hl14
        have hl23 := lt_of_at hx22
        refine UW.rv 2 rfl (by kernel_rfl) rfl (RV.idx_r (n11) rfl rfl rfl rfl rfl (va0.isSome (by decide) hl23) (by omega)) rfl ?_
        refine UW.rv 3 rfl (by kernel_rfl) rfl (RV.load_at rfl rfl rfl (fun w m => va0.cell (More.of hΦ 0 m rfl) (u8s_at hx22))) rfl ?_
        refine UW.rv 4 rfl (by kernel_rfl) rfl (RV.move rfl) rfl ?_
        refine UW.rv 5 rfl (by kernel_rfl) rfl (RV.move rfl) rfl ?_
        obtain ⟨x24, hx25, hl14⟩ := some_bind hl14
        have hl26 := lt_of_at hx25
        refine UW.rv 6 rfl (by kernel_rfl) rfl (RV.idx_r (n11) rfl rfl rfl rfl rfl (va1.isSome (by decide) hl26) (by omega)) rfl ?_
        refine UW.rv 7 rfl (by kernel_rfl) rfl (RV.load_at rfl rfl rfl (fun w m => va1.cell (More.of hΦ 0 m rfl) (u8s_at hx25))) rfl ?_
        refine UW.rv 8 rfl (by kernel_rfl) rfl (RV.neq8 rfl (by first | rfl | exact lit8 _ rfl) rfl (by first | rfl | exact lit8 _ rfl)) rfl ?_
        refine UW.nil (by kernel_rfl) ?_
        refine OW.nil ?_
        refine QW.then_n ?_
        by_cases h27 : x21 = x24
        · replace hl14 := if_t hl14 h27
          refine CW.is_f rfl (congrArg (fun b => !b) (decide_eq_true h27)) ?_
          refine CW.skip ?_
          refine QW.block_n ?_
          refine QW.then_n ?_
          refine CW.region ?_
          refine OW.rv (RV.move rfl) rfl ?_
          refine OW.rv (RV.add rfl rfl (by omega)) rfl ?_
          refine OW.slot (.int .i64 (((n11 + 1) : Nat) : Int)) (by first | rfl | (congr 1) | (congr 1; omega)) ?_
          refine OW.rv (RV.assign rfl) rfl ?_
          refine OW.nil ?_
          exact QW.againJ (k' := k13) (Nat.lt_succ_self _) ⟨(n11 + 1), hl14, (by omega), rfl, rfl⟩ ⟨rfl, rfl, rfl, trivial⟩ (fun w m => m.pick [] 0 rfl rfl)
        · replace hl14 := if_f hl14 h27
          refine CW.is_t rfl (congrArg (fun b => !b) (decide_eq_false h27)) ?_
          refine CW.seq ?_
          refine CW.region ?_
          refine OW.rv (RV.assign rfl) rfl ?_
          refine OW.nil ?_
          refine QW.then_n ?_
          refine CW.ret ?_
          refine QW.block_r ?_
          refine QW.then_r ?_
          refine QW.then_r ?_
          refine QW.block_r ?_
          refine QW.then_r ?_
          have hc := Option.some.inj hl14
          subst hc
          try dsimp only at hf
          refine QW.then_r ?_
          have e0 := Option.some.inj hf
          subst e0
          refine QW.retG (rs := [.tmp 4]) ([.bool false]) ([]) rfl ?_ rfl ?_ ?_ _ (.inl rfl)
          · exact ⟨rfl, trivial⟩
          · exact rfl
          · exact (fun w m => m)
      · replace hl14 := if_f hl14 h20
        refine CW.is_f rfl (decide_eq_false h20) ?_
        refine CW.exit ?_
        refine QW.then_x ?_
        refine QW.then_x ?_
        refine QW.block_xe ?_
        exact QW.join ⟨(Option.some.inj hl14).symm, rfl, rfl⟩ trivial (fun w m => m.pick [] 0 rfl rfl)
  · replace hf := if_f hf h3
    refine CW.is_t rfl (congrArg (fun b => !b) (decide_eq_false h3)) ?_
    refine CW.seq ?_
    refine CW.region ?_
    refine OW.rv (RV.assign rfl) rfl ?_
    refine OW.nil ?_
    refine QW.then_n ?_
    refine CW.ret ?_
    refine QW.then_r ?_
    have e0 := Option.some.inj hf
    subst e0
    refine QW.retG (rs := [.tmp 4]) ([.bool false]) ([]) rfl ?_ rfl ?_ ?_ _ (.inl rfl)
    · exact ⟨rfl, trivial⟩
    · exact rfl
    · exact (fun w m => m)

theorem waybilllaw07_items_does (w0 : World) (Φ : Ctx) (N : List Ent) (hΦ : ∀ w, Mem w0 w N → Φ w) (A0_ : Option Addr) (c0_ : Nat) (cs0_ : List Value) (a0 : List (It)) (A1_ : Option Addr) (c1_ : Nat) (cs1_ : List Value) (a1 : List (It)) (res0 : Bool) (va0 : View Φ A0_ a0.length c0_ 3 cs0_) (ha0 : Reps (ItRd Φ) cs0_ a0) (va1 : View Φ A1_ a1.length c1_ 3 cs1_) (ha1 : Reps (ItRd Φ) cs1_ a1) (hf : waybilllaw07_items a0 a1 = some res0) : DoesG Try.prog 28 [.slice A0_ a0.length c0_, .slice A1_ a1.length c1_] w0 [] N (fun v G => v = .bool res0) := by
  unfold waybilllaw07_items at hf
  replace va0 := va0.mono (Ψ := More w0 Φ []) (fun w q => q.1)
  replace va1 := va1.mono (Ψ := More w0 Φ []) (fun w q => q.1)
  replace ha0 := ha0.mono (ItRd.mono (Ψ := More w0 Φ []) (fun w q => q.1))
  replace ha1 := ha1.mono (ItRd.mono (Ψ := More w0 Φ []) (fun w q => q.1))
  have m1 := va0.mx
  have m2 := va1.mx
  refine DoesG.enter Try.func28 rfl Try.ntmps28 rfl (M := (([] ++ N))) rfl ?_
  refine CW.seq ?_
  refine CW.region ?_
  refine OW.rv (RV.assign rfl) rfl ?_
  refine OW.nil ?_
  refine QW.then_n ?_
  refine CW.seq ?_
  refine CW.region ?_
  refine OW.rv (RV.move rfl) rfl ?_
  refine OW.rv (RV.buildSt (l := [.bool false, .slice none 0 0, .slice none 0 0]) (cs := [.bool true, .slice none 0 0, .slice A0_ a0.length c0_]) [(0, [.bool true]), (2, [.slice A0_ a0.length c0_])] rfl rfl rfl rfl rfl rfl rfl) rfl ?_
  refine OW.rv (RV.move rfl) rfl ?_
  refine OW.rv (RV.buildSt (l := [.bool false, .slice none 0 0, .slice none 0 0]) (cs := [.bool true, .slice none 0 0, .slice A1_ a1.length c1_]) [(0, [.bool true]), (2, [.slice A1_ a1.length c1_])] rfl rfl rfl rfl rfl rfl rfl) rfl ?_
  have v3 : View (More w0 Φ []) none ([] : List (BitVec 8)).length 0 1 (u8s []) := View.nil
  have v4 : View (More w0 Φ []) none ([] : List (BitVec 8)).length 0 1 (u8s []) := View.nil
  obtain ⟨x6, hx5, hf⟩ := some_bind hf
  refine OW.callG Try.call17 rfl (waybillref07_Same_does w0 (More w0 Φ []) (([] ++ N)) (fun w m => More.of hΦ 0 m rfl) [.bool true, .slice none 0 0, .slice A0_ a0.length c0_] (It.mk true ([] : List (BitVec 8)) a0) [.bool true, .slice none 0 0, .slice A1_ a1.length c1_] (It.mk true ([] : List (BitVec 8)) a1) x6 (ItRd.mk v3 va0 ha0) (ItRd.mk v4 va1 ha1) hx5) rfl rfl ?_
  rintro _ G7 rfl
  refine OW.mem (M' := (([] ++ N))) (fun w m => m.appR) ?_
  refine OW.rv (RV.assign rfl) rfl ?_
  refine OW.nil ?_
  refine QW.then_n ?_
  refine CW.ret ?_
  have e0 := Option.some.inj hf
  subst e0
  refine QW.retG (rs := [.tmp 4]) ([.bool (x6)]) ([]) rfl ?_ rfl ?_ ?_ _ (.inl rfl)
  · exact ⟨rfl, trivial⟩
  · exact rfl
  · exact (fun w m => m)

theorem waybilllaw07_twin_does (w0 : World) (Φ : Ctx) (N : List Ent) (hΦ : ∀ w, Mem w0 w N → Φ w) (cs0_ : List Value) (a0 : It) (res0 : It) (ha0 : ItRd Φ cs0_ a0) (hf : waybilllaw07_twin a0 = some res0) : DoesG Try.prog 57 [.agg cs0_.toArray] w0 [] N (fun v G => ∃ B : List Ent, ∃ cr0 : List Value, (ItRd (More w0 Φ B) cr0 res0) ∧ v = .agg cr0.toArray ∧ G = B) := by
  unfold waybilllaw07_twin at hf
  replace ha0 := ItRd.mono (Ψ := More w0 Φ []) (fun w q => q.1) _ _ ha0
  have h10 := ha0
  obtain ⟨A1, c2, A4, c5, cs7, e9, v3, v6, h8⟩ := ItRd.opn ha0
  subst e9
  have m11 := v3.mx
  have m12 := v6.mx
  refine DoesG.enter Try.func57 rfl Try.ntmps57 rfl (M := (([] ++ N))) rfl ?_
  refine CW.seq ?_
  refine CW.region ?_
  refine OW.boxA rfl rfl (fun b13 => ?_)
  refine OW.alloc (l := [.bool false, .slice none 0 0, .slice none 0 0]) rfl rfl rfl (fun b14 => ?_)
  refine OW.nil ?_
  refine QW.then_n ?_
  refine CW.seq ?_
  refine CW.region ?_
  refine OW.rv (RV.loadW rfl (List.Mem.tail _ (List.Mem.head _)) rfl rfl rfl rfl rfl) rfl ?_
  refine OW.ofN (NV.bsA rfl rfl (by intro x hx; simp at hx; subst hx; rfl) rfl rfl rfl (by decide) (by decide) rfl) rfl (fun b15 => ?_)
  have h18 : Reps (ItRd (More w0 Φ [])) (([.bool (a0.list), .slice A1 a0.data.length c2, .slice A4 a0.items.length c5] : List Value)) [a0] := Reps.one h10
  refine OW.mem (M' := (((some b15), blk ((([.bool (a0.list), .slice A1 a0.data.length c2, .slice A4 a0.items.length c5] : List Value)) ++ []) 29) :: (some b14, blk [.bool false, .slice none 0 0, .slice none 0 0] 29) :: (some b13, blk [.bool (a0.list), .slice A1 a0.data.length c2, .slice A4 a0.items.length c5] 29) :: ([] ++ N))) (fun w m => m) ?_
  have o16 : OwnS (some b15) ([a0] : List (It)).length 1 3 (([.bool (a0.list), .slice A1 a0.data.length c2, .slice A4 a0.items.length c5] : List Value)) [] := ⟨by simp [ItRd], by simp [ItRd], (fun h => nomatch h), by simp⟩
  refine OW.slot (sl (some b15) 0 ([a0] : List (It)).length 1) (rfl) ?_
  refine OW.mem (M' := (some b14, blk [.bool false, .slice none 0 0, .slice none 0 0] 29) :: (some b13, blk [.bool (a0.list), .slice A1 a0.data.length c2, .slice A4 a0.items.length c5] 29) :: ((((some b15), blk ((([.bool (a0.list), .slice A1 a0.data.length c2, .slice A4 a0.items.length c5] : List Value)) ++ []) 29) :: []) ++ N)) (fun w m => m.pick [1, 2, 0] 3 rfl rfl) ?_
  replace h10 := ItRd.mono (Ψ := More w0 Φ (((some b15), blk ((([.bool (a0.list), .slice A1 a0.data.length c2, .slice A4 a0.items.length c5] : List Value)) ++ []) 29) :: [])) (fun w q => More.mono (fun w m => (m).tail) q) _ _ h10
  replace v3 := v3.mono (Ψ := More w0 Φ (((some b15), blk ((([.bool (a0.list), .slice A1 a0.data.length c2, .slice A4 a0.items.length c5] : List Value)) ++ []) 29) :: [])) (fun w q => More.mono (fun w m => (m).tail) q)
  replace v6 := v6.mono (Ψ := More w0 Φ (((some b15), blk ((([.bool (a0.list), .slice A1 a0.data.length c2, .slice A4 a0.items.length c5] : List Value)) ++ []) 29) :: [])) (fun w q => More.mono (fun w m => (m).tail) q)
  replace h8 := h8.mono (ItRd.mono (Ψ := More w0 Φ (((some b15), blk ((([.bool (a0.list), .slice A1 a0.data.length c2, .slice A4 a0.items.length c5] : List Value)) ++ []) 29) :: [])) (fun w q => More.mono (fun w m => (m).tail) q))
  replace h18 := h18.mono (ItRd.mono (Ψ := More w0 Φ (((some b15), blk ((([.bool (a0.list), .slice A1 a0.data.length c2, .slice A4 a0.items.length c5] : List Value)) ++ []) 29) :: [])) (fun w q => More.mono (fun w m => (m).tail) q))
  have v19 : View (More w0 Φ (((some b15), blk ((([.bool (a0.list), .slice A1 a0.data.length c2, .slice A4 a0.items.length c5] : List Value)) ++ []) 29) :: [])) (((some b15)).map fun k => ⟨k, 0, none⟩) ([a0] : List (It)).length 1 3 (([.bool (a0.list), .slice A1 a0.data.length c2, .slice A4 a0.items.length c5] : List Value)) := o16.view (by decide) (fun w q => q.2.sublist (List.singleton_sublist.2 (List.mem_cons_self ..)))
  obtain ⟨x21, hx20, hf⟩ := some_bind hf
  refine OW.callG Try.call16 rfl (waybillref07_Copy_does w0 (More w0 Φ (((some b15), blk ((([.bool (a0.list), .slice A1 a0.data.length c2, .slice A4 a0.items.length c5] : List Value)) ++ []) 29) :: [])) ((some b14, blk [.bool false, .slice none 0 0, .slice none 0 0] 29) :: (some b13, blk [.bool (a0.list), .slice A1 a0.data.length c2, .slice A4 a0.items.length c5] 29) :: ((((some b15), blk ((([.bool (a0.list), .slice A1 a0.data.length c2, .slice A4 a0.items.length c5] : List Value)) ++ []) 29) :: []) ++ N)) (fun w m => More.of hΦ 2 m rfl) (((some b15)).map fun k => ⟨k, 0, none⟩) 1 (([.bool (a0.list), .slice A1 a0.data.length c2, .slice A4 a0.items.length c5] : List Value)) ([a0] : List (It)) x21 v19 h18 hx20) rfl rfl ?_
  rintro L29 M30 ⟨B22, cs23, ob25, c26, r27, h24, o28, e31, e32⟩
  rw [e31, e32]
  clear e31 e32 L29 M30
  refine OW.mem (M' := ((ob25, blk (cs23 ++ r27) 29) :: (some b14, blk [.bool false, .slice none 0 0, .slice none 0 0] 29) :: (some b13, blk [.bool (a0.list), .slice A1 a0.data.length c2, .slice A4 a0.items.length c5] 29) :: ((B22 ++ (((some b15), blk ((([.bool (a0.list), .slice A1 a0.data.length c2, .slice A4 a0.items.length c5] : List Value)) ++ []) 29) :: [])) ++ N))) (fun w m => by have h := Mem.sinkAt (A := B22) m 1 2 rfl rfl; exact h) ?_
  replace h10 := ItRd.mono (Ψ := More w0 Φ (B22 ++ (((some b15), blk ((([.bool (a0.list), .slice A1 a0.data.length c2, .slice A4 a0.items.length c5] : List Value)) ++ []) 29) :: []))) (fun w q => More.mono (fun w m => (m).appR) q) _ _ h10
  replace v3 := v3.mono (Ψ := More w0 Φ (B22 ++ (((some b15), blk ((([.bool (a0.list), .slice A1 a0.data.length c2, .slice A4 a0.items.length c5] : List Value)) ++ []) 29) :: []))) (fun w q => More.mono (fun w m => (m).appR) q)
  replace v6 := v6.mono (Ψ := More w0 Φ (B22 ++ (((some b15), blk ((([.bool (a0.list), .slice A1 a0.data.length c2, .slice A4 a0.items.length c5] : List Value)) ++ []) 29) :: []))) (fun w q => More.mono (fun w m => (m).appR) q)
  replace h8 := h8.mono (ItRd.mono (Ψ := More w0 Φ (B22 ++ (((some b15), blk ((([.bool (a0.list), .slice A1 a0.data.length c2, .slice A4 a0.items.length c5] : List Value)) ++ []) 29) :: []))) (fun w q => More.mono (fun w m => (m).appR) q))
  replace v19 := v19.mono (Ψ := More w0 Φ (B22 ++ (((some b15), blk ((([.bool (a0.list), .slice A1 a0.data.length c2, .slice A4 a0.items.length c5] : List Value)) ++ []) 29) :: []))) (fun w q => More.mono (fun w m => (m).appR) q)
  replace h18 := h18.mono (ItRd.mono (Ψ := More w0 Φ (B22 ++ (((some b15), blk ((([.bool (a0.list), .slice A1 a0.data.length c2, .slice A4 a0.items.length c5] : List Value)) ++ []) 29) :: []))) (fun w q => More.mono (fun w m => (m).appR) q))
  replace h24 := h24.mono (ItRd.mono (Ψ := (More w0 Φ (B22 ++ (((some b15), blk ((([.bool (a0.list), .slice A1 a0.data.length c2, .slice A4 a0.items.length c5] : List Value)) ++ []) 29) :: [])))) (fun w q => More.flat q))
  have m33 := o28.mx
  refine OW.mem (M' := (some b14, blk [.bool false, .slice none 0 0, .slice none 0 0] 29) :: (some b13, blk [.bool (a0.list), .slice A1 a0.data.length c2, .slice A4 a0.items.length c5] 29) :: (((ob25, blk (cs23 ++ r27) 29) :: (B22 ++ (((some b15), blk ((([.bool (a0.list), .slice A1 a0.data.length c2, .slice A4 a0.items.length c5] : List Value)) ++ []) 29) :: []))) ++ N)) (fun w m => m.pick [1, 2, 0] 3 rfl rfl) ?_
  replace h10 := ItRd.mono (Ψ := More w0 Φ ((ob25, blk (cs23 ++ r27) 29) :: (B22 ++ (((some b15), blk ((([.bool (a0.list), .slice A1 a0.data.length c2, .slice A4 a0.items.length c5] : List Value)) ++ []) 29) :: [])))) (fun w q => More.mono (fun w m => (m).tail) q) _ _ h10
  replace v3 := v3.mono (Ψ := More w0 Φ ((ob25, blk (cs23 ++ r27) 29) :: (B22 ++ (((some b15), blk ((([.bool (a0.list), .slice A1 a0.data.length c2, .slice A4 a0.items.length c5] : List Value)) ++ []) 29) :: [])))) (fun w q => More.mono (fun w m => (m).tail) q)
  replace v6 := v6.mono (Ψ := More w0 Φ ((ob25, blk (cs23 ++ r27) 29) :: (B22 ++ (((some b15), blk ((([.bool (a0.list), .slice A1 a0.data.length c2, .slice A4 a0.items.length c5] : List Value)) ++ []) 29) :: [])))) (fun w q => More.mono (fun w m => (m).tail) q)
  replace h8 := h8.mono (ItRd.mono (Ψ := More w0 Φ ((ob25, blk (cs23 ++ r27) 29) :: (B22 ++ (((some b15), blk ((([.bool (a0.list), .slice A1 a0.data.length c2, .slice A4 a0.items.length c5] : List Value)) ++ []) 29) :: [])))) (fun w q => More.mono (fun w m => (m).tail) q))
  replace v19 := v19.mono (Ψ := More w0 Φ ((ob25, blk (cs23 ++ r27) 29) :: (B22 ++ (((some b15), blk ((([.bool (a0.list), .slice A1 a0.data.length c2, .slice A4 a0.items.length c5] : List Value)) ++ []) 29) :: [])))) (fun w q => More.mono (fun w m => (m).tail) q)
  replace h18 := h18.mono (ItRd.mono (Ψ := More w0 Φ ((ob25, blk (cs23 ++ r27) 29) :: (B22 ++ (((some b15), blk ((([.bool (a0.list), .slice A1 a0.data.length c2, .slice A4 a0.items.length c5] : List Value)) ++ []) 29) :: [])))) (fun w q => More.mono (fun w m => (m).tail) q))
  replace h24 := h24.mono (ItRd.mono (Ψ := More w0 Φ ((ob25, blk (cs23 ++ r27) 29) :: (B22 ++ (((some b15), blk ((([.bool (a0.list), .slice A1 a0.data.length c2, .slice A4 a0.items.length c5] : List Value)) ++ []) 29) :: [])))) (fun w q => More.mono (fun w m => (m).tail) q))
  have v34 : View (More w0 Φ ((ob25, blk (cs23 ++ r27) 29) :: (B22 ++ (((some b15), blk ((([.bool (a0.list), .slice A1 a0.data.length c2, .slice A4 a0.items.length c5] : List Value)) ++ []) 29) :: [])))) ((ob25).map fun k => ⟨k, 0, none⟩) x21.length c26 3 cs23 := o28.view (by decide) (fun w q => q.2.sublist (List.singleton_sublist.2 (List.mem_cons_self ..)))
  obtain ⟨x35, hx36, hf⟩ := some_bind hf
  have hl37 := lt_of_at hx36
  refine OW.rv (RV.idx_rs (0) rfl rfl rfl rfl rfl (v34.isSome (by decide) hl37) (by omega)) rfl ?_
  obtain ⟨cs38, h39, h40⟩ := h24.get ItRd.len hx36
  have h50 := h39
  obtain ⟨A41, c42, A44, c45, cs47, e49, v43, v46, h48⟩ := ItRd.opn h39
  subst e49
  have m51 := v43.mx
  have m52 := v46.mx
  refine OW.rv (RV.loadAs rfl rfl rfl rfl (fun w m => v34.load (More.of hΦ 2 m rfl) h40) rfl) rfl ?_
  refine OW.sv (SV.storeW rfl rfl rfl (by intro u hu; simp at hu; rcases hu with rfl | rfl | rfl <;> rfl) rfl rfl rfl) ?_
  refine OW.nil ?_
  refine QW.then_n ?_
  refine CW.ret ?_
  have e0 := Option.some.inj hf
  subst e0
  refine QW.retG (rs := [.cell 2 29]) ([.agg [.bool (x35.list), .slice A41 x35.data.length c42, .slice A44 x35.items.length c45].toArray]) (((ob25, blk (cs23 ++ r27) 29) :: (B22 ++ (((some b15), blk ((([.bool (a0.list), .slice A1 a0.data.length c2, .slice A4 a0.items.length c5] : List Value)) ++ []) 29) :: [])))) rfl ?_ rfl ?_ ?_ _ (.inl rfl)
  · exact ⟨⟨_, _, _, _, rfl, (List.Mem.head _), rfl, rfl, rfl, rfl⟩, trivial⟩
  · exact ⟨((ob25, blk (cs23 ++ r27) 29) :: (B22 ++ (((some b15), blk ((([.bool (a0.list), .slice A1 a0.data.length c2, .slice A4 a0.items.length c5] : List Value)) ++ []) 29) :: []))), [.bool (x35.list), .slice A41 x35.data.length c42, .slice A44 x35.items.length c45], h50, rfl, rfl⟩
  · exact (fun w m => m.pick [] 2 rfl rfl)
end Go.Fw.Try
