/- Part of a proof: rules that its law uses. -/
import Derived.Test.YtpkcehpoohmbfaaDoorTy
import Derived.Test.YtpkcehpoohmbfaaDoorExt
import Derived.Test.YtpkcehpoohmbfaaDoorKecW0
import Derived.Test.YtpkcehpoohmbfaaDoorKecWR
import Derived.Test.YtpkcehpoohmbfaaDoorFwD
import Derived.Test.YtpkcehpoohmbfaaDoorAddP1
import Derived.Test.YtpkcehpoohmbfaaDoorKecP2
import Derived.Test.YtpkcehpoohmbfaaDoorKecP3
import Derived.Test.YtpkcehpoohmbfaaDoorRlpP1
import Derived.Test.YtpkcehpoohmbfaaDoorRlpP2
import Derived.Test.YtpkcehpoohmbfaaDoorRlpP3
import Derived.Test.YtpkcehpoohmbfaaDoorAddressCreatesW1
namespace Go.Fw.Tryd
open Go Go.Proofs Go.Fw
set_option maxRecDepth 100000
set_option linter.unusedVariables false
set_option linter.unusedSimpArgs false
set_option maxHeartbeats 1000000
theorem waybillref07_Check_does (w0 : World) (Φ : Ctx) (N : List Ent) (hΦ : ∀ w, Mem w0 w N → Φ w) (cs0_ : List Value) (a0 : It) (res0 : Nat) (ha0 : ItRd Φ cs0_ a0) (hf : waybillref07_Check a0 = some res0) : DoesG Tryd.prog 62 [.agg cs0_.toArray] w0 [] N (fun v G => (res0 ≤ 9223372036854775807) ∧ v = .int .i64 ((res0 : Nat) : Int)) := by
 unfold waybillref07_Check at hf
 replace ha0 := ItRd.mono (Ψ := More w0 Φ []) (fun w q => q.1) _ _ ha0
 have h10 := ha0
 obtain ⟨A1, c2, A4, c5, cs7, e9, v3, v6, h8⟩ := ItRd.opn ha0
 subst e9
 have m11 := v3.mx
 have m12 := v6.mx
 refine DoesG.enter Tryd.func62 rfl Tryd.ntmps62 rfl (M := (([] ++ N))) rfl ?_
 refine CW.seq (CW.region ?_)
 refine OW.boxA rfl rfl (fun b13 => ?_)
 refine OW.rv (RV.assign rfl) rfl ?_
 refine OW.nil (QW.then_n (CW.seq (CW.seq (CW.region ?_))))
 refine OW.rv (RV.loadW rfl (List.Mem.head _) rfl rfl rfl rfl rfl) rfl ?_
 obtain ⟨x15, hx14, hf⟩ := some_bind hf
 refine OW.callG Tryd.call106 rfl (waybillref07_oddly_does w0 (More w0 Φ []) ((some b13, blk [.bool (a0.list), .slice A1 a0.data.length c2, .slice A4 a0.items.length c5] 58) :: ([] ++ N)) (fun w m => More.of hΦ 1 m rfl) [.bool (a0.list), .slice A1 a0.data.length c2, .slice A4 a0.items.length c5] a0 x15 h10 hx14) rfl rfl ?_
 rintro _ G16 rfl
 refine OW.mem (M' := ((some b13, blk [.bool (a0.list), .slice A1 a0.data.length c2, .slice A4 a0.items.length c5] 58) :: ([] ++ N))) (fun w m => m.appR) ?_
 refine OW.nil (QW.then_n ?_)
 by_cases h18 : x15 = true
 ·replace hf := if_t hf h18
  refine CW.is_t rfl (h18) ?_
  refine CW.seq (CW.region ?_)
  refine OW.rv (RV.assign rfl) rfl ?_
  refine OW.nil (QW.then_n (CW.ret (QW.then_r ?_)))
  have e0 := Option.some.inj hf
  subst e0
  refine QW.retG (rs := [.tmp 2]) ([.int .i64 (78 : Int)]) ((some b13, blk [.bool (a0.list), .slice A1 a0.data.length c2, .slice A4 a0.items.length c5] 58) :: []) rfl ?_ rfl ?_ ?_ _ (.inl rfl)
  ·exact ⟨rfl, trivial⟩
  ·exact ⟨(by omega), rfl⟩
  ·exact (fun w m => m)
 ·replace hf := if_f hf h18
  refine CW.is_f rfl (Bool.eq_false_iff.2 h18) ?_
  refine CW.skip (QW.then_n (CW.seq (CW.seq (CW.region ?_))))
  refine OW.rv (RV.loadW rfl (List.Mem.head _) rfl rfl rfl rfl rfl) rfl ?_
  obtain ⟨x20, hx19, hf⟩ := some_bind hf
  refine OW.callG Tryd.call107 rfl (waybillref07_depth_does w0 (More w0 Φ []) ((some b13, blk [.bool (a0.list), .slice A1 a0.data.length c2, .slice A4 a0.items.length c5] 58) :: ([] ++ N)) (fun w m => More.of hΦ 1 m rfl) [.bool (a0.list), .slice A1 a0.data.length c2, .slice A4 a0.items.length c5] a0 x20 h10 hx19) rfl rfl ?_
  rintro _ G22 ⟨b21, rfl⟩
  refine OW.mem (M' := ((some b13, blk [.bool (a0.list), .slice A1 a0.data.length c2, .slice A4 a0.items.length c5] 58) :: ([] ++ N))) (fun w m => m.appR) ?_
  refine OW.rv (RV.gtr rfl rfl) rfl ?_
  refine OW.slot (.bool (decide (1024 < x20))) (congrArg Value.bool (decide_eq_decide.2 (by omega))) ?_
  refine OW.nil (QW.then_n ?_)
  by_cases h24 : 1024 < x20
  ·replace hf := if_t hf h24
   refine CW.is_t rfl (decide_eq_true h24) ?_
   refine CW.seq (CW.region ?_)
   refine OW.rv (RV.assign rfl) rfl ?_
   refine OW.nil (QW.then_n (CW.ret (QW.then_r ?_)))
   have e0 := Option.some.inj hf
   subst e0
   refine QW.retG (rs := [.tmp 2]) ([.int .i64 (74 : Int)]) ((some b13, blk [.bool (a0.list), .slice A1 a0.data.length c2, .slice A4 a0.items.length c5] 58) :: []) rfl ?_ rfl ?_ ?_ _ (.inl rfl)
   ·exact ⟨rfl, trivial⟩
   ·exact ⟨(by omega), rfl⟩
   ·exact (fun w m => m)
  ·replace hf := if_f hf h24
   refine CW.is_f rfl (decide_eq_false h24) ?_
   refine CW.skip (QW.then_n (CW.seq (CW.seq (CW.region ?_))))
   refine OW.rv (RV.loadW rfl (List.Mem.head _) rfl rfl rfl rfl rfl) rfl ?_
   obtain ⟨x26, hx25, hf⟩ := some_bind hf
   refine OW.callG Tryd.call108 rfl (waybillref07_size_does w0 (More w0 Φ []) ((some b13, blk [.bool (a0.list), .slice A1 a0.data.length c2, .slice A4 a0.items.length c5] 58) :: ([] ++ N)) (fun w m => More.of hΦ 1 m rfl) [.bool (a0.list), .slice A1 a0.data.length c2, .slice A4 a0.items.length c5] a0 x26 h10 hx25) rfl rfl ?_
   rintro _ G28 ⟨b27, rfl⟩
   refine OW.mem (M' := ((some b13, blk [.bool (a0.list), .slice A1 a0.data.length c2, .slice A4 a0.items.length c5] 58) :: ([] ++ N))) (fun w m => m.appR) ?_
   refine OW.rv (RV.gtr rfl rfl) rfl ?_
   refine OW.slot (.bool (decide (16777216 < x26))) (congrArg Value.bool (decide_eq_decide.2 (by omega))) ?_
   refine OW.nil (QW.then_n ?_)
   by_cases h30 : 16777216 < x26
   ·replace hf := if_t hf h30
    refine CW.is_t rfl (decide_eq_true h30) ?_
    refine CW.seq (CW.region ?_)
    refine OW.rv (RV.assign rfl) rfl ?_
    refine OW.nil (QW.then_n (CW.ret (QW.then_r ?_)))
    have e0 := Option.some.inj hf
    subst e0
    refine QW.retG (rs := [.tmp 2]) ([.int .i64 (2 : Int)]) ((some b13, blk [.bool (a0.list), .slice A1 a0.data.length c2, .slice A4 a0.items.length c5] 58) :: []) rfl ?_ rfl ?_ ?_ _ (.inl rfl)
    ·exact ⟨rfl, trivial⟩
    ·exact ⟨(by omega), rfl⟩
    ·exact (fun w m => m)
   ·replace hf := if_f hf h30
    refine CW.is_f rfl (decide_eq_false h30) ?_
    refine CW.skip (QW.then_n (CW.seq (CW.region ?_)))
    refine OW.rv (RV.assign rfl) rfl ?_
    refine OW.nil (QW.then_n (CW.ret ?_))
    have e0 := Option.some.inj hf
    subst e0
    refine QW.retG (rs := [.tmp 2]) ([.int .i64 (0 : Int)]) ((some b13, blk [.bool (a0.list), .slice A1 a0.data.length c2, .slice A4 a0.items.length c5] 58) :: []) rfl ?_ rfl ?_ ?_ _ (.inl rfl)
    ·exact ⟨rfl, trivial⟩
    ·exact ⟨(by omega), rfl⟩
    ·exact (fun w m => m)
theorem rlp_Encode_does (w0 : World) (Φ : Ctx) (N : List Ent) (hΦ : ∀ w, Mem w0 w N → Φ w) (cs0_ : List Value) (a0 : It) (res0 : List (BitVec 8)) (res1 : Nat) (ha0 : ItRd Φ cs0_ a0) (hf : rlp_Encode a0 = some (res0, res1)) : DoesG Tryd.prog 22 [.agg cs0_.toArray] w0 [] N (fun v G => ∃ B : List Ent, ∃ or0 : Option Nat, ∃ kr0 : Nat, ∃ rr0 : List Value, (OwnS or0 res0.length kr0 1 (u8s res0) rr0) ∧ (res1 ≤ 9223372036854775807) ∧ v = .tuple #[sl or0 0 res0.length kr0, .int .i64 ((res1 : Nat) : Int)] ∧ G = (or0, blk ((u8s res0) ++ rr0) 5) :: B) := by
 unfold rlp_Encode at hf
 replace ha0 := ItRd.mono (Ψ := More w0 Φ []) (fun w q => q.1) _ _ ha0
 have h10 := ha0
 obtain ⟨A1, c2, A4, c5, cs7, e9, v3, v6, h8⟩ := ItRd.opn ha0
 subst e9
 have m11 := v3.mx
 have m12 := v6.mx
 refine DoesG.enter Tryd.func22 rfl Tryd.ntmps22 rfl (M := (([] ++ N))) rfl ?_
 refine CW.seq (CW.region ?_)
 refine OW.boxA rfl rfl (fun b13 => ?_)
 refine OW.rv (RV.assign rfl) rfl ?_
 refine OW.rv (RV.assign rfl) rfl ?_
 refine OW.nil (QW.then_n (CW.seq (CW.seq (CW.region ?_))))
 refine OW.rv (RV.loadW rfl (List.Mem.head _) rfl rfl rfl rfl rfl) rfl ?_
 obtain ⟨x15, hx14, hf⟩ := some_bind hf
 refine OW.callG Tryd.call48 rfl (rlp_Check_does w0 (More w0 Φ []) ((some b13, blk [.bool (a0.list), .slice A1 a0.data.length c2, .slice A4 a0.items.length c5] 58) :: ([] ++ N)) (fun w m => More.of hΦ 1 m rfl) [.bool (a0.list), .slice A1 a0.data.length c2, .slice A4 a0.items.length c5] a0 x15 h10 hx14) rfl rfl ?_
 rintro _ G17 ⟨b16, rfl⟩
 refine OW.mem (M' := ((some b13, blk [.bool (a0.list), .slice A1 a0.data.length c2, .slice A4 a0.items.length c5] 58) :: ([] ++ N))) (fun w m => m.appR) ?_
 refine OW.rv (RV.assign rfl) rfl ?_
 refine OW.nil (QW.then_n (CW.seq (CW.region ?_)))
 refine OW.rv (RV.move rfl) rfl ?_
 refine OW.rv (RV.neq rfl rfl) rfl ?_
 refine OW.slot (.bool (!decide (x15 = 0))) (congrArg (fun b => Value.bool (!b)) (decide_eq_decide.2 (by omega))) ?_
 refine OW.nil (QW.then_n ?_)
 by_cases h19 : x15 = 0
 ·replace hf := if_t hf h19
  refine CW.is_f rfl (congrArg (fun b => !b) (decide_eq_true h19)) ?_
  refine CW.skip (QW.then_n (CW.seq (CW.region ?_)))
  refine OW.rv (RV.loadW rfl (List.Mem.head _) rfl rfl rfl rfl rfl) rfl ?_
  refine OW.mem (M' := ((none, blk ((u8s ([] : List (BitVec 8))) ++ []) 5) :: (some b13, blk [.bool (a0.list), .slice A1 a0.data.length c2, .slice A4 a0.items.length c5] 58) :: ([] ++ N))) (fun w m => m.nil_ent _) ?_
  obtain ⟨x21, hx20, hf⟩ := some_bind hf
  refine OW.callG Tryd.call49 rfl (rlp_lay_does w0 (More w0 Φ []) ((some b13, blk [.bool (a0.list), .slice A1 a0.data.length c2, .slice A4 a0.items.length c5] 58) :: ([] ++ N)) (fun w m => More.of hΦ 1 m rfl) none 0 ([]) ([] : List (BitVec 8)) [.bool (a0.list), .slice A1 a0.data.length c2, .slice A4 a0.items.length c5] a0 x21 OwnS.nil h10 hx20) rfl rfl ?_
  rintro L27 M28 ⟨B22, ob23, c24, r25, o26, e29, e30⟩
  rw [e29, e30]
  clear e29 e30 L27 M28
  refine OW.mem (M' := ((ob23, blk ((u8s x21) ++ r25) 5) :: (some b13, blk [.bool (a0.list), .slice A1 a0.data.length c2, .slice A4 a0.items.length c5] 58) :: ((B22 ++ []) ++ N))) (fun w m => by have h := Mem.sinkAt (A := B22) m 1 1 rfl rfl; exact h) ?_
  have gq1 : ∀ w, More w0 Φ (B22 ++ []) w → More w0 Φ [] w := fun w q => More.mono (fun w m => (m).appR) q
  replace h10 := ItRd.mono gq1 _ _ h10
  replace v3 := v3.mono gq1
  replace v6 := v6.mono gq1
  replace h8 := h8.mono (ItRd.mono gq1)
  have m31 := o26.mx
  refine OW.rv (RV.assign rfl) rfl ?_
  refine OW.rv (RV.assign rfl) rfl ?_
  refine OW.nil (QW.then_n (CW.ret ?_))
  have er0 := Option.some.inj hf
  obtain ⟨e0, er1⟩ := Prod.mk.inj er0
  clear er0
  subst e0
  subst er1
  refine QW.retG (rs := [.tmp 2, .tmp 3]) ([sl ob23 0 x21.length c24, .int .i64 (0 : Int)]) ((ob23, blk ((u8s x21) ++ r25) 5) :: (B22 ++ [])) rfl ?_ rfl ?_ ?_ _ (.inl rfl)
  ·exact ⟨rfl, rfl, trivial⟩
  ·exact ⟨(B22 ++ []), ob23, c24, r25, o26, (by omega), rfl, rfl⟩
  ·exact (fun w m => m.pick [0] 2 rfl rfl)
 ·replace hf := if_f hf h19
  refine CW.is_t rfl (congrArg (fun b => !b) (decide_eq_false h19)) ?_
  refine CW.seq (CW.region ?_)
  refine OW.rv (RV.move rfl) rfl ?_
  refine OW.rv (RV.assign rfl) rfl ?_
  refine OW.rv (RV.assign rfl) rfl ?_
  refine OW.nil (QW.then_n (CW.ret (QW.then_r ?_)))
  refine QW.mem (M' := ((none, blk ((u8s ([] : List (BitVec 8))) ++ []) 5) :: (some b13, blk [.bool (a0.list), .slice A1 a0.data.length c2, .slice A4 a0.items.length c5] 58) :: ([] ++ N))) (fun w m => m.nil_ent _) ?_
  have er0 := Option.some.inj hf
  obtain ⟨e0, er1⟩ := Prod.mk.inj er0
  clear er0
  subst e0
  subst er1
  refine QW.retG (rs := [.tmp 2, .tmp 3]) ([sl none 0 ([] : List (BitVec 8)).length 0, .int .i64 ((x15 : Nat) : Int)]) ((none, blk ((u8s ([] : List (BitVec 8))) ++ []) 5) :: []) rfl ?_ rfl ?_ ?_ _ (.inl rfl)
  ·exact ⟨rfl, rfl, trivial⟩
  ·exact ⟨[], none, 0, [], OwnS.nil, (by omega), rfl, rfl⟩
  ·exact (fun w m => m.pick [0] 2 rfl rfl)
theorem waybillref07_Encode_does (w0 : World) (Φ : Ctx) (N : List Ent) (hΦ : ∀ w, Mem w0 w N → Φ w) (cs0_ : List Value) (a0 : It) (res0 : List (BitVec 8)) (res1 : Nat) (ha0 : ItRd Φ cs0_ a0) (hf : waybillref07_Encode a0 = some (res0, res1)) : DoesG Tryd.prog 37 [.agg cs0_.toArray] w0 [] N (fun v G => ∃ B : List Ent, ∃ or0 : Option Nat, ∃ kr0 : Nat, ∃ rr0 : List Value, (OwnS or0 res0.length kr0 1 (u8s res0) rr0) ∧ (res1 ≤ 9223372036854775807) ∧ v = .tuple #[sl or0 0 res0.length kr0, .int .i64 ((res1 : Nat) : Int)] ∧ G = (or0, blk ((u8s res0) ++ rr0) 5) :: B) := by
 unfold waybillref07_Encode at hf
 replace ha0 := ItRd.mono (Ψ := More w0 Φ []) (fun w q => q.1) _ _ ha0
 have h10 := ha0
 obtain ⟨A1, c2, A4, c5, cs7, e9, v3, v6, h8⟩ := ItRd.opn ha0
 subst e9
 have m11 := v3.mx
 have m12 := v6.mx
 refine DoesG.enter Tryd.func37 rfl Tryd.ntmps37 rfl (M := (([] ++ N))) rfl ?_
 refine CW.seq (CW.region ?_)
 refine OW.boxA rfl rfl (fun b13 => ?_)
 refine OW.rv (RV.assign rfl) rfl ?_
 refine OW.rv (RV.assign rfl) rfl ?_
 refine OW.nil (QW.then_n (CW.seq (CW.region ?_)))
 refine OW.rv (RV.loadW rfl (List.Mem.head _) rfl rfl rfl rfl rfl) rfl ?_
 obtain ⟨x15, hx14, hf⟩ := some_bind hf
 refine OW.callG Tryd.call62 rfl (waybillref07_Check_does w0 (More w0 Φ []) ((some b13, blk [.bool (a0.list), .slice A1 a0.data.length c2, .slice A4 a0.items.length c5] 58) :: ([] ++ N)) (fun w m => More.of hΦ 1 m rfl) [.bool (a0.list), .slice A1 a0.data.length c2, .slice A4 a0.items.length c5] a0 x15 h10 hx14) rfl rfl ?_
 rintro _ G17 ⟨b16, rfl⟩
 refine OW.mem (M' := ((some b13, blk [.bool (a0.list), .slice A1 a0.data.length c2, .slice A4 a0.items.length c5] 58) :: ([] ++ N))) (fun w m => m.appR) ?_
 refine OW.rv (RV.assign rfl) rfl ?_
 refine OW.nil (QW.then_n (CW.seq (CW.seq (CW.region ?_))))
 refine OW.rv (RV.move rfl) rfl ?_
 refine OW.rv (RV.neq rfl rfl) rfl ?_
 refine OW.slot (.bool (!decide (x15 = 0))) (congrArg (fun b => Value.bool (!b)) (decide_eq_decide.2 (by omega))) ?_
 refine OW.nil (QW.then_n ?_)
 by_cases h19 : x15 = 0
 ·replace hf := if_t hf h19
  refine CW.is_f rfl (congrArg (fun b => !b) (decide_eq_true h19)) ?_
  refine CW.skip (QW.then_n (CW.seq (CW.region ?_)))
  refine OW.rv (RV.loadW rfl (List.Mem.head _) rfl rfl rfl rfl rfl) rfl ?_
  refine OW.mem (M' := ((none, blk ((u8s ([] : List (BitVec 8))) ++ []) 5) :: (some b13, blk [.bool (a0.list), .slice A1 a0.data.length c2, .slice A4 a0.items.length c5] 58) :: ([] ++ N))) (fun w m => m.nil_ent _) ?_
  obtain ⟨x21, hx20, hf⟩ := some_bind hf
  refine OW.callG Tryd.call63 rfl (waybillref07_put_does w0 (More w0 Φ []) ((some b13, blk [.bool (a0.list), .slice A1 a0.data.length c2, .slice A4 a0.items.length c5] 58) :: ([] ++ N)) (fun w m => More.of hΦ 1 m rfl) none 0 ([]) ([] : List (BitVec 8)) [.bool (a0.list), .slice A1 a0.data.length c2, .slice A4 a0.items.length c5] a0 x21 OwnS.nil h10 hx20) rfl rfl ?_
  rintro L27 M28 ⟨B22, ob23, c24, r25, o26, e29, e30⟩
  rw [e29, e30]
  clear e29 e30 L27 M28
  refine OW.mem (M' := ((ob23, blk ((u8s x21) ++ r25) 5) :: (some b13, blk [.bool (a0.list), .slice A1 a0.data.length c2, .slice A4 a0.items.length c5] 58) :: ((B22 ++ []) ++ N))) (fun w m => by have h := Mem.sinkAt (A := B22) m 1 1 rfl rfl; exact h) ?_
  have gq1 : ∀ w, More w0 Φ (B22 ++ []) w → More w0 Φ [] w := fun w q => More.mono (fun w m => (m).appR) q
  replace h10 := ItRd.mono gq1 _ _ h10
  replace v3 := v3.mono gq1
  replace v6 := v6.mono gq1
  replace h8 := h8.mono (ItRd.mono gq1)
  have m31 := o26.mx
  refine OW.rv (RV.assign rfl) rfl ?_
  refine OW.rv (RV.assign rfl) rfl ?_
  refine OW.nil (QW.then_n (CW.ret ?_))
  have er0 := Option.some.inj hf
  obtain ⟨e0, er1⟩ := Prod.mk.inj er0
  clear er0
  subst e0
  subst er1
  refine QW.retG (rs := [.tmp 2, .tmp 3]) ([sl ob23 0 x21.length c24, .int .i64 (0 : Int)]) ((ob23, blk ((u8s x21) ++ r25) 5) :: (B22 ++ [])) rfl ?_ rfl ?_ ?_ _ (.inl rfl)
  ·exact ⟨rfl, rfl, trivial⟩
  ·exact ⟨(B22 ++ []), ob23, c24, r25, o26, (by omega), rfl, rfl⟩
  ·exact (fun w m => m.pick [0] 2 rfl rfl)
 ·replace hf := if_f hf h19
  refine CW.is_t rfl (congrArg (fun b => !b) (decide_eq_false h19)) ?_
  refine CW.seq (CW.region ?_)
  refine OW.rv (RV.move rfl) rfl ?_
  refine OW.rv (RV.assign rfl) rfl ?_
  refine OW.rv (RV.assign rfl) rfl ?_
  refine OW.nil (QW.then_n (CW.ret (QW.then_r ?_)))
  refine QW.mem (M' := ((none, blk ((u8s ([] : List (BitVec 8))) ++ []) 5) :: (some b13, blk [.bool (a0.list), .slice A1 a0.data.length c2, .slice A4 a0.items.length c5] 58) :: ([] ++ N))) (fun w m => m.nil_ent _) ?_
  have er0 := Option.some.inj hf
  obtain ⟨e0, er1⟩ := Prod.mk.inj er0
  clear er0
  subst e0
  subst er1
  refine QW.retG (rs := [.tmp 2, .tmp 3]) ([sl none 0 ([] : List (BitVec 8)).length 0, .int .i64 ((x15 : Nat) : Int)]) ((none, blk ((u8s ([] : List (BitVec 8))) ++ []) 5) :: []) rfl ?_ rfl ?_ ?_ _ (.inl rfl)
  ·exact ⟨rfl, rfl, trivial⟩
  ·exact ⟨[], none, 0, [], OwnS.nil, (by omega), rfl, rfl⟩
  ·exact (fun w m => m.pick [0] 2 rfl rfl)
theorem keccak_Sponge_absorb_does (w0 : World) (Φ : Ctx) (N : List Ent) (hΦ : ∀ w, Mem w0 w N → Φ w) (b0_ : Nat) (a0 : Sponge) (new0 : Sponge) (hf : keccak_Sponge_absorb a0 = some new0) : DoesG Tryd.prog 126 [ptr (some b0_) 0] w0 [(some b0_, blk a0.C 130)] N (fun v G => ∃ B : List Ent, v = .tuple #[] ∧ G = (some b0_, blk new0.C 130) :: B) := by
 unfold keccak_Sponge_absorb at hf
 refine DoesG.enter Tryd.func126 rfl Tryd.ntmps126 rfl (M := ((some b0_, blk a0.C 130) :: ([] ++ N))) rfl ?_
 refine CW.seq (CW.seq (CW.region ?_))
 refine OW.rv (RV.move rfl) rfl ?_
 refine OW.rv (RV.nilCheck rfl) rfl ?_
 refine OW.rv (RV.field rfl rfl rfl rfl) rfl ?_
 refine OW.slot (ptr (some b0_) 26) rfl ?_
 refine OW.rv (RV.loadAo rfl (List.Mem.head _) rfl rfl rfl rfl (Sponge.C_part_all _) ((u8s_length _).trans Vector.length_toList)) rfl ?_
 refine OW.rv (RV.move rfl) rfl ?_
 refine OW.nil (QW.then_n ?_)
 obtain ⟨q1, hq2, hf⟩ := some_bind hf
 refine CW.cutJ (fun L' M' => ∃ w3 : Sponge, q1 = w3 ∧ L' = [(0, ptr (some b0_) 0)] ∧ M' = ((some b0_, blk w3.C 130) :: ([] ++ N))) ?_ ?_
 ·rintro L5 M6 ⟨w3, e4, e7, e8⟩
  rw [e7, e8]
  clear e7 e8 L5 M6
  clear hq2
  rw [e4] at hf
  clear e4
  try dsimp only at hf
  refine QW.then_n (CW.seq (CW.region ?_))
  refine OW.rv (RV.move rfl) rfl ?_
  refine OW.rv (RV.move rfl) rfl ?_
  refine OW.rv (RV.nilCheck rfl) rfl ?_
  refine OW.rv (RV.field rfl rfl rfl rfl) rfl ?_
  refine OW.slot (ptr (some b0_) 1) rfl ?_
  refine OW.rv (RV.loadAo rfl (List.Mem.head _) rfl rfl rfl rfl (Sponge.C_lanes_all _) ((u64s_length _).trans Vector.length_toList)) rfl ?_
  obtain ⟨x10, hx9, hf⟩ := some_bind hf
  refine OW.callG Tryd.call145 rfl (keccak_Permute_does w0 (More w0 Φ []) ((some b0_, blk w3.C 130) :: ([] ++ N)) (fun w m => More.of hΦ 1 m rfl) w3.lanes x10 hx9) rfl rfl ?_
  rintro _ G11 rfl
  refine OW.mem (M' := ((some b0_, blk w3.C 130) :: ([] ++ N))) (fun w m => m.appR) ?_
  refine OW.rv (RV.nilCheck rfl) rfl ?_
  refine OW.rv (RV.field rfl rfl rfl rfl) rfl ?_
  refine OW.slot (ptr (some b0_) 1) rfl ?_
  refine OW.sv (SV.storeAs rfl rfl rfl (u64s_one _) rfl ((u64s_length _).trans Vector.length_toList) (by rw [Sponge.C_length]; first | omega | decide)) ?_
  refine OW.cells ({ w3 with lanes := x10 } : Sponge).C (Sponge.C_lanes_spl _ _) ?_
  refine OW.nil (QW.then_n (CW.region ?_))
  refine OW.rv (RV.move rfl) rfl ?_
  refine OW.rv (RV.nilCheck rfl) rfl ?_
  refine OW.rv (RV.field rfl rfl rfl rfl) rfl ?_
  refine OW.slot (ptr (some b0_) 162) rfl ?_
  refine OW.sv (SV.store rfl rfl rfl rfl rfl (by rw [Sponge.C_length]; omega)) ?_
  refine OW.cells ({ ({ w3 with lanes := x10 } : Sponge) with held := (0 : Int) } : Sponge).C (Sponge.C_held_set _ _) ?_
  refine OW.nil ?_
  have e0 := Option.some.inj hf
  subst e0
  refine QW.retG (rs := []) ([]) ((some b0_, blk ({ ({ w3 with lanes := x10 } : Sponge) with held := (0 : Int) } : Sponge).C 130) :: []) rfl ?_ rfl ?_ ?_ _ (.inr rfl)
  ·exact trivial
  ·exact ⟨[], rfl, rfl⟩
  ·exact (fun w m => m.pick [0] 1 rfl rfl)
 ·skip
  refine CW.block ?_
  refine CW.loopJ (fun k L' M' => ∃ n13 : Nat, ∃ w15 : Sponge, (keccak_Sponge_absorb.l1 a0 k n13 w15) = some q1 ∧ (n13 ≤ 9223372036854775807) ∧ L' = [(0, ptr (some b0_) 0), (7, .agg (u8s a0.part.toList).toArray), (8, .int .i64 ((n13 : Nat) : Int))] ∧ M' = ((some b0_, blk w15.C 130) :: ([] ++ N))) (k0 := (136 - 0 + 2)) ⟨0, a0, hq2, (by omega), rfl, rfl⟩ ⟨rfl, rfl, rfl, trivial⟩ (fun w m => m.pick [0] 1 rfl rfl) ?_
  clear hq2
  rintro k16 L19 M20 ⟨n13, w15, hl17, b14, e21, e22⟩
  rw [e21, e22]
  clear e21 e22 L19 M20
  rcases k16 with _ | k16
  ·rw [keccak_Sponge_absorb.l1] at hl17; cases hl17
  rw [keccak_Sponge_absorb.l1] at hl17
  refine CW.seq (CW.region ?_)
  refine OW.rv (RV.lss rfl rfl) rfl ?_
  refine OW.slot (.bool (decide (n13 < 136))) (congrArg Value.bool (decide_eq_decide.2 (by omega))) ?_
  refine OW.nil (QW.then_n (CW.seq ?_))
  by_cases h23 : n13 < 136
  ·replace hl17 := if_t hl17 h23
   refine CW.is_t rfl (decide_eq_true h23) ?_
   refine CW.skip (QW.then_n (CW.seq (CW.block (CW.seq (CW.region ?_)))))
   refine OW.rv (RV.move rfl) rfl ?_
   obtain ⟨x24, hx25, hl17⟩ := some_bind hl17
   have hl26 := (Vector.getElem?_eq_some_iff.1 hx25).1
   refine OW.rv (RV.indexV (n13) rfl rfl rfl rfl rfl rfl rfl (by omega) (u8s_at (vat hx25))) rfl ?_
   refine OW.rv (RV.assign rfl) rfl ?_
   refine OW.rv (RV.assign rfl) rfl ?_
   refine OW.nil (QW.then_n ?_)
   refine CW.drawsX (([] ++ N)) [17] (fun w m => m.pick [] 1 rfl rfl) mixed (by kernel_rfl) ?_
   refine XW.rs 0 rfl (by kernel_rfl) rfl (RV.move rfl) rfl ?_
   refine XW.rs 1 rfl (by kernel_rfl) rfl (RV.move rfl) rfl ?_
   refine XW.rs 2 rfl (by kernel_rfl) rfl (RV.quo rfl rfl (by omega) (by omega) (by omega)) rfl ?_
   refine XW.slot (.int .i64 ((n13 / 8 : Nat) : Int)) (by first | rfl | (congr 1; omega)) ?_
   refine XW.rs 3 rfl (by kernel_rfl) rfl (RV.nilCheck rfl) rfl ?_
   refine XW.rs 4 rfl (by kernel_rfl) rfl (RV.field rfl rfl rfl rfl) rfl ?_
   refine XW.slot (ptr (some b0_) 1) rfl ?_
   obtain ⟨g27, hl17⟩ := some_if hl17
   refine XW.rs 5 rfl (by kernel_rfl) rfl (RV.idx_a ((n13 / 8)) rfl rfl rfl rfl rfl (by omega)) rfl ?_
   obtain ⟨x28, hx29, hl17⟩ := some_bind hl17
   refine XW.rv 6 rfl (by kernel_rfl) rfl (by kernel_rfl) (RV.load rfl (List.Mem.head _) rfl rfl rfl (Sponge.C_lanes _ hx29)) rfl ?_
   refine XW.rs 7 rfl (by kernel_rfl) rfl (RV.move rfl) rfl ?_
   refine XW.rs 8 rfl (by kernel_rfl) rfl (RV.conv8_64 rfl (by first | rfl | exact lit8 _ rfl) rfl rfl) rfl ?_
   refine XW.rs 9 rfl (by kernel_rfl) rfl (RV.move rfl) rfl ?_
   refine XW.rs 10 rfl (by kernel_rfl) rfl (RV.rem rfl rfl (by omega) (by omega)) rfl ?_
   refine XW.slot (.int .i64 ((n13 % 8 : Nat) : Int)) (by first | rfl | (congr 1; omega)) ?_
   refine XW.rs 11 rfl (by kernel_rfl) rfl (RV.mul rfl rfl (by omega)) rfl ?_
   refine XW.slot (.int .i64 (((8 * (n13 % 8)) : Nat) : Int)) (by first | rfl | (congr 1) | (congr 1; omega)) ?_
   refine XW.rs 12 rfl (by kernel_rfl) rfl (RV.shl64 (s := (8 * (n13 % 8))) rfl (by first | rfl | exact lit64 _ rfl) rfl (by first | rfl | (congr 1))) rfl ?_
   refine XW.rs 13 rfl (by kernel_rfl) rfl (RV.xor64 rfl (by first | rfl | exact lit64 _ rfl) rfl (by first | rfl | exact lit64 _ rfl)) rfl ?_
   refine XW.rs 14 rfl (by kernel_rfl) rfl (RV.nilCheck rfl) rfl ?_
   refine XW.rs 15 rfl (by kernel_rfl) rfl (RV.field rfl rfl rfl rfl) rfl ?_
   refine XW.slot (ptr (some b0_) 1) rfl ?_
   refine XW.rs 16 rfl (by kernel_rfl) rfl (RV.idx_a ((n13 / 8)) rfl rfl rfl rfl rfl (by omega)) rfl ?_
   refine XW.sv 17 rfl (by kernel_rfl) (SV.store rfl rfl rfl rfl rfl (by rw [Sponge.C_length]; omega)) (fun w m => m.pick [] 1 rfl rfl) ?_
   refine XW.cells ({ w15 with lanes := w15.lanes.setIfInBounds (n13 / 8) (x28 ^^^ ((x24.setWidth 64) <<< (8 * (n13 % 8)))) } : Sponge).C (Sponge.C_lanes_set _ (by omega) _) ?_
   refine XW.nil (by kernel_rfl) ?_
   refine QW.block_n (QW.then_n (CW.region ?_))
   refine OW.rv (RV.add rfl rfl (by omega)) rfl ?_
   refine OW.slot (.int .i64 (((n13 + 1) : Nat) : Int)) (by first | rfl | (congr 1) | (congr 1; omega)) ?_
   refine OW.rv (RV.move rfl) rfl ?_
   refine OW.nil ?_
   exact QW.againJ (k' := k16) (Nat.lt_succ_self _) ⟨(n13 + 1), ({ w15 with lanes := w15.lanes.setIfInBounds (n13 / 8) (x28 ^^^ ((x24.setWidth 64) <<< (8 * (n13 % 8)))) } : Sponge), hl17, (by omega), rfl, rfl⟩ ⟨rfl, rfl, rfl, trivial⟩ (fun w m => m.pick [0] 1 rfl rfl)
  ·replace hl17 := if_f hl17 h23
   refine CW.is_f rfl (decide_eq_false h23) ?_
   refine CW.exit (QW.then_x (QW.then_x (QW.block_xe ?_)))
   exact QW.join ⟨w15, (Option.some.inj hl17).symm, rfl, rfl⟩ ⟨rfl, trivial⟩ (fun w m => m.pick [0] 1 rfl rfl)
theorem keccak_Sponge_Write_does (w0 : World) (Φ : Ctx) (N : List Ent) (hΦ : ∀ w, Mem w0 w N → Φ w) (b0_ : Nat) (a0 : Sponge) (A1_ : Option Addr) (c1_ : Nat) (a1 : List (BitVec 8)) (new0 : Sponge) (va1 : View Φ A1_ a1.length c1_ 1 (u8s a1)) (hf : keccak_Sponge_Write a0 a1 = some new0) : DoesG Tryd.prog 96 [ptr (some b0_) 0, .slice A1_ a1.length c1_] w0 [(some b0_, blk a0.C 130)] N (fun v G => ∃ B : List Ent, v = .tuple #[] ∧ G = (some b0_, blk new0.C 130) :: B) := by
 unfold keccak_Sponge_Write at hf
 replace va1 := va1.mono (Ψ := More w0 Φ []) (fun w q => q.1)
 have m1 := va1.mx
 refine DoesG.enter Tryd.func96 rfl Tryd.ntmps96 rfl (M := ((some b0_, blk a0.C 130) :: ([] ++ N))) rfl ?_
 refine CW.seq (CW.seq (CW.region ?_))
 refine OW.rv (RV.move rfl) rfl ?_
 refine OW.rv (RV.eqlS rfl rfl rfl) rfl ?_
 refine OW.nil (QW.then_n ?_)
 refine CW.is_f rfl rfl ?_
 refine CW.skip (QW.then_n (CW.seq (CW.region ?_)))
 refine OW.rv (RV.move rfl) rfl ?_
 refine OW.rv (RV.nilCheck rfl) rfl ?_
 refine OW.rv (RV.field rfl rfl rfl rfl) rfl ?_
 refine OW.slot (ptr (some b0_) 163) rfl ?_
 refine OW.rv (RV.load rfl (List.Mem.head _) rfl rfl rfl (Sponge.C_long _)) rfl ?_
 refine OW.rv (RV.move rfl) rfl ?_
 refine OW.rv (RV.len rfl rfl) rfl ?_
 obtain ⟨g2, hf⟩ := some_if hf
 refine OW.rv (RV.add rfl rfl (by omega)) rfl ?_
 refine OW.rv (RV.nilCheck rfl) rfl ?_
 refine OW.rv (RV.field rfl rfl rfl rfl) rfl ?_
 refine OW.slot (ptr (some b0_) 163) rfl ?_
 refine OW.sv (SV.store rfl rfl rfl rfl rfl (by rw [Sponge.C_length]; omega)) ?_
 refine OW.cells ({ a0 with long := (a0.long + ((a1.length : Nat) : Int)) } : Sponge).C (Sponge.C_long_set _ _) ?_
 refine OW.nil (QW.then_n ?_)
 obtain ⟨q3, hq4, hf⟩ := some_bind hf
 refine CW.cutJ (fun L' M' => ∃ w7 : Sponge, ∃ B5 : List Ent, q3 = w7 ∧ (∀ w, Mem w0 w B5 → Mem w0 w []) ∧ L' = [] ∧ M' = ((some b0_, blk w7.C 130) :: (B5 ++ N))) ?_ ?_
 ·rintro L9 M10 ⟨w7, B5, e8, hB6, e11, e12⟩
  rw [e11, e12]
  clear e11 e12 L9 M10
  clear hq4
  rw [e8] at hf
  clear e8
  try dsimp only at hf
  have e0 := Option.some.inj hf
  subst e0
  refine QW.retG (rs := []) ([]) ((some b0_, blk w7.C 130) :: B5) rfl ?_ rfl ?_ ?_ _ (.inr rfl)
  ·exact trivial
  ·exact ⟨B5, rfl, rfl⟩
  ·exact (fun w m => m.pick [0] 1 rfl rfl)
 ·skip
  refine CW.block ?_
  refine CW.loopJ (fun k L' M' => ∃ l15 : List (BitVec 8), ∃ w19 : Sponge, ∃ B13 : List Ent, ∃ A16 : Option Addr, ∃ c17 : Nat, (keccak_Sponge_Write.l1 k l15 w19) = some q3 ∧ (∀ w, Mem w0 w B13 → Mem w0 w []) ∧ (View (More w0 Φ B13) A16 l15.length c17 1 (u8s l15)) ∧ L' = [(0, ptr (some b0_) 0), (1, .slice A16 l15.length c17)] ∧ M' = ((some b0_, blk w19.C 130) :: (B13 ++ N))) (k0 := (a1.length - 0 + 2)) ⟨a1, ({ a0 with long := (a0.long + ((a1.length : Nat) : Int)) } : Sponge), [], A1_, c1_, hq4, (fun w m => m), va1, rfl, rfl⟩ ⟨rfl, rfl, trivial⟩ (fun w m => m.pick [0] 1 rfl rfl) ?_
  clear hq4
  rintro k20 L23 M24 ⟨l15, w19, B13, A16, c17, hl21, hB14, v18, e25, e26⟩
  rw [e25, e26]
  clear e25 e26 L23 M24
  rcases k20 with _ | k20
  ·rw [keccak_Sponge_Write.l1] at hl21; cases hl21
  rw [keccak_Sponge_Write.l1] at hl21
  have m27 := v18.mx
  refine CW.seq (CW.seq (CW.region ?_))
  refine OW.rv (RV.move rfl) rfl ?_
  refine OW.rv (RV.len rfl rfl) rfl ?_
  refine OW.rv (RV.gtr rfl rfl) rfl ?_
  refine OW.slot (.bool (decide (0 < l15.length))) (congrArg Value.bool (decide_eq_decide.2 (by omega))) ?_
  refine OW.nil (QW.then_n ?_)
  by_cases h28 : 0 < l15.length
  ·replace hl21 := if_t hl21 h28
   refine CW.is_t rfl (decide_eq_true h28) ?_
   refine CW.skip (QW.then_n (CW.block (CW.seq ?_)))
   refine CW.drawsU 9 mixed (by kernel_rfl) rfl ?_
   refine UW.rv 0 rfl (by kernel_rfl) rfl (RV.move rfl) rfl ?_
   refine UW.rv 1 rfl (by kernel_rfl) rfl (RV.nilCheck rfl) rfl ?_
   refine UW.rv 2 rfl (by kernel_rfl) rfl (RV.field rfl rfl rfl rfl) rfl ?_
   refine UW.slot (ptr (some b0_) 26) rfl ?_
   refine UW.rv 3 rfl (by kernel_rfl) rfl (RV.move rfl) rfl ?_
   refine UW.rv 4 rfl (by kernel_rfl) rfl (RV.nilCheck rfl) rfl ?_
   refine UW.rv 5 rfl (by kernel_rfl) rfl (RV.field rfl rfl rfl rfl) rfl ?_
   refine UW.slot (ptr (some b0_) 162) rfl ?_
   refine UW.rv 6 rfl (by kernel_rfl) rfl (RV.load rfl (List.Mem.head _) rfl rfl rfl (Sponge.C_held _)) rfl ?_
   obtain ⟨g29, hl21⟩ := some_if hl21
   obtain ⟨g30, hl21⟩ := some_if hl21
   refine UW.rv 7 rfl (by kernel_rfl) rfl (RV.arr_loS ((w19.held).toNat) rfl rfl (by omega) rfl rfl (by omega)) rfl ?_
   refine UW.rv 8 rfl (by kernel_rfl) rfl (RV.move rfl) rfl ?_
   refine UW.nil (by kernel_rfl) ?_
   refine OW.copy (ob := some b0_) (off := 26 + ((w19.held).toNat)) rfl rfl rfl rfl (fun h => nomatch h) (by rw [Sponge.C_length]; omega) (fun w m => v18.rd w (More.of hΦ 1 m rfl)) (u8s_length _) (u8s_one _) (v18.zero (by decide)) rfl ?_
   refine OW.cells ({ w19 with part := cpV w19.part ((w19.held).toNat) (l15.take (min l15.length (136 - ((w19.held).toNat)))) } : Sponge).C (by rw [u8s_take]; exact Sponge.C_part_cpy _ (by rw [List.length_take]; omega)) ?_
   refine OW.rv (RV.assign rfl) rfl ?_
   refine OW.nil (QW.then_n (CW.seq (CW.region ?_)))
   refine OW.rv (RV.move rfl) rfl ?_
   refine OW.rv (RV.move rfl) rfl ?_
   obtain ⟨g32, hl21⟩ := some_if hl21
   refine OW.rv (RV.cut_lo (s := 1) ((min l15.length (136 - ((w19.held).toNat)))) rfl rfl (by omega) rfl rfl (by omega)) rfl ?_
   refine OW.slot (.slice (subA A16 c17 (min l15.length (136 - ((w19.held).toNat))) 1) (l15.drop (min l15.length (136 - ((w19.held).toNat)))).length (c17 - (min l15.length (136 - ((w19.held).toNat))))) (by rw [show ((l15.drop (min l15.length (136 - ((w19.held).toNat))))).length = (l15).length - ((min l15.length (136 - ((w19.held).toNat)))) from List.length_drop]) ?_
   have v31 : View (More w0 Φ B13) (subA A16 c17 (min l15.length (136 - ((w19.held).toNat))) 1) (l15.drop (min l15.length (136 - ((w19.held).toNat)))).length (c17 - (min l15.length (136 - ((w19.held).toNat)))) 1 (u8s (l15.drop (min l15.length (136 - ((w19.held).toNat))))) := v18.lo8 (by omega)
   have m33 := v31.mx
   refine OW.rv (RV.assign rfl) rfl ?_
   refine OW.nil (QW.then_n (CW.seq (CW.region ?_)))
   refine OW.rv (RV.move rfl) rfl ?_
   refine OW.rv (RV.nilCheck rfl) rfl ?_
   refine OW.rv (RV.field rfl rfl rfl rfl) rfl ?_
   refine OW.slot (ptr (some b0_) 162) rfl ?_
   refine OW.rv (RV.load rfl (List.Mem.head _) rfl rfl rfl (Sponge.C_held _)) rfl ?_
   refine OW.rv (RV.move rfl) rfl ?_
   obtain ⟨g34, hl21⟩ := some_if hl21
   refine OW.rv (RV.add rfl rfl (by omega)) rfl ?_
   refine OW.rv (RV.nilCheck rfl) rfl ?_
   refine OW.rv (RV.field rfl rfl rfl rfl) rfl ?_
   refine OW.slot (ptr (some b0_) 162) rfl ?_
   refine OW.sv (SV.store rfl rfl rfl rfl rfl (by rw [Sponge.C_length]; omega)) ?_
   refine OW.cells ({ ({ w19 with part := cpV w19.part ((w19.held).toNat) (l15.take (min l15.length (136 - ((w19.held).toNat)))) } : Sponge) with held := (({ w19 with part := cpV w19.part ((w19.held).toNat) (l15.take (min l15.length (136 - ((w19.held).toNat)))) } : Sponge).held + (((min l15.length (136 - ((w19.held).toNat))) : Nat) : Int)) } : Sponge).C (Sponge.C_held_set _ _) ?_
   refine OW.nil (QW.then_n (CW.seq (CW.region ?_)))
   refine OW.rv (RV.move rfl) rfl ?_
   refine OW.rv (RV.nilCheck rfl) rfl ?_
   refine OW.rv (RV.field rfl rfl rfl rfl) rfl ?_
   refine OW.slot (ptr (some b0_) 162) rfl ?_
   refine OW.rv (RV.load rfl (List.Mem.head _) rfl rfl rfl (Sponge.C_held _)) rfl ?_
   refine OW.rv (RV.eql rfl rfl) rfl ?_
   refine OW.nil (QW.then_n ?_)
   obtain ⟨q35, hq36, hl21⟩ := some_bind hl21
   refine CW.cutJ (fun L' M' => ∃ w39 : Sponge, ∃ B37 : List Ent, q35 = w39 ∧ (∀ w, Mem w0 w B37 → Mem w0 w B13) ∧ L' = [(0, ptr (some b0_) 0), (1, .slice (subA A16 c17 (min l15.length (136 - ((w19.held).toNat))) 1) (l15.drop (min l15.length (136 - ((w19.held).toNat)))).length (c17 - (min l15.length (136 - ((w19.held).toNat)))))] ∧ M' = ((some b0_, blk w39.C 130) :: (B37 ++ N))) ?_ ?_
   ·rintro L41 M42 ⟨w39, B37, e40, hB38, e43, e44⟩
    rw [e43, e44]
    clear e43 e44 L41 M42
    clear hq36
    rw [e40] at hl21
    clear e40
    try dsimp only at hl21
    have gq3 : ∀ w, More w0 Φ B37 w → More w0 Φ B13 w := fun w q => More.mono (fun w m => hB38 w (m)) q
    replace v31 := v31.mono gq3
    refine QW.block_n ?_
    exact QW.againJ (k' := k20) (Nat.lt_succ_self _) ⟨(l15.drop (min l15.length (136 - ((w19.held).toNat)))), w39, B37, (subA A16 c17 (min l15.length (136 - ((w19.held).toNat))) 1), (c17 - (min l15.length (136 - ((w19.held).toNat)))), hl21, (fun w m => hB14 w (hB38 w (m))), v31, rfl, rfl⟩ ⟨rfl, rfl, trivial⟩ (fun w m => m.pick [0] 1 rfl rfl)
   ·skip
    by_cases h45 : ({ ({ w19 with part := cpV w19.part ((w19.held).toNat) (l15.take (min l15.length (136 - ((w19.held).toNat)))) } : Sponge) with held := (({ w19 with part := cpV w19.part ((w19.held).toNat) (l15.take (min l15.length (136 - ((w19.held).toNat)))) } : Sponge).held + (((min l15.length (136 - ((w19.held).toNat))) : Nat) : Int)) } : Sponge).held = (136 : Int)
    ·replace hq36 := if_t hq36 h45
     refine CW.is_t rfl (decide_eq_true h45) ?_
     refine CW.region ?_
     refine OW.rv (RV.move rfl) rfl ?_
     obtain ⟨x47, hx46, hq36⟩ := some_bind hq36
     refine OW.callG Tryd.call126 rfl (keccak_Sponge_absorb_does w0 (More w0 Φ B13) ((B13 ++ N)) (fun w m => More.of hΦ 0 m rfl) b0_ ({ ({ w19 with part := cpV w19.part ((w19.held).toNat) (l15.take (min l15.length (136 - ((w19.held).toNat)))) } : Sponge) with held := (({ w19 with part := cpV w19.part ((w19.held).toNat) (l15.take (min l15.length (136 - ((w19.held).toNat)))) } : Sponge).held + (((min l15.length (136 - ((w19.held).toNat))) : Nat) : Int)) } : Sponge) x47 hx46) rfl rfl ?_
     rintro L49 M50 ⟨B48, e51, e52⟩
     rw [e51, e52]
     clear e51 e52 L49 M50
     refine OW.mem (M' := ((some b0_, blk x47.C 130) :: ((B48 ++ B13) ++ N))) (fun w m => by have h := Mem.sinkAt (A := B48) m 1 0 rfl rfl; exact h) ?_
     have gq4 : ∀ w, More w0 Φ (B48 ++ B13) w → More w0 Φ B13 w := fun w q => More.mono (fun w m => (m).appR) q
     replace v31 := v31.mono gq4
     replace v18 := v18.mono gq4
     refine OW.nil ?_
     exact QW.join ⟨x47, (B48 ++ B13), (Option.some.inj hq36).symm, (fun w m => (m).appR), rfl, rfl⟩ ⟨rfl, rfl, trivial⟩ (fun w m => m.pick [0] 1 rfl rfl)
    ·replace hq36 := if_f hq36 h45
     refine CW.is_f rfl (decide_eq_false h45) ?_
     refine CW.skip ?_
     exact QW.join ⟨({ ({ w19 with part := cpV w19.part ((w19.held).toNat) (l15.take (min l15.length (136 - ((w19.held).toNat)))) } : Sponge) with held := (({ w19 with part := cpV w19.part ((w19.held).toNat) (l15.take (min l15.length (136 - ((w19.held).toNat)))) } : Sponge).held + (((min l15.length (136 - ((w19.held).toNat))) : Nat) : Int)) } : Sponge), B13, (Option.some.inj hq36).symm, (fun w m => m), rfl, rfl⟩ ⟨rfl, rfl, trivial⟩ (fun w m => m.pick [0] 1 rfl rfl)
  ·replace hl21 := if_f hl21 h28
   refine CW.is_f rfl (decide_eq_false h28) ?_
   refine CW.exit (QW.then_x (QW.then_x (QW.block_xe ?_)))
   exact QW.join ⟨w19, B13, (Option.some.inj hl21).symm, (fun w m => hB14 w (m)), rfl, rfl⟩ trivial (fun w m => m.pick [0] 1 rfl rfl)
theorem keccak_Sponge_Sum_does (w0 : World) (Φ : Ctx) (N : List Ent) (hΦ : ∀ w, Mem w0 w N → Φ w) (b0_ : Nat) (a0 : Sponge) (res0 : Vector (BitVec 8) 32) (new0 : Sponge) (hg0 : View Φ (some ⟨0, 0, none⟩) 2 2 1 (u8s firstL)) (hf : keccak_Sponge_Sum a0 = some (res0, new0)) : DoesG Tryd.prog 97 [ptr (some b0_) 0] w0 [(some b0_, blk a0.C 130)] N (fun v G => ∃ B : List Ent, v = .agg (u8s res0.toList).toArray ∧ G = (some b0_, blk new0.C 130) :: B) := by
 unfold keccak_Sponge_Sum at hf
 replace hg0 := hg0.mono (Ψ := More w0 Φ []) (fun w q => q.1)
 refine DoesG.enter Tryd.func97 rfl Tryd.ntmps97 rfl (M := ((some b0_, blk a0.C 130) :: ([] ++ N))) rfl ?_
 refine CW.seq (CW.region ?_)
 refine OW.alloc (l := (u8s (Vector.replicate 32 0#8).toList)) rfl (by rw [Vector.toList_replicate, ← u8s_rep']; rfl) rfl (fun b1 => ?_)
 refine OW.nil (QW.then_n (CW.seq (CW.seq (CW.region ?_))))
 refine OW.rv (RV.move rfl) rfl ?_
 refine OW.rv (RV.eqlS rfl rfl rfl) rfl ?_
 refine OW.nil (QW.then_n ?_)
 refine CW.is_f rfl rfl ?_
 refine CW.skip (QW.then_n (CW.seq (CW.region ?_)))
 refine OW.rv (RV.move rfl) rfl ?_
 refine OW.rv (RV.nilCheck rfl) rfl ?_
 refine OW.rv (RV.loadW rfl (List.Mem.tail _ (List.Mem.head _)) rfl rfl rfl rfl (Sponge.C_length _)) rfl ?_
 refine OW.alloc (l := (⟨0, (Vector.replicate 25 0#64), (Vector.replicate 136 0#8), 0, 0⟩ : Sponge).C) rfl (by kernel_rfl) rfl (fun b2 => ?_)
 refine OW.sv (SV.storeW rfl rfl rfl (Sponge.C_one _) rfl (Sponge.C_length _) (Sponge.C_length _)) ?_
 refine OW.nil (QW.then_n (CW.seq (CW.region ?_)))
 refine OW.rv (RV.field rfl rfl rfl rfl) rfl ?_
 refine OW.slot (ptr (some b2) 26) rfl ?_
 refine OW.rv (RV.field rfl rfl rfl rfl) rfl ?_
 refine OW.slot (ptr (some b2) 162) rfl ?_
 refine OW.rv (RV.load rfl (List.Mem.head _) rfl rfl rfl (Sponge.C_held _)) rfl ?_
 obtain ⟨g3, hf⟩ := some_if hf
 obtain ⟨g4, hf⟩ := some_if hf
 refine OW.rv (RV.arr_loS ((a0.held).toNat) rfl rfl (by omega) rfl rfl (by omega)) rfl ?_
 refine OW.clear (z := .int .u8 0) (b := b2) (off := 26 + ((a0.held).toNat)) rfl rfl rfl rfl rfl (by omega) (by rw [Sponge.C_length]; omega) ?_
 refine OW.cells ({ a0 with part := cpV a0.part ((a0.held).toNat) (List.replicate (136 - ((a0.held).toNat)) 0#8) } : Sponge).C (by rw [u8s_rep0]; exact Sponge.C_part_cpy _ (by rw [List.length_replicate]; omega)) ?_
 refine OW.nil (QW.then_n (CW.seq ?_))
 refine CW.drawsX ((some b1, blk (u8s (Vector.replicate 32 0#8).toList) 26) :: (some b0_, blk a0.C 130) :: ([] ++ N)) [12] (fun w m => m.pick [1, 2] 3 rfl rfl) mixed (by kernel_rfl) ?_
 refine XW.rs 0 rfl (by kernel_rfl) rfl (RV.field rfl rfl rfl rfl) rfl ?_
 refine XW.slot (ptr (some b2) 162) rfl ?_
 refine XW.rv 1 rfl (by kernel_rfl) rfl (by kernel_rfl) (RV.load rfl (List.Mem.head _) rfl rfl rfl (Sponge.C_held _)) rfl ?_
 refine XW.rs 2 rfl (by kernel_rfl) rfl (RV.field rfl rfl rfl rfl) rfl ?_
 refine XW.slot (ptr (some b2) 26) rfl ?_
 obtain ⟨g5, hf⟩ := some_if hf
 obtain ⟨g6, hf⟩ := some_if hf
 refine XW.rs 3 rfl (by kernel_rfl) rfl (RV.idx_a ((({ a0 with part := cpV a0.part ((a0.held).toNat) (List.replicate (136 - ((a0.held).toNat)) 0#8) } : Sponge).held).toNat) rfl rfl (by omega) rfl rfl (by omega)) rfl ?_
 obtain ⟨x7, hx8, hf⟩ := some_bind hf
 refine XW.rv 4 rfl (by kernel_rfl) rfl (by kernel_rfl) (RV.load rfl (List.Mem.head _) rfl rfl rfl (Sponge.C_part _ hx8)) rfl ?_
 refine XW.rs 5 rfl (by kernel_rfl) rfl (RV.field rfl rfl rfl rfl) rfl ?_
 refine XW.slot (ptr (some b2) 0) rfl ?_
 refine XW.rv 6 rfl (by kernel_rfl) rfl (by kernel_rfl) (RV.load rfl (List.Mem.head _) rfl rfl rfl (Sponge.C_kind _)) rfl ?_
 obtain ⟨g9, hf⟩ := some_if hf
 obtain ⟨x10, hx11, hf⟩ := some_bind hf
 have hl12 : (({ a0 with part := cpV a0.part ((a0.held).toNat) (List.replicate (136 - ((a0.held).toNat)) 0#8) } : Sponge).kind).toNat < 2 := lt_of_at hx11
 refine XW.rs 7 rfl (by kernel_rfl) rfl (RV.idx_arr_at (a := ⟨0, 0, none⟩) rfl rfl rfl rfl (by omega) (by omega)) rfl ?_
 refine XW.slot (rptr (some ⟨0, 0, none⟩) ((({ a0 with part := cpV a0.part ((a0.held).toNat) (List.replicate (136 - ((a0.held).toNat)) 0#8) } : Sponge).kind).toNat)) (congrArg (fun k => Value.pointer (some (Addr.add ⟨0, 0, none⟩ k))) (Nat.mul_one _)) ?_
 refine XW.rs 8 rfl (by kernel_rfl) rfl (RV.load_at rfl rfl rfl (fun w m => hg0.cell (More.of hΦ 2 m rfl) (u8s_at hx11))) rfl ?_
 refine XW.rs 9 rfl (by kernel_rfl) rfl (RV.xor8 rfl (by first | rfl | exact lit8 _ rfl) rfl (by first | rfl | exact lit8 _ rfl)) rfl ?_
 refine XW.rs 10 rfl (by kernel_rfl) rfl (RV.field rfl rfl rfl rfl) rfl ?_
 refine XW.slot (ptr (some b2) 26) rfl ?_
 refine XW.rs 11 rfl (by kernel_rfl) rfl (RV.idx_a ((({ a0 with part := cpV a0.part ((a0.held).toNat) (List.replicate (136 - ((a0.held).toNat)) 0#8) } : Sponge).held).toNat) rfl rfl (by omega) rfl rfl (by omega)) rfl ?_
 refine XW.sv 12 rfl (by kernel_rfl) (SV.store rfl rfl rfl rfl rfl (by rw [Sponge.C_length]; omega)) (fun w m => m.pick [1, 2] 3 rfl rfl) ?_
 refine XW.cells ({ ({ a0 with part := cpV a0.part ((a0.held).toNat) (List.replicate (136 - ((a0.held).toNat)) 0#8) } : Sponge) with part := ({ a0 with part := cpV a0.part ((a0.held).toNat) (List.replicate (136 - ((a0.held).toNat)) 0#8) } : Sponge).part.setIfInBounds ((({ a0 with part := cpV a0.part ((a0.held).toNat) (List.replicate (136 - ((a0.held).toNat)) 0#8) } : Sponge).held).toNat) (x7 ^^^ x10) } : Sponge).C (Sponge.C_part_set _ (by omega) _) ?_
 refine XW.nil (by kernel_rfl) ?_
 refine QW.then_n (CW.seq (CW.region ?_))
 refine OW.rv (RV.field rfl rfl rfl rfl) rfl ?_
 refine OW.slot (ptr (some b2) 26) rfl ?_
 refine OW.rv (RV.idx_a (135) rfl rfl rfl rfl rfl (by omega)) rfl ?_
 refine OW.rv (RV.load rfl (List.Mem.head _) rfl rfl rfl (Sponge.C_part _ (Vector.getElem?_eq_getElem (by decide)))) rfl ?_
 refine OW.rv (RV.xor8 rfl (by first | rfl | exact lit8 _ rfl) rfl (by first | rfl | exact lit8 _ rfl)) rfl ?_
 refine OW.rv (RV.field rfl rfl rfl rfl) rfl ?_
 refine OW.slot (ptr (some b2) 26) rfl ?_
 refine OW.rv (RV.idx_a (135) rfl rfl rfl rfl rfl (by omega)) rfl ?_
 refine OW.sv (SV.store rfl rfl rfl rfl rfl (by rw [Sponge.C_length]; omega)) ?_
 refine OW.cells ({ ({ ({ a0 with part := cpV a0.part ((a0.held).toNat) (List.replicate (136 - ((a0.held).toNat)) 0#8) } : Sponge) with part := ({ a0 with part := cpV a0.part ((a0.held).toNat) (List.replicate (136 - ((a0.held).toNat)) 0#8) } : Sponge).part.setIfInBounds ((({ a0 with part := cpV a0.part ((a0.held).toNat) (List.replicate (136 - ((a0.held).toNat)) 0#8) } : Sponge).held).toNat) (x7 ^^^ x10) } : Sponge) with part := ({ ({ a0 with part := cpV a0.part ((a0.held).toNat) (List.replicate (136 - ((a0.held).toNat)) 0#8) } : Sponge) with part := ({ a0 with part := cpV a0.part ((a0.held).toNat) (List.replicate (136 - ((a0.held).toNat)) 0#8) } : Sponge).part.setIfInBounds ((({ a0 with part := cpV a0.part ((a0.held).toNat) (List.replicate (136 - ((a0.held).toNat)) 0#8) } : Sponge).held).toNat) (x7 ^^^ x10) } : Sponge).part.setIfInBounds 135 (({ ({ a0 with part := cpV a0.part ((a0.held).toNat) (List.replicate (136 - ((a0.held).toNat)) 0#8) } : Sponge) with part := ({ a0 with part := cpV a0.part ((a0.held).toNat) (List.replicate (136 - ((a0.held).toNat)) 0#8) } : Sponge).part.setIfInBounds ((({ a0 with part := cpV a0.part ((a0.held).toNat) (List.replicate (136 - ((a0.held).toNat)) 0#8) } : Sponge).held).toNat) (x7 ^^^ x10) } : Sponge).part[135] ^^^ 128#8) } : Sponge).C (Sponge.C_part_set _ (by omega) _) ?_
 refine OW.nil (QW.then_n (CW.seq (CW.region ?_)))
 obtain ⟨x14, hx13, hf⟩ := some_bind hf
 refine OW.callG Tryd.call126 rfl (keccak_Sponge_absorb_does w0 (More w0 Φ []) ((some b1, blk (u8s (Vector.replicate 32 0#8).toList) 26) :: (some b0_, blk a0.C 130) :: ([] ++ N)) (fun w m => More.of hΦ 2 m rfl) b2 ({ ({ ({ a0 with part := cpV a0.part ((a0.held).toNat) (List.replicate (136 - ((a0.held).toNat)) 0#8) } : Sponge) with part := ({ a0 with part := cpV a0.part ((a0.held).toNat) (List.replicate (136 - ((a0.held).toNat)) 0#8) } : Sponge).part.setIfInBounds ((({ a0 with part := cpV a0.part ((a0.held).toNat) (List.replicate (136 - ((a0.held).toNat)) 0#8) } : Sponge).held).toNat) (x7 ^^^ x10) } : Sponge) with part := ({ ({ a0 with part := cpV a0.part ((a0.held).toNat) (List.replicate (136 - ((a0.held).toNat)) 0#8) } : Sponge) with part := ({ a0 with part := cpV a0.part ((a0.held).toNat) (List.replicate (136 - ((a0.held).toNat)) 0#8) } : Sponge).part.setIfInBounds ((({ a0 with part := cpV a0.part ((a0.held).toNat) (List.replicate (136 - ((a0.held).toNat)) 0#8) } : Sponge).held).toNat) (x7 ^^^ x10) } : Sponge).part.setIfInBounds 135 (({ ({ a0 with part := cpV a0.part ((a0.held).toNat) (List.replicate (136 - ((a0.held).toNat)) 0#8) } : Sponge) with part := ({ a0 with part := cpV a0.part ((a0.held).toNat) (List.replicate (136 - ((a0.held).toNat)) 0#8) } : Sponge).part.setIfInBounds ((({ a0 with part := cpV a0.part ((a0.held).toNat) (List.replicate (136 - ((a0.held).toNat)) 0#8) } : Sponge).held).toNat) (x7 ^^^ x10) } : Sponge).part[135] ^^^ 128#8) } : Sponge) x14 hx13) rfl rfl ?_
 rintro L16 M17 ⟨B15, e18, e19⟩
 rw [e18, e19]
 clear e18 e19 L16 M17
 refine OW.mem (M' := ((some b2, blk x14.C 130) :: (some b1, blk (u8s (Vector.replicate 32 0#8).toList) 26) :: (some b0_, blk a0.C 130) :: ((B15 ++ []) ++ N))) (fun w m => by have h := Mem.sinkAt (A := B15) m 1 2 rfl rfl; exact h) ?_
 have gq1 : ∀ w, More w0 Φ (B15 ++ []) w → More w0 Φ [] w := fun w q => More.mono (fun w m => (m).appR) q
 replace hg0 := hg0.mono gq1
 refine OW.nil (QW.then_n (CW.seq (CW.region ?_)))
 refine OW.alloc (l := (u8s (Vector.replicate 32 0#8).toList)) rfl (by rw [Vector.toList_replicate, ← u8s_rep']; rfl) rfl (fun b20 => ?_)
 refine OW.nil (QW.then_n (CW.seq (CW.seq (CW.region ?_))))
 refine OW.rv (RV.move rfl) rfl ?_
 refine OW.nil (QW.then_n ?_)
 obtain ⟨q21, hq22, hf⟩ := some_bind hf
 refine CW.cutJ (fun L' M' => ∃ w23 : Vector (BitVec 8) 32, q21 = w23 ∧ L' = [(2, ptr (some b1) 0), (4, ptr (some b20) 0)] ∧ M' = ((some b20, blk (u8s w23.toList) 26) :: (some b1, blk (u8s (Vector.replicate 32 0#8).toList) 26) :: (some b0_, blk a0.C 130) :: ((B15 ++ []) ++ N))) ?_ ?_
 ·rintro L25 M26 ⟨w23, e24, e27, e28⟩
  rw [e27, e28]
  clear e27 e28 L25 M26
  clear hq22
  rw [e24] at hf
  clear e24
  try dsimp only at hf
  refine QW.then_n (CW.seq (CW.region ?_))
  refine OW.rv (RV.loadW rfl (List.Mem.head _) rfl rfl rfl rfl ((u8s_length _).trans Vector.length_toList)) rfl ?_
  refine OW.rot1 ?_
  refine OW.sv (SV.storeW rfl rfl rfl (u8s_one _) rfl ((u8s_length _).trans Vector.length_toList) ((u8s_length _).trans Vector.length_toList)) ?_
  refine OW.nil (QW.then_n (CW.ret ?_))
  have er0 := Option.some.inj hf
  obtain ⟨e0, er1⟩ := Prod.mk.inj er0
  clear er0
  subst e0
  subst er1
  refine QW.retG (rs := [.cell 2 26]) ([.agg (u8s w23.toList).toArray]) ((some b0_, blk a0.C 130) :: (B15 ++ [])) rfl ?_ rfl ?_ ?_ _ (.inl rfl)
  ·exact ⟨⟨_, _, _, _, rfl, (List.Mem.head _), rfl, rfl, (congrArg some ((u8s_length _).trans Vector.length_toList).symm), rfl⟩, trivial⟩
  ·exact ⟨(B15 ++ []), rfl, rfl⟩
  ·exact (fun w m => m.pick [2] 3 rfl rfl)
 ·skip
  refine CW.block ?_
  refine CW.loopJ (fun k L' M' => ∃ n29 : Nat, ∃ w31 : Vector (BitVec 8) 32, (keccak_Sponge_Sum.l1 x14 k n29 w31) = some q21 ∧ (n29 ≤ 9223372036854775807) ∧ L' = [(2, ptr (some b1) 0), (3, ptr (some b2) 0), (4, ptr (some b20) 0), (35, .int .i64 ((n29 : Nat) : Int))] ∧ M' = ((some b20, blk (u8s w31.toList) 26) :: (some b2, blk x14.C 130) :: (some b1, blk (u8s (Vector.replicate 32 0#8).toList) 26) :: (some b0_, blk a0.C 130) :: ((B15 ++ []) ++ N))) (k0 := (32 - 0 + 2)) ⟨0, (Vector.replicate 32 0#8), hq22, (by omega), rfl, rfl⟩ ⟨rfl, rfl, rfl, rfl, trivial⟩ (fun w m => m.pick [0, 1, 2, 3] 4 rfl rfl) ?_
  clear hq22
  rintro k32 L35 M36 ⟨n29, w31, hl33, b30, e37, e38⟩
  rw [e37, e38]
  clear e37 e38 L35 M36
  rcases k32 with _ | k32
  ·rw [keccak_Sponge_Sum.l1] at hl33; cases hl33
  rw [keccak_Sponge_Sum.l1] at hl33
  refine CW.seq (CW.region ?_)
  refine OW.rv (RV.lss rfl rfl) rfl ?_
  refine OW.slot (.bool (decide (n29 < 32))) (congrArg Value.bool (decide_eq_decide.2 (by omega))) ?_
  refine OW.nil (QW.then_n (CW.seq ?_))
  by_cases h39 : n29 < 32
  ·replace hl33 := if_t hl33 h39
   refine CW.is_t rfl (decide_eq_true h39) ?_
   refine CW.skip (QW.then_n (CW.seq (CW.block (CW.seq (CW.region ?_)))))
   refine OW.rv (RV.move rfl) rfl ?_
   refine OW.rv (RV.assign rfl) rfl ?_
   refine OW.nil (QW.then_n (CW.region ?_))
   refine OW.rv (RV.move rfl) rfl ?_
   refine OW.rv (RV.move rfl) rfl ?_
   refine OW.rv (RV.quo rfl rfl (by omega) (by omega) (by omega)) rfl ?_
   refine OW.slot (.int .i64 ((n29 / 8 : Nat) : Int)) (by first | rfl | (congr 1; omega)) ?_
   refine OW.rv (RV.field rfl rfl rfl rfl) rfl ?_
   refine OW.slot (ptr (some b2) 1) rfl ?_
   obtain ⟨g40, hl33⟩ := some_if hl33
   refine OW.rv (RV.idx_a ((n29 / 8)) rfl rfl rfl rfl rfl (by omega)) rfl ?_
   obtain ⟨x41, hx42, hl33⟩ := some_bind hl33
   refine OW.rv (RV.load rfl (List.Mem.tail _ (List.Mem.head _)) rfl rfl rfl (Sponge.C_lanes _ hx42)) rfl ?_
   refine OW.rv (RV.move rfl) rfl ?_
   refine OW.rv (RV.rem rfl rfl (by omega) (by omega)) rfl ?_
   refine OW.slot (.int .i64 ((n29 % 8 : Nat) : Int)) (by first | rfl | (congr 1; omega)) ?_
   refine OW.rv (RV.mul rfl rfl (by omega)) rfl ?_
   refine OW.slot (.int .i64 (((8 * (n29 % 8)) : Nat) : Int)) (by first | rfl | (congr 1) | (congr 1; omega)) ?_
   refine OW.rv (RV.shr64 (s := (8 * (n29 % 8))) rfl (by first | rfl | exact lit64 _ rfl) rfl (by first | rfl | (congr 1))) rfl ?_
   refine OW.rv (RV.conv64_8 rfl (by first | rfl | exact lit64 _ rfl) rfl rfl) rfl ?_
   refine OW.rv (RV.idx_a (n29) rfl rfl rfl rfl rfl (by omega)) rfl ?_
   refine OW.sv (SV.store rfl rfl rfl rfl rfl (by rw [u8s_length, Vector.length_toList]; omega)) ?_
   refine OW.cells (u8s (w31.setIfInBounds n29 ((x41 >>> (8 * (n29 % 8))).setWidth 8)).toList) (by rw [Nat.zero_add, u8s_set', vset]) ?_
   refine OW.nil (QW.block_n (QW.then_n (CW.region ?_)))
   refine OW.rv (RV.add rfl rfl (by omega)) rfl ?_
   refine OW.slot (.int .i64 (((n29 + 1) : Nat) : Int)) (by first | rfl | (congr 1) | (congr 1; omega)) ?_
   refine OW.rv (RV.move rfl) rfl ?_
   refine OW.nil ?_
   exact QW.againJ (k' := k32) (Nat.lt_succ_self _) ⟨(n29 + 1), (w31.setIfInBounds n29 ((x41 >>> (8 * (n29 % 8))).setWidth 8)), hl33, (by omega), rfl, rfl⟩ ⟨rfl, rfl, rfl, rfl, trivial⟩ (fun w m => m.pick [0, 1, 2, 3] 4 rfl rfl)
  ·replace hl33 := if_f hl33 h39
   refine CW.is_f rfl (decide_eq_false h39) ?_
   refine CW.exit (QW.then_x (QW.then_x (QW.block_xe ?_)))
   exact QW.join ⟨w31, (Option.some.inj hl33).symm, rfl, rfl⟩ ⟨rfl, rfl, trivial⟩ (fun w m => m.pick [0, 2, 3] 4 rfl rfl)
theorem keccak_digest_does (w0 : World) (Φ : Ctx) (N : List Ent) (hΦ : ∀ w, Mem w0 w N → Φ w) (a0 : Int) (A1_ : Option Addr) (c1_ : Nat) (cs1_ : List Value) (a1 : List (List (BitVec 8))) (res0 : Vector (BitVec 8) 32) (ba0 : -9223372036854775808 ≤ a0 ∧ a0 ≤ 9223372036854775807) (va1 : View Φ A1_ a1.length c1_ 1 cs1_) (ha1 : Reps (BsRd Φ) cs1_ a1) (hg0 : View Φ (some ⟨0, 0, none⟩) 2 2 1 (u8s firstL)) (hf : keccak_digest a0 a1 = some res0) : DoesG Tryd.prog 53 [.int .i64 a0, .slice A1_ a1.length c1_] w0 [] N (fun v G => v = .agg (u8s res0.toList).toArray) := by
 unfold keccak_digest at hf
 replace va1 := va1.mono (Ψ := More w0 Φ []) (fun w q => q.1)
 replace hg0 := hg0.mono (Ψ := More w0 Φ []) (fun w q => q.1)
 replace ha1 := ha1.mono (BsRd.mono (Ψ := More w0 Φ []) (fun w q => q.1))
 have m1 := va1.mx
 refine DoesG.enter Tryd.func53 rfl Tryd.ntmps53 rfl (M := (([] ++ N))) rfl ?_
 refine CW.seq (CW.region ?_)
 refine OW.alloc (l := (u8s (Vector.replicate 32 0#8).toList)) rfl (by rw [Vector.toList_replicate, ← u8s_rep']; rfl) rfl (fun b2 => ?_)
 refine OW.nil (QW.then_n (CW.seq (CW.region ?_)))
 refine OW.rv (RV.move rfl) rfl ?_
 refine OW.rv (RV.buildSt (l := (⟨0, (Vector.replicate 25 0#64), (Vector.replicate 136 0#8), 0, 0⟩ : Sponge).C) (cs := ({ (⟨0, (Vector.replicate 25 0#64), (Vector.replicate 136 0#8), 0, 0⟩ : Sponge) with kind := a0 } : Sponge).C) [(0, [.int .i64 a0])] rfl rfl rfl rfl rfl rfl rfl) rfl ?_
 refine OW.alloc (l := (⟨0, (Vector.replicate 25 0#64), (Vector.replicate 136 0#8), 0, 0⟩ : Sponge).C) rfl (by kernel_rfl) rfl (fun b3 => ?_)
 refine OW.sv (SV.storeW rfl rfl rfl (Sponge.C_one _) rfl (Sponge.C_length _) (Sponge.C_length _)) ?_
 refine OW.nil (QW.then_n (CW.seq (CW.seq (CW.region ?_))))
 refine OW.rv (RV.move rfl) rfl ?_
 refine OW.rv (RV.len rfl rfl) rfl ?_
 refine OW.rv (RV.move rfl) rfl ?_
 refine OW.nil (QW.then_n ?_)
 obtain ⟨q4, hq5, hf⟩ := some_bind hf
 refine CW.cutJ (fun L' M' => ∃ w8 : Sponge, ∃ B6 : List Ent, q4 = w8 ∧ (∀ w, Mem w0 w B6 → Mem w0 w []) ∧ L' = [(4, ptr (some b2) 0), (5, ptr (some b3) 0)] ∧ M' = ((some b3, blk w8.C 130) :: (some b2, blk (u8s (Vector.replicate 32 0#8).toList) 26) :: (B6 ++ N))) ?_ ?_
 ·rintro L10 M11 ⟨w8, B6, e9, hB7, e12, e13⟩
  rw [e12, e13]
  clear e12 e13 L10 M11
  clear hq5
  rw [e9] at hf
  clear e9
  try dsimp only at hf
  have gq1 : ∀ w, More w0 Φ B6 w → More w0 Φ [] w := fun w q => More.mono (fun w m => hB7 w (m)) q
  replace hg0 := hg0.mono gq1
  refine QW.then_n (CW.seq (CW.region ?_))
  obtain ⟨⟨x15, x16⟩, hx14, hf⟩ := some_bind hf
  try dsimp only at hf
  refine OW.callG Tryd.call97 rfl (keccak_Sponge_Sum_does w0 (More w0 Φ B6) ((some b2, blk (u8s (Vector.replicate 32 0#8).toList) 26) :: (B6 ++ N)) (fun w m => More.of hΦ 1 m rfl) b3 w8 x15 x16 hg0 hx14) rfl rfl ?_
  rintro L18 M19 ⟨B17, e20, e21⟩
  rw [e20, e21]
  clear e20 e21 L18 M19
  refine OW.mem (M' := ((some b3, blk x16.C 130) :: (some b2, blk (u8s (Vector.replicate 32 0#8).toList) 26) :: ((B17 ++ B6) ++ N))) (fun w m => by have h := Mem.sinkAt (A := B17) m 1 1 rfl rfl; exact h) ?_
  have gq2 : ∀ w, More w0 Φ (B17 ++ B6) w → More w0 Φ B6 w := fun w q => More.mono (fun w m => (m).appR) q
  replace hg0 := hg0.mono gq2
  refine OW.rot1 ?_
  refine OW.sv (SV.storeW rfl rfl rfl (u8s_one _) rfl ((u8s_length _).trans Vector.length_toList) ((u8s_length _).trans Vector.length_toList)) ?_
  refine OW.nil (QW.then_n (CW.ret ?_))
  have e0 := Option.some.inj hf
  subst e0
  refine QW.retG (rs := [.cell 4 26]) ([.agg (u8s x15.toList).toArray]) ((some b2, blk (u8s x15.toList) 26) :: (some b3, blk x16.C 130) :: (B17 ++ B6)) rfl ?_ rfl ?_ ?_ _ (.inl rfl)
  ·exact ⟨⟨_, _, _, _, rfl, (List.Mem.head _), rfl, rfl, (congrArg some ((u8s_length _).trans Vector.length_toList).symm), rfl⟩, trivial⟩
  ·exact rfl
  ·exact (fun w m => m)
 ·skip
  refine CW.block ?_
  refine CW.loopJ (fun k L' M' => ∃ n24 : Nat, ∃ w26 : Sponge, ∃ B22 : List Ent, (keccak_digest.l1 a1 k n24 w26) = some q4 ∧ (∀ w, Mem w0 w B22 → Mem w0 w []) ∧ (n24 ≤ 9223372036854775807) ∧ L' = [(4, ptr (some b2) 0), (5, ptr (some b3) 0), (10, .slice A1_ a1.length c1_), (11, .int .i64 ((a1.length : Nat) : Int)), (12, .int .i64 ((n24 : Nat) : Int))] ∧ M' = ((some b3, blk w26.C 130) :: (some b2, blk (u8s (Vector.replicate 32 0#8).toList) 26) :: (B22 ++ N))) (k0 := (a1.length - 0 + 2)) ⟨0, ({ (⟨0, (Vector.replicate 25 0#64), (Vector.replicate 136 0#8), 0, 0⟩ : Sponge) with kind := a0 } : Sponge), [], hq5, (fun w m => m), (by omega), rfl, rfl⟩ ⟨rfl, rfl, rfl, rfl, rfl, trivial⟩ (fun w m => m.pick [0, 1] 2 rfl rfl) ?_
  clear hq5
  rintro k27 L30 M31 ⟨n24, w26, B22, hl28, hB23, b25, e32, e33⟩
  rw [e32, e33]
  clear e32 e33 L30 M31
  rcases k27 with _ | k27
  ·rw [keccak_digest.l1] at hl28; cases hl28
  rw [keccak_digest.l1] at hl28
  have gq3 : ∀ w, More w0 Φ B22 w → More w0 Φ [] w := fun w q => More.mono (fun w m => hB23 w (m)) q
  replace va1 := va1.mono gq3
  replace ha1 := ha1.mono (BsRd.mono gq3)
  replace hg0 := hg0.mono gq3
  refine CW.seq (CW.region ?_)
  refine OW.rv (RV.lss rfl rfl) rfl ?_
  refine OW.slot (.bool (decide (n24 < a1.length))) (congrArg Value.bool (decide_eq_decide.2 (by omega))) ?_
  refine OW.nil (QW.then_n (CW.seq ?_))
  by_cases h34 : n24 < a1.length
  ·replace hl28 := if_t hl28 h34
   refine CW.is_t rfl (decide_eq_true h34) ?_
   refine CW.skip (QW.then_n (CW.seq (CW.block (CW.seq (CW.region ?_)))))
   obtain ⟨x35, hx36, hl28⟩ := some_bind hl28
   have hl37 := lt_of_at hx36
   refine OW.rv (RV.idx_r (n24) rfl rfl rfl rfl rfl (va1.isSome (by decide) hl37) (by omega)) rfl ?_
   obtain ⟨cs38, h39, h40⟩ := ha1.get BsRd.len hx36
   obtain ⟨A41, c42, e44, v43⟩ := h39
   subst e44
   have m45 := v43.mx
   refine OW.rv (RV.load_at rfl rfl rfl (fun w m => by have := va1.load (More.of hΦ 2 m rfl) h40 0 _ rfl; simpa [Addr.add] using this)) rfl ?_
   refine OW.rv (RV.assign rfl) rfl ?_
   refine OW.nil (QW.then_n (CW.region ?_))
   refine OW.rv (RV.move rfl) rfl ?_
   obtain ⟨x47, hx46, hl28⟩ := some_bind hl28
   refine OW.callG Tryd.call96 rfl (keccak_Sponge_Write_does w0 (More w0 Φ B22) ((some b2, blk (u8s (Vector.replicate 32 0#8).toList) 26) :: (B22 ++ N)) (fun w m => More.of hΦ 1 m rfl) b3 w26 A41 c42 x35 x47 v43 hx46) rfl rfl ?_
   rintro L49 M50 ⟨B48, e51, e52⟩
   rw [e51, e52]
   clear e51 e52 L49 M50
   refine OW.mem (M' := ((some b3, blk x47.C 130) :: (some b2, blk (u8s (Vector.replicate 32 0#8).toList) 26) :: ((B48 ++ B22) ++ N))) (fun w m => by have h := Mem.sinkAt (A := B48) m 1 1 rfl rfl; exact h) ?_
   have gq4 : ∀ w, More w0 Φ (B48 ++ B22) w → More w0 Φ B22 w := fun w q => More.mono (fun w m => (m).appR) q
   replace va1 := va1.mono gq4
   replace ha1 := ha1.mono (BsRd.mono gq4)
   replace v43 := v43.mono gq4
   replace hg0 := hg0.mono gq4
   refine OW.nil (QW.block_n (QW.then_n (CW.region ?_)))
   refine OW.rv (RV.add rfl rfl (by omega)) rfl ?_
   refine OW.slot (.int .i64 (((n24 + 1) : Nat) : Int)) (by first | rfl | (congr 1) | (congr 1; omega)) ?_
   refine OW.rv (RV.move rfl) rfl ?_
   refine OW.nil ?_
   exact QW.againJ (k' := k27) (Nat.lt_succ_self _) ⟨(n24 + 1), x47, (B48 ++ B22), hl28, (fun w m => hB23 w ((m).appR)), (by omega), rfl, rfl⟩ ⟨rfl, rfl, rfl, rfl, rfl, trivial⟩ (fun w m => m.pick [0, 1] 2 rfl rfl)
  ·replace hl28 := if_f hl28 h34
   refine CW.is_f rfl (decide_eq_false h34) ?_
   refine CW.exit (QW.then_x (QW.then_x (QW.block_xe ?_)))
   exact QW.join ⟨w26, B22, (Option.some.inj hl28).symm, (fun w m => hB23 w (m)), rfl, rfl⟩ ⟨rfl, rfl, trivial⟩ (fun w m => m.pick [0, 1] 2 rfl rfl)
theorem keccak_Sum_does (w0 : World) (Φ : Ctx) (N : List Ent) (hΦ : ∀ w, Mem w0 w N → Φ w) (A0_ : Option Addr) (c0_ : Nat) (cs0_ : List Value) (a0 : List (List (BitVec 8))) (res0 : Vector (BitVec 8) 32) (va0 : View Φ A0_ a0.length c0_ 1 cs0_) (ha0 : Reps (BsRd Φ) cs0_ a0) (hg0 : View Φ (some ⟨0, 0, none⟩) 2 2 1 (u8s firstL)) (hf : keccak_Sum a0 = some res0) : DoesG Tryd.prog 28 [.slice A0_ a0.length c0_] w0 [] N (fun v G => v = .agg (u8s res0.toList).toArray) := by
 unfold keccak_Sum at hf
 replace va0 := va0.mono (Ψ := More w0 Φ []) (fun w q => q.1)
 replace hg0 := hg0.mono (Ψ := More w0 Φ []) (fun w q => q.1)
 replace ha0 := ha0.mono (BsRd.mono (Ψ := More w0 Φ []) (fun w q => q.1))
 have m1 := va0.mx
 refine DoesG.enter Tryd.func28 rfl Tryd.ntmps28 rfl (M := (([] ++ N))) rfl ?_
 refine CW.seq (CW.region ?_)
 refine OW.alloc (l := (u8s (Vector.replicate 32 0#8).toList)) rfl (by rw [Vector.toList_replicate, ← u8s_rep']; rfl) rfl (fun b2 => ?_)
 refine OW.nil (QW.then_n (CW.seq (CW.region ?_)))
 refine OW.rv (RV.move rfl) rfl ?_
 obtain ⟨x4, hx3, hf⟩ := some_bind hf
 refine OW.callG Tryd.call53 rfl (keccak_digest_does w0 (More w0 Φ []) ((some b2, blk (u8s (Vector.replicate 32 0#8).toList) 26) :: ([] ++ N)) (fun w m => More.of hΦ 1 m rfl) (0 : Int) A0_ c0_ cs0_ a0 x4 (by omega) va0 ha0 hg0 hx3) rfl rfl ?_
 rintro _ G5 rfl
 refine OW.mem (M' := ((some b2, blk (u8s (Vector.replicate 32 0#8).toList) 26) :: ([] ++ N))) (fun w m => m.appR) ?_
 refine OW.sv (SV.storeW rfl rfl rfl (u8s_one _) rfl ((u8s_length _).trans Vector.length_toList) ((u8s_length _).trans Vector.length_toList)) ?_
 refine OW.nil (QW.then_n (CW.ret ?_))
 have e0 := Option.some.inj hf
 subst e0
 refine QW.retG (rs := [.cell 2 26]) ([.agg (u8s x4.toList).toArray]) ((some b2, blk (u8s x4.toList) 26) :: []) rfl ?_ rfl ?_ ?_ _ (.inl rfl)
 ·exact ⟨⟨_, _, _, _, rfl, (List.Mem.head _), rfl, rfl, (congrArg some ((u8s_length _).trans Vector.length_toList).symm), rfl⟩, trivial⟩
 ·exact rfl
 ·exact (fun w m => m)
theorem waybillref02_filled_does (w0 : World) (Φ : Ctx) (N : List Ent) (hΦ : ∀ w, Mem w0 w N → Φ w) (A0_ : Option Addr) (c0_ : Nat) (a0 : List (BitVec 8)) (a1 : BitVec 8) (res0 : List (BitVec 8)) (va0 : View Φ A0_ a0.length c0_ 1 (u8s a0)) (hf : waybillref02_filled a0 a1 = some res0) : DoesG Tryd.prog 111 [.slice A0_ a0.length c0_, U8 a1] w0 [] N (fun v G => ∃ B : List Ent, ∃ or0 : Option Nat, ∃ kr0 : Nat, ∃ rr0 : List Value, (OwnS or0 res0.length kr0 1 (u8s res0) rr0) ∧ v = sl or0 0 res0.length kr0 ∧ G = (or0, blk ((u8s res0) ++ rr0) 5) :: B) := by
 unfold waybillref02_filled at hf
 replace va0 := va0.mono (Ψ := More w0 Φ []) (fun w q => q.1)
 have m1 := va0.mx
 refine DoesG.enter Tryd.func111 rfl Tryd.ntmps111 rfl (M := (([] ++ N))) rfl ?_
 refine CW.seq (CW.region ?_)
 refine OW.rv (RV.assign rfl) rfl ?_
 refine OW.nil (QW.then_n (CW.seq (CW.region ?_)))
 refine OW.rv (RV.assign rfl) rfl ?_
 refine OW.nil (QW.then_n (CW.seq (CW.region ?_)))
 refine OW.rv (RV.move rfl) rfl ?_
 refine OW.rv (RV.move rfl) rfl ?_
 refine OW.mem (M' := ((none, blk ((u8s ([] : List (BitVec 8))) ++ []) 5) :: ([] ++ N))) (fun w m => m.nil_ent _) ?_
 refine OW.appendOwn (s := 1) rfl rfl rfl rfl rfl rfl OwnS.nil (fun w m => va0.rd w (More.of hΦ 1 m rfl)) va0.n (u8s_one _) (va0.zero (by decide)) (by decide) (by decide) (by first | omega | (simp only [i5, List.length_nil]; omega)) rfl rfl (a0.length) (u8s a0) (Nat.zero_add _) rfl (fun ob2 r3 c4 o5 => ?_)
 have m6 := o5.mx
 refine OW.rv (RV.assign rfl) rfl ?_
 refine OW.nil (QW.then_n (CW.seq (CW.region ?_)))
 refine OW.rv (RV.move rfl) rfl ?_
 refine OW.rv (RV.move rfl) rfl ?_
 refine OW.ofN (NV.bs1 rfl rfl rfl rfl rfl rfl) rfl (fun b7 => ?_)
 refine OW.mem (M' := (((some b7), blk ((u8s ([a1] : List (BitVec 8))) ++ []) 5) :: (ob2, blk ((u8s a0) ++ r3) 5) :: ([] ++ N))) (fun w m => by first | exact m | simpa [u8s] using m) ?_
 have o8 : OwnS (some b7) ([a1] : List (BitVec 8)).length 1 1 (u8s ([a1] : List (BitVec 8))) [] := ⟨by simp [u8s], by simp [u8s], (fun h => nomatch h), by simp⟩
 refine OW.slot (sl (some b7) 0 ([a1] : List (BitVec 8)).length 1) (rfl) ?_
 refine OW.rot1 ?_
 obtain ⟨g9, hf⟩ := some_if hf
 refine OW.appendOwn (s := 1) rfl rfl rfl rfl rfl rfl o5 (fun w m => m.rd0 (List.Mem.tail _ (List.Mem.head _)) (fun e => o8.nilc (by decide) e)) o8.n (u8s_one _) (o8.zeroO (by decide)) (by decide) (by decide) (by first | omega | (simp only [i5, List.length_nil]; omega)) rfl rfl ((a0 ++ ([a1] : List (BitVec 8))).length) (u8s (a0 ++ ([a1] : List (BitVec 8)))) (List.length_append ..).symm (u8s_app _ _) (fun ob10 r11 c12 o13 => ?_)
 have m14 := o13.mx
 refine OW.rv (RV.assign rfl) rfl ?_
 refine OW.nil (QW.then_n (CW.seq ?_))
 obtain ⟨q15, hq16, hf⟩ := some_bind hf
 refine CW.cutJ (fun L' M' => ∃ l17 : List (BitVec 8), ∃ ob18 : Option Nat, ∃ c19 : Nat, ∃ r20 : List Value, q15 = l17 ∧ (OwnS ob18 l17.length c19 1 (u8s l17) r20) ∧ L' = [(5, sl ob18 0 l17.length c19)] ∧ M' = ((ob18, blk ((u8s l17) ++ r20) 5) :: ([] ++ N))) ?_ ?_
 ·rintro L23 M24 ⟨l17, ob18, c19, r20, e22, o21, e25, e26⟩
  rw [e25, e26]
  clear e25 e26 L23 M24
  clear hq16
  rw [e22] at hf
  clear e22
  try dsimp only at hf
  have m27 := o21.mx
  refine QW.then_n (CW.seq (CW.region ?_))
  refine OW.rv (RV.move rfl) rfl ?_
  refine OW.rv (RV.move rfl) rfl ?_
  refine OW.rv (RV.len rfl rfl) rfl ?_
  refine OW.rv (RV.sub rfl rfl (by omega)) rfl ?_
  refine OW.rv (RV.move rfl) rfl ?_
  refine OW.rv (RV.move rfl) rfl ?_
  refine OW.rv (RV.len rfl rfl) rfl ?_
  refine OW.rv (RV.sub rfl rfl (by omega)) rfl ?_
  obtain ⟨g28, hf⟩ := some_if hf
  obtain ⟨x29, hx30, hf⟩ := some_bind hf
  have hl31 := lt_of_at hx30
  refine OW.rv (RV.idx_o (((((l17.length : Nat) : Int) - (1 : Int))).toNat) rfl rfl (by omega) rfl rfl (o21.isSome (by decide) hl31) (by omega)) rfl ?_
  refine OW.rv (RV.load rfl (List.Mem.head _) (o21.isSome (by decide) hl31) rfl rfl (own_at0 (u8s_at hx30))) rfl ?_
  refine OW.rv (RV.or8 rfl (by first | rfl | exact lit8 _ rfl) rfl (by first | rfl | exact lit8 _ rfl)) rfl ?_
  obtain ⟨x32, hx33, hf⟩ := some_bind hf
  have hl34 := lt_of_at hx33
  refine OW.rv (RV.idx_o (((((l17.length : Nat) : Int) - (1 : Int))).toNat) rfl rfl (by omega) rfl rfl (o21.isSome (by decide) hl34) (by omega)) rfl ?_
  refine OW.sv (SV.store rfl (o21.isSome (by decide) hl34) rfl rfl rfl (by rw [List.length_append, u8s_length]; omega)) ?_
  refine OW.cells ((u8s (l17.set (((((l17.length : Nat) : Int) - (1 : Int))).toNat) (x29 ||| 128#8))) ++ r20) (by rw [Nat.zero_add, List.set_append_left _ _ (by rw [u8s_length]; omega), u8s_set']) ?_
  have o35 : OwnS ob18 (l17.set (((((l17.length : Nat) : Int) - (1 : Int))).toNat) (x29 ||| 128#8)).length c19 1 (u8s (l17.set (((((l17.length : Nat) : Int) - (1 : Int))).toNat) (x29 ||| 128#8))) r20 := OwnS.same o21 (by simp) (by simp)
  refine OW.frame (L' := [(5, sl ob18 0 (l17.set (((((l17.length : Nat) : Int) - (1 : Int))).toNat) (x29 ||| 128#8)).length c19), (20, sl ob18 0 (l17.set (((((l17.length : Nat) : Int) - (1 : Int))).toNat) (x29 ||| 128#8)).length c19), (21, sl ob18 0 (l17.set (((((l17.length : Nat) : Int) - (1 : Int))).toNat) (x29 ||| 128#8)).length c19), (22, .int .i64 ((l17.length : Nat) : Int)), (23, .int .i64 (((l17.length : Nat) : Int) - (1 : Int))), (24, sl ob18 0 (l17.set (((((l17.length : Nat) : Int) - (1 : Int))).toNat) (x29 ||| 128#8)).length c19), (25, sl ob18 0 (l17.set (((((l17.length : Nat) : Int) - (1 : Int))).toNat) (x29 ||| 128#8)).length c19), (26, .int .i64 ((l17.length : Nat) : Int)), (27, .int .i64 (((l17.length : Nat) : Int) - (1 : Int))), (29, U8 x29), (30, U8 (x29 ||| 128#8))]) (fun k v h => Sub.get (L' := [(5, sl ob18 0 (l17.set (((((l17.length : Nat) : Int) - (1 : Int))).toNat) (x29 ||| 128#8)).length c19), (20, sl ob18 0 (l17.set (((((l17.length : Nat) : Int) - (1 : Int))).toNat) (x29 ||| 128#8)).length c19), (21, sl ob18 0 (l17.set (((((l17.length : Nat) : Int) - (1 : Int))).toNat) (x29 ||| 128#8)).length c19), (22, .int .i64 ((l17.length : Nat) : Int)), (23, .int .i64 (((l17.length : Nat) : Int) - (1 : Int))), (24, sl ob18 0 (l17.set (((((l17.length : Nat) : Int) - (1 : Int))).toNat) (x29 ||| 128#8)).length c19), (25, sl ob18 0 (l17.set (((((l17.length : Nat) : Int) - (1 : Int))).toNat) (x29 ||| 128#8)).length c19), (26, .int .i64 ((l17.length : Nat) : Int)), (27, .int .i64 (((l17.length : Nat) : Int) - (1 : Int))), (29, U8 x29), (30, U8 (x29 ||| 128#8))]) ?_ k v h) ?_
  ·exact ⟨(congrArg (fun k => some (sl ob18 0 k c19)) (List.length_set ..).symm), (congrArg (fun k => some (sl ob18 0 k c19)) (List.length_set ..).symm), (congrArg (fun k => some (sl ob18 0 k c19)) (List.length_set ..).symm), rfl, rfl, (congrArg (fun k => some (sl ob18 0 k c19)) (List.length_set ..).symm), (congrArg (fun k => some (sl ob18 0 k c19)) (List.length_set ..).symm), rfl, rfl, rfl, rfl, trivial⟩
  refine OW.nil (QW.then_n (CW.seq (CW.region ?_)))
  refine OW.rv (RV.move rfl) rfl ?_
  refine OW.rv (RV.assign rfl) rfl ?_
  refine OW.nil (QW.then_n (CW.ret ?_))
  have e0 := Option.some.inj hf
  subst e0
  refine QW.retG (rs := [.tmp 4]) ([sl ob18 0 (l17.set (((((l17.length : Nat) : Int) - (1 : Int))).toNat) (x29 ||| 128#8)).length c19]) ((ob18, blk ((u8s (l17.set (((((l17.length : Nat) : Int) - (1 : Int))).toNat) (x29 ||| 128#8))) ++ r20) 5) :: []) rfl ?_ rfl ?_ ?_ _ (.inl rfl)
  ·exact ⟨rfl, trivial⟩
  ·exact ⟨[], ob18, c19, r20, o35, rfl, rfl⟩
  ·exact (fun w m => m.pick [0] 1 rfl rfl)
 ·skip
  refine CW.block ?_
  refine CW.loopJ (fun k L' M' => ∃ l36 : List (BitVec 8), ∃ ob37 : Option Nat, ∃ c38 : Nat, ∃ r39 : List Value, (waybillref02_filled.l1 k l36) = some q15 ∧ (OwnS ob37 l36.length c38 1 (u8s l36) r39) ∧ L' = [(5, sl ob37 0 l36.length c38)] ∧ M' = ((ob37, blk ((u8s l36) ++ r39) 5) :: ([] ++ N))) (k0 := 140) ⟨(a0 ++ ([a1] : List (BitVec 8))), ob10, c12, r11, hq16, o13, rfl, rfl⟩ ⟨rfl, trivial⟩ (fun w m => m.pick [0] 2 rfl rfl) ?_
  clear hq16
  rintro k41 L44 M45 ⟨l36, ob37, c38, r39, hl42, o40, e46, e47⟩
  rw [e46, e47]
  clear e46 e47 L44 M45
  rcases k41 with _ | k41
  ·rw [waybillref02_filled.l1] at hl42; cases hl42
  rw [waybillref02_filled.l1] at hl42
  have m48 := o40.mx
  refine CW.seq (CW.seq (CW.region ?_))
  refine OW.rv (RV.move rfl) rfl ?_
  refine OW.rv (RV.len rfl rfl) rfl ?_
  refine OW.rv (RV.rem rfl rfl (by omega) (by omega)) rfl ?_
  refine OW.slot (.int .i64 ((l36.length % 136 : Nat) : Int)) (by first | rfl | (congr 1; omega)) ?_
  refine OW.rv (RV.neq rfl rfl) rfl ?_
  refine OW.slot (.bool (!decide ((l36.length % 136) = 0))) (congrArg (fun b => Value.bool (!b)) (decide_eq_decide.2 (by omega))) ?_
  refine OW.nil (QW.then_n ?_)
  by_cases h49 : (l36.length % 136) = 0
  ·replace hl42 := if_t hl42 h49
   refine CW.is_f rfl (congrArg (fun b => !b) (decide_eq_true h49)) ?_
   refine CW.exit (QW.then_x (QW.then_x (QW.block_xe ?_)))
   exact QW.join ⟨l36, ob37, c38, r39, (Option.some.inj hl42).symm, o40, rfl, rfl⟩ ⟨rfl, trivial⟩ (fun w m => m.pick [0] 1 rfl rfl)
  ·replace hl42 := if_f hl42 h49
   refine CW.is_t rfl (congrArg (fun b => !b) (decide_eq_false h49)) ?_
   refine CW.skip (QW.then_n (CW.block (CW.region ?_)))
   refine OW.rv (RV.move rfl) rfl ?_
   refine OW.ofN (NV.bs1 rfl rfl rfl rfl rfl rfl) rfl (fun b50 => ?_)
   refine OW.mem (M' := (((some b50), blk ((u8s ([0#8] : List (BitVec 8))) ++ []) 5) :: (ob37, blk ((u8s l36) ++ r39) 5) :: ([] ++ N))) (fun w m => by first | exact m | simpa [u8s] using m) ?_
   have o51 : OwnS (some b50) ([0#8] : List (BitVec 8)).length 1 1 (u8s ([0#8] : List (BitVec 8))) [] := ⟨by simp [u8s], by simp [u8s], (fun h => nomatch h), by simp⟩
   refine OW.slot (sl (some b50) 0 ([0#8] : List (BitVec 8)).length 1) (rfl) ?_
   refine OW.rot1 ?_
   obtain ⟨g52, hl42⟩ := some_if hl42
   refine OW.appendOwn (s := 1) rfl rfl rfl rfl rfl rfl o40 (fun w m => m.rd0 (List.Mem.tail _ (List.Mem.head _)) (fun e => o51.nilc (by decide) e)) o51.n (u8s_one _) (o51.zeroO (by decide)) (by decide) (by decide) (by first | omega | (simp only [i5, List.length_nil]; omega)) rfl rfl ((l36 ++ ([0#8] : List (BitVec 8))).length) (u8s (l36 ++ ([0#8] : List (BitVec 8)))) (List.length_append ..).symm (u8s_app _ _) (fun ob53 r54 c55 o56 => ?_)
   have m57 := o56.mx
   refine OW.rv (RV.assign rfl) rfl ?_
   refine OW.nil (QW.block_n ?_)
   exact QW.againJ (k' := k41) (Nat.lt_succ_self _) ⟨(l36 ++ ([0#8] : List (BitVec 8))), ob53, c55, r54, hl42, o56, rfl, rfl⟩ ⟨rfl, trivial⟩ (fun w m => m.pick [0] 2 rfl rfl)
theorem waybillref02_joined_does (w0 : World) (Φ : Ctx) (N : List Ent) (hΦ : ∀ w, Mem w0 w N → Φ w) (A0_ : Option Addr) (c0_ : Nat) (cs0_ : List Value) (a0 : List (List (BitVec 8))) (res0 : List (BitVec 8)) (va0 : View Φ A0_ a0.length c0_ 1 cs0_) (ha0 : Reps (BsRd Φ) cs0_ a0) (hf : waybillref02_joined a0 = some res0) : DoesG Tryd.prog 110 [.slice A0_ a0.length c0_] w0 [] N (fun v G => ∃ B : List Ent, ∃ or0 : Option Nat, ∃ kr0 : Nat, ∃ rr0 : List Value, (OwnS or0 res0.length kr0 1 (u8s res0) rr0) ∧ v = sl or0 0 res0.length kr0 ∧ G = (or0, blk ((u8s res0) ++ rr0) 5) :: B) := by
 unfold waybillref02_joined at hf
 replace va0 := va0.mono (Ψ := More w0 Φ []) (fun w q => q.1)
 replace ha0 := ha0.mono (BsRd.mono (Ψ := More w0 Φ []) (fun w q => q.1))
 have m1 := va0.mx
 refine DoesG.enter Tryd.func110 rfl Tryd.ntmps110 rfl (M := (([] ++ N))) rfl ?_
 refine CW.seq (CW.region ?_)
 refine OW.rv (RV.assign rfl) rfl ?_
 refine OW.nil (QW.then_n (CW.seq (CW.region ?_)))
 refine OW.rv (RV.assign rfl) rfl ?_
 refine OW.nil (QW.then_n (CW.seq (CW.seq (CW.region ?_))))
 refine OW.rv (RV.assign rfl) rfl ?_
 refine OW.nil (QW.then_n ?_)
 obtain ⟨q2, hq3, hf⟩ := some_bind hf
 refine CW.cutJ (fun L' M' => ∃ l4 : List (BitVec 8), ∃ ob5 : Option Nat, ∃ c6 : Nat, ∃ r7 : List Value, q2 = l4 ∧ (OwnS ob5 l4.length c6 1 (u8s l4) r7) ∧ L' = [(3, sl ob5 0 l4.length c6)] ∧ M' = ((ob5, blk ((u8s l4) ++ r7) 5) :: ([] ++ N))) ?_ ?_
 ·rintro L10 M11 ⟨l4, ob5, c6, r7, e9, o8, e12, e13⟩
  rw [e12, e13]
  clear e12 e13 L10 M11
  clear hq3
  rw [e9] at hf
  clear e9
  try dsimp only at hf
  have m14 := o8.mx
  refine QW.then_n (CW.seq (CW.region ?_))
  refine OW.rv (RV.move rfl) rfl ?_
  refine OW.rv (RV.assign rfl) rfl ?_
  refine OW.nil (QW.then_n (CW.ret ?_))
  have e0 := Option.some.inj hf
  subst e0
  refine QW.retG (rs := [.tmp 2]) ([sl ob5 0 l4.length c6]) ((ob5, blk ((u8s l4) ++ r7) 5) :: []) rfl ?_ rfl ?_ ?_ _ (.inl rfl)
  ·exact ⟨rfl, trivial⟩
  ·exact ⟨[], ob5, c6, r7, o8, rfl, rfl⟩
  ·exact (fun w m => m.pick [0] 1 rfl rfl)
 ·skip
  refine CW.block ?_
  refine CW.mem (M' := ((none, blk ((u8s ([] : List (BitVec 8))) ++ []) 5) :: ([] ++ N))) (fun w m => m.nil_ent _) ?_
  refine CW.loopJ (fun k L' M' => ∃ l15 : List (BitVec 8), ∃ n20 : Nat, ∃ ob16 : Option Nat, ∃ c17 : Nat, ∃ r18 : List Value, (waybillref02_joined.l1 a0 k l15 n20) = some q2 ∧ (OwnS ob16 l15.length c17 1 (u8s l15) r18) ∧ (n20 ≤ 9223372036854775807) ∧ L' = [(0, .slice A0_ a0.length c0_), (3, sl ob16 0 l15.length c17), (4, .int .i64 ((n20 : Nat) : Int))] ∧ M' = ((ob16, blk ((u8s l15) ++ r18) 5) :: ([] ++ N))) (k0 := (a0.length - 0 + 2)) ⟨([] : List (BitVec 8)), 0, none, 0, [], hq3, OwnS.nil, (by omega), rfl, rfl⟩ ⟨rfl, rfl, rfl, trivial⟩ (fun w m => m.pick [0] 1 rfl rfl) ?_
  clear hq3
  rintro k22 L25 M26 ⟨l15, n20, ob16, c17, r18, hl23, o19, b21, e27, e28⟩
  rw [e27, e28]
  clear e27 e28 L25 M26
  rcases k22 with _ | k22
  ·rw [waybillref02_joined.l1] at hl23; cases hl23
  rw [waybillref02_joined.l1] at hl23
  have m29 := o19.mx
  refine CW.seq (CW.seq (CW.region ?_))
  refine OW.rv (RV.move rfl) rfl ?_
  refine OW.rv (RV.move rfl) rfl ?_
  refine OW.rv (RV.len rfl rfl) rfl ?_
  refine OW.rv (RV.lss rfl rfl) rfl ?_
  refine OW.slot (.bool (decide (n20 < a0.length))) (congrArg Value.bool (decide_eq_decide.2 (by omega))) ?_
  refine OW.nil (QW.then_n ?_)
  by_cases h30 : n20 < a0.length
  ·replace hl23 := if_t hl23 h30
   refine CW.is_t rfl (decide_eq_true h30) ?_
   refine CW.skip (QW.then_n (CW.seq (CW.block (CW.region ?_))))
   refine OW.rv (RV.move rfl) rfl ?_
   refine OW.rv (RV.move rfl) rfl ?_
   refine OW.rv (RV.move rfl) rfl ?_
   obtain ⟨x31, hx32, hl23⟩ := some_bind hl23
   have hl33 := lt_of_at hx32
   refine OW.rv (RV.idx_r (n20) rfl rfl rfl rfl rfl (va0.isSome (by decide) hl33) (by omega)) rfl ?_
   obtain ⟨cs34, h35, h36⟩ := ha0.get BsRd.len hx32
   obtain ⟨A37, c38, e40, v39⟩ := h35
   subst e40
   have m41 := v39.mx
   refine OW.rv (RV.load_at rfl rfl rfl (fun w m => by have := va0.load (More.of hΦ 1 m rfl) h36 0 _ rfl; simpa [Addr.add] using this)) rfl ?_
   obtain ⟨g42, hl23⟩ := some_if hl23
   refine OW.appendOwn (s := 1) rfl rfl rfl rfl rfl rfl o19 (fun w m => v39.rd w (More.of hΦ 1 m rfl)) v39.n (u8s_one _) (v39.zero (by decide)) (by decide) (by decide) (by first | omega | (simp only [i5, List.length_nil]; omega)) rfl rfl ((l15 ++ x31).length) (u8s (l15 ++ x31)) (List.length_append ..).symm (u8s_app _ _) (fun ob43 r44 c45 o46 => ?_)
   have m47 := o46.mx
   refine OW.rv (RV.assign rfl) rfl ?_
   refine OW.nil (QW.block_n (QW.then_n (CW.region ?_)))
   refine OW.rv (RV.move rfl) rfl ?_
   refine OW.rv (RV.add rfl rfl (by omega)) rfl ?_
   refine OW.slot (.int .i64 (((n20 + 1) : Nat) : Int)) (by first | rfl | (congr 1) | (congr 1; omega)) ?_
   refine OW.rv (RV.assign rfl) rfl ?_
   refine OW.nil ?_
   exact QW.againJ (k' := k22) (Nat.lt_succ_self _) ⟨(l15 ++ x31), (n20 + 1), ob43, c45, r44, hl23, o46, (by omega), rfl, rfl⟩ ⟨rfl, rfl, rfl, trivial⟩ (fun w m => m.pick [0] 1 rfl rfl)
  ·replace hl23 := if_f hl23 h30
   refine CW.is_f rfl (decide_eq_false h30) ?_
   refine CW.exit (QW.then_x (QW.then_x (QW.block_xe ?_)))
   exact QW.join ⟨l15, ob16, c17, r18, (Option.some.inj hl23).symm, o19, rfl, rfl⟩ ⟨rfl, trivial⟩ (fun w m => m.pick [0] 1 rfl rfl)
theorem waybillref02_Digest_does (w0 : World) (Φ : Ctx) (N : List Ent) (hΦ : ∀ w, Mem w0 w N → Φ w) (A0_ : Option Addr) (c0_ : Nat) (a0 : List (BitVec 8)) (a1 : BitVec 8) (res0 : Vector (BitVec 8) 32) (va0 : View Φ A0_ a0.length c0_ 1 (u8s a0)) (hTn : ∀ i, i < 25 → w0.cell? ⟨4, i, none⟩ = some (.int .i64 (turnsL.getD i 0))) (hRn : ∀ i, i < 24 → w0.cell? ⟨3, i, none⟩ = some (U64 (g64 roundsL i))) (hf : waybillref02_Digest a0 a1 = some res0) : DoesG Tryd.prog 65 [.slice A0_ a0.length c0_, U8 a1] w0 [] N (fun v G => v = .agg (u8s res0.toList).toArray) := by
 unfold waybillref02_Digest at hf
 replace va0 := va0.mono (Ψ := More w0 Φ []) (fun w q => q.1)
 have m1 := va0.mx
 refine DoesG.enter Tryd.func65 rfl Tryd.ntmps65 rfl (M := (([] ++ N))) rfl ?_
 refine CW.seq (CW.region ?_)
 refine OW.alloc (l := (u8s (Vector.replicate 32 0#8).toList)) rfl (by rw [Vector.toList_replicate, ← u8s_rep']; rfl) rfl (fun b2 => ?_)
 refine OW.nil (QW.then_n (CW.seq (CW.region ?_)))
 refine OW.rv (RV.move rfl) rfl ?_
 refine OW.rv (RV.move rfl) rfl ?_
 obtain ⟨x4, hx3, hf⟩ := some_bind hf
 refine OW.callG Tryd.call111 rfl (waybillref02_filled_does w0 (More w0 Φ []) ((some b2, blk (u8s (Vector.replicate 32 0#8).toList) 26) :: ([] ++ N)) (fun w m => More.of hΦ 1 m rfl) A0_ c0_ a0 a1 x4 va0 hx3) rfl rfl ?_
 rintro L10 M11 ⟨B5, ob6, c7, r8, o9, e12, e13⟩
 rw [e12, e13]
 clear e12 e13 L10 M11
 refine OW.mem (M' := ((ob6, blk ((u8s x4) ++ r8) 5) :: (some b2, blk (u8s (Vector.replicate 32 0#8).toList) 26) :: ((B5 ++ []) ++ N))) (fun w m => by have h := Mem.sinkAt (A := B5) m 1 1 rfl rfl; exact h) ?_
 have gq1 : ∀ w, More w0 Φ (B5 ++ []) w → More w0 Φ [] w := fun w q => More.mono (fun w m => (m).appR) q
 replace va0 := va0.mono gq1
 have m14 := o9.mx
 refine OW.rv (RV.assign rfl) rfl ?_
 refine OW.nil (QW.then_n (CW.seq (CW.region ?_)))
 refine OW.alloc (l := (u64s (Vector.replicate 25 0#64).toList)) rfl (by rw [Vector.toList_replicate, ← u64s_rep]; rfl) rfl (fun b15 => ?_)
 refine OW.nil (QW.then_n (CW.seq (CW.seq (CW.region ?_))))
 refine OW.rv (RV.assign rfl) rfl ?_
 refine OW.nil (QW.then_n ?_)
 obtain ⟨q16, hq17, hf⟩ := some_bind hf
 refine CW.cutJ (fun L' M' => ∃ w18 : Vector (BitVec 64) 25, q16 = w18 ∧ L' = [(4, ptr (some b2) 0), (6, ptr (some b15) 0)] ∧ M' = ((some b15, blk (u64s w18.toList) 127) :: (some b2, blk (u8s (Vector.replicate 32 0#8).toList) 26) :: ((B5 ++ []) ++ N))) ?_ ?_
 ·rintro L20 M21 ⟨w18, e19, e22, e23⟩
  rw [e22, e23]
  clear e22 e23 L20 M21
  clear hq17
  rw [e19] at hf
  clear e19
  try dsimp only at hf
  refine QW.then_n (CW.seq (CW.region ?_))
  refine OW.alloc (l := (u8s (Vector.replicate 32 0#8).toList)) rfl (by rw [Vector.toList_replicate, ← u8s_rep']; rfl) rfl (fun b24 => ?_)
  refine OW.nil (QW.then_n (CW.seq (CW.seq (CW.region ?_))))
  refine OW.rv (RV.assign rfl) rfl ?_
  refine OW.nil (QW.then_n ?_)
  obtain ⟨q25, hq26, hf⟩ := some_bind hf
  refine CW.cutJ (fun L' M' => ∃ w27 : Vector (BitVec 8) 32, q25 = w27 ∧ L' = [(4, ptr (some b2) 0), (9, ptr (some b24) 0)] ∧ M' = ((some b24, blk (u8s w27.toList) 26) :: (some b2, blk (u8s (Vector.replicate 32 0#8).toList) 26) :: ((B5 ++ []) ++ N))) ?_ ?_
  ·rintro L29 M30 ⟨w27, e28, e31, e32⟩
   rw [e31, e32]
   clear e31 e32 L29 M30
   clear hq26
   rw [e28] at hf
   clear e28
   try dsimp only at hf
   refine QW.then_n (CW.seq (CW.region ?_))
   refine OW.rv (RV.loadW rfl (List.Mem.head _) rfl rfl rfl rfl ((u8s_length _).trans Vector.length_toList)) rfl ?_
   refine OW.rot1 ?_
   refine OW.sv (SV.storeW rfl rfl rfl (u8s_one _) rfl ((u8s_length _).trans Vector.length_toList) ((u8s_length _).trans Vector.length_toList)) ?_
   refine OW.nil (QW.then_n (CW.ret ?_))
   have e0 := Option.some.inj hf
   subst e0
   refine QW.retG (rs := [.cell 4 26]) ([.agg (u8s w27.toList).toArray]) ((some b2, blk (u8s w27.toList) 26) :: (some b24, blk (u8s w27.toList) 26) :: (B5 ++ [])) rfl ?_ rfl ?_ ?_ _ (.inl rfl)
   ·exact ⟨⟨_, _, _, _, rfl, (List.Mem.head _), rfl, rfl, (congrArg some ((u8s_length _).trans Vector.length_toList).symm), rfl⟩, trivial⟩
   ·exact rfl
   ·exact (fun w m => m)
  ·skip
   refine CW.block ?_
   refine CW.loopJ (fun k L' M' => ∃ n33 : Nat, ∃ w35 : Vector (BitVec 8) 32, (waybillref02_Digest.l1 w18 k n33 w35) = some q25 ∧ (n33 ≤ 9223372036854775807) ∧ L' = [(4, ptr (some b2) 0), (6, ptr (some b15) 0), (9, ptr (some b24) 0), (10, .int .i64 ((n33 : Nat) : Int))] ∧ M' = ((some b24, blk (u8s w35.toList) 26) :: (some b15, blk (u64s w18.toList) 127) :: (some b2, blk (u8s (Vector.replicate 32 0#8).toList) 26) :: ((B5 ++ []) ++ N))) (k0 := (32 - 0 + 2)) ⟨0, (Vector.replicate 32 0#8), hq26, (by omega), rfl, rfl⟩ ⟨rfl, rfl, rfl, rfl, trivial⟩ (fun w m => m.pick [0, 1, 2] 3 rfl rfl) ?_
   clear hq26
   rintro k36 L39 M40 ⟨n33, w35, hl37, b34, e41, e42⟩
   rw [e41, e42]
   clear e41 e42 L39 M40
   rcases k36 with _ | k36
   ·rw [waybillref02_Digest.l1] at hl37; cases hl37
   rw [waybillref02_Digest.l1] at hl37
   refine CW.seq (CW.seq (CW.region ?_))
   refine OW.rv (RV.move rfl) rfl ?_
   refine OW.rv (RV.lss rfl rfl) rfl ?_
   refine OW.slot (.bool (decide (n33 < 32))) (congrArg Value.bool (decide_eq_decide.2 (by omega))) ?_
   refine OW.nil (QW.then_n ?_)
   by_cases h43 : n33 < 32
   ·replace hl37 := if_t hl37 h43
    refine CW.is_t rfl (decide_eq_true h43) ?_
    refine CW.skip (QW.then_n (CW.seq (CW.block (CW.region ?_))))
    refine OW.rv (RV.move rfl) rfl ?_
    refine OW.rv (RV.move rfl) rfl ?_
    refine OW.rv (RV.quo rfl rfl (by omega) (by omega) (by omega)) rfl ?_
    refine OW.slot (.int .i64 ((n33 / 8 : Nat) : Int)) (by first | rfl | (congr 1; omega)) ?_
    obtain ⟨g44, hl37⟩ := some_if hl37
    refine OW.rv (RV.idx_a ((n33 / 8)) rfl rfl rfl rfl rfl (by omega)) rfl ?_
    obtain ⟨x45, hx46, hl37⟩ := some_bind hl37
    refine OW.rv (RV.load rfl (List.Mem.tail _ (List.Mem.head _)) rfl rfl rfl (by rw [Nat.zero_add]; exact u64s_at (vat hx46))) rfl ?_
    refine OW.rv (RV.move rfl) rfl ?_
    refine OW.rv (RV.rem rfl rfl (by omega) (by omega)) rfl ?_
    refine OW.slot (.int .i64 ((n33 % 8 : Nat) : Int)) (by first | rfl | (congr 1; omega)) ?_
    refine OW.rv (RV.mul rfl rfl (by omega)) rfl ?_
    refine OW.slot (.int .i64 (((8 * (n33 % 8)) : Nat) : Int)) (by first | rfl | (congr 1) | (congr 1; omega)) ?_
    refine OW.rv (RV.conv_i64 rfl rfl rfl) rfl ?_
    refine OW.slot (U64 (BitVec.ofNat 64 (8 * (n33 % 8)))) (congrArg U64 (BitVec.ofInt_natCast ..)) ?_
    refine OW.rv (RV.shr64 (s := (BitVec.ofNat 64 (8 * (n33 % 8))).toNat) rfl (by first | rfl | exact lit64 _ rfl) rfl (by first | rfl | (simp [U64]; done))) rfl ?_
    refine OW.rv (RV.conv64_8 rfl (by first | rfl | exact lit64 _ rfl) rfl rfl) rfl ?_
    refine OW.rv (RV.idx_a (n33) rfl rfl rfl rfl rfl (by omega)) rfl ?_
    refine OW.sv (SV.store rfl rfl rfl rfl rfl (by rw [u8s_length, Vector.length_toList]; omega)) ?_
    refine OW.cells (u8s (w35.setIfInBounds n33 ((x45 >>> (BitVec.ofNat 64 (8 * (n33 % 8))).toNat).setWidth 8)).toList) (by rw [Nat.zero_add, u8s_set', vset]) ?_
    refine OW.nil (QW.block_n (QW.then_n (CW.region ?_)))
    refine OW.rv (RV.move rfl) rfl ?_
    refine OW.rv (RV.add rfl rfl (by omega)) rfl ?_
    refine OW.slot (.int .i64 (((n33 + 1) : Nat) : Int)) (by first | rfl | (congr 1) | (congr 1; omega)) ?_
    refine OW.rv (RV.assign rfl) rfl ?_
    refine OW.nil ?_
    exact QW.againJ (k' := k36) (Nat.lt_succ_self _) ⟨(n33 + 1), (w35.setIfInBounds n33 ((x45 >>> (BitVec.ofNat 64 (8 * (n33 % 8))).toNat).setWidth 8)), hl37, (by omega), rfl, rfl⟩ ⟨rfl, rfl, rfl, rfl, trivial⟩ (fun w m => m.pick [0, 1, 2] 3 rfl rfl)
   ·replace hl37 := if_f hl37 h43
    refine CW.is_f rfl (decide_eq_false h43) ?_
    refine CW.exit (QW.then_x (QW.then_x (QW.block_xe ?_)))
    exact QW.join ⟨w35, (Option.some.inj hl37).symm, rfl, rfl⟩ ⟨rfl, rfl, trivial⟩ (fun w m => m.pick [0, 2] 3 rfl rfl)
 ·skip
  refine CW.block ?_
  refine CW.loopJ (fun k L' M' => ∃ n47 : Nat, ∃ w49 : Vector (BitVec 64) 25, (waybillref02_Digest.l2 x4 k n47 w49) = some q16 ∧ (n47 ≤ 9223372036854775807) ∧ L' = [(4, ptr (some b2) 0), (5, sl ob6 0 x4.length c7), (6, ptr (some b15) 0), (7, .int .i64 ((n47 : Nat) : Int))] ∧ M' = ((some b15, blk (u64s w49.toList) 127) :: (ob6, blk ((u8s x4) ++ r8) 5) :: (some b2, blk (u8s (Vector.replicate 32 0#8).toList) 26) :: ((B5 ++ []) ++ N))) (k0 := (x4.length - 0 + 2)) ⟨0, (Vector.replicate 25 0#64), hq17, (by omega), rfl, rfl⟩ ⟨rfl, rfl, rfl, rfl, trivial⟩ (fun w m => m.pick [0, 1, 2] 3 rfl rfl) ?_
  clear hq17
  rintro k50 L53 M54 ⟨n47, w49, hl51, b48, e55, e56⟩
  rw [e55, e56]
  clear e55 e56 L53 M54
  rcases k50 with _ | k50
  ·rw [waybillref02_Digest.l2] at hl51; cases hl51
  rw [waybillref02_Digest.l2] at hl51
  have m57 := o9.mx
  refine CW.seq (CW.seq (CW.region ?_))
  refine OW.rv (RV.move rfl) rfl ?_
  refine OW.rv (RV.move rfl) rfl ?_
  refine OW.rv (RV.len rfl rfl) rfl ?_
  refine OW.rv (RV.lss rfl rfl) rfl ?_
  refine OW.slot (.bool (decide (n47 < x4.length))) (congrArg Value.bool (decide_eq_decide.2 (by omega))) ?_
  refine OW.nil (QW.then_n ?_)
  by_cases h58 : n47 < x4.length
  ·replace hl51 := if_t hl51 h58
   refine CW.is_t rfl (decide_eq_true h58) ?_
   refine CW.skip (QW.then_n (CW.seq (CW.block (CW.seq (CW.seq (CW.region ?_))))))
   refine OW.rv (RV.assign rfl) rfl ?_
   refine OW.nil (QW.then_n ?_)
   obtain ⟨q59, hq60, hl51⟩ := some_bind hl51
   refine CW.cutJ (fun L' M' => ∃ w61 : Vector (BitVec 64) 25, q59 = w61 ∧ L' = [(4, ptr (some b2) 0), (5, sl ob6 0 x4.length c7), (6, ptr (some b15) 0), (7, .int .i64 ((n47 : Nat) : Int))] ∧ M' = ((some b15, blk (u64s w61.toList) 127) :: (ob6, blk ((u8s x4) ++ r8) 5) :: (some b2, blk (u8s (Vector.replicate 32 0#8).toList) 26) :: ((B5 ++ []) ++ N))) ?_ ?_
   ·rintro L63 M64 ⟨w61, e62, e65, e66⟩
    rw [e65, e66]
    clear e65 e66 L63 M64
    clear hq60
    rw [e62] at hl51
    clear e62
    try dsimp only at hl51
    have m67 := o9.mx
    refine QW.then_n (CW.region ?_)
    refine OW.rv (RV.loadW rfl (List.Mem.head _) rfl rfl rfl rfl ((u64s_length _).trans Vector.length_toList)) rfl ?_
    obtain ⟨x69, hx68, hl51⟩ := some_bind hl51
    refine OW.callG Tryd.call112 rfl (waybillref02_Permute_does w0 (More w0 Φ (B5 ++ [])) ((some b15, blk (u64s w61.toList) 127) :: (ob6, blk ((u8s x4) ++ r8) 5) :: (some b2, blk (u8s (Vector.replicate 32 0#8).toList) 26) :: ((B5 ++ []) ++ N)) (fun w m => More.of hΦ 3 m rfl) w61 x69 hTn hRn hx68) rfl rfl ?_
    rintro _ G70 rfl
    refine OW.mem (M' := ((some b15, blk (u64s w61.toList) 127) :: (ob6, blk ((u8s x4) ++ r8) 5) :: (some b2, blk (u8s (Vector.replicate 32 0#8).toList) 26) :: ((B5 ++ []) ++ N))) (fun w m => m.appR) ?_
    refine OW.sv (SV.storeW rfl rfl rfl (u64s_one _) rfl ((u64s_length _).trans Vector.length_toList) ((u64s_length _).trans Vector.length_toList)) ?_
    refine OW.nil (QW.block_n (QW.then_n (CW.region ?_)))
    refine OW.rv (RV.move rfl) rfl ?_
    refine OW.rv (RV.add rfl rfl (by omega)) rfl ?_
    refine OW.slot (.int .i64 (((n47 + 136) : Nat) : Int)) (by first | rfl | (congr 1) | (congr 1; omega)) ?_
    refine OW.rv (RV.assign rfl) rfl ?_
    refine OW.nil ?_
    exact QW.againJ (k' := k50) (Nat.lt_succ_self _) ⟨(n47 + 136), x69, hl51, (by omega), rfl, rfl⟩ ⟨rfl, rfl, rfl, rfl, trivial⟩ (fun w m => m.pick [0, 1, 2] 3 rfl rfl)
   ·skip
    refine CW.block ?_
    refine CW.loopJ (fun k L' M' => ∃ n72 : Nat, ∃ w74 : Vector (BitVec 64) 25, (waybillref02_Digest.l3 x4 n47 k n72 w74) = some q59 ∧ (n72 ≤ 9223372036854775807) ∧ L' = [(4, ptr (some b2) 0), (5, sl ob6 0 x4.length c7), (6, ptr (some b15) 0), (7, .int .i64 ((n47 : Nat) : Int)), (8, .int .i64 ((n72 : Nat) : Int))] ∧ M' = ((some b15, blk (u64s w74.toList) 127) :: (ob6, blk ((u8s x4) ++ r8) 5) :: (some b2, blk (u8s (Vector.replicate 32 0#8).toList) 26) :: ((B5 ++ []) ++ N))) (k0 := (136 - 0 + 2)) ⟨0, w49, hq60, (by omega), rfl, rfl⟩ ⟨rfl, rfl, rfl, rfl, rfl, trivial⟩ (fun w m => m.pick [0, 1, 2] 3 rfl rfl) ?_
    clear hq60
    rintro k75 L78 M79 ⟨n72, w74, hl76, b73, e80, e81⟩
    rw [e80, e81]
    clear e80 e81 L78 M79
    rcases k75 with _ | k75
    ·rw [waybillref02_Digest.l3] at hl76; cases hl76
    rw [waybillref02_Digest.l3] at hl76
    have m82 := o9.mx
    refine CW.seq (CW.seq (CW.region ?_))
    refine OW.rv (RV.move rfl) rfl ?_
    refine OW.rv (RV.lss rfl rfl) rfl ?_
    refine OW.slot (.bool (decide (n72 < 136))) (congrArg Value.bool (decide_eq_decide.2 (by omega))) ?_
    refine OW.nil (QW.then_n ?_)
    by_cases h83 : n72 < 136
    ·replace hl76 := if_t hl76 h83
     refine CW.is_t rfl (decide_eq_true h83) ?_
     refine CW.skip (QW.then_n (CW.seq (CW.block ?_)))
     refine CW.drawsX ((ob6, blk ((u8s x4) ++ r8) 5) :: (some b2, blk (u8s (Vector.replicate 32 0#8).toList) 26) :: ((B5 ++ []) ++ N)) [20] (fun w m => m.pick [1, 2] 3 rfl rfl) mixed (by kernel_rfl) ?_
     refine XW.rs 0 rfl (by kernel_rfl) rfl (RV.move rfl) rfl ?_
     refine XW.rs 1 rfl (by kernel_rfl) rfl (RV.quo rfl rfl (by omega) (by omega) (by omega)) rfl ?_
     refine XW.slot (.int .i64 ((n72 / 8 : Nat) : Int)) (by first | rfl | (congr 1; omega)) ?_
     refine XW.rs 2 rfl (by kernel_rfl) rfl (RV.move rfl) rfl ?_
     refine XW.rs 3 rfl (by kernel_rfl) rfl (RV.quo rfl rfl (by omega) (by omega) (by omega)) rfl ?_
     refine XW.slot (.int .i64 ((n72 / 8 : Nat) : Int)) (by first | rfl | (congr 1; omega)) ?_
     obtain ⟨g84, hl76⟩ := some_if hl76
     refine XW.rs 4 rfl (by kernel_rfl) rfl (RV.idx_a ((n72 / 8)) rfl rfl rfl rfl rfl (by omega)) rfl ?_
     obtain ⟨x85, hx86, hl76⟩ := some_bind hl76
     refine XW.rv 5 rfl (by kernel_rfl) rfl (by kernel_rfl) (RV.load rfl (List.Mem.head _) rfl rfl rfl (by rw [Nat.zero_add]; exact u64s_at (vat hx86))) rfl ?_
     refine XW.rs 6 rfl (by kernel_rfl) rfl (RV.move rfl) rfl ?_
     refine XW.rs 7 rfl (by kernel_rfl) rfl (RV.move rfl) rfl ?_
     refine XW.rs 8 rfl (by kernel_rfl) rfl (RV.move rfl) rfl ?_
     refine XW.rs 9 rfl (by kernel_rfl) rfl (RV.add rfl rfl (by omega)) rfl ?_
     refine XW.slot (.int .i64 (((n47 + n72) : Nat) : Int)) (by first | rfl | (congr 1) | (congr 1; omega)) ?_
     obtain ⟨x87, hx88, hl76⟩ := some_bind hl76
     have hl89 := lt_of_at hx88
     refine XW.rs 10 rfl (by kernel_rfl) rfl (RV.idx_o ((n47 + n72)) rfl rfl rfl rfl rfl (o9.isSome (by decide) hl89) (by omega)) rfl ?_
     refine XW.rs 11 rfl (by kernel_rfl) rfl (RV.load rfl (List.Mem.head _) (o9.isSome (by decide) hl89) rfl rfl (own_at0 (u8s_at hx88))) rfl ?_
     refine XW.rs 12 rfl (by kernel_rfl) rfl (RV.conv8_64 rfl (by first | rfl | exact lit8 _ rfl) rfl rfl) rfl ?_
     refine XW.rs 13 rfl (by kernel_rfl) rfl (RV.move rfl) rfl ?_
     refine XW.rs 14 rfl (by kernel_rfl) rfl (RV.rem rfl rfl (by omega) (by omega)) rfl ?_
     refine XW.slot (.int .i64 ((n72 % 8 : Nat) : Int)) (by first | rfl | (congr 1; omega)) ?_
     refine XW.rs 15 rfl (by kernel_rfl) rfl (RV.mul rfl rfl (by omega)) rfl ?_
     refine XW.slot (.int .i64 (((8 * (n72 % 8)) : Nat) : Int)) (by first | rfl | (congr 1) | (congr 1; omega)) ?_
     refine XW.rs 16 rfl (by kernel_rfl) rfl (RV.conv_i64 rfl rfl rfl) rfl ?_
     refine XW.slot (U64 (BitVec.ofNat 64 (8 * (n72 % 8)))) (congrArg U64 (BitVec.ofInt_natCast ..)) ?_
     refine XW.rs 17 rfl (by kernel_rfl) rfl (RV.shl64 (s := (BitVec.ofNat 64 (8 * (n72 % 8))).toNat) rfl (by first | rfl | exact lit64 _ rfl) rfl (by first | rfl | (simp [U64]; done))) rfl ?_
     refine XW.rs 18 rfl (by kernel_rfl) rfl (RV.xor64 rfl (by first | rfl | exact lit64 _ rfl) rfl (by first | rfl | exact lit64 _ rfl)) rfl ?_
     refine XW.rs 19 rfl (by kernel_rfl) rfl (RV.idx_a ((n72 / 8)) rfl rfl rfl rfl rfl (by omega)) rfl ?_
     refine XW.sv 20 rfl (by kernel_rfl) (SV.store rfl rfl rfl rfl rfl (by rw [u64s_length, Vector.length_toList]; omega)) (fun w m => m.pick [1, 2] 3 rfl rfl) ?_
     refine XW.cells (u64s (w74.setIfInBounds (n72 / 8) (x85 ^^^ ((x87.setWidth 64) <<< (BitVec.ofNat 64 (8 * (n72 % 8))).toNat))).toList) (by rw [Nat.zero_add, u64s_set', vset]) ?_
     refine XW.nil (by kernel_rfl) ?_
     refine QW.block_n (QW.then_n (CW.region ?_))
     refine OW.rv (RV.move rfl) rfl ?_
     refine OW.rv (RV.add rfl rfl (by omega)) rfl ?_
     refine OW.slot (.int .i64 (((n72 + 1) : Nat) : Int)) (by first | rfl | (congr 1) | (congr 1; omega)) ?_
     refine OW.rv (RV.assign rfl) rfl ?_
     refine OW.nil ?_
     exact QW.againJ (k' := k75) (Nat.lt_succ_self _) ⟨(n72 + 1), (w74.setIfInBounds (n72 / 8) (x85 ^^^ ((x87.setWidth 64) <<< (BitVec.ofNat 64 (8 * (n72 % 8))).toNat))), hl76, (by omega), rfl, rfl⟩ ⟨rfl, rfl, rfl, rfl, rfl, trivial⟩ (fun w m => m.pick [0, 1, 2] 3 rfl rfl)
    ·replace hl76 := if_f hl76 h83
     refine CW.is_f rfl (decide_eq_false h83) ?_
     refine CW.exit (QW.then_x (QW.then_x (QW.block_xe ?_)))
     exact QW.join ⟨w74, (Option.some.inj hl76).symm, rfl, rfl⟩ ⟨rfl, rfl, rfl, rfl, trivial⟩ (fun w m => m.pick [0, 1, 2] 3 rfl rfl)
  ·replace hl51 := if_f hl51 h58
   refine CW.is_f rfl (decide_eq_false h58) ?_
   refine CW.exit (QW.then_x (QW.then_x (QW.block_xe ?_)))
   exact QW.join ⟨w49, (Option.some.inj hl51).symm, rfl, rfl⟩ ⟨rfl, rfl, trivial⟩ (fun w m => m.pick [0, 2] 3 rfl rfl)
theorem waybillref02_Sum_does (w0 : World) (Φ : Ctx) (N : List Ent) (hΦ : ∀ w, Mem w0 w N → Φ w) (A0_ : Option Addr) (c0_ : Nat) (cs0_ : List Value) (a0 : List (List (BitVec 8))) (res0 : Vector (BitVec 8) 32) (va0 : View Φ A0_ a0.length c0_ 1 cs0_) (ha0 : Reps (BsRd Φ) cs0_ a0) (hTn : ∀ i, i < 25 → w0.cell? ⟨4, i, none⟩ = some (.int .i64 (turnsL.getD i 0))) (hRn : ∀ i, i < 24 → w0.cell? ⟨3, i, none⟩ = some (U64 (g64 roundsL i))) (hf : waybillref02_Sum a0 = some res0) : DoesG Tryd.prog 64 [.slice A0_ a0.length c0_] w0 [] N (fun v G => v = .agg (u8s res0.toList).toArray) := by
 unfold waybillref02_Sum at hf
 replace va0 := va0.mono (Ψ := More w0 Φ []) (fun w q => q.1)
 replace ha0 := ha0.mono (BsRd.mono (Ψ := More w0 Φ []) (fun w q => q.1))
 have m1 := va0.mx
 refine DoesG.enter Tryd.func64 rfl Tryd.ntmps64 rfl (M := (([] ++ N))) rfl ?_
 refine CW.seq (CW.region ?_)
 refine OW.alloc (l := (u8s (Vector.replicate 32 0#8).toList)) rfl (by rw [Vector.toList_replicate, ← u8s_rep']; rfl) rfl (fun b2 => ?_)
 refine OW.nil (QW.then_n (CW.seq (CW.region ?_)))
 refine OW.rv (RV.move rfl) rfl ?_
 obtain ⟨x4, hx3, hf⟩ := some_bind hf
 refine OW.callG Tryd.call110 rfl (waybillref02_joined_does w0 (More w0 Φ []) ((some b2, blk (u8s (Vector.replicate 32 0#8).toList) 26) :: ([] ++ N)) (fun w m => More.of hΦ 1 m rfl) A0_ c0_ cs0_ a0 x4 va0 ha0 hx3) rfl rfl ?_
 rintro L10 M11 ⟨B5, ob6, c7, r8, o9, e12, e13⟩
 rw [e12, e13]
 clear e12 e13 L10 M11
 refine OW.mem (M' := ((ob6, blk ((u8s x4) ++ r8) 5) :: (some b2, blk (u8s (Vector.replicate 32 0#8).toList) 26) :: ((B5 ++ []) ++ N))) (fun w m => by have h := Mem.sinkAt (A := B5) m 1 1 rfl rfl; exact h) ?_
 have gq1 : ∀ w, More w0 Φ (B5 ++ []) w → More w0 Φ [] w := fun w q => More.mono (fun w m => (m).appR) q
 replace va0 := va0.mono gq1
 replace ha0 := ha0.mono (BsRd.mono gq1)
 have m14 := o9.mx
 refine OW.mem (M' := (some b2, blk (u8s (Vector.replicate 32 0#8).toList) 26) :: (((ob6, blk ((u8s x4) ++ r8) 5) :: (B5 ++ [])) ++ N)) (fun w m => m.pick [1, 0] 2 rfl rfl) ?_
 have gq2 : ∀ w, More w0 Φ ((ob6, blk ((u8s x4) ++ r8) 5) :: (B5 ++ [])) w → More w0 Φ (B5 ++ []) w := fun w q => More.mono (fun w m => (m).tail) q
 replace va0 := va0.mono gq2
 replace ha0 := ha0.mono (BsRd.mono gq2)
 have v15 : View (More w0 Φ ((ob6, blk ((u8s x4) ++ r8) 5) :: (B5 ++ []))) ((ob6).map fun k => ⟨k, 0, none⟩) x4.length c7 1 (u8s x4) := o9.view (by decide) (fun w q => q.2.sublist (List.singleton_sublist.2 (List.mem_cons_self ..)))
 obtain ⟨x17, hx16, hf⟩ := some_bind hf
 refine OW.callG Tryd.call65 rfl (waybillref02_Digest_does w0 (More w0 Φ ((ob6, blk ((u8s x4) ++ r8) 5) :: (B5 ++ []))) ((some b2, blk (u8s (Vector.replicate 32 0#8).toList) 26) :: (((ob6, blk ((u8s x4) ++ r8) 5) :: (B5 ++ [])) ++ N)) (fun w m => More.of hΦ 1 m rfl) ((ob6).map fun k => ⟨k, 0, none⟩) c7 x4 (1#8) x17 v15 hTn hRn hx16) rfl rfl ?_
 rintro _ G18 rfl
 refine OW.mem (M' := ((some b2, blk (u8s (Vector.replicate 32 0#8).toList) 26) :: (((ob6, blk ((u8s x4) ++ r8) 5) :: (B5 ++ [])) ++ N))) (fun w m => m.appR) ?_
 refine OW.sv (SV.storeW rfl rfl rfl (u8s_one _) rfl ((u8s_length _).trans Vector.length_toList) ((u8s_length _).trans Vector.length_toList)) ?_
 refine OW.nil (QW.then_n (CW.ret ?_))
 have e0 := Option.some.inj hf
 subst e0
 refine QW.retG (rs := [.cell 2 26]) ([.agg (u8s x17.toList).toArray]) ((some b2, blk (u8s x17.toList) 26) :: ((ob6, blk ((u8s x4) ++ r8) 5) :: (B5 ++ []))) rfl ?_ rfl ?_ ?_ _ (.inl rfl)
 ·exact ⟨⟨_, _, _, _, rfl, (List.Mem.head _), rfl, rfl, (congrArg some ((u8s_length _).trans Vector.length_toList).symm), rfl⟩, trivial⟩
 ·exact rfl
 ·exact (fun w m => m)
theorem waybillref02_Of_does (w0 : World) (Φ : Ctx) (N : List Ent) (hΦ : ∀ w, Mem w0 w N → Φ w) (A0_ : Option Addr) (c0_ : Nat) (a0 : List (BitVec 8)) (res0 : Vector (BitVec 8) 32) (va0 : View Φ A0_ a0.length c0_ 1 (u8s a0)) (hTn : ∀ i, i < 25 → w0.cell? ⟨4, i, none⟩ = some (.int .i64 (turnsL.getD i 0))) (hRn : ∀ i, i < 24 → w0.cell? ⟨3, i, none⟩ = some (U64 (g64 roundsL i))) (hf : waybillref02_Of a0 = some res0) : DoesG Tryd.prog 39 [.slice A0_ a0.length c0_] w0 [] N (fun v G => v = .agg (u8s res0.toList).toArray) := by
 unfold waybillref02_Of at hf
 replace va0 := va0.mono (Ψ := More w0 Φ []) (fun w q => q.1)
 have m1 := va0.mx
 refine DoesG.enter Tryd.func39 rfl Tryd.ntmps39 rfl (M := (([] ++ N))) rfl ?_
 refine CW.seq (CW.region ?_)
 refine OW.alloc (l := (u8s (Vector.replicate 32 0#8).toList)) rfl (by rw [Vector.toList_replicate, ← u8s_rep']; rfl) rfl (fun b2 => ?_)
 refine OW.nil (QW.then_n (CW.seq (CW.region ?_)))
 refine OW.rv (RV.move rfl) rfl ?_
 obtain ⟨x4, hx3, hf⟩ := some_bind hf
 refine OW.callG Tryd.call65 rfl (waybillref02_Digest_does w0 (More w0 Φ []) ((some b2, blk (u8s (Vector.replicate 32 0#8).toList) 26) :: ([] ++ N)) (fun w m => More.of hΦ 1 m rfl) A0_ c0_ a0 (1#8) x4 va0 hTn hRn hx3) rfl rfl ?_
 rintro _ G5 rfl
 refine OW.mem (M' := ((some b2, blk (u8s (Vector.replicate 32 0#8).toList) 26) :: ([] ++ N))) (fun w m => m.appR) ?_
 refine OW.sv (SV.storeW rfl rfl rfl (u8s_one _) rfl ((u8s_length _).trans Vector.length_toList) ((u8s_length _).trans Vector.length_toList)) ?_
 refine OW.nil (QW.then_n (CW.ret ?_))
 have e0 := Option.some.inj hf
 subst e0
 refine QW.retG (rs := [.cell 2 26]) ([.agg (u8s x4.toList).toArray]) ((some b2, blk (u8s x4.toList) 26) :: []) rfl ?_ rfl ?_ ?_ _ (.inl rfl)
 ·exact ⟨⟨_, _, _, _, rfl, (List.Mem.head _), rfl, rfl, (congrArg some ((u8s_length _).trans Vector.length_toList).symm), rfl⟩, trivial⟩
 ·exact rfl
 ·exact (fun w m => m)
theorem address_last_does (w0 : World) (Φ : Ctx) (N : List Ent) (hΦ : ∀ w, Mem w0 w N → Φ w) (a0 : Vector (BitVec 8) 32) (res0 : Vector (BitVec 8) 20) (hf : address_last a0 = some res0) : DoesG Tryd.prog 32 [.agg (u8s a0.toList).toArray] w0 [] N (fun v G => v = .agg (u8s res0.toList).toArray) := by
 unfold address_last at hf
 refine DoesG.enter Tryd.func32 rfl Tryd.ntmps32 rfl (M := (([] ++ N))) rfl ?_
 refine CW.seq (CW.region ?_)
 refine OW.boxA rfl rfl (fun b1 => ?_)
 refine OW.alloc (l := (u8s (Vector.replicate 20 0#8).toList)) rfl (by rw [Vector.toList_replicate, ← u8s_rep']; rfl) rfl (fun b2 => ?_)
 refine OW.nil (QW.then_n (CW.seq (CW.region ?_)))
 refine OW.mem (M' := (some b2, blk (u8s (Vector.replicate 20 0#8).toList) 23) :: (((some b1, blk (u8s a0.toList) 26) :: []) ++ N)) (fun w m => m.pick [0, 1] 2 rfl rfl) ?_
 have v3 : View (More w0 Φ ((some b1, blk (u8s a0.toList) 26) :: [])) (some ⟨b1, 0, none⟩) a0.toList.length 32 1 (u8s a0.toList) := View.arr (w0 := w0) (te := 26) (fun w q => q.2.sublist (List.singleton_sublist.2 (List.mem_cons_self ..))) (by decide)
 obtain ⟨g5, hf⟩ := some_if hf
 refine OW.rv (RV.arr_lo (s := 1) (12) rfl rfl (by omega) rfl rfl (by omega)) rfl ?_
 refine OW.slot (.slice (subA (some ⟨b1, 0, none⟩) 32 12 1) (a0.toList.drop 12).length (32 - 12)) (by rw [show ((a0.toList.drop 12)).length = 32 - (12) from List.length_drop.trans (by rw [Vector.length_toList])]; try rfl) ?_
 have hlen_ : a0.toList.length = 32 := Vector.length_toList
 have v4 : View (More w0 Φ ((some b1, blk (u8s a0.toList) 26) :: [])) (subA (some ⟨b1, 0, none⟩) 32 12 1) (a0.toList.drop 12).length (32 - 12) 1 (u8s (a0.toList.drop 12)) := v3.lo8 (by omega)
 have m6 := v4.mx
 obtain ⟨x7, hx8, hf⟩ := some_bind hf
 have hle := (toVec_list hx8).2
 refine OW.rv (RV.s2a (k := 20) rfl rfl (v4.isSome (by decide) (i := 0) (by omega)) (by omega)) rfl ?_
 refine OW.rv (RV.loadAs rfl rfl rfl rfl (fun w m => v4.vec8 hx8 (More.of hΦ 1 m rfl)) ((u8s_length _).trans Vector.length_toList)) rfl ?_
 refine OW.sv (SV.storeW rfl rfl rfl (u8s_one _) rfl ((u8s_length _).trans Vector.length_toList) ((u8s_length _).trans Vector.length_toList)) ?_
 refine OW.nil (QW.then_n (CW.ret ?_))
 have e0 := Option.some.inj hf
 subst e0
 refine QW.retG (rs := [.cell 2 23]) ([.agg (u8s x7.toList).toArray]) ((some b2, blk (u8s x7.toList) 23) :: ((some b1, blk (u8s a0.toList) 26) :: [])) rfl ?_ rfl ?_ ?_ _ (.inl rfl)
 ·exact ⟨⟨_, _, _, _, rfl, (List.Mem.head _), rfl, rfl, (congrArg some ((u8s_length _).trans Vector.length_toList).symm), rfl⟩, trivial⟩
 ·exact rfl
 ·exact (fun w m => m)
theorem address_Create_does (w0 : World) (Φ : Ctx) (N : List Ent) (hΦ : ∀ w, Mem w0 w N → Φ w) (a0 : Vector (BitVec 8) 20) (a1 : BitVec 64) (res0 : Vector (BitVec 8) 20) (hg0 : View Φ (some ⟨0, 0, none⟩) 2 2 1 (u8s firstL)) (hf : address_Create a0 a1 = some res0) : DoesG Tryd.prog 10 [.agg (u8s a0.toList).toArray, U64 a1] w0 [] N (fun v G => v = .agg (u8s res0.toList).toArray) := by
 unfold address_Create at hf
 replace hg0 := hg0.mono (Ψ := More w0 Φ []) (fun w q => q.1)
 refine DoesG.enter Tryd.func10 rfl Tryd.ntmps10 rfl (M := (([] ++ N))) rfl ?_
 refine CW.seq (CW.region ?_)
 refine OW.boxA rfl rfl (fun b1 => ?_)
 refine OW.alloc (l := (u8s (Vector.replicate 20 0#8).toList)) rfl (by rw [Vector.toList_replicate, ← u8s_rep']; rfl) rfl (fun b2 => ?_)
 refine OW.nil (QW.then_n (CW.seq (CW.region ?_)))
 refine OW.mem (M' := (some b2, blk (u8s (Vector.replicate 20 0#8).toList) 23) :: (((some b1, blk (u8s a0.toList) 23) :: []) ++ N)) (fun w m => m.pick [0, 1] 2 rfl rfl) ?_
 have gq1 : ∀ w, More w0 Φ ((some b1, blk (u8s a0.toList) 23) :: []) w → More w0 Φ [] w := fun w q => More.mono (fun w m => (m).tail) q
 replace hg0 := hg0.mono gq1
 have v3 : View (More w0 Φ ((some b1, blk (u8s a0.toList) 23) :: [])) (some ⟨b1, 0, none⟩) a0.toList.length 20 1 (u8s a0.toList) := View.arr (w0 := w0) (te := 23) (fun w q => q.2.sublist (List.singleton_sublist.2 (List.mem_cons_self ..))) (by decide)
 refine OW.rv (RV.arr_all rfl rfl rfl) rfl ?_
 refine OW.slot (.slice (some ⟨b1, 0, none⟩) a0.toList.length 20) (by rw [Vector.length_toList]; try rfl) ?_
 have v4 := v3
 have m5 := v4.mx
 obtain ⟨x7, hx6, hf⟩ := some_bind hf
 refine OW.callG Tryd.call24 rfl (rlp_Text_does w0 (More w0 Φ ((some b1, blk (u8s a0.toList) 23) :: [])) ((some b2, blk (u8s (Vector.replicate 20 0#8).toList) 23) :: (((some b1, blk (u8s a0.toList) 23) :: []) ++ N)) (fun w m => More.of hΦ 1 m rfl) (some ⟨b1, 0, none⟩) 20 a0.toList x7 v4 hx6) rfl rfl ?_
 rintro L11 M12 ⟨B8, cs9, h10, e13, e14⟩
 rw [e13, e14]
 clear e13 e14 L11 M12
 refine OW.mem (M' := ((some b2, blk (u8s (Vector.replicate 20 0#8).toList) 23) :: ((B8 ++ ((some b1, blk (u8s a0.toList) 23) :: [])) ++ N))) (fun w m => by have h := Mem.sinkAt (A := B8) m 0 1 rfl rfl; exact h) ?_
 have gq2 : ∀ w, More w0 Φ (B8 ++ ((some b1, blk (u8s a0.toList) 23) :: [])) w → More w0 Φ ((some b1, blk (u8s a0.toList) 23) :: []) w := fun w q => More.mono (fun w m => (m).appR) q
 replace v4 := v4.mono gq2
 replace hg0 := hg0.mono gq2
 replace h10 := ItRd.mono (Ψ := (More w0 Φ (B8 ++ ((some b1, blk (u8s a0.toList) 23) :: [])))) (fun w q => More.flat q) _ _ h10
 have h24 := h10
 obtain ⟨A15, c16, A18, c19, cs21, e23, v17, v20, h22⟩ := ItRd.opn h10
 subst e23
 have m25 := v17.mx
 have m26 := v20.mx
 have m27 := v17.mx
 have m28 := v20.mx
 refine OW.rv (RV.move rfl) rfl ?_
 obtain ⟨x30, hx29, hf⟩ := some_bind hf
 refine OW.callG Tryd.call33 rfl (rlp_Small_does w0 (More w0 Φ (B8 ++ ((some b1, blk (u8s a0.toList) 23) :: []))) ((some b2, blk (u8s (Vector.replicate 20 0#8).toList) 23) :: ((B8 ++ ((some b1, blk (u8s a0.toList) 23) :: [])) ++ N)) (fun w m => More.of hΦ 1 m rfl) a1 x30 hx29) rfl rfl ?_
 rintro L34 M35 ⟨B31, cs32, h33, e36, e37⟩
 rw [e36, e37]
 clear e36 e37 L34 M35
 refine OW.mem (M' := ((some b2, blk (u8s (Vector.replicate 20 0#8).toList) 23) :: ((B31 ++ (B8 ++ ((some b1, blk (u8s a0.toList) 23) :: []))) ++ N))) (fun w m => by have h := Mem.sinkAt (A := B31) m 0 1 rfl rfl; exact h) ?_
 have gq3 : ∀ w, More w0 Φ (B31 ++ (B8 ++ ((some b1, blk (u8s a0.toList) 23) :: []))) w → More w0 Φ (B8 ++ ((some b1, blk (u8s a0.toList) 23) :: [])) w := fun w q => More.mono (fun w m => (m).appR) q
 replace v4 := v4.mono gq3
 replace h24 := ItRd.mono gq3 _ _ h24
 replace v17 := v17.mono gq3
 replace v20 := v20.mono gq3
 replace h22 := h22.mono (ItRd.mono gq3)
 replace hg0 := hg0.mono gq3
 replace h33 := ItRd.mono (Ψ := (More w0 Φ (B31 ++ (B8 ++ ((some b1, blk (u8s a0.toList) 23) :: []))))) (fun w q => More.flat q) _ _ h33
 have h47 := h33
 obtain ⟨A38, c39, A41, c42, cs44, e46, v40, v43, h45⟩ := ItRd.opn h33
 subst e46
 have m48 := v40.mx
 have m49 := v43.mx
 have m50 := v40.mx
 have m51 := v43.mx
 refine OW.ofN (NV.bsA rfl rfl (by intro x hx; simp at hx; rcases hx with rfl | rfl <;> rfl) rfl rfl rfl (by decide) (by decide) rfl) rfl (fun b52 => ?_)
 have h55 : Reps (ItRd (More w0 Φ (B31 ++ (B8 ++ ((some b1, blk (u8s a0.toList) 23) :: []))))) (([.bool (x7.list), .slice A15 x7.data.length c16, .slice A18 x7.items.length c19] : List Value) ++ ([.bool (x30.list), .slice A38 x30.data.length c39, .slice A41 x30.items.length c42] : List Value)) [x7, x30] := by simpa using (show Reps (ItRd (More w0 Φ (B31 ++ (B8 ++ ((some b1, blk (u8s a0.toList) 23) :: []))))) _ [x7, x30] from (.cons h24 (.cons h47 .nil)))
 refine OW.mem (M' := (((some b52), blk ((([.bool (x7.list), .slice A15 x7.data.length c16, .slice A18 x7.items.length c19] : List Value) ++ ([.bool (x30.list), .slice A38 x30.data.length c39, .slice A41 x30.items.length c42] : List Value)) ++ []) 58) :: (some b2, blk (u8s (Vector.replicate 20 0#8).toList) 23) :: ((B31 ++ (B8 ++ ((some b1, blk (u8s a0.toList) 23) :: []))) ++ N))) (fun w m => m) ?_
 have o53 : OwnS (some b52) ([x7, x30] : List (It)).length 2 3 (([.bool (x7.list), .slice A15 x7.data.length c16, .slice A18 x7.items.length c19] : List Value) ++ ([.bool (x30.list), .slice A38 x30.data.length c39, .slice A41 x30.items.length c42] : List Value)) [] := ⟨by simp [ItRd], by simp [ItRd], (fun h => nomatch h), by simp⟩
 refine OW.slot (sl (some b52) 0 ([x7, x30] : List (It)).length 2) (rfl) ?_
 refine OW.mem (M' := (some b2, blk (u8s (Vector.replicate 20 0#8).toList) 23) :: ((((some b52), blk ((([.bool (x7.list), .slice A15 x7.data.length c16, .slice A18 x7.items.length c19] : List Value) ++ ([.bool (x30.list), .slice A38 x30.data.length c39, .slice A41 x30.items.length c42] : List Value)) ++ []) 58) :: (B31 ++ (B8 ++ ((some b1, blk (u8s a0.toList) 23) :: [])))) ++ N)) (fun w m => m.pick [1, 0] 2 rfl rfl) ?_
 have gq4 : ∀ w, More w0 Φ (((some b52), blk ((([.bool (x7.list), .slice A15 x7.data.length c16, .slice A18 x7.items.length c19] : List Value) ++ ([.bool (x30.list), .slice A38 x30.data.length c39, .slice A41 x30.items.length c42] : List Value)) ++ []) 58) :: (B31 ++ (B8 ++ ((some b1, blk (u8s a0.toList) 23) :: [])))) w → More w0 Φ (B31 ++ (B8 ++ ((some b1, blk (u8s a0.toList) 23) :: []))) w := fun w q => More.mono (fun w m => (m).tail) q
 replace v4 := v4.mono gq4
 replace h24 := ItRd.mono gq4 _ _ h24
 replace v17 := v17.mono gq4
 replace v20 := v20.mono gq4
 replace h22 := h22.mono (ItRd.mono gq4)
 replace h47 := ItRd.mono gq4 _ _ h47
 replace v40 := v40.mono gq4
 replace v43 := v43.mono gq4
 replace h45 := h45.mono (ItRd.mono gq4)
 replace h55 := h55.mono (ItRd.mono gq4)
 replace hg0 := hg0.mono gq4
 have v56 : View (More w0 Φ (((some b52), blk ((([.bool (x7.list), .slice A15 x7.data.length c16, .slice A18 x7.items.length c19] : List Value) ++ ([.bool (x30.list), .slice A38 x30.data.length c39, .slice A41 x30.items.length c42] : List Value)) ++ []) 58) :: (B31 ++ (B8 ++ ((some b1, blk (u8s a0.toList) 23) :: []))))) (((some b52)).map fun k => ⟨k, 0, none⟩) ([x7, x30] : List (It)).length 2 3 (([.bool (x7.list), .slice A15 x7.data.length c16, .slice A18 x7.items.length c19] : List Value) ++ ([.bool (x30.list), .slice A38 x30.data.length c39, .slice A41 x30.items.length c42] : List Value)) := o53.view (by decide) (fun w q => q.2.sublist (List.singleton_sublist.2 (List.mem_cons_self ..)))
 obtain ⟨x58, hx57, hf⟩ := some_bind hf
 refine OW.callG Tryd.call23 rfl (rlp_List_does w0 (More w0 Φ (((some b52), blk ((([.bool (x7.list), .slice A15 x7.data.length c16, .slice A18 x7.items.length c19] : List Value) ++ ([.bool (x30.list), .slice A38 x30.data.length c39, .slice A41 x30.items.length c42] : List Value)) ++ []) 58) :: (B31 ++ (B8 ++ ((some b1, blk (u8s a0.toList) 23) :: []))))) ((some b2, blk (u8s (Vector.replicate 20 0#8).toList) 23) :: ((((some b52), blk ((([.bool (x7.list), .slice A15 x7.data.length c16, .slice A18 x7.items.length c19] : List Value) ++ ([.bool (x30.list), .slice A38 x30.data.length c39, .slice A41 x30.items.length c42] : List Value)) ++ []) 58) :: (B31 ++ (B8 ++ ((some b1, blk (u8s a0.toList) 23) :: [])))) ++ N)) (fun w m => More.of hΦ 1 m rfl) (((some b52)).map fun k => ⟨k, 0, none⟩) 2 (([.bool (x7.list), .slice A15 x7.data.length c16, .slice A18 x7.items.length c19] : List Value) ++ ([.bool (x30.list), .slice A38 x30.data.length c39, .slice A41 x30.items.length c42] : List Value)) ([x7, x30] : List (It)) x58 v56 h55 hx57) rfl rfl ?_
 rintro L62 M63 ⟨B59, cs60, h61, e64, e65⟩
 rw [e64, e65]
 clear e64 e65 L62 M63
 refine OW.mem (M' := ((some b2, blk (u8s (Vector.replicate 20 0#8).toList) 23) :: ((B59 ++ (((some b52), blk ((([.bool (x7.list), .slice A15 x7.data.length c16, .slice A18 x7.items.length c19] : List Value) ++ ([.bool (x30.list), .slice A38 x30.data.length c39, .slice A41 x30.items.length c42] : List Value)) ++ []) 58) :: (B31 ++ (B8 ++ ((some b1, blk (u8s a0.toList) 23) :: []))))) ++ N))) (fun w m => by have h := Mem.sinkAt (A := B59) m 0 1 rfl rfl; exact h) ?_
 have gq5 : ∀ w, More w0 Φ (B59 ++ (((some b52), blk ((([.bool (x7.list), .slice A15 x7.data.length c16, .slice A18 x7.items.length c19] : List Value) ++ ([.bool (x30.list), .slice A38 x30.data.length c39, .slice A41 x30.items.length c42] : List Value)) ++ []) 58) :: (B31 ++ (B8 ++ ((some b1, blk (u8s a0.toList) 23) :: []))))) w → More w0 Φ (((some b52), blk ((([.bool (x7.list), .slice A15 x7.data.length c16, .slice A18 x7.items.length c19] : List Value) ++ ([.bool (x30.list), .slice A38 x30.data.length c39, .slice A41 x30.items.length c42] : List Value)) ++ []) 58) :: (B31 ++ (B8 ++ ((some b1, blk (u8s a0.toList) 23) :: [])))) w := fun w q => More.mono (fun w m => (m).appR) q
 replace v4 := v4.mono gq5
 replace h24 := ItRd.mono gq5 _ _ h24
 replace v17 := v17.mono gq5
 replace v20 := v20.mono gq5
 replace h22 := h22.mono (ItRd.mono gq5)
 replace h47 := ItRd.mono gq5 _ _ h47
 replace v40 := v40.mono gq5
 replace v43 := v43.mono gq5
 replace h45 := h45.mono (ItRd.mono gq5)
 replace v56 := v56.mono gq5
 replace h55 := h55.mono (ItRd.mono gq5)
 replace hg0 := hg0.mono gq5
 replace h61 := ItRd.mono (Ψ := (More w0 Φ (B59 ++ (((some b52), blk ((([.bool (x7.list), .slice A15 x7.data.length c16, .slice A18 x7.items.length c19] : List Value) ++ ([.bool (x30.list), .slice A38 x30.data.length c39, .slice A41 x30.items.length c42] : List Value)) ++ []) 58) :: (B31 ++ (B8 ++ ((some b1, blk (u8s a0.toList) 23) :: []))))))) (fun w q => More.flat q) _ _ h61
 have h75 := h61
 obtain ⟨A66, c67, A69, c70, cs72, e74, v68, v71, h73⟩ := ItRd.opn h61
 subst e74
 have m76 := v68.mx
 have m77 := v71.mx
 have m78 := v68.mx
 have m79 := v71.mx
 obtain ⟨⟨x81, x82⟩, hx80, hf⟩ := some_bind hf
 try dsimp only at hf
 refine OW.callG Tryd.call22 rfl (rlp_Encode_does w0 (More w0 Φ (B59 ++ (((some b52), blk ((([.bool (x7.list), .slice A15 x7.data.length c16, .slice A18 x7.items.length c19] : List Value) ++ ([.bool (x30.list), .slice A38 x30.data.length c39, .slice A41 x30.items.length c42] : List Value)) ++ []) 58) :: (B31 ++ (B8 ++ ((some b1, blk (u8s a0.toList) 23) :: [])))))) ((some b2, blk (u8s (Vector.replicate 20 0#8).toList) 23) :: ((B59 ++ (((some b52), blk ((([.bool (x7.list), .slice A15 x7.data.length c16, .slice A18 x7.items.length c19] : List Value) ++ ([.bool (x30.list), .slice A38 x30.data.length c39, .slice A41 x30.items.length c42] : List Value)) ++ []) 58) :: (B31 ++ (B8 ++ ((some b1, blk (u8s a0.toList) 23) :: []))))) ++ N)) (fun w m => More.of hΦ 1 m rfl) [.bool (x58.list), .slice A66 x58.data.length c67, .slice A69 x58.items.length c70] x58 x81 x82 h75 hx80) rfl rfl ?_
 rintro L89 M90 ⟨B83, ob84, c85, r86, o87, b88, e91, e92⟩
 rw [e91, e92]
 clear e91 e92 L89 M90
 refine OW.mem (M' := ((ob84, blk ((u8s x81) ++ r86) 5) :: (some b2, blk (u8s (Vector.replicate 20 0#8).toList) 23) :: ((B83 ++ (B59 ++ (((some b52), blk ((([.bool (x7.list), .slice A15 x7.data.length c16, .slice A18 x7.items.length c19] : List Value) ++ ([.bool (x30.list), .slice A38 x30.data.length c39, .slice A41 x30.items.length c42] : List Value)) ++ []) 58) :: (B31 ++ (B8 ++ ((some b1, blk (u8s a0.toList) 23) :: [])))))) ++ N))) (fun w m => by have h := Mem.sinkAt (A := B83) m 1 1 rfl rfl; exact h) ?_
 have gq6 : ∀ w, More w0 Φ (B83 ++ (B59 ++ (((some b52), blk ((([.bool (x7.list), .slice A15 x7.data.length c16, .slice A18 x7.items.length c19] : List Value) ++ ([.bool (x30.list), .slice A38 x30.data.length c39, .slice A41 x30.items.length c42] : List Value)) ++ []) 58) :: (B31 ++ (B8 ++ ((some b1, blk (u8s a0.toList) 23) :: [])))))) w → More w0 Φ (B59 ++ (((some b52), blk ((([.bool (x7.list), .slice A15 x7.data.length c16, .slice A18 x7.items.length c19] : List Value) ++ ([.bool (x30.list), .slice A38 x30.data.length c39, .slice A41 x30.items.length c42] : List Value)) ++ []) 58) :: (B31 ++ (B8 ++ ((some b1, blk (u8s a0.toList) 23) :: []))))) w := fun w q => More.mono (fun w m => (m).appR) q
 replace v4 := v4.mono gq6
 replace h24 := ItRd.mono gq6 _ _ h24
 replace v17 := v17.mono gq6
 replace v20 := v20.mono gq6
 replace h22 := h22.mono (ItRd.mono gq6)
 replace h47 := ItRd.mono gq6 _ _ h47
 replace v40 := v40.mono gq6
 replace v43 := v43.mono gq6
 replace h45 := h45.mono (ItRd.mono gq6)
 replace v56 := v56.mono gq6
 replace h55 := h55.mono (ItRd.mono gq6)
 replace h75 := ItRd.mono gq6 _ _ h75
 replace v68 := v68.mono gq6
 replace v71 := v71.mono gq6
 replace h73 := h73.mono (ItRd.mono gq6)
 replace hg0 := hg0.mono gq6
 have m93 := o87.mx
 refine OW.rv (RV.move rfl) rfl ?_
 refine OW.rv (RV.extract rfl rfl) rfl ?_
 refine OW.slot (sl ob84 0 x81.length c85) (rfl) ?_
 refine OW.rv (RV.extract rfl rfl) rfl ?_
 refine OW.slot (.int .i64 ((x82 : Nat) : Int)) (rfl) ?_
 refine OW.rv (RV.assign rfl) rfl ?_
 refine OW.rv (RV.assign rfl) rfl ?_
 refine OW.nil (QW.then_n (CW.seq (CW.region ?_)))
 refine OW.rv (RV.move rfl) rfl ?_
 refine OW.mem (M' := (some b2, blk (u8s (Vector.replicate 20 0#8).toList) 23) :: (((ob84, blk ((u8s x81) ++ r86) 5) :: (B83 ++ (B59 ++ (((some b52), blk ((([.bool (x7.list), .slice A15 x7.data.length c16, .slice A18 x7.items.length c19] : List Value) ++ ([.bool (x30.list), .slice A38 x30.data.length c39, .slice A41 x30.items.length c42] : List Value)) ++ []) 58) :: (B31 ++ (B8 ++ ((some b1, blk (u8s a0.toList) 23) :: []))))))) ++ N)) (fun w m => m.pick [1, 0] 2 rfl rfl) ?_
 have gq7 : ∀ w, More w0 Φ ((ob84, blk ((u8s x81) ++ r86) 5) :: (B83 ++ (B59 ++ (((some b52), blk ((([.bool (x7.list), .slice A15 x7.data.length c16, .slice A18 x7.items.length c19] : List Value) ++ ([.bool (x30.list), .slice A38 x30.data.length c39, .slice A41 x30.items.length c42] : List Value)) ++ []) 58) :: (B31 ++ (B8 ++ ((some b1, blk (u8s a0.toList) 23) :: []))))))) w → More w0 Φ (B83 ++ (B59 ++ (((some b52), blk ((([.bool (x7.list), .slice A15 x7.data.length c16, .slice A18 x7.items.length c19] : List Value) ++ ([.bool (x30.list), .slice A38 x30.data.length c39, .slice A41 x30.items.length c42] : List Value)) ++ []) 58) :: (B31 ++ (B8 ++ ((some b1, blk (u8s a0.toList) 23) :: [])))))) w := fun w q => More.mono (fun w m => (m).tail) q
 replace v4 := v4.mono gq7
 replace h24 := ItRd.mono gq7 _ _ h24
 replace v17 := v17.mono gq7
 replace v20 := v20.mono gq7
 replace h22 := h22.mono (ItRd.mono gq7)
 replace h47 := ItRd.mono gq7 _ _ h47
 replace v40 := v40.mono gq7
 replace v43 := v43.mono gq7
 replace h45 := h45.mono (ItRd.mono gq7)
 replace v56 := v56.mono gq7
 replace h55 := h55.mono (ItRd.mono gq7)
 replace h75 := ItRd.mono gq7 _ _ h75
 replace v68 := v68.mono gq7
 replace v71 := v71.mono gq7
 replace h73 := h73.mono (ItRd.mono gq7)
 replace hg0 := hg0.mono gq7
 have v96 : View (More w0 Φ ((ob84, blk ((u8s x81) ++ r86) 5) :: (B83 ++ (B59 ++ (((some b52), blk ((([.bool (x7.list), .slice A15 x7.data.length c16, .slice A18 x7.items.length c19] : List Value) ++ ([.bool (x30.list), .slice A38 x30.data.length c39, .slice A41 x30.items.length c42] : List Value)) ++ []) 58) :: (B31 ++ (B8 ++ ((some b1, blk (u8s a0.toList) 23) :: [])))))))) ((ob84).map fun k => ⟨k, 0, none⟩) x81.length c85 1 (u8s x81) := o87.view (by decide) (fun w q => q.2.sublist (List.singleton_sublist.2 (List.mem_cons_self ..)))
 refine OW.ofN (NV.bs1 rfl rfl rfl rfl rfl rfl) rfl (fun b94 => ?_)
 have h98 : Reps (BsRd (More w0 Φ ((ob84, blk ((u8s x81) ++ r86) 5) :: (B83 ++ (B59 ++ (((some b52), blk ((([.bool (x7.list), .slice A15 x7.data.length c16, .slice A18 x7.items.length c19] : List Value) ++ ([.bool (x30.list), .slice A38 x30.data.length c39, .slice A41 x30.items.length c42] : List Value)) ++ []) 58) :: (B31 ++ (B8 ++ ((some b1, blk (u8s a0.toList) 23) :: []))))))))) (([.slice ((ob84).map fun k => ⟨k, 0, none⟩) x81.length c85] : List Value)) [x81] := Reps.one (BsRd.mk v96)
 refine OW.mem (M' := (((some b94), blk ((([.slice ((ob84).map fun k => ⟨k, 0, none⟩) x81.length c85] : List Value)) ++ []) 27) :: (some b2, blk (u8s (Vector.replicate 20 0#8).toList) 23) :: (((ob84, blk ((u8s x81) ++ r86) 5) :: (B83 ++ (B59 ++ (((some b52), blk ((([.bool (x7.list), .slice A15 x7.data.length c16, .slice A18 x7.items.length c19] : List Value) ++ ([.bool (x30.list), .slice A38 x30.data.length c39, .slice A41 x30.items.length c42] : List Value)) ++ []) 58) :: (B31 ++ (B8 ++ ((some b1, blk (u8s a0.toList) 23) :: []))))))) ++ N))) (fun w m => m) ?_
 have o95 : OwnS (some b94) ([x81] : List (List (BitVec 8))).length 1 1 (([.slice ((ob84).map fun k => ⟨k, 0, none⟩) x81.length c85] : List Value)) [] := ⟨by simp [BsRd], by simp [BsRd], (fun h => nomatch h), by simp⟩
 refine OW.slot (sl (some b94) 0 ([x81] : List (List (BitVec 8))).length 1) (rfl) ?_
 refine OW.mem (M' := (some b2, blk (u8s (Vector.replicate 20 0#8).toList) 23) :: ((((some b94), blk ((([.slice ((ob84).map fun k => ⟨k, 0, none⟩) x81.length c85] : List Value)) ++ []) 27) :: ((ob84, blk ((u8s x81) ++ r86) 5) :: (B83 ++ (B59 ++ (((some b52), blk ((([.bool (x7.list), .slice A15 x7.data.length c16, .slice A18 x7.items.length c19] : List Value) ++ ([.bool (x30.list), .slice A38 x30.data.length c39, .slice A41 x30.items.length c42] : List Value)) ++ []) 58) :: (B31 ++ (B8 ++ ((some b1, blk (u8s a0.toList) 23) :: [])))))))) ++ N)) (fun w m => m.pick [1, 0] 2 rfl rfl) ?_
 have gq8 : ∀ w, More w0 Φ (((some b94), blk ((([.slice ((ob84).map fun k => ⟨k, 0, none⟩) x81.length c85] : List Value)) ++ []) 27) :: ((ob84, blk ((u8s x81) ++ r86) 5) :: (B83 ++ (B59 ++ (((some b52), blk ((([.bool (x7.list), .slice A15 x7.data.length c16, .slice A18 x7.items.length c19] : List Value) ++ ([.bool (x30.list), .slice A38 x30.data.length c39, .slice A41 x30.items.length c42] : List Value)) ++ []) 58) :: (B31 ++ (B8 ++ ((some b1, blk (u8s a0.toList) 23) :: [])))))))) w → More w0 Φ ((ob84, blk ((u8s x81) ++ r86) 5) :: (B83 ++ (B59 ++ (((some b52), blk ((([.bool (x7.list), .slice A15 x7.data.length c16, .slice A18 x7.items.length c19] : List Value) ++ ([.bool (x30.list), .slice A38 x30.data.length c39, .slice A41 x30.items.length c42] : List Value)) ++ []) 58) :: (B31 ++ (B8 ++ ((some b1, blk (u8s a0.toList) 23) :: []))))))) w := fun w q => More.mono (fun w m => (m).tail) q
 replace v4 := v4.mono gq8
 replace h24 := ItRd.mono gq8 _ _ h24
 replace v17 := v17.mono gq8
 replace v20 := v20.mono gq8
 replace h22 := h22.mono (ItRd.mono gq8)
 replace h47 := ItRd.mono gq8 _ _ h47
 replace v40 := v40.mono gq8
 replace v43 := v43.mono gq8
 replace h45 := h45.mono (ItRd.mono gq8)
 replace v56 := v56.mono gq8
 replace h55 := h55.mono (ItRd.mono gq8)
 replace h75 := ItRd.mono gq8 _ _ h75
 replace v68 := v68.mono gq8
 replace v71 := v71.mono gq8
 replace h73 := h73.mono (ItRd.mono gq8)
 replace v96 := v96.mono gq8
 replace h98 := h98.mono (BsRd.mono gq8)
 replace hg0 := hg0.mono gq8
 have v99 : View (More w0 Φ (((some b94), blk ((([.slice ((ob84).map fun k => ⟨k, 0, none⟩) x81.length c85] : List Value)) ++ []) 27) :: ((ob84, blk ((u8s x81) ++ r86) 5) :: (B83 ++ (B59 ++ (((some b52), blk ((([.bool (x7.list), .slice A15 x7.data.length c16, .slice A18 x7.items.length c19] : List Value) ++ ([.bool (x30.list), .slice A38 x30.data.length c39, .slice A41 x30.items.length c42] : List Value)) ++ []) 58) :: (B31 ++ (B8 ++ ((some b1, blk (u8s a0.toList) 23) :: []))))))))) (((some b94)).map fun k => ⟨k, 0, none⟩) ([x81] : List (List (BitVec 8))).length 1 1 (([.slice ((ob84).map fun k => ⟨k, 0, none⟩) x81.length c85] : List Value)) := o95.view (by decide) (fun w q => q.2.sublist (List.singleton_sublist.2 (List.mem_cons_self ..)))
 obtain ⟨x101, hx100, hf⟩ := some_bind hf
 refine OW.callG Tryd.call28 rfl (keccak_Sum_does w0 (More w0 Φ (((some b94), blk ((([.slice ((ob84).map fun k => ⟨k, 0, none⟩) x81.length c85] : List Value)) ++ []) 27) :: ((ob84, blk ((u8s x81) ++ r86) 5) :: (B83 ++ (B59 ++ (((some b52), blk ((([.bool (x7.list), .slice A15 x7.data.length c16, .slice A18 x7.items.length c19] : List Value) ++ ([.bool (x30.list), .slice A38 x30.data.length c39, .slice A41 x30.items.length c42] : List Value)) ++ []) 58) :: (B31 ++ (B8 ++ ((some b1, blk (u8s a0.toList) 23) :: []))))))))) ((some b2, blk (u8s (Vector.replicate 20 0#8).toList) 23) :: ((((some b94), blk ((([.slice ((ob84).map fun k => ⟨k, 0, none⟩) x81.length c85] : List Value)) ++ []) 27) :: ((ob84, blk ((u8s x81) ++ r86) 5) :: (B83 ++ (B59 ++ (((some b52), blk ((([.bool (x7.list), .slice A15 x7.data.length c16, .slice A18 x7.items.length c19] : List Value) ++ ([.bool (x30.list), .slice A38 x30.data.length c39, .slice A41 x30.items.length c42] : List Value)) ++ []) 58) :: (B31 ++ (B8 ++ ((some b1, blk (u8s a0.toList) 23) :: [])))))))) ++ N)) (fun w m => More.of hΦ 1 m rfl) (((some b94)).map fun k => ⟨k, 0, none⟩) 1 (([.slice ((ob84).map fun k => ⟨k, 0, none⟩) x81.length c85] : List Value)) ([x81] : List (List (BitVec 8))) x101 v99 h98 hg0 hx100) rfl rfl ?_
 rintro _ G102 rfl
 refine OW.mem (M' := ((some b2, blk (u8s (Vector.replicate 20 0#8).toList) 23) :: ((((some b94), blk ((([.slice ((ob84).map fun k => ⟨k, 0, none⟩) x81.length c85] : List Value)) ++ []) 27) :: ((ob84, blk ((u8s x81) ++ r86) 5) :: (B83 ++ (B59 ++ (((some b52), blk ((([.bool (x7.list), .slice A15 x7.data.length c16, .slice A18 x7.items.length c19] : List Value) ++ ([.bool (x30.list), .slice A38 x30.data.length c39, .slice A41 x30.items.length c42] : List Value)) ++ []) 58) :: (B31 ++ (B8 ++ ((some b1, blk (u8s a0.toList) 23) :: [])))))))) ++ N))) (fun w m => m.appR) ?_
 obtain ⟨x105, hx104, hf⟩ := some_bind hf
 refine OW.callG Tryd.call32 rfl (address_last_does w0 (More w0 Φ (((some b94), blk ((([.slice ((ob84).map fun k => ⟨k, 0, none⟩) x81.length c85] : List Value)) ++ []) 27) :: ((ob84, blk ((u8s x81) ++ r86) 5) :: (B83 ++ (B59 ++ (((some b52), blk ((([.bool (x7.list), .slice A15 x7.data.length c16, .slice A18 x7.items.length c19] : List Value) ++ ([.bool (x30.list), .slice A38 x30.data.length c39, .slice A41 x30.items.length c42] : List Value)) ++ []) 58) :: (B31 ++ (B8 ++ ((some b1, blk (u8s a0.toList) 23) :: []))))))))) ((some b2, blk (u8s (Vector.replicate 20 0#8).toList) 23) :: ((((some b94), blk ((([.slice ((ob84).map fun k => ⟨k, 0, none⟩) x81.length c85] : List Value)) ++ []) 27) :: ((ob84, blk ((u8s x81) ++ r86) 5) :: (B83 ++ (B59 ++ (((some b52), blk ((([.bool (x7.list), .slice A15 x7.data.length c16, .slice A18 x7.items.length c19] : List Value) ++ ([.bool (x30.list), .slice A38 x30.data.length c39, .slice A41 x30.items.length c42] : List Value)) ++ []) 58) :: (B31 ++ (B8 ++ ((some b1, blk (u8s a0.toList) 23) :: [])))))))) ++ N)) (fun w m => More.of hΦ 1 m rfl) x101 x105 hx104) rfl rfl ?_
 rintro _ G106 rfl
 refine OW.mem (M' := ((some b2, blk (u8s (Vector.replicate 20 0#8).toList) 23) :: ((((some b94), blk ((([.slice ((ob84).map fun k => ⟨k, 0, none⟩) x81.length c85] : List Value)) ++ []) 27) :: ((ob84, blk ((u8s x81) ++ r86) 5) :: (B83 ++ (B59 ++ (((some b52), blk ((([.bool (x7.list), .slice A15 x7.data.length c16, .slice A18 x7.items.length c19] : List Value) ++ ([.bool (x30.list), .slice A38 x30.data.length c39, .slice A41 x30.items.length c42] : List Value)) ++ []) 58) :: (B31 ++ (B8 ++ ((some b1, blk (u8s a0.toList) 23) :: [])))))))) ++ N))) (fun w m => m.appR) ?_
 refine OW.sv (SV.storeW rfl rfl rfl (u8s_one _) rfl ((u8s_length _).trans Vector.length_toList) ((u8s_length _).trans Vector.length_toList)) ?_
 refine OW.nil (QW.then_n (CW.ret ?_))
 have e0 := Option.some.inj hf
 subst e0
 refine QW.retG (rs := [.cell 4 23]) ([.agg (u8s x105.toList).toArray]) ((some b2, blk (u8s x105.toList) 23) :: (((some b94), blk ((([.slice ((ob84).map fun k => ⟨k, 0, none⟩) x81.length c85] : List Value)) ++ []) 27) :: ((ob84, blk ((u8s x81) ++ r86) 5) :: (B83 ++ (B59 ++ (((some b52), blk ((([.bool (x7.list), .slice A15 x7.data.length c16, .slice A18 x7.items.length c19] : List Value) ++ ([.bool (x30.list), .slice A38 x30.data.length c39, .slice A41 x30.items.length c42] : List Value)) ++ []) 58) :: (B31 ++ (B8 ++ ((some b1, blk (u8s a0.toList) 23) :: []))))))))) rfl ?_ rfl ?_ ?_ _ (.inl rfl)
 ·exact ⟨⟨_, _, _, _, rfl, (List.Mem.head _), rfl, rfl, (congrArg some ((u8s_length _).trans Vector.length_toList).symm), rfl⟩, trivial⟩
 ·exact rfl
 ·exact (fun w m => m)
theorem address_Create2_does (w0 : World) (Φ : Ctx) (N : List Ent) (hΦ : ∀ w, Mem w0 w N → Φ w) (a0 : Vector (BitVec 8) 20) (a1 : Vector (BitVec 8) 32) (A2_ : Option Addr) (c2_ : Nat) (a2 : List (BitVec 8)) (res0 : Vector (BitVec 8) 20) (va2 : View Φ A2_ a2.length c2_ 1 (u8s a2)) (hg0 : View Φ (some ⟨0, 0, none⟩) 2 2 1 (u8s firstL)) (hf : address_Create2 a0 a1 a2 = some res0) : DoesG Tryd.prog 9 [.agg (u8s a0.toList).toArray, .agg (u8s a1.toList).toArray, .slice A2_ a2.length c2_] w0 [] N (fun v G => v = .agg (u8s res0.toList).toArray) := by
 unfold address_Create2 at hf
 replace va2 := va2.mono (Ψ := More w0 Φ []) (fun w q => q.1)
 replace hg0 := hg0.mono (Ψ := More w0 Φ []) (fun w q => q.1)
 have m1 := va2.mx
 refine DoesG.enter Tryd.func9 rfl Tryd.ntmps9 rfl (M := (([] ++ N))) rfl ?_
 refine CW.seq (CW.region ?_)
 refine OW.boxA rfl rfl (fun b2 => ?_)
 refine OW.boxA rfl rfl (fun b3 => ?_)
 refine OW.alloc (l := (u8s (Vector.replicate 20 0#8).toList)) rfl (by rw [Vector.toList_replicate, ← u8s_rep']; rfl) rfl (fun b4 => ?_)
 refine OW.nil (QW.then_n (CW.seq (CW.region ?_)))
 refine OW.rv (RV.move rfl) rfl ?_
 refine OW.ofN (NV.bs1 rfl rfl rfl rfl rfl rfl) rfl (fun b5 => ?_)
 have h8 : Reps (BsRd (More w0 Φ [])) (([.slice A2_ a2.length c2_] : List Value)) [a2] := Reps.one (BsRd.mk va2)
 refine OW.mem (M' := (((some b5), blk ((([.slice A2_ a2.length c2_] : List Value)) ++ []) 27) :: (some b4, blk (u8s (Vector.replicate 20 0#8).toList) 23) :: (some b3, blk (u8s a1.toList) 26) :: (some b2, blk (u8s a0.toList) 23) :: ([] ++ N))) (fun w m => m) ?_
 have o6 : OwnS (some b5) ([a2] : List (List (BitVec 8))).length 1 1 (([.slice A2_ a2.length c2_] : List Value)) [] := ⟨by simp [BsRd], by simp [BsRd], (fun h => nomatch h), by simp⟩
 refine OW.slot (sl (some b5) 0 ([a2] : List (List (BitVec 8))).length 1) (rfl) ?_
 refine OW.mem (M' := (some b4, blk (u8s (Vector.replicate 20 0#8).toList) 23) :: (some b3, blk (u8s a1.toList) 26) :: (some b2, blk (u8s a0.toList) 23) :: ((((some b5), blk ((([.slice A2_ a2.length c2_] : List Value)) ++ []) 27) :: []) ++ N)) (fun w m => m.pick [1, 2, 3, 0] 4 rfl rfl) ?_
 have gq1 : ∀ w, More w0 Φ (((some b5), blk ((([.slice A2_ a2.length c2_] : List Value)) ++ []) 27) :: []) w → More w0 Φ [] w := fun w q => More.mono (fun w m => (m).tail) q
 replace va2 := va2.mono gq1
 replace h8 := h8.mono (BsRd.mono gq1)
 replace hg0 := hg0.mono gq1
 have v9 : View (More w0 Φ (((some b5), blk ((([.slice A2_ a2.length c2_] : List Value)) ++ []) 27) :: [])) (((some b5)).map fun k => ⟨k, 0, none⟩) ([a2] : List (List (BitVec 8))).length 1 1 (([.slice A2_ a2.length c2_] : List Value)) := o6.view (by decide) (fun w q => q.2.sublist (List.singleton_sublist.2 (List.mem_cons_self ..)))
 obtain ⟨x11, hx10, hf⟩ := some_bind hf
 refine OW.callG Tryd.call28 rfl (keccak_Sum_does w0 (More w0 Φ (((some b5), blk ((([.slice A2_ a2.length c2_] : List Value)) ++ []) 27) :: [])) ((some b4, blk (u8s (Vector.replicate 20 0#8).toList) 23) :: (some b3, blk (u8s a1.toList) 26) :: (some b2, blk (u8s a0.toList) 23) :: ((((some b5), blk ((([.slice A2_ a2.length c2_] : List Value)) ++ []) 27) :: []) ++ N)) (fun w m => More.of hΦ 3 m rfl) (((some b5)).map fun k => ⟨k, 0, none⟩) 1 (([.slice A2_ a2.length c2_] : List Value)) ([a2] : List (List (BitVec 8))) x11 v9 h8 hg0 hx10) rfl rfl ?_
 rintro _ G12 rfl
 refine OW.mem (M' := ((some b4, blk (u8s (Vector.replicate 20 0#8).toList) 23) :: (some b3, blk (u8s a1.toList) 26) :: (some b2, blk (u8s a0.toList) 23) :: ((((some b5), blk ((([.slice A2_ a2.length c2_] : List Value)) ++ []) 27) :: []) ++ N))) (fun w m => m.appR) ?_
 refine OW.alloc (l := (u8s (Vector.replicate 32 0#8).toList)) rfl (by rw [Vector.toList_replicate, ← u8s_rep']; rfl) rfl (fun b14 => ?_)
 refine OW.sv (SV.storeW rfl rfl rfl (u8s_one _) rfl ((u8s_length _).trans Vector.length_toList) ((u8s_length _).trans Vector.length_toList)) ?_
 refine OW.nil (QW.then_n (CW.seq ?_))
 refine CW.mem (M' := (some b14, blk (u8s x11.toList) 26) :: (some b4, blk (u8s (Vector.replicate 20 0#8).toList) 23) :: (some b3, blk (u8s a1.toList) 26) :: (((some b2, blk (u8s a0.toList) 23) :: (((some b5), blk ((([.slice A2_ a2.length c2_] : List Value)) ++ []) 27) :: [])) ++ N)) (fun w m => m.pick [0, 1, 2, 3] 4 rfl rfl) ?_
 have gq2 : ∀ w, More w0 Φ ((some b2, blk (u8s a0.toList) 23) :: (((some b5), blk ((([.slice A2_ a2.length c2_] : List Value)) ++ []) 27) :: [])) w → More w0 Φ (((some b5), blk ((([.slice A2_ a2.length c2_] : List Value)) ++ []) 27) :: []) w := fun w q => More.mono (fun w m => (m).tail) q
 replace va2 := va2.mono gq2
 replace v9 := v9.mono gq2
 replace h8 := h8.mono (BsRd.mono gq2)
 replace hg0 := hg0.mono gq2
 have v15 : View (More w0 Φ ((some b2, blk (u8s a0.toList) 23) :: (((some b5), blk ((([.slice A2_ a2.length c2_] : List Value)) ++ []) 27) :: []))) (some ⟨b2, 0, none⟩) a0.toList.length 20 1 (u8s a0.toList) := View.arr (w0 := w0) (te := 23) (fun w q => q.2.sublist (List.singleton_sublist.2 (List.mem_cons_self ..))) (by decide)
 refine CW.mem (M' := (some b14, blk (u8s x11.toList) 26) :: (some b4, blk (u8s (Vector.replicate 20 0#8).toList) 23) :: (((some b3, blk (u8s a1.toList) 26) :: ((some b2, blk (u8s a0.toList) 23) :: (((some b5), blk ((([.slice A2_ a2.length c2_] : List Value)) ++ []) 27) :: []))) ++ N)) (fun w m => m.pick [0, 1, 2] 3 rfl rfl) ?_
 have gq3 : ∀ w, More w0 Φ ((some b3, blk (u8s a1.toList) 26) :: ((some b2, blk (u8s a0.toList) 23) :: (((some b5), blk ((([.slice A2_ a2.length c2_] : List Value)) ++ []) 27) :: []))) w → More w0 Φ ((some b2, blk (u8s a0.toList) 23) :: (((some b5), blk ((([.slice A2_ a2.length c2_] : List Value)) ++ []) 27) :: [])) w := fun w q => More.mono (fun w m => (m).tail) q
 replace va2 := va2.mono gq3
 replace v15 := v15.mono gq3
 replace v9 := v9.mono gq3
 replace h8 := h8.mono (BsRd.mono gq3)
 replace hg0 := hg0.mono gq3
 have v16 : View (More w0 Φ ((some b3, blk (u8s a1.toList) 26) :: ((some b2, blk (u8s a0.toList) 23) :: (((some b5), blk ((([.slice A2_ a2.length c2_] : List Value)) ++ []) 27) :: [])))) (some ⟨b3, 0, none⟩) a1.toList.length 32 1 (u8s a1.toList) := View.arr (w0 := w0) (te := 26) (fun w q => q.2.sublist (List.singleton_sublist.2 (List.mem_cons_self ..))) (by decide)
 refine CW.mem (M' := (some b4, blk (u8s (Vector.replicate 20 0#8).toList) 23) :: (((some b14, blk (u8s x11.toList) 26) :: ((some b3, blk (u8s a1.toList) 26) :: ((some b2, blk (u8s a0.toList) 23) :: (((some b5), blk ((([.slice A2_ a2.length c2_] : List Value)) ++ []) 27) :: [])))) ++ N)) (fun w m => m.pick [1, 0] 2 rfl rfl) ?_
 have gq4 : ∀ w, More w0 Φ ((some b14, blk (u8s x11.toList) 26) :: ((some b3, blk (u8s a1.toList) 26) :: ((some b2, blk (u8s a0.toList) 23) :: (((some b5), blk ((([.slice A2_ a2.length c2_] : List Value)) ++ []) 27) :: [])))) w → More w0 Φ ((some b3, blk (u8s a1.toList) 26) :: ((some b2, blk (u8s a0.toList) 23) :: (((some b5), blk ((([.slice A2_ a2.length c2_] : List Value)) ++ []) 27) :: []))) w := fun w q => More.mono (fun w m => (m).tail) q
 replace va2 := va2.mono gq4
 replace v15 := v15.mono gq4
 replace v16 := v16.mono gq4
 replace v9 := v9.mono gq4
 replace h8 := h8.mono (BsRd.mono gq4)
 replace hg0 := hg0.mono gq4
 have v17 : View (More w0 Φ ((some b14, blk (u8s x11.toList) 26) :: ((some b3, blk (u8s a1.toList) 26) :: ((some b2, blk (u8s a0.toList) 23) :: (((some b5), blk ((([.slice A2_ a2.length c2_] : List Value)) ++ []) 27) :: []))))) (some ⟨b14, 0, none⟩) x11.toList.length 32 1 (u8s x11.toList) := View.arr (w0 := w0) (te := 26) (fun w q => q.2.sublist (List.singleton_sublist.2 (List.mem_cons_self ..))) (by decide)
 refine CW.drawsX ((((some b14, blk (u8s x11.toList) 26) :: ((some b3, blk (u8s a1.toList) 26) :: ((some b2, blk (u8s a0.toList) 23) :: (((some b5), blk ((([.slice A2_ a2.length c2_] : List Value)) ++ []) 27) :: [])))) ++ N)) [7] (fun w m => m.pick [] 1 rfl rfl) mixed (by kernel_rfl) ?_
 refine XW.rs 1 rfl (by kernel_rfl) rfl (RV.arr_all rfl rfl rfl) rfl ?_
 refine XW.slot (.slice (some ⟨b2, 0, none⟩) a0.toList.length 20) (by rw [Vector.length_toList]; try rfl) ?_
 have v18 := v15
 have m19 := v18.mx
 refine XW.rs 2 rfl (by kernel_rfl) rfl (RV.arr_all rfl rfl rfl) rfl ?_
 refine XW.slot (.slice (some ⟨b3, 0, none⟩) a1.toList.length 32) (by rw [Vector.length_toList]; try rfl) ?_
 have v20 := v16
 have m21 := v20.mx
 refine XW.rs 3 rfl (by kernel_rfl) rfl (RV.arr_all rfl rfl rfl) rfl ?_
 refine XW.slot (.slice (some ⟨b14, 0, none⟩) x11.toList.length 32) (by rw [Vector.length_toList]; try rfl) ?_
 have v22 := v17
 have m23 := v22.mx
 refine XW.new 0 rfl (by kernel_rfl) rfl (NV.bs1 rfl rfl rfl rfl rfl rfl) rfl (fun b24 => ?_)
 refine XW.mem (M' := (((some b24), blk ((u8s ([255#8] : List (BitVec 8))) ++ []) 5) :: (some b4, blk (u8s (Vector.replicate 20 0#8).toList) 23) :: (((some b14, blk (u8s x11.toList) 26) :: ((some b3, blk (u8s a1.toList) 26) :: ((some b2, blk (u8s a0.toList) 23) :: (((some b5), blk ((([.slice A2_ a2.length c2_] : List Value)) ++ []) 27) :: [])))) ++ N))) (fun w m => by first | exact m | simpa [u8s] using m) (fun w m => m.pick [] 2 rfl rfl) ?_
 have o25 : OwnS (some b24) ([255#8] : List (BitVec 8)).length 1 1 (u8s ([255#8] : List (BitVec 8))) [] := ⟨by simp [u8s], by simp [u8s], (fun h => nomatch h), by simp⟩
 refine XW.slot (sl (some b24) 0 ([255#8] : List (BitVec 8)).length 1) (rfl) ?_
 refine XW.mem (M' := (some b4, blk (u8s (Vector.replicate 20 0#8).toList) 23) :: ((((some b24), blk ((u8s ([255#8] : List (BitVec 8))) ++ []) 5) :: ((some b14, blk (u8s x11.toList) 26) :: ((some b3, blk (u8s a1.toList) 26) :: ((some b2, blk (u8s a0.toList) 23) :: (((some b5), blk ((([.slice A2_ a2.length c2_] : List Value)) ++ []) 27) :: []))))) ++ N)) (fun w m => m.pick [1, 0] 2 rfl rfl) (fun w m => by have h := Mem.shrink (B := ((some b14, blk (u8s x11.toList) 26) :: ((some b3, blk (u8s a1.toList) 26) :: ((some b2, blk (u8s a0.toList) 23) :: (((some b5), blk ((([.slice A2_ a2.length c2_] : List Value)) ++ []) 27) :: []))))) (B' := (((some b24), blk ((u8s ([255#8] : List (BitVec 8))) ++ []) 5) :: ((some b14, blk (u8s x11.toList) 26) :: ((some b3, blk (u8s a1.toList) 26) :: ((some b2, blk (u8s a0.toList) 23) :: (((some b5), blk ((([.slice A2_ a2.length c2_] : List Value)) ++ []) 27) :: [])))))) (List.sublist_cons_self _ _) (m.pick [] 1 rfl rfl) 0 rfl; exact h) ?_
 have gq5 : ∀ w, More w0 Φ (((some b24), blk ((u8s ([255#8] : List (BitVec 8))) ++ []) 5) :: ((some b14, blk (u8s x11.toList) 26) :: ((some b3, blk (u8s a1.toList) 26) :: ((some b2, blk (u8s a0.toList) 23) :: (((some b5), blk ((([.slice A2_ a2.length c2_] : List Value)) ++ []) 27) :: []))))) w → More w0 Φ ((some b14, blk (u8s x11.toList) 26) :: ((some b3, blk (u8s a1.toList) 26) :: ((some b2, blk (u8s a0.toList) 23) :: (((some b5), blk ((([.slice A2_ a2.length c2_] : List Value)) ++ []) 27) :: [])))) w := fun w q => More.mono (fun w m => (m).tail) q
 replace va2 := va2.mono gq5
 replace v15 := v15.mono gq5
 replace v16 := v16.mono gq5
 replace v9 := v9.mono gq5
 replace h8 := h8.mono (BsRd.mono gq5)
 replace v17 := v17.mono gq5
 replace v18 := v18.mono gq5
 replace v20 := v20.mono gq5
 replace v22 := v22.mono gq5
 replace hg0 := hg0.mono gq5
 have v28 : View (More w0 Φ (((some b24), blk ((u8s ([255#8] : List (BitVec 8))) ++ []) 5) :: ((some b14, blk (u8s x11.toList) 26) :: ((some b3, blk (u8s a1.toList) 26) :: ((some b2, blk (u8s a0.toList) 23) :: (((some b5), blk ((([.slice A2_ a2.length c2_] : List Value)) ++ []) 27) :: [])))))) (((some b24)).map fun k => ⟨k, 0, none⟩) ([255#8] : List (BitVec 8)).length 1 1 (u8s ([255#8] : List (BitVec 8))) := o25.view (by decide) (fun w q => q.2.sublist (List.singleton_sublist.2 (List.mem_cons_self ..)))
 refine XW.new 4 rfl (by kernel_rfl) rfl (NV.bsN rfl rfl rfl (by decide) (by decide) rfl rfl rfl rfl) rfl (fun b26 => ?_)
 have h30 : Reps (BsRd (More w0 Φ (((some b24), blk ((u8s ([255#8] : List (BitVec 8))) ++ []) 5) :: ((some b14, blk (u8s x11.toList) 26) :: ((some b3, blk (u8s a1.toList) 26) :: ((some b2, blk (u8s a0.toList) 23) :: (((some b5), blk ((([.slice A2_ a2.length c2_] : List Value)) ++ []) 27) :: []))))))) (([.slice (((some b24)).map fun k => ⟨k, 0, none⟩) ([255#8] : List (BitVec 8)).length 1] : List Value) ++ ([.slice (some ⟨b2, 0, none⟩) a0.toList.length 20] : List Value) ++ ([.slice (some ⟨b3, 0, none⟩) a1.toList.length 32] : List Value) ++ ([.slice (some ⟨b14, 0, none⟩) x11.toList.length 32] : List Value)) [([255#8] : List (BitVec 8)), a0.toList, a1.toList, x11.toList] := by simpa using (show Reps (BsRd (More w0 Φ (((some b24), blk ((u8s ([255#8] : List (BitVec 8))) ++ []) 5) :: ((some b14, blk (u8s x11.toList) 26) :: ((some b3, blk (u8s a1.toList) 26) :: ((some b2, blk (u8s a0.toList) 23) :: (((some b5), blk ((([.slice A2_ a2.length c2_] : List Value)) ++ []) 27) :: []))))))) _ [([255#8] : List (BitVec 8)), a0.toList, a1.toList, x11.toList] from (.cons (BsRd.mk v28) (.cons (BsRd.mk v18) (.cons (BsRd.mk v20) (.cons (BsRd.mk v22) .nil)))))
 refine XW.mem (M' := (((some b26), blk ((([.slice (((some b24)).map fun k => ⟨k, 0, none⟩) ([255#8] : List (BitVec 8)).length 1] : List Value) ++ ([.slice (some ⟨b2, 0, none⟩) a0.toList.length 20] : List Value) ++ ([.slice (some ⟨b3, 0, none⟩) a1.toList.length 32] : List Value) ++ ([.slice (some ⟨b14, 0, none⟩) x11.toList.length 32] : List Value)) ++ []) 27) :: (some b4, blk (u8s (Vector.replicate 20 0#8).toList) 23) :: ((((some b24), blk ((u8s ([255#8] : List (BitVec 8))) ++ []) 5) :: ((some b14, blk (u8s x11.toList) 26) :: ((some b3, blk (u8s a1.toList) 26) :: ((some b2, blk (u8s a0.toList) 23) :: (((some b5), blk ((([.slice A2_ a2.length c2_] : List Value)) ++ []) 27) :: []))))) ++ N))) (fun w m => m) (fun w m => by have h := Mem.shrink (B := ((some b14, blk (u8s x11.toList) 26) :: ((some b3, blk (u8s a1.toList) 26) :: ((some b2, blk (u8s a0.toList) 23) :: (((some b5), blk ((([.slice A2_ a2.length c2_] : List Value)) ++ []) 27) :: []))))) (B' := (((some b24), blk ((u8s ([255#8] : List (BitVec 8))) ++ []) 5) :: ((some b14, blk (u8s x11.toList) 26) :: ((some b3, blk (u8s a1.toList) 26) :: ((some b2, blk (u8s a0.toList) 23) :: (((some b5), blk ((([.slice A2_ a2.length c2_] : List Value)) ++ []) 27) :: [])))))) (List.sublist_cons_self _ _) (m.pick [] 2 rfl rfl) 0 rfl; exact h) ?_
 have o27 : OwnS (some b26) ([([255#8] : List (BitVec 8)), a0.toList, a1.toList, x11.toList] : List (List (BitVec 8))).length 4 1 (([.slice (((some b24)).map fun k => ⟨k, 0, none⟩) ([255#8] : List (BitVec 8)).length 1] : List Value) ++ ([.slice (some ⟨b2, 0, none⟩) a0.toList.length 20] : List Value) ++ ([.slice (some ⟨b3, 0, none⟩) a1.toList.length 32] : List Value) ++ ([.slice (some ⟨b14, 0, none⟩) x11.toList.length 32] : List Value)) [] := ⟨by simp [BsRd], by simp [BsRd], (fun h => nomatch h), by simp⟩
 refine XW.slot (sl (some b26) 0 ([([255#8] : List (BitVec 8)), a0.toList, a1.toList, x11.toList] : List (List (BitVec 8))).length 4) (rfl) ?_
 refine XW.mem (M' := (some b4, blk (u8s (Vector.replicate 20 0#8).toList) 23) :: ((((some b26), blk ((([.slice (((some b24)).map fun k => ⟨k, 0, none⟩) ([255#8] : List (BitVec 8)).length 1] : List Value) ++ ([.slice (some ⟨b2, 0, none⟩) a0.toList.length 20] : List Value) ++ ([.slice (some ⟨b3, 0, none⟩) a1.toList.length 32] : List Value) ++ ([.slice (some ⟨b14, 0, none⟩) x11.toList.length 32] : List Value)) ++ []) 27) :: (((some b24), blk ((u8s ([255#8] : List (BitVec 8))) ++ []) 5) :: ((some b14, blk (u8s x11.toList) 26) :: ((some b3, blk (u8s a1.toList) 26) :: ((some b2, blk (u8s a0.toList) 23) :: (((some b5), blk ((([.slice A2_ a2.length c2_] : List Value)) ++ []) 27) :: [])))))) ++ N)) (fun w m => m.pick [1, 0] 2 rfl rfl) (fun w m => by have h := Mem.shrink (B := ((some b14, blk (u8s x11.toList) 26) :: ((some b3, blk (u8s a1.toList) 26) :: ((some b2, blk (u8s a0.toList) 23) :: (((some b5), blk ((([.slice A2_ a2.length c2_] : List Value)) ++ []) 27) :: []))))) (B' := (((some b26), blk ((([.slice (((some b24)).map fun k => ⟨k, 0, none⟩) ([255#8] : List (BitVec 8)).length 1] : List Value) ++ ([.slice (some ⟨b2, 0, none⟩) a0.toList.length 20] : List Value) ++ ([.slice (some ⟨b3, 0, none⟩) a1.toList.length 32] : List Value) ++ ([.slice (some ⟨b14, 0, none⟩) x11.toList.length 32] : List Value)) ++ []) 27) :: (((some b24), blk ((u8s ([255#8] : List (BitVec 8))) ++ []) 5) :: ((some b14, blk (u8s x11.toList) 26) :: ((some b3, blk (u8s a1.toList) 26) :: ((some b2, blk (u8s a0.toList) 23) :: (((some b5), blk ((([.slice A2_ a2.length c2_] : List Value)) ++ []) 27) :: []))))))) ((List.sublist_cons_self _ _).trans (List.sublist_cons_self _ _)) (m.pick [] 1 rfl rfl) 0 rfl; exact h) ?_
 have gq6 : ∀ w, More w0 Φ (((some b26), blk ((([.slice (((some b24)).map fun k => ⟨k, 0, none⟩) ([255#8] : List (BitVec 8)).length 1] : List Value) ++ ([.slice (some ⟨b2, 0, none⟩) a0.toList.length 20] : List Value) ++ ([.slice (some ⟨b3, 0, none⟩) a1.toList.length 32] : List Value) ++ ([.slice (some ⟨b14, 0, none⟩) x11.toList.length 32] : List Value)) ++ []) 27) :: (((some b24), blk ((u8s ([255#8] : List (BitVec 8))) ++ []) 5) :: ((some b14, blk (u8s x11.toList) 26) :: ((some b3, blk (u8s a1.toList) 26) :: ((some b2, blk (u8s a0.toList) 23) :: (((some b5), blk ((([.slice A2_ a2.length c2_] : List Value)) ++ []) 27) :: [])))))) w → More w0 Φ (((some b24), blk ((u8s ([255#8] : List (BitVec 8))) ++ []) 5) :: ((some b14, blk (u8s x11.toList) 26) :: ((some b3, blk (u8s a1.toList) 26) :: ((some b2, blk (u8s a0.toList) 23) :: (((some b5), blk ((([.slice A2_ a2.length c2_] : List Value)) ++ []) 27) :: []))))) w := fun w q => More.mono (fun w m => (m).tail) q
 replace va2 := va2.mono gq6
 replace v15 := v15.mono gq6
 replace v16 := v16.mono gq6
 replace v9 := v9.mono gq6
 replace h8 := h8.mono (BsRd.mono gq6)
 replace v17 := v17.mono gq6
 replace v18 := v18.mono gq6
 replace v20 := v20.mono gq6
 replace v22 := v22.mono gq6
 replace v28 := v28.mono gq6
 replace h30 := h30.mono (BsRd.mono gq6)
 replace hg0 := hg0.mono gq6
 have v31 : View (More w0 Φ (((some b26), blk ((([.slice (((some b24)).map fun k => ⟨k, 0, none⟩) ([255#8] : List (BitVec 8)).length 1] : List Value) ++ ([.slice (some ⟨b2, 0, none⟩) a0.toList.length 20] : List Value) ++ ([.slice (some ⟨b3, 0, none⟩) a1.toList.length 32] : List Value) ++ ([.slice (some ⟨b14, 0, none⟩) x11.toList.length 32] : List Value)) ++ []) 27) :: (((some b24), blk ((u8s ([255#8] : List (BitVec 8))) ++ []) 5) :: ((some b14, blk (u8s x11.toList) 26) :: ((some b3, blk (u8s a1.toList) 26) :: ((some b2, blk (u8s a0.toList) 23) :: (((some b5), blk ((([.slice A2_ a2.length c2_] : List Value)) ++ []) 27) :: []))))))) (((some b26)).map fun k => ⟨k, 0, none⟩) ([([255#8] : List (BitVec 8)), a0.toList, a1.toList, x11.toList] : List (List (BitVec 8))).length 4 1 (([.slice (((some b24)).map fun k => ⟨k, 0, none⟩) ([255#8] : List (BitVec 8)).length 1] : List Value) ++ ([.slice (some ⟨b2, 0, none⟩) a0.toList.length 20] : List Value) ++ ([.slice (some ⟨b3, 0, none⟩) a1.toList.length 32] : List Value) ++ ([.slice (some ⟨b14, 0, none⟩) x11.toList.length 32] : List Value)) := o27.view (by decide) (fun w q => q.2.sublist (List.singleton_sublist.2 (List.mem_cons_self ..)))
 obtain ⟨x33, hx32, hf⟩ := some_bind hf
 refine XW.callG 5 rfl (by kernel_rfl) rfl Tryd.call28 rfl (fun N' hN' => keccak_Sum_does w0 (More w0 Φ (((some b26), blk ((([.slice (((some b24)).map fun k => ⟨k, 0, none⟩) ([255#8] : List (BitVec 8)).length 1] : List Value) ++ ([.slice (some ⟨b2, 0, none⟩) a0.toList.length 20] : List Value) ++ ([.slice (some ⟨b3, 0, none⟩) a1.toList.length 32] : List Value) ++ ([.slice (some ⟨b14, 0, none⟩) x11.toList.length 32] : List Value)) ++ []) 27) :: (((some b24), blk ((u8s ([255#8] : List (BitVec 8))) ++ []) 5) :: ((some b14, blk (u8s x11.toList) 26) :: ((some b3, blk (u8s a1.toList) 26) :: ((some b2, blk (u8s a0.toList) 23) :: (((some b5), blk ((([.slice A2_ a2.length c2_] : List Value)) ++ []) 27) :: []))))))) N' (fun w m => More.of hΦ 1 (hN' w m) rfl) (((some b26)).map fun k => ⟨k, 0, none⟩) 4 (([.slice (((some b24)).map fun k => ⟨k, 0, none⟩) ([255#8] : List (BitVec 8)).length 1] : List Value) ++ ([.slice (some ⟨b2, 0, none⟩) a0.toList.length 20] : List Value) ++ ([.slice (some ⟨b3, 0, none⟩) a1.toList.length 32] : List Value) ++ ([.slice (some ⟨b14, 0, none⟩) x11.toList.length 32] : List Value)) ([([255#8] : List (BitVec 8)), a0.toList, a1.toList, x11.toList] : List (List (BitVec 8))) x33 v31 h30 hg0 hx32) rfl ?_
 rintro _ G34 rfl
 refine XW.mem (M' := ((some b4, blk (u8s (Vector.replicate 20 0#8).toList) 23) :: ((((some b26), blk ((([.slice (((some b24)).map fun k => ⟨k, 0, none⟩) ([255#8] : List (BitVec 8)).length 1] : List Value) ++ ([.slice (some ⟨b2, 0, none⟩) a0.toList.length 20] : List Value) ++ ([.slice (some ⟨b3, 0, none⟩) a1.toList.length 32] : List Value) ++ ([.slice (some ⟨b14, 0, none⟩) x11.toList.length 32] : List Value)) ++ []) 27) :: (((some b24), blk ((u8s ([255#8] : List (BitVec 8))) ++ []) 5) :: ((some b14, blk (u8s x11.toList) 26) :: ((some b3, blk (u8s a1.toList) 26) :: ((some b2, blk (u8s a0.toList) 23) :: (((some b5), blk ((([.slice A2_ a2.length c2_] : List Value)) ++ []) 27) :: [])))))) ++ N))) (fun w m => m.appR) (fun w m => by have h := Mem.shrink (B := ((some b14, blk (u8s x11.toList) 26) :: ((some b3, blk (u8s a1.toList) 26) :: ((some b2, blk (u8s a0.toList) 23) :: (((some b5), blk ((([.slice A2_ a2.length c2_] : List Value)) ++ []) 27) :: []))))) (B' := (((some b26), blk ((([.slice (((some b24)).map fun k => ⟨k, 0, none⟩) ([255#8] : List (BitVec 8)).length 1] : List Value) ++ ([.slice (some ⟨b2, 0, none⟩) a0.toList.length 20] : List Value) ++ ([.slice (some ⟨b3, 0, none⟩) a1.toList.length 32] : List Value) ++ ([.slice (some ⟨b14, 0, none⟩) x11.toList.length 32] : List Value)) ++ []) 27) :: (((some b24), blk ((u8s ([255#8] : List (BitVec 8))) ++ []) 5) :: ((some b14, blk (u8s x11.toList) 26) :: ((some b3, blk (u8s a1.toList) 26) :: ((some b2, blk (u8s a0.toList) 23) :: (((some b5), blk ((([.slice A2_ a2.length c2_] : List Value)) ++ []) 27) :: []))))))) ((List.sublist_cons_self _ _).trans (List.sublist_cons_self _ _)) (m.pick [] 1 rfl rfl) 0 rfl; exact h) ?_
 obtain ⟨x37, hx36, hf⟩ := some_bind hf
 refine XW.callG 6 rfl (by kernel_rfl) rfl Tryd.call32 rfl (fun N' hN' => address_last_does w0 (More w0 Φ (((some b26), blk ((([.slice (((some b24)).map fun k => ⟨k, 0, none⟩) ([255#8] : List (BitVec 8)).length 1] : List Value) ++ ([.slice (some ⟨b2, 0, none⟩) a0.toList.length 20] : List Value) ++ ([.slice (some ⟨b3, 0, none⟩) a1.toList.length 32] : List Value) ++ ([.slice (some ⟨b14, 0, none⟩) x11.toList.length 32] : List Value)) ++ []) 27) :: (((some b24), blk ((u8s ([255#8] : List (BitVec 8))) ++ []) 5) :: ((some b14, blk (u8s x11.toList) 26) :: ((some b3, blk (u8s a1.toList) 26) :: ((some b2, blk (u8s a0.toList) 23) :: (((some b5), blk ((([.slice A2_ a2.length c2_] : List Value)) ++ []) 27) :: []))))))) N' (fun w m => More.of hΦ 1 (hN' w m) rfl) x33 x37 hx36) rfl ?_
 rintro _ G38 rfl
 refine XW.mem (M' := ((some b4, blk (u8s (Vector.replicate 20 0#8).toList) 23) :: ((((some b26), blk ((([.slice (((some b24)).map fun k => ⟨k, 0, none⟩) ([255#8] : List (BitVec 8)).length 1] : List Value) ++ ([.slice (some ⟨b2, 0, none⟩) a0.toList.length 20] : List Value) ++ ([.slice (some ⟨b3, 0, none⟩) a1.toList.length 32] : List Value) ++ ([.slice (some ⟨b14, 0, none⟩) x11.toList.length 32] : List Value)) ++ []) 27) :: (((some b24), blk ((u8s ([255#8] : List (BitVec 8))) ++ []) 5) :: ((some b14, blk (u8s x11.toList) 26) :: ((some b3, blk (u8s a1.toList) 26) :: ((some b2, blk (u8s a0.toList) 23) :: (((some b5), blk ((([.slice A2_ a2.length c2_] : List Value)) ++ []) 27) :: [])))))) ++ N))) (fun w m => m.appR) (fun w m => by have h := Mem.shrink (B := ((some b14, blk (u8s x11.toList) 26) :: ((some b3, blk (u8s a1.toList) 26) :: ((some b2, blk (u8s a0.toList) 23) :: (((some b5), blk ((([.slice A2_ a2.length c2_] : List Value)) ++ []) 27) :: []))))) (B' := (((some b26), blk ((([.slice (((some b24)).map fun k => ⟨k, 0, none⟩) ([255#8] : List (BitVec 8)).length 1] : List Value) ++ ([.slice (some ⟨b2, 0, none⟩) a0.toList.length 20] : List Value) ++ ([.slice (some ⟨b3, 0, none⟩) a1.toList.length 32] : List Value) ++ ([.slice (some ⟨b14, 0, none⟩) x11.toList.length 32] : List Value)) ++ []) 27) :: (((some b24), blk ((u8s ([255#8] : List (BitVec 8))) ++ []) 5) :: ((some b14, blk (u8s x11.toList) 26) :: ((some b3, blk (u8s a1.toList) 26) :: ((some b2, blk (u8s a0.toList) 23) :: (((some b5), blk ((([.slice A2_ a2.length c2_] : List Value)) ++ []) 27) :: []))))))) ((List.sublist_cons_self _ _).trans (List.sublist_cons_self _ _)) (m.pick [] 1 rfl rfl) 0 rfl; exact h) ?_
 refine XW.sv 7 rfl (by kernel_rfl) (SV.storeW rfl rfl rfl (u8s_one _) rfl ((u8s_length _).trans Vector.length_toList) ((u8s_length _).trans Vector.length_toList)) (fun w m => by have h := Mem.shrink (B := ((some b14, blk (u8s x11.toList) 26) :: ((some b3, blk (u8s a1.toList) 26) :: ((some b2, blk (u8s a0.toList) 23) :: (((some b5), blk ((([.slice A2_ a2.length c2_] : List Value)) ++ []) 27) :: []))))) (B' := (((some b26), blk ((([.slice (((some b24)).map fun k => ⟨k, 0, none⟩) ([255#8] : List (BitVec 8)).length 1] : List Value) ++ ([.slice (some ⟨b2, 0, none⟩) a0.toList.length 20] : List Value) ++ ([.slice (some ⟨b3, 0, none⟩) a1.toList.length 32] : List Value) ++ ([.slice (some ⟨b14, 0, none⟩) x11.toList.length 32] : List Value)) ++ []) 27) :: (((some b24), blk ((u8s ([255#8] : List (BitVec 8))) ++ []) 5) :: ((some b14, blk (u8s x11.toList) 26) :: ((some b3, blk (u8s a1.toList) 26) :: ((some b2, blk (u8s a0.toList) 23) :: (((some b5), blk ((([.slice A2_ a2.length c2_] : List Value)) ++ []) 27) :: []))))))) ((List.sublist_cons_self _ _).trans (List.sublist_cons_self _ _)) (m.pick [] 1 rfl rfl) 0 rfl; exact h) ?_
 refine XW.nil (by kernel_rfl) ?_
 refine QW.then_n (CW.ret ?_)
 have e0 := Option.some.inj hf
 subst e0
 refine QW.retG (rs := [.cell 6 23]) ([.agg (u8s x37.toList).toArray]) ((some b4, blk (u8s x37.toList) 23) :: (((some b26), blk ((([.slice (((some b24)).map fun k => ⟨k, 0, none⟩) ([255#8] : List (BitVec 8)).length 1] : List Value) ++ ([.slice (some ⟨b2, 0, none⟩) a0.toList.length 20] : List Value) ++ ([.slice (some ⟨b3, 0, none⟩) a1.toList.length 32] : List Value) ++ ([.slice (some ⟨b14, 0, none⟩) x11.toList.length 32] : List Value)) ++ []) 27) :: (((some b24), blk ((u8s ([255#8] : List (BitVec 8))) ++ []) 5) :: ((some b14, blk (u8s x11.toList) 26) :: ((some b3, blk (u8s a1.toList) 26) :: ((some b2, blk (u8s a0.toList) 23) :: (((some b5), blk ((([.slice A2_ a2.length c2_] : List Value)) ++ []) 27) :: []))))))) rfl ?_ rfl ?_ ?_ _ (.inl rfl)
 ·exact ⟨⟨_, _, _, _, rfl, (List.Mem.head _), rfl, rfl, (congrArg some ((u8s_length _).trans Vector.length_toList).symm), rfl⟩, trivial⟩
 ·exact rfl
 ·exact (fun w m => m)
theorem waybillref09_last_does (w0 : World) (Φ : Ctx) (N : List Ent) (hΦ : ∀ w, Mem w0 w N → Φ w) (A0_ : Option Addr) (c0_ : Nat) (cs0_ : List Value) (a0 : List (List (BitVec 8))) (res0 : Vector (BitVec 8) 20) (va0 : View Φ A0_ a0.length c0_ 1 cs0_) (ha0 : Reps (BsRd Φ) cs0_ a0) (hTn : ∀ i, i < 25 → w0.cell? ⟨4, i, none⟩ = some (.int .i64 (turnsL.getD i 0))) (hRn : ∀ i, i < 24 → w0.cell? ⟨3, i, none⟩ = some (U64 (g64 roundsL i))) (hf : waybillref09_last a0 = some res0) : DoesG Tryd.prog 38 [.slice A0_ a0.length c0_] w0 [] N (fun v G => v = .agg (u8s res0.toList).toArray) := by
 unfold waybillref09_last at hf
 replace va0 := va0.mono (Ψ := More w0 Φ []) (fun w q => q.1)
 replace ha0 := ha0.mono (BsRd.mono (Ψ := More w0 Φ []) (fun w q => q.1))
 have m1 := va0.mx
 refine DoesG.enter Tryd.func38 rfl Tryd.ntmps38 rfl (M := (([] ++ N))) rfl ?_
 refine CW.seq (CW.region ?_)
 refine OW.alloc (l := (u8s (Vector.replicate 20 0#8).toList)) rfl (by rw [Vector.toList_replicate, ← u8s_rep']; rfl) rfl (fun b2 => ?_)
 refine OW.nil (QW.then_n (CW.seq (CW.region ?_)))
 refine OW.rv (RV.move rfl) rfl ?_
 obtain ⟨x4, hx3, hf⟩ := some_bind hf
 refine OW.callG Tryd.call64 rfl (waybillref02_Sum_does w0 (More w0 Φ []) ((some b2, blk (u8s (Vector.replicate 20 0#8).toList) 23) :: ([] ++ N)) (fun w m => More.of hΦ 1 m rfl) A0_ c0_ cs0_ a0 x4 va0 ha0 hTn hRn hx3) rfl rfl ?_
 rintro _ G5 rfl
 refine OW.mem (M' := ((some b2, blk (u8s (Vector.replicate 20 0#8).toList) 23) :: ([] ++ N))) (fun w m => m.appR) ?_
 refine OW.alloc (l := (u8s (Vector.replicate 32 0#8).toList)) rfl (by rw [Vector.toList_replicate, ← u8s_rep']; rfl) rfl (fun b7 => ?_)
 refine OW.sv (SV.storeW rfl rfl rfl (u8s_one _) rfl ((u8s_length _).trans Vector.length_toList) ((u8s_length _).trans Vector.length_toList)) ?_
 refine OW.nil (QW.then_n (CW.seq (CW.region ?_)))
 refine OW.alloc (l := (u8s (Vector.replicate 20 0#8).toList)) rfl (by rw [Vector.toList_replicate, ← u8s_rep']; rfl) rfl (fun b8 => ?_)
 refine OW.nil (QW.then_n (CW.seq (CW.seq (CW.region ?_))))
 refine OW.rv (RV.assign rfl) rfl ?_
 refine OW.nil (QW.then_n ?_)
 obtain ⟨q9, hq10, hf⟩ := some_bind hf
 refine CW.cutJ (fun L' M' => ∃ w11 : Vector (BitVec 8) 20, q9 = w11 ∧ L' = [(2, ptr (some b2) 0), (4, ptr (some b8) 0)] ∧ M' = ((some b8, blk (u8s w11.toList) 23) :: (some b2, blk (u8s (Vector.replicate 20 0#8).toList) 23) :: ([] ++ N))) ?_ ?_
 ·rintro L13 M14 ⟨w11, e12, e15, e16⟩
  rw [e15, e16]
  clear e15 e16 L13 M14
  clear hq10
  rw [e12] at hf
  clear e12
  try dsimp only at hf
  refine QW.then_n (CW.seq (CW.region ?_))
  refine OW.rv (RV.loadW rfl (List.Mem.head _) rfl rfl rfl rfl ((u8s_length _).trans Vector.length_toList)) rfl ?_
  refine OW.rot1 ?_
  refine OW.sv (SV.storeW rfl rfl rfl (u8s_one _) rfl ((u8s_length _).trans Vector.length_toList) ((u8s_length _).trans Vector.length_toList)) ?_
  refine OW.nil (QW.then_n (CW.ret ?_))
  have e0 := Option.some.inj hf
  subst e0
  refine QW.retG (rs := [.cell 2 23]) ([.agg (u8s w11.toList).toArray]) ((some b2, blk (u8s w11.toList) 23) :: (some b8, blk (u8s w11.toList) 23) :: []) rfl ?_ rfl ?_ ?_ _ (.inl rfl)
  ·exact ⟨⟨_, _, _, _, rfl, (List.Mem.head _), rfl, rfl, (congrArg some ((u8s_length _).trans Vector.length_toList).symm), rfl⟩, trivial⟩
  ·exact rfl
  ·exact (fun w m => m)
 ·skip
  refine CW.block ?_
  refine CW.loopJ (fun k L' M' => ∃ n17 : Nat, ∃ w19 : Vector (BitVec 8) 20, (waybillref09_last.l1 x4 k n17 w19) = some q9 ∧ (n17 ≤ 9223372036854775807) ∧ L' = [(2, ptr (some b2) 0), (3, ptr (some b7) 0), (4, ptr (some b8) 0), (5, .int .i64 ((n17 : Nat) : Int))] ∧ M' = ((some b8, blk (u8s w19.toList) 23) :: (some b7, blk (u8s x4.toList) 26) :: (some b2, blk (u8s (Vector.replicate 20 0#8).toList) 23) :: ([] ++ N))) (k0 := (20 - 0 + 2)) ⟨0, (Vector.replicate 20 0#8), hq10, (by omega), rfl, rfl⟩ ⟨rfl, rfl, rfl, rfl, trivial⟩ (fun w m => m.pick [0, 1, 2] 3 rfl rfl) ?_
  clear hq10
  rintro k20 L23 M24 ⟨n17, w19, hl21, b18, e25, e26⟩
  rw [e25, e26]
  clear e25 e26 L23 M24
  rcases k20 with _ | k20
  ·rw [waybillref09_last.l1] at hl21; cases hl21
  rw [waybillref09_last.l1] at hl21
  refine CW.seq (CW.seq (CW.region ?_))
  refine OW.rv (RV.move rfl) rfl ?_
  refine OW.rv (RV.lss rfl rfl) rfl ?_
  refine OW.slot (.bool (decide (n17 < 20))) (congrArg Value.bool (decide_eq_decide.2 (by omega))) ?_
  refine OW.nil (QW.then_n ?_)
  by_cases h27 : n17 < 20
  ·replace hl21 := if_t hl21 h27
   refine CW.is_t rfl (decide_eq_true h27) ?_
   refine CW.skip (QW.then_n (CW.seq (CW.block (CW.region ?_))))
   refine OW.rv (RV.move rfl) rfl ?_
   refine OW.rv (RV.move rfl) rfl ?_
   refine OW.rv (RV.add rfl rfl (by omega)) rfl ?_
   refine OW.slot (.int .i64 (((12 + n17) : Nat) : Int)) (by first | rfl | (congr 1) | (congr 1; omega)) ?_
   obtain ⟨g28, hl21⟩ := some_if hl21
   refine OW.rv (RV.idx_a ((12 + n17)) rfl rfl rfl rfl rfl (by omega)) rfl ?_
   obtain ⟨x29, hx30, hl21⟩ := some_bind hl21
   refine OW.rv (RV.load rfl (List.Mem.tail _ (List.Mem.head _)) rfl rfl rfl (by rw [Nat.zero_add]; exact u8s_at (vat hx30))) rfl ?_
   refine OW.rv (RV.idx_a (n17) rfl rfl rfl rfl rfl (by omega)) rfl ?_
   refine OW.sv (SV.store rfl rfl rfl rfl rfl (by rw [u8s_length, Vector.length_toList]; omega)) ?_
   refine OW.cells (u8s (w19.setIfInBounds n17 x29).toList) (by rw [Nat.zero_add, u8s_set', vset]) ?_
   refine OW.nil (QW.block_n (QW.then_n (CW.region ?_)))
   refine OW.rv (RV.move rfl) rfl ?_
   refine OW.rv (RV.add rfl rfl (by omega)) rfl ?_
   refine OW.slot (.int .i64 (((n17 + 1) : Nat) : Int)) (by first | rfl | (congr 1) | (congr 1; omega)) ?_
   refine OW.rv (RV.assign rfl) rfl ?_
   refine OW.nil ?_
   exact QW.againJ (k' := k20) (Nat.lt_succ_self _) ⟨(n17 + 1), (w19.setIfInBounds n17 x29), hl21, (by omega), rfl, rfl⟩ ⟨rfl, rfl, rfl, rfl, trivial⟩ (fun w m => m.pick [0, 1, 2] 3 rfl rfl)
  ·replace hl21 := if_f hl21 h27
   refine CW.is_f rfl (decide_eq_false h27) ?_
   refine CW.exit (QW.then_x (QW.then_x (QW.block_xe ?_)))
   exact QW.join ⟨w19, (Option.some.inj hl21).symm, rfl, rfl⟩ ⟨rfl, rfl, trivial⟩ (fun w m => m.pick [0, 2] 3 rfl rfl)
theorem waybillref09_Create_does (w0 : World) (Φ : Ctx) (N : List Ent) (hΦ : ∀ w, Mem w0 w N → Φ w) (a0 : Vector (BitVec 8) 20) (a1 : BitVec 64) (res0 : Vector (BitVec 8) 20) (hTn : ∀ i, i < 25 → w0.cell? ⟨4, i, none⟩ = some (.int .i64 (turnsL.getD i 0))) (hRn : ∀ i, i < 24 → w0.cell? ⟨3, i, none⟩ = some (U64 (g64 roundsL i))) (hf : waybillref09_Create a0 a1 = some res0) : DoesG Tryd.prog 11 [.agg (u8s a0.toList).toArray, U64 a1] w0 [] N (fun v G => v = .agg (u8s res0.toList).toArray) := by
 unfold waybillref09_Create at hf
 refine DoesG.enter Tryd.func11 rfl Tryd.ntmps11 rfl (M := (([] ++ N))) rfl ?_
 refine CW.seq (CW.region ?_)
 refine OW.boxA rfl rfl (fun b1 => ?_)
 refine OW.alloc (l := (u8s (Vector.replicate 20 0#8).toList)) rfl (by rw [Vector.toList_replicate, ← u8s_rep']; rfl) rfl (fun b2 => ?_)
 refine OW.nil (QW.then_n (CW.seq (CW.region ?_)))
 refine OW.mem (M' := (some b2, blk (u8s (Vector.replicate 20 0#8).toList) 23) :: (((some b1, blk (u8s a0.toList) 23) :: []) ++ N)) (fun w m => m.pick [0, 1] 2 rfl rfl) ?_
 have v3 : View (More w0 Φ ((some b1, blk (u8s a0.toList) 23) :: [])) (some ⟨b1, 0, none⟩) a0.toList.length 20 1 (u8s a0.toList) := View.arr (w0 := w0) (te := 23) (fun w q => q.2.sublist (List.singleton_sublist.2 (List.mem_cons_self ..))) (by decide)
 refine OW.rv (RV.arr_all rfl rfl rfl) rfl ?_
 refine OW.slot (.slice (some ⟨b1, 0, none⟩) a0.toList.length 20) (by rw [Vector.length_toList]; try rfl) ?_
 have v4 := v3
 have m5 := v4.mx
 obtain ⟨x7, hx6, hf⟩ := some_bind hf
 refine OW.callG Tryd.call35 rfl (waybillref07_Text_does w0 (More w0 Φ ((some b1, blk (u8s a0.toList) 23) :: [])) ((some b2, blk (u8s (Vector.replicate 20 0#8).toList) 23) :: (((some b1, blk (u8s a0.toList) 23) :: []) ++ N)) (fun w m => More.of hΦ 1 m rfl) (some ⟨b1, 0, none⟩) 20 a0.toList x7 v4 hx6) rfl rfl ?_
 rintro L11 M12 ⟨B8, cs9, h10, e13, e14⟩
 rw [e13, e14]
 clear e13 e14 L11 M12
 refine OW.mem (M' := ((some b2, blk (u8s (Vector.replicate 20 0#8).toList) 23) :: ((B8 ++ ((some b1, blk (u8s a0.toList) 23) :: [])) ++ N))) (fun w m => by have h := Mem.sinkAt (A := B8) m 0 1 rfl rfl; exact h) ?_
 have gq1 : ∀ w, More w0 Φ (B8 ++ ((some b1, blk (u8s a0.toList) 23) :: [])) w → More w0 Φ ((some b1, blk (u8s a0.toList) 23) :: []) w := fun w q => More.mono (fun w m => (m).appR) q
 replace v4 := v4.mono gq1
 replace h10 := ItRd.mono (Ψ := (More w0 Φ (B8 ++ ((some b1, blk (u8s a0.toList) 23) :: [])))) (fun w q => More.flat q) _ _ h10
 have h24 := h10
 obtain ⟨A15, c16, A18, c19, cs21, e23, v17, v20, h22⟩ := ItRd.opn h10
 subst e23
 have m25 := v17.mx
 have m26 := v20.mx
 have m27 := v17.mx
 have m28 := v20.mx
 refine OW.rv (RV.move rfl) rfl ?_
 obtain ⟨x30, hx29, hf⟩ := some_bind hf
 refine OW.callG Tryd.call36 rfl (waybillref07_Small_does w0 (More w0 Φ (B8 ++ ((some b1, blk (u8s a0.toList) 23) :: []))) ((some b2, blk (u8s (Vector.replicate 20 0#8).toList) 23) :: ((B8 ++ ((some b1, blk (u8s a0.toList) 23) :: [])) ++ N)) (fun w m => More.of hΦ 1 m rfl) a1 x30 hx29) rfl rfl ?_
 rintro L34 M35 ⟨B31, cs32, h33, e36, e37⟩
 rw [e36, e37]
 clear e36 e37 L34 M35
 refine OW.mem (M' := ((some b2, blk (u8s (Vector.replicate 20 0#8).toList) 23) :: ((B31 ++ (B8 ++ ((some b1, blk (u8s a0.toList) 23) :: []))) ++ N))) (fun w m => by have h := Mem.sinkAt (A := B31) m 0 1 rfl rfl; exact h) ?_
 have gq2 : ∀ w, More w0 Φ (B31 ++ (B8 ++ ((some b1, blk (u8s a0.toList) 23) :: []))) w → More w0 Φ (B8 ++ ((some b1, blk (u8s a0.toList) 23) :: [])) w := fun w q => More.mono (fun w m => (m).appR) q
 replace v4 := v4.mono gq2
 replace h24 := ItRd.mono gq2 _ _ h24
 replace v17 := v17.mono gq2
 replace v20 := v20.mono gq2
 replace h22 := h22.mono (ItRd.mono gq2)
 replace h33 := ItRd.mono (Ψ := (More w0 Φ (B31 ++ (B8 ++ ((some b1, blk (u8s a0.toList) 23) :: []))))) (fun w q => More.flat q) _ _ h33
 have h47 := h33
 obtain ⟨A38, c39, A41, c42, cs44, e46, v40, v43, h45⟩ := ItRd.opn h33
 subst e46
 have m48 := v40.mx
 have m49 := v43.mx
 have m50 := v40.mx
 have m51 := v43.mx
 refine OW.ofN (NV.bsA rfl rfl (by intro x hx; simp at hx; rcases hx with rfl | rfl <;> rfl) rfl rfl rfl (by decide) (by decide) rfl) rfl (fun b52 => ?_)
 have h55 : Reps (ItRd (More w0 Φ (B31 ++ (B8 ++ ((some b1, blk (u8s a0.toList) 23) :: []))))) (([.bool (x7.list), .slice A15 x7.data.length c16, .slice A18 x7.items.length c19] : List Value) ++ ([.bool (x30.list), .slice A38 x30.data.length c39, .slice A41 x30.items.length c42] : List Value)) [x7, x30] := by simpa using (show Reps (ItRd (More w0 Φ (B31 ++ (B8 ++ ((some b1, blk (u8s a0.toList) 23) :: []))))) _ [x7, x30] from (.cons h24 (.cons h47 .nil)))
 refine OW.mem (M' := (((some b52), blk ((([.bool (x7.list), .slice A15 x7.data.length c16, .slice A18 x7.items.length c19] : List Value) ++ ([.bool (x30.list), .slice A38 x30.data.length c39, .slice A41 x30.items.length c42] : List Value)) ++ []) 58) :: (some b2, blk (u8s (Vector.replicate 20 0#8).toList) 23) :: ((B31 ++ (B8 ++ ((some b1, blk (u8s a0.toList) 23) :: []))) ++ N))) (fun w m => m) ?_
 have o53 : OwnS (some b52) ([x7, x30] : List (It)).length 2 3 (([.bool (x7.list), .slice A15 x7.data.length c16, .slice A18 x7.items.length c19] : List Value) ++ ([.bool (x30.list), .slice A38 x30.data.length c39, .slice A41 x30.items.length c42] : List Value)) [] := ⟨by simp [ItRd], by simp [ItRd], (fun h => nomatch h), by simp⟩
 refine OW.slot (sl (some b52) 0 ([x7, x30] : List (It)).length 2) (rfl) ?_
 refine OW.mem (M' := (some b2, blk (u8s (Vector.replicate 20 0#8).toList) 23) :: ((((some b52), blk ((([.bool (x7.list), .slice A15 x7.data.length c16, .slice A18 x7.items.length c19] : List Value) ++ ([.bool (x30.list), .slice A38 x30.data.length c39, .slice A41 x30.items.length c42] : List Value)) ++ []) 58) :: (B31 ++ (B8 ++ ((some b1, blk (u8s a0.toList) 23) :: [])))) ++ N)) (fun w m => m.pick [1, 0] 2 rfl rfl) ?_
 have gq3 : ∀ w, More w0 Φ (((some b52), blk ((([.bool (x7.list), .slice A15 x7.data.length c16, .slice A18 x7.items.length c19] : List Value) ++ ([.bool (x30.list), .slice A38 x30.data.length c39, .slice A41 x30.items.length c42] : List Value)) ++ []) 58) :: (B31 ++ (B8 ++ ((some b1, blk (u8s a0.toList) 23) :: [])))) w → More w0 Φ (B31 ++ (B8 ++ ((some b1, blk (u8s a0.toList) 23) :: []))) w := fun w q => More.mono (fun w m => (m).tail) q
 replace v4 := v4.mono gq3
 replace h24 := ItRd.mono gq3 _ _ h24
 replace v17 := v17.mono gq3
 replace v20 := v20.mono gq3
 replace h22 := h22.mono (ItRd.mono gq3)
 replace h47 := ItRd.mono gq3 _ _ h47
 replace v40 := v40.mono gq3
 replace v43 := v43.mono gq3
 replace h45 := h45.mono (ItRd.mono gq3)
 replace h55 := h55.mono (ItRd.mono gq3)
 have v56 : View (More w0 Φ (((some b52), blk ((([.bool (x7.list), .slice A15 x7.data.length c16, .slice A18 x7.items.length c19] : List Value) ++ ([.bool (x30.list), .slice A38 x30.data.length c39, .slice A41 x30.items.length c42] : List Value)) ++ []) 58) :: (B31 ++ (B8 ++ ((some b1, blk (u8s a0.toList) 23) :: []))))) (((some b52)).map fun k => ⟨k, 0, none⟩) ([x7, x30] : List (It)).length 2 3 (([.bool (x7.list), .slice A15 x7.data.length c16, .slice A18 x7.items.length c19] : List Value) ++ ([.bool (x30.list), .slice A38 x30.data.length c39, .slice A41 x30.items.length c42] : List Value)) := o53.view (by decide) (fun w q => q.2.sublist (List.singleton_sublist.2 (List.mem_cons_self ..)))
 obtain ⟨x58, hx57, hf⟩ := some_bind hf
 refine OW.callG Tryd.call34 rfl (waybillref07_List_does w0 (More w0 Φ (((some b52), blk ((([.bool (x7.list), .slice A15 x7.data.length c16, .slice A18 x7.items.length c19] : List Value) ++ ([.bool (x30.list), .slice A38 x30.data.length c39, .slice A41 x30.items.length c42] : List Value)) ++ []) 58) :: (B31 ++ (B8 ++ ((some b1, blk (u8s a0.toList) 23) :: []))))) ((some b2, blk (u8s (Vector.replicate 20 0#8).toList) 23) :: ((((some b52), blk ((([.bool (x7.list), .slice A15 x7.data.length c16, .slice A18 x7.items.length c19] : List Value) ++ ([.bool (x30.list), .slice A38 x30.data.length c39, .slice A41 x30.items.length c42] : List Value)) ++ []) 58) :: (B31 ++ (B8 ++ ((some b1, blk (u8s a0.toList) 23) :: [])))) ++ N)) (fun w m => More.of hΦ 1 m rfl) (((some b52)).map fun k => ⟨k, 0, none⟩) 2 (([.bool (x7.list), .slice A15 x7.data.length c16, .slice A18 x7.items.length c19] : List Value) ++ ([.bool (x30.list), .slice A38 x30.data.length c39, .slice A41 x30.items.length c42] : List Value)) ([x7, x30] : List (It)) x58 v56 h55 hx57) rfl rfl ?_
 rintro L62 M63 ⟨B59, cs60, h61, e64, e65⟩
 rw [e64, e65]
 clear e64 e65 L62 M63
 refine OW.mem (M' := ((some b2, blk (u8s (Vector.replicate 20 0#8).toList) 23) :: ((B59 ++ (((some b52), blk ((([.bool (x7.list), .slice A15 x7.data.length c16, .slice A18 x7.items.length c19] : List Value) ++ ([.bool (x30.list), .slice A38 x30.data.length c39, .slice A41 x30.items.length c42] : List Value)) ++ []) 58) :: (B31 ++ (B8 ++ ((some b1, blk (u8s a0.toList) 23) :: []))))) ++ N))) (fun w m => by have h := Mem.sinkAt (A := B59) m 0 1 rfl rfl; exact h) ?_
 have gq4 : ∀ w, More w0 Φ (B59 ++ (((some b52), blk ((([.bool (x7.list), .slice A15 x7.data.length c16, .slice A18 x7.items.length c19] : List Value) ++ ([.bool (x30.list), .slice A38 x30.data.length c39, .slice A41 x30.items.length c42] : List Value)) ++ []) 58) :: (B31 ++ (B8 ++ ((some b1, blk (u8s a0.toList) 23) :: []))))) w → More w0 Φ (((some b52), blk ((([.bool (x7.list), .slice A15 x7.data.length c16, .slice A18 x7.items.length c19] : List Value) ++ ([.bool (x30.list), .slice A38 x30.data.length c39, .slice A41 x30.items.length c42] : List Value)) ++ []) 58) :: (B31 ++ (B8 ++ ((some b1, blk (u8s a0.toList) 23) :: [])))) w := fun w q => More.mono (fun w m => (m).appR) q
 replace v4 := v4.mono gq4
 replace h24 := ItRd.mono gq4 _ _ h24
 replace v17 := v17.mono gq4
 replace v20 := v20.mono gq4
 replace h22 := h22.mono (ItRd.mono gq4)
 replace h47 := ItRd.mono gq4 _ _ h47
 replace v40 := v40.mono gq4
 replace v43 := v43.mono gq4
 replace h45 := h45.mono (ItRd.mono gq4)
 replace v56 := v56.mono gq4
 replace h55 := h55.mono (ItRd.mono gq4)
 replace h61 := ItRd.mono (Ψ := (More w0 Φ (B59 ++ (((some b52), blk ((([.bool (x7.list), .slice A15 x7.data.length c16, .slice A18 x7.items.length c19] : List Value) ++ ([.bool (x30.list), .slice A38 x30.data.length c39, .slice A41 x30.items.length c42] : List Value)) ++ []) 58) :: (B31 ++ (B8 ++ ((some b1, blk (u8s a0.toList) 23) :: []))))))) (fun w q => More.flat q) _ _ h61
 have h75 := h61
 obtain ⟨A66, c67, A69, c70, cs72, e74, v68, v71, h73⟩ := ItRd.opn h61
 subst e74
 have m76 := v68.mx
 have m77 := v71.mx
 have m78 := v68.mx
 have m79 := v71.mx
 refine OW.alloc (l := [.bool false, .slice none 0 0, .slice none 0 0]) rfl rfl rfl (fun b80 => ?_)
 refine OW.sv (SV.storeW rfl rfl rfl (by intro u hu; simp at hu; rcases hu with rfl | rfl | rfl <;> rfl) rfl rfl rfl) ?_
 refine OW.nil (QW.then_n (CW.seq (CW.region ?_)))
 refine OW.rv (RV.loadW rfl (List.Mem.head _) rfl rfl rfl rfl rfl) rfl ?_
 obtain ⟨⟨x82, x83⟩, hx81, hf⟩ := some_bind hf
 try dsimp only at hf
 refine OW.callG Tryd.call37 rfl (waybillref07_Encode_does w0 (More w0 Φ (B59 ++ (((some b52), blk ((([.bool (x7.list), .slice A15 x7.data.length c16, .slice A18 x7.items.length c19] : List Value) ++ ([.bool (x30.list), .slice A38 x30.data.length c39, .slice A41 x30.items.length c42] : List Value)) ++ []) 58) :: (B31 ++ (B8 ++ ((some b1, blk (u8s a0.toList) 23) :: [])))))) ((some b80, blk [.bool (x58.list), .slice A66 x58.data.length c67, .slice A69 x58.items.length c70] 58) :: (some b2, blk (u8s (Vector.replicate 20 0#8).toList) 23) :: ((B59 ++ (((some b52), blk ((([.bool (x7.list), .slice A15 x7.data.length c16, .slice A18 x7.items.length c19] : List Value) ++ ([.bool (x30.list), .slice A38 x30.data.length c39, .slice A41 x30.items.length c42] : List Value)) ++ []) 58) :: (B31 ++ (B8 ++ ((some b1, blk (u8s a0.toList) 23) :: []))))) ++ N)) (fun w m => More.of hΦ 2 m rfl) [.bool (x58.list), .slice A66 x58.data.length c67, .slice A69 x58.items.length c70] x58 x82 x83 h75 hx81) rfl rfl ?_
 rintro L90 M91 ⟨B84, ob85, c86, r87, o88, b89, e92, e93⟩
 rw [e92, e93]
 clear e92 e93 L90 M91
 refine OW.mem (M' := ((ob85, blk ((u8s x82) ++ r87) 5) :: (some b80, blk [.bool (x58.list), .slice A66 x58.data.length c67, .slice A69 x58.items.length c70] 58) :: (some b2, blk (u8s (Vector.replicate 20 0#8).toList) 23) :: ((B84 ++ (B59 ++ (((some b52), blk ((([.bool (x7.list), .slice A15 x7.data.length c16, .slice A18 x7.items.length c19] : List Value) ++ ([.bool (x30.list), .slice A38 x30.data.length c39, .slice A41 x30.items.length c42] : List Value)) ++ []) 58) :: (B31 ++ (B8 ++ ((some b1, blk (u8s a0.toList) 23) :: [])))))) ++ N))) (fun w m => by have h := Mem.sinkAt (A := B84) m 1 2 rfl rfl; exact h) ?_
 have gq5 : ∀ w, More w0 Φ (B84 ++ (B59 ++ (((some b52), blk ((([.bool (x7.list), .slice A15 x7.data.length c16, .slice A18 x7.items.length c19] : List Value) ++ ([.bool (x30.list), .slice A38 x30.data.length c39, .slice A41 x30.items.length c42] : List Value)) ++ []) 58) :: (B31 ++ (B8 ++ ((some b1, blk (u8s a0.toList) 23) :: [])))))) w → More w0 Φ (B59 ++ (((some b52), blk ((([.bool (x7.list), .slice A15 x7.data.length c16, .slice A18 x7.items.length c19] : List Value) ++ ([.bool (x30.list), .slice A38 x30.data.length c39, .slice A41 x30.items.length c42] : List Value)) ++ []) 58) :: (B31 ++ (B8 ++ ((some b1, blk (u8s a0.toList) 23) :: []))))) w := fun w q => More.mono (fun w m => (m).appR) q
 replace v4 := v4.mono gq5
 replace h24 := ItRd.mono gq5 _ _ h24
 replace v17 := v17.mono gq5
 replace v20 := v20.mono gq5
 replace h22 := h22.mono (ItRd.mono gq5)
 replace h47 := ItRd.mono gq5 _ _ h47
 replace v40 := v40.mono gq5
 replace v43 := v43.mono gq5
 replace h45 := h45.mono (ItRd.mono gq5)
 replace v56 := v56.mono gq5
 replace h55 := h55.mono (ItRd.mono gq5)
 replace h75 := ItRd.mono gq5 _ _ h75
 replace v68 := v68.mono gq5
 replace v71 := v71.mono gq5
 replace h73 := h73.mono (ItRd.mono gq5)
 have m94 := o88.mx
 refine OW.rv (RV.move rfl) rfl ?_
 refine OW.rv (RV.extract rfl rfl) rfl ?_
 refine OW.slot (sl ob85 0 x82.length c86) (rfl) ?_
 refine OW.rv (RV.extract rfl rfl) rfl ?_
 refine OW.slot (.int .i64 ((x83 : Nat) : Int)) (rfl) ?_
 refine OW.rv (RV.assign rfl) rfl ?_
 refine OW.rv (RV.assign rfl) rfl ?_
 refine OW.nil (QW.then_n (CW.seq (CW.region ?_)))
 refine OW.rv (RV.move rfl) rfl ?_
 refine OW.mem (M' := (some b80, blk [.bool (x58.list), .slice A66 x58.data.length c67, .slice A69 x58.items.length c70] 58) :: (some b2, blk (u8s (Vector.replicate 20 0#8).toList) 23) :: (((ob85, blk ((u8s x82) ++ r87) 5) :: (B84 ++ (B59 ++ (((some b52), blk ((([.bool (x7.list), .slice A15 x7.data.length c16, .slice A18 x7.items.length c19] : List Value) ++ ([.bool (x30.list), .slice A38 x30.data.length c39, .slice A41 x30.items.length c42] : List Value)) ++ []) 58) :: (B31 ++ (B8 ++ ((some b1, blk (u8s a0.toList) 23) :: []))))))) ++ N)) (fun w m => m.pick [1, 2, 0] 3 rfl rfl) ?_
 have gq6 : ∀ w, More w0 Φ ((ob85, blk ((u8s x82) ++ r87) 5) :: (B84 ++ (B59 ++ (((some b52), blk ((([.bool (x7.list), .slice A15 x7.data.length c16, .slice A18 x7.items.length c19] : List Value) ++ ([.bool (x30.list), .slice A38 x30.data.length c39, .slice A41 x30.items.length c42] : List Value)) ++ []) 58) :: (B31 ++ (B8 ++ ((some b1, blk (u8s a0.toList) 23) :: []))))))) w → More w0 Φ (B84 ++ (B59 ++ (((some b52), blk ((([.bool (x7.list), .slice A15 x7.data.length c16, .slice A18 x7.items.length c19] : List Value) ++ ([.bool (x30.list), .slice A38 x30.data.length c39, .slice A41 x30.items.length c42] : List Value)) ++ []) 58) :: (B31 ++ (B8 ++ ((some b1, blk (u8s a0.toList) 23) :: [])))))) w := fun w q => More.mono (fun w m => (m).tail) q
 replace v4 := v4.mono gq6
 replace h24 := ItRd.mono gq6 _ _ h24
 replace v17 := v17.mono gq6
 replace v20 := v20.mono gq6
 replace h22 := h22.mono (ItRd.mono gq6)
 replace h47 := ItRd.mono gq6 _ _ h47
 replace v40 := v40.mono gq6
 replace v43 := v43.mono gq6
 replace h45 := h45.mono (ItRd.mono gq6)
 replace v56 := v56.mono gq6
 replace h55 := h55.mono (ItRd.mono gq6)
 replace h75 := ItRd.mono gq6 _ _ h75
 replace v68 := v68.mono gq6
 replace v71 := v71.mono gq6
 replace h73 := h73.mono (ItRd.mono gq6)
 have v97 : View (More w0 Φ ((ob85, blk ((u8s x82) ++ r87) 5) :: (B84 ++ (B59 ++ (((some b52), blk ((([.bool (x7.list), .slice A15 x7.data.length c16, .slice A18 x7.items.length c19] : List Value) ++ ([.bool (x30.list), .slice A38 x30.data.length c39, .slice A41 x30.items.length c42] : List Value)) ++ []) 58) :: (B31 ++ (B8 ++ ((some b1, blk (u8s a0.toList) 23) :: [])))))))) ((ob85).map fun k => ⟨k, 0, none⟩) x82.length c86 1 (u8s x82) := o88.view (by decide) (fun w q => q.2.sublist (List.singleton_sublist.2 (List.mem_cons_self ..)))
 refine OW.ofN (NV.bs1 rfl rfl rfl rfl rfl rfl) rfl (fun b95 => ?_)
 have h99 : Reps (BsRd (More w0 Φ ((ob85, blk ((u8s x82) ++ r87) 5) :: (B84 ++ (B59 ++ (((some b52), blk ((([.bool (x7.list), .slice A15 x7.data.length c16, .slice A18 x7.items.length c19] : List Value) ++ ([.bool (x30.list), .slice A38 x30.data.length c39, .slice A41 x30.items.length c42] : List Value)) ++ []) 58) :: (B31 ++ (B8 ++ ((some b1, blk (u8s a0.toList) 23) :: []))))))))) (([.slice ((ob85).map fun k => ⟨k, 0, none⟩) x82.length c86] : List Value)) [x82] := Reps.one (BsRd.mk v97)
 refine OW.mem (M' := (((some b95), blk ((([.slice ((ob85).map fun k => ⟨k, 0, none⟩) x82.length c86] : List Value)) ++ []) 27) :: (some b80, blk [.bool (x58.list), .slice A66 x58.data.length c67, .slice A69 x58.items.length c70] 58) :: (some b2, blk (u8s (Vector.replicate 20 0#8).toList) 23) :: (((ob85, blk ((u8s x82) ++ r87) 5) :: (B84 ++ (B59 ++ (((some b52), blk ((([.bool (x7.list), .slice A15 x7.data.length c16, .slice A18 x7.items.length c19] : List Value) ++ ([.bool (x30.list), .slice A38 x30.data.length c39, .slice A41 x30.items.length c42] : List Value)) ++ []) 58) :: (B31 ++ (B8 ++ ((some b1, blk (u8s a0.toList) 23) :: []))))))) ++ N))) (fun w m => m) ?_
 have o96 : OwnS (some b95) ([x82] : List (List (BitVec 8))).length 1 1 (([.slice ((ob85).map fun k => ⟨k, 0, none⟩) x82.length c86] : List Value)) [] := ⟨by simp [BsRd], by simp [BsRd], (fun h => nomatch h), by simp⟩
 refine OW.slot (sl (some b95) 0 ([x82] : List (List (BitVec 8))).length 1) (rfl) ?_
 refine OW.mem (M' := (some b80, blk [.bool (x58.list), .slice A66 x58.data.length c67, .slice A69 x58.items.length c70] 58) :: (some b2, blk (u8s (Vector.replicate 20 0#8).toList) 23) :: ((((some b95), blk ((([.slice ((ob85).map fun k => ⟨k, 0, none⟩) x82.length c86] : List Value)) ++ []) 27) :: ((ob85, blk ((u8s x82) ++ r87) 5) :: (B84 ++ (B59 ++ (((some b52), blk ((([.bool (x7.list), .slice A15 x7.data.length c16, .slice A18 x7.items.length c19] : List Value) ++ ([.bool (x30.list), .slice A38 x30.data.length c39, .slice A41 x30.items.length c42] : List Value)) ++ []) 58) :: (B31 ++ (B8 ++ ((some b1, blk (u8s a0.toList) 23) :: [])))))))) ++ N)) (fun w m => m.pick [1, 2, 0] 3 rfl rfl) ?_
 have gq7 : ∀ w, More w0 Φ (((some b95), blk ((([.slice ((ob85).map fun k => ⟨k, 0, none⟩) x82.length c86] : List Value)) ++ []) 27) :: ((ob85, blk ((u8s x82) ++ r87) 5) :: (B84 ++ (B59 ++ (((some b52), blk ((([.bool (x7.list), .slice A15 x7.data.length c16, .slice A18 x7.items.length c19] : List Value) ++ ([.bool (x30.list), .slice A38 x30.data.length c39, .slice A41 x30.items.length c42] : List Value)) ++ []) 58) :: (B31 ++ (B8 ++ ((some b1, blk (u8s a0.toList) 23) :: [])))))))) w → More w0 Φ ((ob85, blk ((u8s x82) ++ r87) 5) :: (B84 ++ (B59 ++ (((some b52), blk ((([.bool (x7.list), .slice A15 x7.data.length c16, .slice A18 x7.items.length c19] : List Value) ++ ([.bool (x30.list), .slice A38 x30.data.length c39, .slice A41 x30.items.length c42] : List Value)) ++ []) 58) :: (B31 ++ (B8 ++ ((some b1, blk (u8s a0.toList) 23) :: []))))))) w := fun w q => More.mono (fun w m => (m).tail) q
 replace v4 := v4.mono gq7
 replace h24 := ItRd.mono gq7 _ _ h24
 replace v17 := v17.mono gq7
 replace v20 := v20.mono gq7
 replace h22 := h22.mono (ItRd.mono gq7)
 replace h47 := ItRd.mono gq7 _ _ h47
 replace v40 := v40.mono gq7
 replace v43 := v43.mono gq7
 replace h45 := h45.mono (ItRd.mono gq7)
 replace v56 := v56.mono gq7
 replace h55 := h55.mono (ItRd.mono gq7)
 replace h75 := ItRd.mono gq7 _ _ h75
 replace v68 := v68.mono gq7
 replace v71 := v71.mono gq7
 replace h73 := h73.mono (ItRd.mono gq7)
 replace v97 := v97.mono gq7
 replace h99 := h99.mono (BsRd.mono gq7)
 have v100 : View (More w0 Φ (((some b95), blk ((([.slice ((ob85).map fun k => ⟨k, 0, none⟩) x82.length c86] : List Value)) ++ []) 27) :: ((ob85, blk ((u8s x82) ++ r87) 5) :: (B84 ++ (B59 ++ (((some b52), blk ((([.bool (x7.list), .slice A15 x7.data.length c16, .slice A18 x7.items.length c19] : List Value) ++ ([.bool (x30.list), .slice A38 x30.data.length c39, .slice A41 x30.items.length c42] : List Value)) ++ []) 58) :: (B31 ++ (B8 ++ ((some b1, blk (u8s a0.toList) 23) :: []))))))))) (((some b95)).map fun k => ⟨k, 0, none⟩) ([x82] : List (List (BitVec 8))).length 1 1 (([.slice ((ob85).map fun k => ⟨k, 0, none⟩) x82.length c86] : List Value)) := o96.view (by decide) (fun w q => q.2.sublist (List.singleton_sublist.2 (List.mem_cons_self ..)))
 obtain ⟨x102, hx101, hf⟩ := some_bind hf
 refine OW.callG Tryd.call38 rfl (waybillref09_last_does w0 (More w0 Φ (((some b95), blk ((([.slice ((ob85).map fun k => ⟨k, 0, none⟩) x82.length c86] : List Value)) ++ []) 27) :: ((ob85, blk ((u8s x82) ++ r87) 5) :: (B84 ++ (B59 ++ (((some b52), blk ((([.bool (x7.list), .slice A15 x7.data.length c16, .slice A18 x7.items.length c19] : List Value) ++ ([.bool (x30.list), .slice A38 x30.data.length c39, .slice A41 x30.items.length c42] : List Value)) ++ []) 58) :: (B31 ++ (B8 ++ ((some b1, blk (u8s a0.toList) 23) :: []))))))))) ((some b80, blk [.bool (x58.list), .slice A66 x58.data.length c67, .slice A69 x58.items.length c70] 58) :: (some b2, blk (u8s (Vector.replicate 20 0#8).toList) 23) :: ((((some b95), blk ((([.slice ((ob85).map fun k => ⟨k, 0, none⟩) x82.length c86] : List Value)) ++ []) 27) :: ((ob85, blk ((u8s x82) ++ r87) 5) :: (B84 ++ (B59 ++ (((some b52), blk ((([.bool (x7.list), .slice A15 x7.data.length c16, .slice A18 x7.items.length c19] : List Value) ++ ([.bool (x30.list), .slice A38 x30.data.length c39, .slice A41 x30.items.length c42] : List Value)) ++ []) 58) :: (B31 ++ (B8 ++ ((some b1, blk (u8s a0.toList) 23) :: [])))))))) ++ N)) (fun w m => More.of hΦ 2 m rfl) (((some b95)).map fun k => ⟨k, 0, none⟩) 1 (([.slice ((ob85).map fun k => ⟨k, 0, none⟩) x82.length c86] : List Value)) ([x82] : List (List (BitVec 8))) x102 v100 h99 hTn hRn hx101) rfl rfl ?_
 rintro _ G103 rfl
 refine OW.mem (M' := ((some b80, blk [.bool (x58.list), .slice A66 x58.data.length c67, .slice A69 x58.items.length c70] 58) :: (some b2, blk (u8s (Vector.replicate 20 0#8).toList) 23) :: ((((some b95), blk ((([.slice ((ob85).map fun k => ⟨k, 0, none⟩) x82.length c86] : List Value)) ++ []) 27) :: ((ob85, blk ((u8s x82) ++ r87) 5) :: (B84 ++ (B59 ++ (((some b52), blk ((([.bool (x7.list), .slice A15 x7.data.length c16, .slice A18 x7.items.length c19] : List Value) ++ ([.bool (x30.list), .slice A38 x30.data.length c39, .slice A41 x30.items.length c42] : List Value)) ++ []) 58) :: (B31 ++ (B8 ++ ((some b1, blk (u8s a0.toList) 23) :: [])))))))) ++ N))) (fun w m => m.appR) ?_
 refine OW.rot1 ?_
 refine OW.sv (SV.storeW rfl rfl rfl (u8s_one _) rfl ((u8s_length _).trans Vector.length_toList) ((u8s_length _).trans Vector.length_toList)) ?_
 refine OW.nil (QW.then_n (CW.ret ?_))
 have e0 := Option.some.inj hf
 subst e0
 refine QW.retG (rs := [.cell 4 23]) ([.agg (u8s x102.toList).toArray]) ((some b2, blk (u8s x102.toList) 23) :: (some b80, blk [.bool (x58.list), .slice A66 x58.data.length c67, .slice A69 x58.items.length c70] 58) :: (((some b95), blk ((([.slice ((ob85).map fun k => ⟨k, 0, none⟩) x82.length c86] : List Value)) ++ []) 27) :: ((ob85, blk ((u8s x82) ++ r87) 5) :: (B84 ++ (B59 ++ (((some b52), blk ((([.bool (x7.list), .slice A15 x7.data.length c16, .slice A18 x7.items.length c19] : List Value) ++ ([.bool (x30.list), .slice A38 x30.data.length c39, .slice A41 x30.items.length c42] : List Value)) ++ []) 58) :: (B31 ++ (B8 ++ ((some b1, blk (u8s a0.toList) 23) :: []))))))))) rfl ?_ rfl ?_ ?_ _ (.inl rfl)
 ·exact ⟨⟨_, _, _, _, rfl, (List.Mem.head _), rfl, rfl, (congrArg some ((u8s_length _).trans Vector.length_toList).symm), rfl⟩, trivial⟩
 ·exact rfl
 ·exact (fun w m => m)
theorem waybillref09_Create2_does (w0 : World) (Φ : Ctx) (N : List Ent) (hΦ : ∀ w, Mem w0 w N → Φ w) (a0 : Vector (BitVec 8) 20) (a1 : Vector (BitVec 8) 32) (A2_ : Option Addr) (c2_ : Nat) (a2 : List (BitVec 8)) (res0 : Vector (BitVec 8) 20) (va2 : View Φ A2_ a2.length c2_ 1 (u8s a2)) (hTn : ∀ i, i < 25 → w0.cell? ⟨4, i, none⟩ = some (.int .i64 (turnsL.getD i 0))) (hRn : ∀ i, i < 24 → w0.cell? ⟨3, i, none⟩ = some (U64 (g64 roundsL i))) (hf : waybillref09_Create2 a0 a1 a2 = some res0) : DoesG Tryd.prog 12 [.agg (u8s a0.toList).toArray, .agg (u8s a1.toList).toArray, .slice A2_ a2.length c2_] w0 [] N (fun v G => v = .agg (u8s res0.toList).toArray) := by
 unfold waybillref09_Create2 at hf
 replace va2 := va2.mono (Ψ := More w0 Φ []) (fun w q => q.1)
 have m1 := va2.mx
 refine DoesG.enter Tryd.func12 rfl Tryd.ntmps12 rfl (M := (([] ++ N))) rfl ?_
 refine CW.seq (CW.region ?_)
 refine OW.boxA rfl rfl (fun b2 => ?_)
 refine OW.boxA rfl rfl (fun b3 => ?_)
 refine OW.alloc (l := (u8s (Vector.replicate 20 0#8).toList)) rfl (by rw [Vector.toList_replicate, ← u8s_rep']; rfl) rfl (fun b4 => ?_)
 refine OW.nil (QW.then_n (CW.seq (CW.region ?_)))
 refine OW.rv (RV.move rfl) rfl ?_
 obtain ⟨x6, hx5, hf⟩ := some_bind hf
 refine OW.callG Tryd.call39 rfl (waybillref02_Of_does w0 (More w0 Φ []) ((some b4, blk (u8s (Vector.replicate 20 0#8).toList) 23) :: (some b3, blk (u8s a1.toList) 26) :: (some b2, blk (u8s a0.toList) 23) :: ([] ++ N)) (fun w m => More.of hΦ 3 m rfl) A2_ c2_ a2 x6 va2 hTn hRn hx5) rfl rfl ?_
 rintro _ G7 rfl
 refine OW.mem (M' := ((some b4, blk (u8s (Vector.replicate 20 0#8).toList) 23) :: (some b3, blk (u8s a1.toList) 26) :: (some b2, blk (u8s a0.toList) 23) :: ([] ++ N))) (fun w m => m.appR) ?_
 refine OW.alloc (l := (u8s (Vector.replicate 32 0#8).toList)) rfl (by rw [Vector.toList_replicate, ← u8s_rep']; rfl) rfl (fun b9 => ?_)
 refine OW.sv (SV.storeW rfl rfl rfl (u8s_one _) rfl ((u8s_length _).trans Vector.length_toList) ((u8s_length _).trans Vector.length_toList)) ?_
 refine OW.nil (QW.then_n (CW.seq ?_))
 refine CW.mem (M' := (some b9, blk (u8s x6.toList) 26) :: (some b4, blk (u8s (Vector.replicate 20 0#8).toList) 23) :: (some b3, blk (u8s a1.toList) 26) :: (((some b2, blk (u8s a0.toList) 23) :: []) ++ N)) (fun w m => m.pick [0, 1, 2, 3] 4 rfl rfl) ?_
 have gq1 : ∀ w, More w0 Φ ((some b2, blk (u8s a0.toList) 23) :: []) w → More w0 Φ [] w := fun w q => More.mono (fun w m => (m).tail) q
 replace va2 := va2.mono gq1
 have v10 : View (More w0 Φ ((some b2, blk (u8s a0.toList) 23) :: [])) (some ⟨b2, 0, none⟩) a0.toList.length 20 1 (u8s a0.toList) := View.arr (w0 := w0) (te := 23) (fun w q => q.2.sublist (List.singleton_sublist.2 (List.mem_cons_self ..))) (by decide)
 refine CW.mem (M' := (some b9, blk (u8s x6.toList) 26) :: (some b4, blk (u8s (Vector.replicate 20 0#8).toList) 23) :: (((some b3, blk (u8s a1.toList) 26) :: ((some b2, blk (u8s a0.toList) 23) :: [])) ++ N)) (fun w m => m.pick [0, 1, 2] 3 rfl rfl) ?_
 have gq2 : ∀ w, More w0 Φ ((some b3, blk (u8s a1.toList) 26) :: ((some b2, blk (u8s a0.toList) 23) :: [])) w → More w0 Φ ((some b2, blk (u8s a0.toList) 23) :: []) w := fun w q => More.mono (fun w m => (m).tail) q
 replace va2 := va2.mono gq2
 replace v10 := v10.mono gq2
 have v11 : View (More w0 Φ ((some b3, blk (u8s a1.toList) 26) :: ((some b2, blk (u8s a0.toList) 23) :: []))) (some ⟨b3, 0, none⟩) a1.toList.length 32 1 (u8s a1.toList) := View.arr (w0 := w0) (te := 26) (fun w q => q.2.sublist (List.singleton_sublist.2 (List.mem_cons_self ..))) (by decide)
 refine CW.mem (M' := (some b4, blk (u8s (Vector.replicate 20 0#8).toList) 23) :: (((some b9, blk (u8s x6.toList) 26) :: ((some b3, blk (u8s a1.toList) 26) :: ((some b2, blk (u8s a0.toList) 23) :: []))) ++ N)) (fun w m => m.pick [1, 0] 2 rfl rfl) ?_
 have gq3 : ∀ w, More w0 Φ ((some b9, blk (u8s x6.toList) 26) :: ((some b3, blk (u8s a1.toList) 26) :: ((some b2, blk (u8s a0.toList) 23) :: []))) w → More w0 Φ ((some b3, blk (u8s a1.toList) 26) :: ((some b2, blk (u8s a0.toList) 23) :: [])) w := fun w q => More.mono (fun w m => (m).tail) q
 replace va2 := va2.mono gq3
 replace v10 := v10.mono gq3
 replace v11 := v11.mono gq3
 have v12 : View (More w0 Φ ((some b9, blk (u8s x6.toList) 26) :: ((some b3, blk (u8s a1.toList) 26) :: ((some b2, blk (u8s a0.toList) 23) :: [])))) (some ⟨b9, 0, none⟩) x6.toList.length 32 1 (u8s x6.toList) := View.arr (w0 := w0) (te := 26) (fun w q => q.2.sublist (List.singleton_sublist.2 (List.mem_cons_self ..))) (by decide)
 refine CW.drawsX ((((some b9, blk (u8s x6.toList) 26) :: ((some b3, blk (u8s a1.toList) 26) :: ((some b2, blk (u8s a0.toList) 23) :: []))) ++ N)) [6] (fun w m => m.pick [] 1 rfl rfl) mixed (by kernel_rfl) ?_
 refine XW.rs 1 rfl (by kernel_rfl) rfl (RV.arr_all rfl rfl rfl) rfl ?_
 refine XW.slot (.slice (some ⟨b2, 0, none⟩) a0.toList.length 20) (by rw [Vector.length_toList]; try rfl) ?_
 have v13 := v10
 have m14 := v13.mx
 refine XW.rs 2 rfl (by kernel_rfl) rfl (RV.arr_all rfl rfl rfl) rfl ?_
 refine XW.slot (.slice (some ⟨b3, 0, none⟩) a1.toList.length 32) (by rw [Vector.length_toList]; try rfl) ?_
 have v15 := v11
 have m16 := v15.mx
 refine XW.rs 3 rfl (by kernel_rfl) rfl (RV.arr_all rfl rfl rfl) rfl ?_
 refine XW.slot (.slice (some ⟨b9, 0, none⟩) x6.toList.length 32) (by rw [Vector.length_toList]; try rfl) ?_
 have v17 := v12
 have m18 := v17.mx
 refine XW.new 0 rfl (by kernel_rfl) rfl (NV.bs1 rfl rfl rfl rfl rfl rfl) rfl (fun b19 => ?_)
 refine XW.mem (M' := (((some b19), blk ((u8s ([255#8] : List (BitVec 8))) ++ []) 5) :: (some b4, blk (u8s (Vector.replicate 20 0#8).toList) 23) :: (((some b9, blk (u8s x6.toList) 26) :: ((some b3, blk (u8s a1.toList) 26) :: ((some b2, blk (u8s a0.toList) 23) :: []))) ++ N))) (fun w m => by first | exact m | simpa [u8s] using m) (fun w m => m.pick [] 2 rfl rfl) ?_
 have o20 : OwnS (some b19) ([255#8] : List (BitVec 8)).length 1 1 (u8s ([255#8] : List (BitVec 8))) [] := ⟨by simp [u8s], by simp [u8s], (fun h => nomatch h), by simp⟩
 refine XW.slot (sl (some b19) 0 ([255#8] : List (BitVec 8)).length 1) (rfl) ?_
 refine XW.mem (M' := (some b4, blk (u8s (Vector.replicate 20 0#8).toList) 23) :: ((((some b19), blk ((u8s ([255#8] : List (BitVec 8))) ++ []) 5) :: ((some b9, blk (u8s x6.toList) 26) :: ((some b3, blk (u8s a1.toList) 26) :: ((some b2, blk (u8s a0.toList) 23) :: [])))) ++ N)) (fun w m => m.pick [1, 0] 2 rfl rfl) (fun w m => by have h := Mem.shrink (B := ((some b9, blk (u8s x6.toList) 26) :: ((some b3, blk (u8s a1.toList) 26) :: ((some b2, blk (u8s a0.toList) 23) :: [])))) (B' := (((some b19), blk ((u8s ([255#8] : List (BitVec 8))) ++ []) 5) :: ((some b9, blk (u8s x6.toList) 26) :: ((some b3, blk (u8s a1.toList) 26) :: ((some b2, blk (u8s a0.toList) 23) :: []))))) (List.sublist_cons_self _ _) (m.pick [] 1 rfl rfl) 0 rfl; exact h) ?_
 have gq4 : ∀ w, More w0 Φ (((some b19), blk ((u8s ([255#8] : List (BitVec 8))) ++ []) 5) :: ((some b9, blk (u8s x6.toList) 26) :: ((some b3, blk (u8s a1.toList) 26) :: ((some b2, blk (u8s a0.toList) 23) :: [])))) w → More w0 Φ ((some b9, blk (u8s x6.toList) 26) :: ((some b3, blk (u8s a1.toList) 26) :: ((some b2, blk (u8s a0.toList) 23) :: []))) w := fun w q => More.mono (fun w m => (m).tail) q
 replace va2 := va2.mono gq4
 replace v10 := v10.mono gq4
 replace v11 := v11.mono gq4
 replace v12 := v12.mono gq4
 replace v13 := v13.mono gq4
 replace v15 := v15.mono gq4
 replace v17 := v17.mono gq4
 have v23 : View (More w0 Φ (((some b19), blk ((u8s ([255#8] : List (BitVec 8))) ++ []) 5) :: ((some b9, blk (u8s x6.toList) 26) :: ((some b3, blk (u8s a1.toList) 26) :: ((some b2, blk (u8s a0.toList) 23) :: []))))) (((some b19)).map fun k => ⟨k, 0, none⟩) ([255#8] : List (BitVec 8)).length 1 1 (u8s ([255#8] : List (BitVec 8))) := o20.view (by decide) (fun w q => q.2.sublist (List.singleton_sublist.2 (List.mem_cons_self ..)))
 refine XW.new 4 rfl (by kernel_rfl) rfl (NV.bsN rfl rfl rfl (by decide) (by decide) rfl rfl rfl rfl) rfl (fun b21 => ?_)
 have h25 : Reps (BsRd (More w0 Φ (((some b19), blk ((u8s ([255#8] : List (BitVec 8))) ++ []) 5) :: ((some b9, blk (u8s x6.toList) 26) :: ((some b3, blk (u8s a1.toList) 26) :: ((some b2, blk (u8s a0.toList) 23) :: [])))))) (([.slice (((some b19)).map fun k => ⟨k, 0, none⟩) ([255#8] : List (BitVec 8)).length 1] : List Value) ++ ([.slice (some ⟨b2, 0, none⟩) a0.toList.length 20] : List Value) ++ ([.slice (some ⟨b3, 0, none⟩) a1.toList.length 32] : List Value) ++ ([.slice (some ⟨b9, 0, none⟩) x6.toList.length 32] : List Value)) [([255#8] : List (BitVec 8)), a0.toList, a1.toList, x6.toList] := by simpa using (show Reps (BsRd (More w0 Φ (((some b19), blk ((u8s ([255#8] : List (BitVec 8))) ++ []) 5) :: ((some b9, blk (u8s x6.toList) 26) :: ((some b3, blk (u8s a1.toList) 26) :: ((some b2, blk (u8s a0.toList) 23) :: [])))))) _ [([255#8] : List (BitVec 8)), a0.toList, a1.toList, x6.toList] from (.cons (BsRd.mk v23) (.cons (BsRd.mk v13) (.cons (BsRd.mk v15) (.cons (BsRd.mk v17) .nil)))))
 refine XW.mem (M' := (((some b21), blk ((([.slice (((some b19)).map fun k => ⟨k, 0, none⟩) ([255#8] : List (BitVec 8)).length 1] : List Value) ++ ([.slice (some ⟨b2, 0, none⟩) a0.toList.length 20] : List Value) ++ ([.slice (some ⟨b3, 0, none⟩) a1.toList.length 32] : List Value) ++ ([.slice (some ⟨b9, 0, none⟩) x6.toList.length 32] : List Value)) ++ []) 27) :: (some b4, blk (u8s (Vector.replicate 20 0#8).toList) 23) :: ((((some b19), blk ((u8s ([255#8] : List (BitVec 8))) ++ []) 5) :: ((some b9, blk (u8s x6.toList) 26) :: ((some b3, blk (u8s a1.toList) 26) :: ((some b2, blk (u8s a0.toList) 23) :: [])))) ++ N))) (fun w m => m) (fun w m => by have h := Mem.shrink (B := ((some b9, blk (u8s x6.toList) 26) :: ((some b3, blk (u8s a1.toList) 26) :: ((some b2, blk (u8s a0.toList) 23) :: [])))) (B' := (((some b19), blk ((u8s ([255#8] : List (BitVec 8))) ++ []) 5) :: ((some b9, blk (u8s x6.toList) 26) :: ((some b3, blk (u8s a1.toList) 26) :: ((some b2, blk (u8s a0.toList) 23) :: []))))) (List.sublist_cons_self _ _) (m.pick [] 2 rfl rfl) 0 rfl; exact h) ?_
 have o22 : OwnS (some b21) ([([255#8] : List (BitVec 8)), a0.toList, a1.toList, x6.toList] : List (List (BitVec 8))).length 4 1 (([.slice (((some b19)).map fun k => ⟨k, 0, none⟩) ([255#8] : List (BitVec 8)).length 1] : List Value) ++ ([.slice (some ⟨b2, 0, none⟩) a0.toList.length 20] : List Value) ++ ([.slice (some ⟨b3, 0, none⟩) a1.toList.length 32] : List Value) ++ ([.slice (some ⟨b9, 0, none⟩) x6.toList.length 32] : List Value)) [] := ⟨by simp [BsRd], by simp [BsRd], (fun h => nomatch h), by simp⟩
 refine XW.slot (sl (some b21) 0 ([([255#8] : List (BitVec 8)), a0.toList, a1.toList, x6.toList] : List (List (BitVec 8))).length 4) (rfl) ?_
 refine XW.mem (M' := (some b4, blk (u8s (Vector.replicate 20 0#8).toList) 23) :: ((((some b21), blk ((([.slice (((some b19)).map fun k => ⟨k, 0, none⟩) ([255#8] : List (BitVec 8)).length 1] : List Value) ++ ([.slice (some ⟨b2, 0, none⟩) a0.toList.length 20] : List Value) ++ ([.slice (some ⟨b3, 0, none⟩) a1.toList.length 32] : List Value) ++ ([.slice (some ⟨b9, 0, none⟩) x6.toList.length 32] : List Value)) ++ []) 27) :: (((some b19), blk ((u8s ([255#8] : List (BitVec 8))) ++ []) 5) :: ((some b9, blk (u8s x6.toList) 26) :: ((some b3, blk (u8s a1.toList) 26) :: ((some b2, blk (u8s a0.toList) 23) :: []))))) ++ N)) (fun w m => m.pick [1, 0] 2 rfl rfl) (fun w m => by have h := Mem.shrink (B := ((some b9, blk (u8s x6.toList) 26) :: ((some b3, blk (u8s a1.toList) 26) :: ((some b2, blk (u8s a0.toList) 23) :: [])))) (B' := (((some b21), blk ((([.slice (((some b19)).map fun k => ⟨k, 0, none⟩) ([255#8] : List (BitVec 8)).length 1] : List Value) ++ ([.slice (some ⟨b2, 0, none⟩) a0.toList.length 20] : List Value) ++ ([.slice (some ⟨b3, 0, none⟩) a1.toList.length 32] : List Value) ++ ([.slice (some ⟨b9, 0, none⟩) x6.toList.length 32] : List Value)) ++ []) 27) :: (((some b19), blk ((u8s ([255#8] : List (BitVec 8))) ++ []) 5) :: ((some b9, blk (u8s x6.toList) 26) :: ((some b3, blk (u8s a1.toList) 26) :: ((some b2, blk (u8s a0.toList) 23) :: [])))))) ((List.sublist_cons_self _ _).trans (List.sublist_cons_self _ _)) (m.pick [] 1 rfl rfl) 0 rfl; exact h) ?_
 have gq5 : ∀ w, More w0 Φ (((some b21), blk ((([.slice (((some b19)).map fun k => ⟨k, 0, none⟩) ([255#8] : List (BitVec 8)).length 1] : List Value) ++ ([.slice (some ⟨b2, 0, none⟩) a0.toList.length 20] : List Value) ++ ([.slice (some ⟨b3, 0, none⟩) a1.toList.length 32] : List Value) ++ ([.slice (some ⟨b9, 0, none⟩) x6.toList.length 32] : List Value)) ++ []) 27) :: (((some b19), blk ((u8s ([255#8] : List (BitVec 8))) ++ []) 5) :: ((some b9, blk (u8s x6.toList) 26) :: ((some b3, blk (u8s a1.toList) 26) :: ((some b2, blk (u8s a0.toList) 23) :: []))))) w → More w0 Φ (((some b19), blk ((u8s ([255#8] : List (BitVec 8))) ++ []) 5) :: ((some b9, blk (u8s x6.toList) 26) :: ((some b3, blk (u8s a1.toList) 26) :: ((some b2, blk (u8s a0.toList) 23) :: [])))) w := fun w q => More.mono (fun w m => (m).tail) q
 replace va2 := va2.mono gq5
 replace v10 := v10.mono gq5
 replace v11 := v11.mono gq5
 replace v12 := v12.mono gq5
 replace v13 := v13.mono gq5
 replace v15 := v15.mono gq5
 replace v17 := v17.mono gq5
 replace v23 := v23.mono gq5
 replace h25 := h25.mono (BsRd.mono gq5)
 have v26 : View (More w0 Φ (((some b21), blk ((([.slice (((some b19)).map fun k => ⟨k, 0, none⟩) ([255#8] : List (BitVec 8)).length 1] : List Value) ++ ([.slice (some ⟨b2, 0, none⟩) a0.toList.length 20] : List Value) ++ ([.slice (some ⟨b3, 0, none⟩) a1.toList.length 32] : List Value) ++ ([.slice (some ⟨b9, 0, none⟩) x6.toList.length 32] : List Value)) ++ []) 27) :: (((some b19), blk ((u8s ([255#8] : List (BitVec 8))) ++ []) 5) :: ((some b9, blk (u8s x6.toList) 26) :: ((some b3, blk (u8s a1.toList) 26) :: ((some b2, blk (u8s a0.toList) 23) :: [])))))) (((some b21)).map fun k => ⟨k, 0, none⟩) ([([255#8] : List (BitVec 8)), a0.toList, a1.toList, x6.toList] : List (List (BitVec 8))).length 4 1 (([.slice (((some b19)).map fun k => ⟨k, 0, none⟩) ([255#8] : List (BitVec 8)).length 1] : List Value) ++ ([.slice (some ⟨b2, 0, none⟩) a0.toList.length 20] : List Value) ++ ([.slice (some ⟨b3, 0, none⟩) a1.toList.length 32] : List Value) ++ ([.slice (some ⟨b9, 0, none⟩) x6.toList.length 32] : List Value)) := o22.view (by decide) (fun w q => q.2.sublist (List.singleton_sublist.2 (List.mem_cons_self ..)))
 obtain ⟨x28, hx27, hf⟩ := some_bind hf
 refine XW.callG 5 rfl (by kernel_rfl) rfl Tryd.call38 rfl (fun N' hN' => waybillref09_last_does w0 (More w0 Φ (((some b21), blk ((([.slice (((some b19)).map fun k => ⟨k, 0, none⟩) ([255#8] : List (BitVec 8)).length 1] : List Value) ++ ([.slice (some ⟨b2, 0, none⟩) a0.toList.length 20] : List Value) ++ ([.slice (some ⟨b3, 0, none⟩) a1.toList.length 32] : List Value) ++ ([.slice (some ⟨b9, 0, none⟩) x6.toList.length 32] : List Value)) ++ []) 27) :: (((some b19), blk ((u8s ([255#8] : List (BitVec 8))) ++ []) 5) :: ((some b9, blk (u8s x6.toList) 26) :: ((some b3, blk (u8s a1.toList) 26) :: ((some b2, blk (u8s a0.toList) 23) :: [])))))) N' (fun w m => More.of hΦ 1 (hN' w m) rfl) (((some b21)).map fun k => ⟨k, 0, none⟩) 4 (([.slice (((some b19)).map fun k => ⟨k, 0, none⟩) ([255#8] : List (BitVec 8)).length 1] : List Value) ++ ([.slice (some ⟨b2, 0, none⟩) a0.toList.length 20] : List Value) ++ ([.slice (some ⟨b3, 0, none⟩) a1.toList.length 32] : List Value) ++ ([.slice (some ⟨b9, 0, none⟩) x6.toList.length 32] : List Value)) ([([255#8] : List (BitVec 8)), a0.toList, a1.toList, x6.toList] : List (List (BitVec 8))) x28 v26 h25 hTn hRn hx27) rfl ?_
 rintro _ G29 rfl
 refine XW.mem (M' := ((some b4, blk (u8s (Vector.replicate 20 0#8).toList) 23) :: ((((some b21), blk ((([.slice (((some b19)).map fun k => ⟨k, 0, none⟩) ([255#8] : List (BitVec 8)).length 1] : List Value) ++ ([.slice (some ⟨b2, 0, none⟩) a0.toList.length 20] : List Value) ++ ([.slice (some ⟨b3, 0, none⟩) a1.toList.length 32] : List Value) ++ ([.slice (some ⟨b9, 0, none⟩) x6.toList.length 32] : List Value)) ++ []) 27) :: (((some b19), blk ((u8s ([255#8] : List (BitVec 8))) ++ []) 5) :: ((some b9, blk (u8s x6.toList) 26) :: ((some b3, blk (u8s a1.toList) 26) :: ((some b2, blk (u8s a0.toList) 23) :: []))))) ++ N))) (fun w m => m.appR) (fun w m => by have h := Mem.shrink (B := ((some b9, blk (u8s x6.toList) 26) :: ((some b3, blk (u8s a1.toList) 26) :: ((some b2, blk (u8s a0.toList) 23) :: [])))) (B' := (((some b21), blk ((([.slice (((some b19)).map fun k => ⟨k, 0, none⟩) ([255#8] : List (BitVec 8)).length 1] : List Value) ++ ([.slice (some ⟨b2, 0, none⟩) a0.toList.length 20] : List Value) ++ ([.slice (some ⟨b3, 0, none⟩) a1.toList.length 32] : List Value) ++ ([.slice (some ⟨b9, 0, none⟩) x6.toList.length 32] : List Value)) ++ []) 27) :: (((some b19), blk ((u8s ([255#8] : List (BitVec 8))) ++ []) 5) :: ((some b9, blk (u8s x6.toList) 26) :: ((some b3, blk (u8s a1.toList) 26) :: ((some b2, blk (u8s a0.toList) 23) :: [])))))) ((List.sublist_cons_self _ _).trans (List.sublist_cons_self _ _)) (m.pick [] 1 rfl rfl) 0 rfl; exact h) ?_
 refine XW.sv 6 rfl (by kernel_rfl) (SV.storeW rfl rfl rfl (u8s_one _) rfl ((u8s_length _).trans Vector.length_toList) ((u8s_length _).trans Vector.length_toList)) (fun w m => by have h := Mem.shrink (B := ((some b9, blk (u8s x6.toList) 26) :: ((some b3, blk (u8s a1.toList) 26) :: ((some b2, blk (u8s a0.toList) 23) :: [])))) (B' := (((some b21), blk ((([.slice (((some b19)).map fun k => ⟨k, 0, none⟩) ([255#8] : List (BitVec 8)).length 1] : List Value) ++ ([.slice (some ⟨b2, 0, none⟩) a0.toList.length 20] : List Value) ++ ([.slice (some ⟨b3, 0, none⟩) a1.toList.length 32] : List Value) ++ ([.slice (some ⟨b9, 0, none⟩) x6.toList.length 32] : List Value)) ++ []) 27) :: (((some b19), blk ((u8s ([255#8] : List (BitVec 8))) ++ []) 5) :: ((some b9, blk (u8s x6.toList) 26) :: ((some b3, blk (u8s a1.toList) 26) :: ((some b2, blk (u8s a0.toList) 23) :: [])))))) ((List.sublist_cons_self _ _).trans (List.sublist_cons_self _ _)) (m.pick [] 1 rfl rfl) 0 rfl; exact h) ?_
 refine XW.nil (by kernel_rfl) ?_
 refine QW.then_n (CW.ret ?_)
 have e0 := Option.some.inj hf
 subst e0
 refine QW.retG (rs := [.cell 6 23]) ([.agg (u8s x28.toList).toArray]) ((some b4, blk (u8s x28.toList) 23) :: (((some b21), blk ((([.slice (((some b19)).map fun k => ⟨k, 0, none⟩) ([255#8] : List (BitVec 8)).length 1] : List Value) ++ ([.slice (some ⟨b2, 0, none⟩) a0.toList.length 20] : List Value) ++ ([.slice (some ⟨b3, 0, none⟩) a1.toList.length 32] : List Value) ++ ([.slice (some ⟨b9, 0, none⟩) x6.toList.length 32] : List Value)) ++ []) 27) :: (((some b19), blk ((u8s ([255#8] : List (BitVec 8))) ++ []) 5) :: ((some b9, blk (u8s x6.toList) 26) :: ((some b3, blk (u8s a1.toList) 26) :: ((some b2, blk (u8s a0.toList) 23) :: [])))))) rfl ?_ rfl ?_ ?_ _ (.inl rfl)
 ·exact ⟨⟨_, _, _, _, rfl, (List.Mem.head _), rfl, rfl, (congrArg some ((u8s_length _).trans Vector.length_toList).symm), rfl⟩, trivial⟩
 ·exact rfl
 ·exact (fun w m => m)
theorem waybilllaw09_copied_does (w0 : World) (Φ : Ctx) (N : List Ent) (hΦ : ∀ w, Mem w0 w N → Φ w) (A0_ : Option Addr) (c0_ : Nat) (a0 : List (BitVec 8)) (res0 : List (BitVec 8)) (va0 : View Φ A0_ a0.length c0_ 1 (u8s a0)) (hf : waybilllaw09_copied a0 = some res0) : DoesG Tryd.prog 14 [.slice A0_ a0.length c0_] w0 [] N (fun v G => ∃ B : List Ent, ∃ or0 : Option Nat, ∃ kr0 : Nat, ∃ rr0 : List Value, (OwnS or0 res0.length kr0 1 (u8s res0) rr0) ∧ v = sl or0 0 res0.length kr0 ∧ G = (or0, blk ((u8s res0) ++ rr0) 5) :: B) := by
 unfold waybilllaw09_copied at hf
 replace va0 := va0.mono (Ψ := More w0 Φ []) (fun w q => q.1)
 have m1 := va0.mx
 refine DoesG.enter Tryd.func14 rfl Tryd.ntmps14 rfl (M := (([] ++ N))) rfl ?_
 refine CW.seq (CW.region ?_)
 refine OW.rv (RV.assign rfl) rfl ?_
 refine OW.nil (QW.then_n (CW.seq (CW.region ?_)))
 refine OW.rv (RV.assign rfl) rfl ?_
 refine OW.nil (QW.then_n (CW.seq (CW.seq (CW.region ?_))))
 refine OW.rv (RV.assign rfl) rfl ?_
 refine OW.nil (QW.then_n ?_)
 obtain ⟨q2, hq3, hf⟩ := some_bind hf
 refine CW.cutJ (fun L' M' => ∃ l4 : List (BitVec 8), ∃ ob5 : Option Nat, ∃ c6 : Nat, ∃ r7 : List Value, q2 = l4 ∧ (OwnS ob5 l4.length c6 1 (u8s l4) r7) ∧ L' = [(3, sl ob5 0 l4.length c6)] ∧ M' = ((ob5, blk ((u8s l4) ++ r7) 5) :: ([] ++ N))) ?_ ?_
 ·rintro L10 M11 ⟨l4, ob5, c6, r7, e9, o8, e12, e13⟩
  rw [e12, e13]
  clear e12 e13 L10 M11
  clear hq3
  rw [e9] at hf
  clear e9
  try dsimp only at hf
  have m14 := o8.mx
  refine QW.then_n (CW.seq (CW.region ?_))
  refine OW.rv (RV.move rfl) rfl ?_
  refine OW.rv (RV.assign rfl) rfl ?_
  refine OW.nil (QW.then_n (CW.ret ?_))
  have e0 := Option.some.inj hf
  subst e0
  refine QW.retG (rs := [.tmp 2]) ([sl ob5 0 l4.length c6]) ((ob5, blk ((u8s l4) ++ r7) 5) :: []) rfl ?_ rfl ?_ ?_ _ (.inl rfl)
  ·exact ⟨rfl, trivial⟩
  ·exact ⟨[], ob5, c6, r7, o8, rfl, rfl⟩
  ·exact (fun w m => m.pick [0] 1 rfl rfl)
 ·skip
  refine CW.block ?_
  refine CW.mem (M' := ((none, blk ((u8s ([] : List (BitVec 8))) ++ []) 5) :: ([] ++ N))) (fun w m => m.nil_ent _) ?_
  refine CW.loopJ (fun k L' M' => ∃ l15 : List (BitVec 8), ∃ n20 : Nat, ∃ ob16 : Option Nat, ∃ c17 : Nat, ∃ r18 : List Value, (waybilllaw09_copied.l1 a0 k l15 n20) = some q2 ∧ (OwnS ob16 l15.length c17 1 (u8s l15) r18) ∧ (n20 ≤ 9223372036854775807) ∧ L' = [(0, .slice A0_ a0.length c0_), (3, sl ob16 0 l15.length c17), (4, .int .i64 ((n20 : Nat) : Int))] ∧ M' = ((ob16, blk ((u8s l15) ++ r18) 5) :: ([] ++ N))) (k0 := (a0.length - 0 + 2)) ⟨([] : List (BitVec 8)), 0, none, 0, [], hq3, OwnS.nil, (by omega), rfl, rfl⟩ ⟨rfl, rfl, rfl, trivial⟩ (fun w m => m.pick [0] 1 rfl rfl) ?_
  clear hq3
  rintro k22 L25 M26 ⟨l15, n20, ob16, c17, r18, hl23, o19, b21, e27, e28⟩
  rw [e27, e28]
  clear e27 e28 L25 M26
  rcases k22 with _ | k22
  ·rw [waybilllaw09_copied.l1] at hl23; cases hl23
  rw [waybilllaw09_copied.l1] at hl23
  have m29 := o19.mx
  refine CW.seq (CW.seq (CW.region ?_))
  refine OW.rv (RV.move rfl) rfl ?_
  refine OW.rv (RV.move rfl) rfl ?_
  refine OW.rv (RV.len rfl rfl) rfl ?_
  refine OW.rv (RV.lss rfl rfl) rfl ?_
  refine OW.slot (.bool (decide (n20 < a0.length))) (congrArg Value.bool (decide_eq_decide.2 (by omega))) ?_
  refine OW.nil (QW.then_n ?_)
  by_cases h30 : n20 < a0.length
  ·replace hl23 := if_t hl23 h30
   refine CW.is_t rfl (decide_eq_true h30) ?_
   refine CW.skip (QW.then_n (CW.seq (CW.block (CW.region ?_))))
   refine OW.rv (RV.move rfl) rfl ?_
   refine OW.rv (RV.move rfl) rfl ?_
   refine OW.rv (RV.move rfl) rfl ?_
   obtain ⟨x31, hx32, hl23⟩ := some_bind hl23
   have hl33 := lt_of_at hx32
   refine OW.rv (RV.idx_r (n20) rfl rfl rfl rfl rfl (va0.isSome (by decide) hl33) (by omega)) rfl ?_
   refine OW.rv (RV.load_at rfl rfl rfl (fun w m => va0.cell (More.of hΦ 1 m rfl) (u8s_at hx32))) rfl ?_
   refine OW.ofN (NV.bs1 rfl rfl rfl rfl rfl rfl) rfl (fun b34 => ?_)
   refine OW.mem (M' := (((some b34), blk ((u8s ([x31] : List (BitVec 8))) ++ []) 5) :: (ob16, blk ((u8s l15) ++ r18) 5) :: ([] ++ N))) (fun w m => by first | exact m | simpa [u8s] using m) ?_
   have o35 : OwnS (some b34) ([x31] : List (BitVec 8)).length 1 1 (u8s ([x31] : List (BitVec 8))) [] := ⟨by simp [u8s], by simp [u8s], (fun h => nomatch h), by simp⟩
   refine OW.slot (sl (some b34) 0 ([x31] : List (BitVec 8)).length 1) (rfl) ?_
   refine OW.rot1 ?_
   obtain ⟨g36, hl23⟩ := some_if hl23
   refine OW.appendOwn (s := 1) rfl rfl rfl rfl rfl rfl o19 (fun w m => m.rd0 (List.Mem.tail _ (List.Mem.head _)) (fun e => o35.nilc (by decide) e)) o35.n (u8s_one _) (o35.zeroO (by decide)) (by decide) (by decide) (by first | omega | (simp only [i5, List.length_nil]; omega)) rfl rfl ((l15 ++ ([x31] : List (BitVec 8))).length) (u8s (l15 ++ ([x31] : List (BitVec 8)))) (List.length_append ..).symm (u8s_app _ _) (fun ob37 r38 c39 o40 => ?_)
   have m41 := o40.mx
   refine OW.rv (RV.assign rfl) rfl ?_
   refine OW.nil (QW.block_n (QW.then_n (CW.region ?_)))
   refine OW.rv (RV.move rfl) rfl ?_
   refine OW.rv (RV.add rfl rfl (by omega)) rfl ?_
   refine OW.slot (.int .i64 (((n20 + 1) : Nat) : Int)) (by first | rfl | (congr 1) | (congr 1; omega)) ?_
   refine OW.rv (RV.assign rfl) rfl ?_
   refine OW.nil ?_
   exact QW.againJ (k' := k22) (Nat.lt_succ_self _) ⟨(l15 ++ ([x31] : List (BitVec 8))), (n20 + 1), ob37, c39, r38, hl23, o40, (by omega), rfl, rfl⟩ ⟨rfl, rfl, rfl, trivial⟩ (fun w m => m.pick [0] 2 rfl rfl)
  ·replace hl23 := if_f hl23 h30
   refine CW.is_f rfl (decide_eq_false h30) ?_
   refine CW.exit (QW.then_x (QW.then_x (QW.block_xe ?_)))
   exact QW.join ⟨l15, ob16, c17, r18, (Option.some.inj hl23).symm, o19, rfl, rfl⟩ ⟨rfl, trivial⟩ (fun w m => m.pick [0] 1 rfl rfl)
theorem waybilllaw09_lent_does (w0 : World) (Φ : Ctx) (N : List Ent) (hΦ : ∀ w, Mem w0 w N → Φ w) (A0_ : Option Addr) (c0_ : Nat) (a0 : List (BitVec 8)) (res0 : List (BitVec 8)) (va0 : View Φ A0_ a0.length c0_ 1 (u8s a0)) (hf : waybilllaw09_lent a0 = some res0) : DoesG Tryd.prog 8 [.slice A0_ a0.length c0_] w0 [] N (fun v G => ∃ B : List Ent, ∃ or0 : Option Nat, ∃ kr0 : Nat, ∃ rr0 : List Value, (OwnS or0 res0.length kr0 1 (u8s res0) (u8s (List.replicate 70 165#8) ++ rr0)) ∧ (res0.length + 70 ≤ 140737488355328) ∧ v = sl or0 0 res0.length kr0 ∧ G = (or0, blk ((u8s res0) ++ (u8s (List.replicate 70 165#8) ++ rr0)) 5) :: B) := by
 unfold waybilllaw09_lent at hf
 replace va0 := va0.mono (Ψ := More w0 Φ []) (fun w q => q.1)
 have m1 := va0.mx
 refine DoesG.enter Tryd.func8 rfl Tryd.ntmps8 rfl (M := (([] ++ N))) rfl ?_
 refine CW.seq (CW.region ?_)
 refine OW.rv (RV.assign rfl) rfl ?_
 refine OW.nil (QW.then_n (CW.seq (CW.region ?_)))
 refine OW.rv (RV.move rfl) rfl ?_
 obtain ⟨x3, hx2, hf⟩ := some_bind hf
 refine OW.callG Tryd.call14 rfl (waybilllaw09_copied_does w0 (More w0 Φ []) (([] ++ N)) (fun w m => More.of hΦ 0 m rfl) A0_ c0_ a0 x3 va0 hx2) rfl rfl ?_
 rintro L9 M10 ⟨B4, ob5, c6, r7, o8, e11, e12⟩
 rw [e11, e12]
 clear e11 e12 L9 M10
 refine OW.mem (M' := ((ob5, blk ((u8s x3) ++ r7) 5) :: ((B4 ++ []) ++ N))) (fun w m => by have h := Mem.sinkAt (A := B4) m 1 0 rfl rfl; exact h) ?_
 have gq1 : ∀ w, More w0 Φ (B4 ++ []) w → More w0 Φ [] w := fun w q => More.mono (fun w m => (m).appR) q
 replace va0 := va0.mono gq1
 have m13 := o8.mx
 refine OW.rv (RV.assign rfl) rfl ?_
 refine OW.nil (QW.then_n (CW.seq (CW.seq (CW.region ?_))))
 refine OW.rv (RV.assign rfl) rfl ?_
 refine OW.nil (QW.then_n ?_)
 obtain ⟨q14, hq15, hf⟩ := some_bind hf
 refine CW.cutJ (fun L' M' => ∃ l16 : List (BitVec 8), ∃ ob17 : Option Nat, ∃ c18 : Nat, ∃ r19 : List Value, q14 = l16 ∧ (OwnS ob17 l16.length c18 1 (u8s l16) r19) ∧ L' = [(0, .slice A0_ a0.length c0_), (3, sl ob17 0 l16.length c18)] ∧ M' = ((ob17, blk ((u8s l16) ++ r19) 5) :: ((B4 ++ []) ++ N))) ?_ ?_
 ·rintro L22 M23 ⟨l16, ob17, c18, r19, e21, o20, e24, e25⟩
  rw [e24, e25]
  clear e24 e25 L22 M23
  clear hq15
  rw [e21] at hf
  clear e21
  try dsimp only at hf
  have m26 := o20.mx
  refine QW.then_n (CW.seq (CW.region ?_))
  refine OW.rv (RV.move rfl) rfl ?_
  refine OW.rv (RV.move rfl) rfl ?_
  refine OW.rv (RV.len rfl rfl) rfl ?_
  obtain ⟨g27, hf⟩ := some_if hf
  obtain ⟨g28, hf⟩ := some_if hf
  have hle := o20.le (by decide)
  refine OW.rv (RV.cut_o (a0.length) rfl rfl (by omega) rfl rfl (by omega)) rfl ?_
  have o29 : OwnS ob17 (l16.take a0.length).length c18 1 (u8s (l16.take a0.length)) (u8s (List.replicate 70 165#8) ++ r19) := OwnS.shrink8 o20 (by omega) g28
  refine OW.cells (u8s (l16.take a0.length) ++ (u8s (List.replicate 70 165#8) ++ r19)) (shrink8 g28) ?_
  refine OW.slot (sl ob17 0 (l16.take a0.length).length c18) (by rw [show ((l16.take a0.length)).length = a0.length from List.length_take.trans (Nat.min_eq_left (by omega))]) ?_
  refine OW.rv (RV.assign rfl) rfl ?_
  refine OW.nil (QW.then_n (CW.ret ?_))
  have e0 := Option.some.inj hf
  subst e0
  refine QW.retG (rs := [.tmp 2]) ([sl ob17 0 (l16.take a0.length).length c18]) ((ob17, blk ((u8s (l16.take a0.length)) ++ (u8s (List.replicate 70 165#8) ++ r19)) 5) :: (B4 ++ [])) rfl ?_ rfl ?_ ?_ _ (.inl rfl)
  ·exact ⟨rfl, trivial⟩
  ·exact ⟨(B4 ++ []), ob17, c18, r19, o29, (shrink_mx g28 o20.mx (by omega)), rfl, rfl⟩
  ·exact (fun w m => m.pick [0] 1 rfl rfl)
 ·skip
  refine CW.block ?_
  refine CW.loopJ (fun k L' M' => ∃ l30 : List (BitVec 8), ∃ n35 : Nat, ∃ ob31 : Option Nat, ∃ c32 : Nat, ∃ r33 : List Value, (waybilllaw09_lent.l1 k l30 n35) = some q14 ∧ (OwnS ob31 l30.length c32 1 (u8s l30) r33) ∧ (n35 ≤ 9223372036854775807) ∧ L' = [(0, .slice A0_ a0.length c0_), (3, sl ob31 0 l30.length c32), (4, .int .i64 ((n35 : Nat) : Int))] ∧ M' = ((ob31, blk ((u8s l30) ++ r33) 5) :: ((B4 ++ []) ++ N))) (k0 := (70 - 0 + 2)) ⟨x3, 0, ob5, c6, r7, hq15, o8, (by omega), rfl, rfl⟩ ⟨rfl, rfl, rfl, trivial⟩ (fun w m => m.pick [0] 1 rfl rfl) ?_
  clear hq15
  rintro k37 L40 M41 ⟨l30, n35, ob31, c32, r33, hl38, o34, b36, e42, e43⟩
  rw [e42, e43]
  clear e42 e43 L40 M41
  rcases k37 with _ | k37
  ·rw [waybilllaw09_lent.l1] at hl38; cases hl38
  rw [waybilllaw09_lent.l1] at hl38
  have m44 := o34.mx
  refine CW.seq (CW.seq (CW.region ?_))
  refine OW.rv (RV.move rfl) rfl ?_
  refine OW.rv (RV.lss rfl rfl) rfl ?_
  refine OW.slot (.bool (decide (n35 < 70))) (congrArg Value.bool (decide_eq_decide.2 (by omega))) ?_
  refine OW.nil (QW.then_n ?_)
  by_cases h45 : n35 < 70
  ·replace hl38 := if_t hl38 h45
   refine CW.is_t rfl (decide_eq_true h45) ?_
   refine CW.skip (QW.then_n (CW.seq (CW.block (CW.region ?_))))
   refine OW.rv (RV.move rfl) rfl ?_
   refine OW.ofN (NV.bs1 rfl rfl rfl rfl rfl rfl) rfl (fun b46 => ?_)
   refine OW.mem (M' := (((some b46), blk ((u8s ([165#8] : List (BitVec 8))) ++ []) 5) :: (ob31, blk ((u8s l30) ++ r33) 5) :: ((B4 ++ []) ++ N))) (fun w m => by first | exact m | simpa [u8s] using m) ?_
   have o47 : OwnS (some b46) ([165#8] : List (BitVec 8)).length 1 1 (u8s ([165#8] : List (BitVec 8))) [] := ⟨by simp [u8s], by simp [u8s], (fun h => nomatch h), by simp⟩
   refine OW.slot (sl (some b46) 0 ([165#8] : List (BitVec 8)).length 1) (rfl) ?_
   refine OW.rot1 ?_
   obtain ⟨g48, hl38⟩ := some_if hl38
   refine OW.appendOwn (s := 1) rfl rfl rfl rfl rfl rfl o34 (fun w m => m.rd0 (List.Mem.tail _ (List.Mem.head _)) (fun e => o47.nilc (by decide) e)) o47.n (u8s_one _) (o47.zeroO (by decide)) (by decide) (by decide) (by first | omega | (simp only [i5, List.length_nil]; omega)) rfl rfl ((l30 ++ ([165#8] : List (BitVec 8))).length) (u8s (l30 ++ ([165#8] : List (BitVec 8)))) (List.length_append ..).symm (u8s_app _ _) (fun ob49 r50 c51 o52 => ?_)
   have m53 := o52.mx
   refine OW.rv (RV.assign rfl) rfl ?_
   refine OW.nil (QW.block_n (QW.then_n (CW.region ?_)))
   refine OW.rv (RV.move rfl) rfl ?_
   refine OW.rv (RV.add rfl rfl (by omega)) rfl ?_
   refine OW.slot (.int .i64 (((n35 + 1) : Nat) : Int)) (by first | rfl | (congr 1) | (congr 1; omega)) ?_
   refine OW.rv (RV.assign rfl) rfl ?_
   refine OW.nil ?_
   exact QW.againJ (k' := k37) (Nat.lt_succ_self _) ⟨(l30 ++ ([165#8] : List (BitVec 8))), (n35 + 1), ob49, c51, r50, hl38, o52, (by omega), rfl, rfl⟩ ⟨rfl, rfl, rfl, trivial⟩ (fun w m => m.pick [0] 2 rfl rfl)
  ·replace hl38 := if_f hl38 h45
   refine CW.is_f rfl (decide_eq_false h45) ?_
   refine CW.exit (QW.then_x (QW.then_x (QW.block_xe ?_)))
   exact QW.join ⟨l30, ob31, c32, r33, (Option.some.inj hl38).symm, o34, rfl, rfl⟩ ⟨rfl, rfl, trivial⟩ (fun w m => m.pick [0] 1 rfl rfl)
end Go.Fw.Tryd
