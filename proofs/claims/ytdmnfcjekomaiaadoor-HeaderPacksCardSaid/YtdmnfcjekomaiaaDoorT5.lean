/- Part of a proof: rules that its law uses. -/
import Derived.Test.YtdmnfcjekomaiaaDoorT4
set_option linter.unusedVariables false
set_option linter.unusedSimpArgs false
set_option linter.unusedSectionVars false
set_option maxRecDepth 100000
set_option maxHeartbeats 1000000
namespace Go.Fw.Tryd
open Go Go.Proofs Go.Fw
theorem rlp_Check_does (w0 : World) (Φ : Ctx) (N : List Ent) (hΦ : ∀ w, Mem w0 w N → Φ w) (cs0_ : List Value) (a0 : It) (res0 : Nat) (ha0 : ItRd Φ cs0_ a0) (hf : rlp_Check a0 = some res0) : DoesG Tryd.prog 64 [.agg cs0_.toArray] w0 [] N (fun v G => (res0 ≤ 9223372036854775807) ∧ v = .int .i64 ((res0 : Nat) : Int)) := by
 unfold rlp_Check at hf
 replace ha0 := ItRd.mono (Ψ := More w0 Φ []) (fun w q => q.1) _ _ ha0
 have h10 := ha0
 obtain ⟨A1, c2, A4, c5, cs7, e9, v3, v6, h8⟩ := ItRd.opn ha0
 subst e9
 have m11 := v3.mx
 have m12 := v6.mx
 refine DoesG.enter Tryd.func64 rfl Tryd.ntmps64 rfl (M := (([] ++ N))) rfl (Z4 (Z2 (OW.boxA rfl rfl (fun b13 => (Z0 (Z5 rfl) rfl (Z6 (Z1 (Z4 (Z2 (Z0 (Z22 rfl Zh rfl rfl rfl rfl rfl) rfl ?_))))))))))
 obtain ⟨⟨x15, x16⟩, hx14, hf⟩ := Z102 hf
 try dsimp only at hf
 refine Z12 Tryd.call99 rfl (rlp_sound_does w0 (More w0 Φ []) ((some b13, blk [.bool (a0.list), .slice A1 a0.data.length c2, .slice A4 a0.items.length c5] 25) :: ([] ++ N)) (fun w m => More.of hΦ 1 m rfl) [.bool (a0.list), .slice A1 a0.data.length c2, .slice A4 a0.items.length c5] a0 x15 x16 h10 hx14) rfl rfl ?_
 rintro _ G18 ⟨b17, rfl⟩
 refine Z20 (M' := ((some b13, blk [.bool (a0.list), .slice A1 a0.data.length c2, .slice A4 a0.items.length c5] 25) :: ([] ++ N))) (fun w m => m.appR) (Z0 (Z3 rfl) rfl (Z0 (Z17 rfl rfl) rfl (Z7 (.int .i64 ((x15 : Nat) : Int)) (rfl) (Z0 (Z17 rfl rfl) rfl (Z7 (.bool (x16)) (rfl) (Z0 (Z5 rfl) rfl (Z0 (Z5 rfl) rfl ?_)))))))
 refine Z6 (Z1 (Z4 (CW.block (Z4 (Z2 (Z0 (Z3 rfl) rfl (Z0 (RV.not rfl) rfl (Z0 (Z5 rfl) rfl (Z6 (Z1 ?_))))))))))
 by_cases h20 : x16 = true
 ·replace hf := if_t hf h20
  refine Z14 rfl (congrArg (fun b => !b) (h20)) (Z4 (Z2 (Z0 (Z3 rfl) rfl (Z0 (RV.gtr rfl rfl) rfl (Z7 (.bool (decide (1024 < x15))) (congrArg Value.bool (decide_eq_decide.2 (by omega))) (Z0 (Z5 rfl) rfl (Z6 (Z1 ?_))))))))
  by_cases h21 : 1024 < x15
  ·replace hf := if_t hf h21
   refine Z13 rfl (decide_eq_true h21) (Z4 (Z2 (Z0 (Z5 rfl) rfl (Z6 (Z1 (CW.ret (Z16 (Z8 ?_))))))))
   have e0 := Zi hf
   subst e0
   refine Z108 (rs := [.tmp 2]) ([.int .i64 (74 : Int)]) ((some b13, blk [.bool (a0.list), .slice A1 a0.data.length c2, .slice A4 a0.items.length c5] 25) :: []) rfl ?_ rfl ?_ ?_ _ (.inl rfl)
   ·exact ⟨rfl, trivial⟩
   ·exact ⟨(by omega), rfl⟩
   ·exact (fun w m => m)
  ·replace hf := if_f hf h21
   refine Z14 rfl (decide_eq_false h21) (Z4 (Z2 (Z0 (Z22 rfl Zh rfl rfl rfl rfl rfl) rfl ?_)))
   obtain ⟨x23, hx22, hf⟩ := Z102 hf
   refine Z12 Tryd.call100 rfl (rlp_size_does w0 (More w0 Φ []) ((some b13, blk [.bool (a0.list), .slice A1 a0.data.length c2, .slice A4 a0.items.length c5] 25) :: ([] ++ N)) (fun w m => More.of hΦ 1 m rfl) [.bool (a0.list), .slice A1 a0.data.length c2, .slice A4 a0.items.length c5] a0 x23 h10 hx22) rfl rfl ?_
   rintro _ G25 ⟨b24, rfl⟩
   refine Z20 (M' := ((some b13, blk [.bool (a0.list), .slice A1 a0.data.length c2, .slice A4 a0.items.length c5] 25) :: ([] ++ N))) (fun w m => m.appR) (Z0 (RV.gtr rfl rfl) rfl (Z7 (.bool (decide (16777216 < x23))) (congrArg Value.bool (decide_eq_decide.2 (by omega))) (Z0 (Z5 rfl) rfl (Z6 (Z1 ?_)))))
   by_cases h27 : 16777216 < x23
   ·replace hf := if_t hf h27
    refine Z13 rfl (decide_eq_true h27) (Z4 (Z2 (Z0 (Z5 rfl) rfl (Z6 (Z1 (CW.ret (Z16 (Z8 ?_))))))))
    have e0 := Zi hf
    subst e0
    refine Z108 (rs := [.tmp 2]) ([.int .i64 (2 : Int)]) ((some b13, blk [.bool (a0.list), .slice A1 a0.data.length c2, .slice A4 a0.items.length c5] 25) :: []) rfl ?_ rfl ?_ ?_ _ (.inl rfl)
    ·exact ⟨rfl, trivial⟩
    ·exact ⟨(by omega), rfl⟩
    ·exact (fun w m => m)
   ·replace hf := if_f hf h27
    refine Z14 rfl (decide_eq_false h27) (CW.skip (Z27 (Z1 (Z4 (Z2 (Z0 (Z5 rfl) rfl (Z6 (Z1 (CW.ret ?_)))))))))
    have e0 := Zi hf
    subst e0
    refine Z108 (rs := [.tmp 2]) ([.int .i64 (0 : Int)]) ((some b13, blk [.bool (a0.list), .slice A1 a0.data.length c2, .slice A4 a0.items.length c5] 25) :: []) rfl ?_ rfl ?_ ?_ _ (.inl rfl)
    ·exact ⟨rfl, trivial⟩
    ·exact ⟨(by omega), rfl⟩
    ·exact (fun w m => m)
 ·replace hf := if_f hf h20
  refine Z13 rfl (congrArg (fun b => !b) (Bool.eq_false_iff.2 h20)) (Z4 (Z2 (Z0 (Z5 rfl) rfl (Z6 (Z1 (CW.ret (Z16 (Z8 ?_))))))))
  have e0 := Zi hf
  subst e0
  refine Z108 (rs := [.tmp 2]) ([.int .i64 (78 : Int)]) ((some b13, blk [.bool (a0.list), .slice A1 a0.data.length c2, .slice A4 a0.items.length c5] 25) :: []) rfl ?_ rfl ?_ ?_ _ (.inl rfl)
  ·exact ⟨rfl, trivial⟩
  ·exact ⟨(by omega), rfl⟩
  ·exact (fun w m => m)
theorem waybillref07_Check_does (w0 : World) (Φ : Ctx) (N : List Ent) (hΦ : ∀ w, Mem w0 w N → Φ w) (cs0_ : List Value) (a0 : It) (res0 : Nat) (ha0 : ItRd Φ cs0_ a0) (hf : waybillref07_Check a0 = some res0) : DoesG Tryd.prog 95 [.agg cs0_.toArray] w0 [] N (fun v G => (res0 ≤ 9223372036854775807) ∧ v = .int .i64 ((res0 : Nat) : Int)) := by
 unfold waybillref07_Check at hf
 replace ha0 := ItRd.mono (Ψ := More w0 Φ []) (fun w q => q.1) _ _ ha0
 have h10 := ha0
 obtain ⟨A1, c2, A4, c5, cs7, e9, v3, v6, h8⟩ := ItRd.opn ha0
 subst e9
 have m11 := v3.mx
 have m12 := v6.mx
 refine DoesG.enter Tryd.func95 rfl Tryd.ntmps95 rfl (M := (([] ++ N))) rfl (Z4 (Z2 (OW.boxA rfl rfl (fun b13 => (Z0 (Z5 rfl) rfl (Z6 (Z1 (Z4 (Z4 (Z2 (Z0 (Z22 rfl Zh rfl rfl rfl rfl rfl) rfl ?_)))))))))))
 obtain ⟨x15, hx14, hf⟩ := Z102 hf
 refine Z12 Tryd.call122 rfl (waybillref07_oddly_does w0 (More w0 Φ []) ((some b13, blk [.bool (a0.list), .slice A1 a0.data.length c2, .slice A4 a0.items.length c5] 25) :: ([] ++ N)) (fun w m => More.of hΦ 1 m rfl) [.bool (a0.list), .slice A1 a0.data.length c2, .slice A4 a0.items.length c5] a0 x15 h10 hx14) rfl rfl ?_
 rintro _ G16 rfl
 refine Z20 (M' := ((some b13, blk [.bool (a0.list), .slice A1 a0.data.length c2, .slice A4 a0.items.length c5] 25) :: ([] ++ N))) (fun w m => m.appR) (Z6 (Z1 ?_))
 by_cases h18 : x15 = true
 ·replace hf := if_t hf h18
  refine Z13 rfl (h18) (Z4 (Z2 (Z0 (Z5 rfl) rfl (Z6 (Z1 (CW.ret (Z8 ?_)))))))
  have e0 := Zi hf
  subst e0
  refine Z108 (rs := [.tmp 2]) ([.int .i64 (78 : Int)]) ((some b13, blk [.bool (a0.list), .slice A1 a0.data.length c2, .slice A4 a0.items.length c5] 25) :: []) rfl ?_ rfl ?_ ?_ _ (.inl rfl)
  ·exact ⟨rfl, trivial⟩
  ·exact ⟨(by omega), rfl⟩
  ·exact (fun w m => m)
 ·replace hf := if_f hf h18
  refine Z14 rfl (Bool.eq_false_iff.2 h18) (CW.skip (Z1 (Z4 (Z4 (Z2 (Z0 (Z22 rfl Zh rfl rfl rfl rfl rfl) rfl ?_))))))
  obtain ⟨x20, hx19, hf⟩ := Z102 hf
  refine Z12 Tryd.call123 rfl (waybillref07_depth_does w0 (More w0 Φ []) ((some b13, blk [.bool (a0.list), .slice A1 a0.data.length c2, .slice A4 a0.items.length c5] 25) :: ([] ++ N)) (fun w m => More.of hΦ 1 m rfl) [.bool (a0.list), .slice A1 a0.data.length c2, .slice A4 a0.items.length c5] a0 x20 h10 hx19) rfl rfl ?_
  rintro _ G22 ⟨b21, rfl⟩
  refine Z20 (M' := ((some b13, blk [.bool (a0.list), .slice A1 a0.data.length c2, .slice A4 a0.items.length c5] 25) :: ([] ++ N))) (fun w m => m.appR) (Z0 (RV.gtr rfl rfl) rfl (Z7 (.bool (decide (1024 < x20))) (congrArg Value.bool (decide_eq_decide.2 (by omega))) (Z6 (Z1 ?_))))
  by_cases h24 : 1024 < x20
  ·replace hf := if_t hf h24
   refine Z13 rfl (decide_eq_true h24) (Z4 (Z2 (Z0 (Z5 rfl) rfl (Z6 (Z1 (CW.ret (Z8 ?_)))))))
   have e0 := Zi hf
   subst e0
   refine Z108 (rs := [.tmp 2]) ([.int .i64 (74 : Int)]) ((some b13, blk [.bool (a0.list), .slice A1 a0.data.length c2, .slice A4 a0.items.length c5] 25) :: []) rfl ?_ rfl ?_ ?_ _ (.inl rfl)
   ·exact ⟨rfl, trivial⟩
   ·exact ⟨(by omega), rfl⟩
   ·exact (fun w m => m)
  ·replace hf := if_f hf h24
   refine Z14 rfl (decide_eq_false h24) (CW.skip (Z1 (Z4 (Z4 (Z2 (Z0 (Z22 rfl Zh rfl rfl rfl rfl rfl) rfl ?_))))))
   obtain ⟨x26, hx25, hf⟩ := Z102 hf
   refine Z12 Tryd.call124 rfl (waybillref07_size_does w0 (More w0 Φ []) ((some b13, blk [.bool (a0.list), .slice A1 a0.data.length c2, .slice A4 a0.items.length c5] 25) :: ([] ++ N)) (fun w m => More.of hΦ 1 m rfl) [.bool (a0.list), .slice A1 a0.data.length c2, .slice A4 a0.items.length c5] a0 x26 h10 hx25) rfl rfl ?_
   rintro _ G28 ⟨b27, rfl⟩
   refine Z20 (M' := ((some b13, blk [.bool (a0.list), .slice A1 a0.data.length c2, .slice A4 a0.items.length c5] 25) :: ([] ++ N))) (fun w m => m.appR) (Z0 (RV.gtr rfl rfl) rfl (Z7 (.bool (decide (16777216 < x26))) (congrArg Value.bool (decide_eq_decide.2 (by omega))) (Z6 (Z1 ?_))))
   by_cases h30 : 16777216 < x26
   ·replace hf := if_t hf h30
    refine Z13 rfl (decide_eq_true h30) (Z4 (Z2 (Z0 (Z5 rfl) rfl (Z6 (Z1 (CW.ret (Z8 ?_)))))))
    have e0 := Zi hf
    subst e0
    refine Z108 (rs := [.tmp 2]) ([.int .i64 (2 : Int)]) ((some b13, blk [.bool (a0.list), .slice A1 a0.data.length c2, .slice A4 a0.items.length c5] 25) :: []) rfl ?_ rfl ?_ ?_ _ (.inl rfl)
    ·exact ⟨rfl, trivial⟩
    ·exact ⟨(by omega), rfl⟩
    ·exact (fun w m => m)
   ·replace hf := if_f hf h30
    refine Z14 rfl (decide_eq_false h30) (CW.skip (Z1 (Z4 (Z2 (Z0 (Z5 rfl) rfl (Z6 (Z1 (CW.ret ?_))))))))
    have e0 := Zi hf
    subst e0
    refine Z108 (rs := [.tmp 2]) ([.int .i64 (0 : Int)]) ((some b13, blk [.bool (a0.list), .slice A1 a0.data.length c2, .slice A4 a0.items.length c5] 25) :: []) rfl ?_ rfl ?_ ?_ _ (.inl rfl)
    ·exact ⟨rfl, trivial⟩
    ·exact ⟨(by omega), rfl⟩
    ·exact (fun w m => m)
theorem rlp_Encode_does (w0 : World) (Φ : Ctx) (N : List Ent) (hΦ : ∀ w, Mem w0 w N → Φ w) (cs0_ : List Value) (a0 : It) (res0 : List (BitVec 8)) (res1 : Nat) (ha0 : ItRd Φ cs0_ a0) (hf : rlp_Encode a0 = some (res0, res1)) : DoesG Tryd.prog 29 [.agg cs0_.toArray] w0 [] N (fun v G => ∃ B : List Ent, ∃ or0 : Option Nat, ∃ kr0 : Nat, ∃ rr0 : List Value, (OwnS or0 res0.length kr0 1 (u8s res0) rr0) ∧ (res1 ≤ 9223372036854775807) ∧ v = .tuple #[sl or0 0 res0.length kr0, .int .i64 ((res1 : Nat) : Int)] ∧ G = (or0, blk ((u8s res0) ++ rr0) 5) :: B) := by
 unfold rlp_Encode at hf
 replace ha0 := ItRd.mono (Ψ := More w0 Φ []) (fun w q => q.1) _ _ ha0
 have h10 := ha0
 obtain ⟨A1, c2, A4, c5, cs7, e9, v3, v6, h8⟩ := ItRd.opn ha0
 subst e9
 have m11 := v3.mx
 have m12 := v6.mx
 refine DoesG.enter Tryd.func29 rfl Tryd.ntmps29 rfl (M := (([] ++ N))) rfl (Z4 (Z2 (OW.boxA rfl rfl (fun b13 => (Z0 (Z5 rfl) rfl (Z0 (Z5 rfl) rfl (Z6 (Z1 (Z4 (Z4 (Z2 (Z0 (Z22 rfl Zh rfl rfl rfl rfl rfl) rfl ?_))))))))))))
 obtain ⟨x15, hx14, hf⟩ := Z102 hf
 refine Z12 Tryd.call64 rfl (rlp_Check_does w0 (More w0 Φ []) ((some b13, blk [.bool (a0.list), .slice A1 a0.data.length c2, .slice A4 a0.items.length c5] 25) :: ([] ++ N)) (fun w m => More.of hΦ 1 m rfl) [.bool (a0.list), .slice A1 a0.data.length c2, .slice A4 a0.items.length c5] a0 x15 h10 hx14) rfl rfl ?_
 rintro _ G17 ⟨b16, rfl⟩
 refine Z20 (M' := ((some b13, blk [.bool (a0.list), .slice A1 a0.data.length c2, .slice A4 a0.items.length c5] 25) :: ([] ++ N))) (fun w m => m.appR) (Z0 (Z5 rfl) rfl (Z6 (Z1 (Z4 (Z2 (Z0 (Z3 rfl) rfl (Z0 (RV.neq rfl rfl) rfl (Z7 (.bool (!decide (x15 = 0))) (congrArg (fun b => Value.bool (!b)) (decide_eq_decide.2 (by omega))) (Z6 (Z1 ?_))))))))))
 by_cases h19 : x15 = 0
 ·replace hf := if_t hf h19
  refine Z14 rfl (congrArg (fun b => !b) (decide_eq_true h19)) (CW.skip (Z1 (Z4 (Z2 (Z0 (Z22 rfl Zh rfl rfl rfl rfl rfl) rfl (Z20 (M' := ((none, blk ((u8s ([] : List (BitVec 8))) ++ []) 5) :: (some b13, blk [.bool (a0.list), .slice A1 a0.data.length c2, .slice A4 a0.items.length c5] 25) :: ([] ++ N))) (fun w m => m.nil_ent _) ?_))))))
  obtain ⟨x21, hx20, hf⟩ := Z102 hf
  refine Z12 Tryd.call65 rfl (rlp_lay_does w0 (More w0 Φ []) ((some b13, blk [.bool (a0.list), .slice A1 a0.data.length c2, .slice A4 a0.items.length c5] 25) :: ([] ++ N)) (fun w m => More.of hΦ 1 m rfl) none 0 ([]) ([] : List (BitVec 8)) [.bool (a0.list), .slice A1 a0.data.length c2, .slice A4 a0.items.length c5] a0 x21 OwnS.nil h10 hx20) rfl rfl ?_
  rintro L27 M28 ⟨B22, ob23, c24, r25, o26, e29, e30⟩
  rw [e29, e30]
  clear e29 e30 L27 M28
  refine Z20 (M' := ((ob23, blk ((u8s x21) ++ r25) 5) :: (some b13, blk [.bool (a0.list), .slice A1 a0.data.length c2, .slice A4 a0.items.length c5] 25) :: ((B22 ++ []) ++ N))) (fun w m => by have h := Z110 (A := B22) m 1 1 rfl rfl; exact h) ?_
  have gq1 : ∀ w, More w0 Φ (B22 ++ []) w → More w0 Φ [] w := fun w q => More.mono (fun w m => (m).appR) q
  replace h10 := ItRd.mono gq1 _ _ h10
  replace v3 := v3.mono gq1
  replace v6 := v6.mono gq1
  replace h8 := h8.mono (ItRd.mono gq1)
  have m31 := o26.mx
  refine Z0 (Z5 rfl) rfl (Z0 (Z5 rfl) rfl (Z6 (Z1 (CW.ret ?_))))
  have er0 := Zi hf
  obtain ⟨e0, er1⟩ := Prod.mk.inj er0
  clear er0
  subst e0
  subst er1
  refine Z108 (rs := [.tmp 2, .tmp 3]) ([sl ob23 0 x21.length c24, .int .i64 (0 : Int)]) ((ob23, blk ((u8s x21) ++ r25) 5) :: (B22 ++ [])) rfl ?_ rfl ?_ ?_ _ (.inl rfl)
  ·exact ⟨rfl, rfl, trivial⟩
  ·exact ⟨(B22 ++ []), ob23, c24, r25, o26, (by omega), rfl, rfl⟩
  ·exact (fun w m => m.pick [0] 2 rfl rfl)
 ·replace hf := if_f hf h19
  refine Z13 rfl (congrArg (fun b => !b) (decide_eq_false h19)) (Z4 (Z2 (Z0 (Z3 rfl) rfl (Z0 (Z5 rfl) rfl (Z0 (Z5 rfl) rfl (Z6 (Z1 (CW.ret (Z8 (QW.mem (M' := ((none, blk ((u8s ([] : List (BitVec 8))) ++ []) 5) :: (some b13, blk [.bool (a0.list), .slice A1 a0.data.length c2, .slice A4 a0.items.length c5] 25) :: ([] ++ N))) (fun w m => m.nil_ent _) ?_))))))))))
  have er0 := Zi hf
  obtain ⟨e0, er1⟩ := Prod.mk.inj er0
  clear er0
  subst e0
  subst er1
  refine Z108 (rs := [.tmp 2, .tmp 3]) ([sl none 0 ([] : List (BitVec 8)).length 0, .int .i64 ((x15 : Nat) : Int)]) ((none, blk ((u8s ([] : List (BitVec 8))) ++ []) 5) :: []) rfl ?_ rfl ?_ ?_ _ (.inl rfl)
  ·exact ⟨rfl, rfl, trivial⟩
  ·exact ⟨[], none, 0, [], OwnS.nil, (by omega), rfl, rfl⟩
  ·exact (fun w m => m.pick [0] 2 rfl rfl)
theorem waybillref07_Encode_does (w0 : World) (Φ : Ctx) (N : List Ent) (hΦ : ∀ w, Mem w0 w N → Φ w) (cs0_ : List Value) (a0 : It) (res0 : List (BitVec 8)) (res1 : Nat) (ha0 : ItRd Φ cs0_ a0) (hf : waybillref07_Encode a0 = some (res0, res1)) : DoesG Tryd.prog 62 [.agg cs0_.toArray] w0 [] N (fun v G => ∃ B : List Ent, ∃ or0 : Option Nat, ∃ kr0 : Nat, ∃ rr0 : List Value, (OwnS or0 res0.length kr0 1 (u8s res0) rr0) ∧ (res1 ≤ 9223372036854775807) ∧ v = .tuple #[sl or0 0 res0.length kr0, .int .i64 ((res1 : Nat) : Int)] ∧ G = (or0, blk ((u8s res0) ++ rr0) 5) :: B) := by
 unfold waybillref07_Encode at hf
 replace ha0 := ItRd.mono (Ψ := More w0 Φ []) (fun w q => q.1) _ _ ha0
 have h10 := ha0
 obtain ⟨A1, c2, A4, c5, cs7, e9, v3, v6, h8⟩ := ItRd.opn ha0
 subst e9
 have m11 := v3.mx
 have m12 := v6.mx
 refine DoesG.enter Tryd.func62 rfl Tryd.ntmps62 rfl (M := (([] ++ N))) rfl (Z4 (Z2 (OW.boxA rfl rfl (fun b13 => (Z0 (Z5 rfl) rfl (Z0 (Z5 rfl) rfl (Z6 (Z1 (Z4 (Z2 (Z0 (Z22 rfl Zh rfl rfl rfl rfl rfl) rfl ?_)))))))))))
 obtain ⟨x15, hx14, hf⟩ := Z102 hf
 refine Z12 Tryd.call95 rfl (waybillref07_Check_does w0 (More w0 Φ []) ((some b13, blk [.bool (a0.list), .slice A1 a0.data.length c2, .slice A4 a0.items.length c5] 25) :: ([] ++ N)) (fun w m => More.of hΦ 1 m rfl) [.bool (a0.list), .slice A1 a0.data.length c2, .slice A4 a0.items.length c5] a0 x15 h10 hx14) rfl rfl ?_
 rintro _ G17 ⟨b16, rfl⟩
 refine Z20 (M' := ((some b13, blk [.bool (a0.list), .slice A1 a0.data.length c2, .slice A4 a0.items.length c5] 25) :: ([] ++ N))) (fun w m => m.appR) (Z0 (Z5 rfl) rfl (Z6 (Z1 (Z4 (Z4 (Z2 (Z0 (Z3 rfl) rfl (Z0 (RV.neq rfl rfl) rfl (Z7 (.bool (!decide (x15 = 0))) (congrArg (fun b => Value.bool (!b)) (decide_eq_decide.2 (by omega))) (Z6 (Z1 ?_)))))))))))
 by_cases h19 : x15 = 0
 ·replace hf := if_t hf h19
  refine Z14 rfl (congrArg (fun b => !b) (decide_eq_true h19)) (CW.skip (Z1 (Z4 (Z2 (Z0 (Z22 rfl Zh rfl rfl rfl rfl rfl) rfl (Z20 (M' := ((none, blk ((u8s ([] : List (BitVec 8))) ++ []) 5) :: (some b13, blk [.bool (a0.list), .slice A1 a0.data.length c2, .slice A4 a0.items.length c5] 25) :: ([] ++ N))) (fun w m => m.nil_ent _) ?_))))))
  obtain ⟨x21, hx20, hf⟩ := Z102 hf
  refine Z12 Tryd.call96 rfl (waybillref07_put_does w0 (More w0 Φ []) ((some b13, blk [.bool (a0.list), .slice A1 a0.data.length c2, .slice A4 a0.items.length c5] 25) :: ([] ++ N)) (fun w m => More.of hΦ 1 m rfl) none 0 ([]) ([] : List (BitVec 8)) [.bool (a0.list), .slice A1 a0.data.length c2, .slice A4 a0.items.length c5] a0 x21 OwnS.nil h10 hx20) rfl rfl ?_
  rintro L27 M28 ⟨B22, ob23, c24, r25, o26, e29, e30⟩
  rw [e29, e30]
  clear e29 e30 L27 M28
  refine Z20 (M' := ((ob23, blk ((u8s x21) ++ r25) 5) :: (some b13, blk [.bool (a0.list), .slice A1 a0.data.length c2, .slice A4 a0.items.length c5] 25) :: ((B22 ++ []) ++ N))) (fun w m => by have h := Z110 (A := B22) m 1 1 rfl rfl; exact h) ?_
  have gq1 : ∀ w, More w0 Φ (B22 ++ []) w → More w0 Φ [] w := fun w q => More.mono (fun w m => (m).appR) q
  replace h10 := ItRd.mono gq1 _ _ h10
  replace v3 := v3.mono gq1
  replace v6 := v6.mono gq1
  replace h8 := h8.mono (ItRd.mono gq1)
  have m31 := o26.mx
  refine Z0 (Z5 rfl) rfl (Z0 (Z5 rfl) rfl (Z6 (Z1 (CW.ret ?_))))
  have er0 := Zi hf
  obtain ⟨e0, er1⟩ := Prod.mk.inj er0
  clear er0
  subst e0
  subst er1
  refine Z108 (rs := [.tmp 2, .tmp 3]) ([sl ob23 0 x21.length c24, .int .i64 (0 : Int)]) ((ob23, blk ((u8s x21) ++ r25) 5) :: (B22 ++ [])) rfl ?_ rfl ?_ ?_ _ (.inl rfl)
  ·exact ⟨rfl, rfl, trivial⟩
  ·exact ⟨(B22 ++ []), ob23, c24, r25, o26, (by omega), rfl, rfl⟩
  ·exact (fun w m => m.pick [0] 2 rfl rfl)
 ·replace hf := if_f hf h19
  refine Z13 rfl (congrArg (fun b => !b) (decide_eq_false h19)) (Z4 (Z2 (Z0 (Z3 rfl) rfl (Z0 (Z5 rfl) rfl (Z0 (Z5 rfl) rfl (Z6 (Z1 (CW.ret (Z8 (QW.mem (M' := ((none, blk ((u8s ([] : List (BitVec 8))) ++ []) 5) :: (some b13, blk [.bool (a0.list), .slice A1 a0.data.length c2, .slice A4 a0.items.length c5] 25) :: ([] ++ N))) (fun w m => m.nil_ent _) ?_))))))))))
  have er0 := Zi hf
  obtain ⟨e0, er1⟩ := Prod.mk.inj er0
  clear er0
  subst e0
  subst er1
  refine Z108 (rs := [.tmp 2, .tmp 3]) ([sl none 0 ([] : List (BitVec 8)).length 0, .int .i64 ((x15 : Nat) : Int)]) ((none, blk ((u8s ([] : List (BitVec 8))) ++ []) 5) :: []) rfl ?_ rfl ?_ ?_ _ (.inl rfl)
  ·exact ⟨rfl, rfl, trivial⟩
  ·exact ⟨[], none, 0, [], OwnS.nil, (by omega), rfl, rfl⟩
  ·exact (fun w m => m.pick [0] 2 rfl rfl)
theorem Z172 (w0 : World) (Φ : Ctx) (N : List Ent) (hΦ : ∀ w, Mem w0 w N → Φ w) (b0_ : Nat) (a0 : Sponge) (new0 : Sponge) (hf : keccak_Sponge_absorb a0 = some new0) : DoesG Tryd.prog 128 [ptr (some b0_) 0] w0 [(some b0_, blk a0.C 157)] N (fun v G => ∃ B : List Ent, v = .tuple #[] ∧ G = (some b0_, blk new0.C 157) :: B) := by
 unfold keccak_Sponge_absorb at hf
 refine DoesG.enter Tryd.func128 rfl Tryd.ntmps128 rfl (M := ((some b0_, blk a0.C 157) :: ([] ++ N))) rfl (Z4 (Z4 (Z2 (Z0 (Z3 rfl) rfl (Z0 (RV.nilCheck rfl) rfl (Z0 (Z30 rfl rfl rfl rfl) rfl (Z7 (ptr (some b0_) 26) rfl (Z0 (Z113 rfl Zh rfl rfl rfl rfl (Sponge.C_part_all _) ((Z100 _).trans Zv)) rfl (Z0 (Z3 rfl) rfl ?_)))))))))
 refine Z6 (Z1 ?_)
 obtain ⟨q1, hq2, hf⟩ := Z102 hf
 refine Z120 (fun L' M' => ∃ w3 : Sponge, q1 = w3 ∧ L' = [(0, ptr (some b0_) 0)] ∧ M' = ((some b0_, blk w3.C 157) :: ([] ++ N))) ?_ ?_
 ·rintro L5 M6 ⟨w3, e4, e7, e8⟩
  rw [e7, e8]
  clear e7 e8 L5 M6
  clear hq2
  rw [e4] at hf
  clear e4
  try dsimp only at hf
  refine Z1 (Z4 (Z2 (Z0 (Z3 rfl) rfl (Z0 (Z3 rfl) rfl (Z0 (RV.nilCheck rfl) rfl (Z0 (Z30 rfl rfl rfl rfl) rfl (Z7 (ptr (some b0_) 1) rfl (Z0 (Z113 rfl Zh rfl rfl rfl rfl (Sponge.C_lanes_all _) ((Z103 _).trans Zv)) rfl ?_))))))))
  obtain ⟨x10, hx9, hf⟩ := Z102 hf
  refine Z12 Tryd.call145 rfl (keccak_Permute_does w0 (More w0 Φ []) ((some b0_, blk w3.C 157) :: ([] ++ N)) (fun w m => More.of hΦ 1 m rfl) w3.lanes x10 hx9) rfl rfl ?_
  rintro _ G11 rfl
  refine Z20 (M' := ((some b0_, blk w3.C 157) :: ([] ++ N))) (fun w m => m.appR) (Z0 (RV.nilCheck rfl) rfl (Z0 (Z30 rfl rfl rfl rfl) rfl (Z7 (ptr (some b0_) 1) rfl ?_)))
  refine Z28 (SV.storeAs rfl rfl rfl (Z154 _) rfl ((Z103 _).trans Zv) (by rw [Sponge.C_length]; first | omega | decide)) ?_
  refine OW.cells ({ w3 with lanes := x10 } : Sponge).C (Sponge.C_lanes_spl _ _) (Z6 (Z1 (Z2 (Z0 (Z3 rfl) rfl (Z0 (RV.nilCheck rfl) rfl (Z0 (Z30 rfl rfl rfl rfl) rfl (Z7 (ptr (some b0_) 162) rfl (Z28 (SV.store rfl rfl rfl rfl rfl (by rw [Sponge.C_length]; omega)) (OW.cells ({ ({ w3 with lanes := x10 } : Sponge) with held := (0 : Int) } : Sponge).C (Sponge.C_held_set _ _) ?_)))))))))
  refine Z6 ?_
  have e0 := Zi hf
  subst e0
  refine Z108 (rs := []) ([]) ((some b0_, blk ({ ({ w3 with lanes := x10 } : Sponge) with held := (0 : Int) } : Sponge).C 157) :: []) rfl ?_ rfl ?_ ?_ _ (.inr rfl)
  ·exact trivial
  ·exact ⟨[], rfl, rfl⟩
  ·exact (fun w m => m.pick [0] 1 rfl rfl)
 ·skip
  refine CW.block (Z121 (fun k L' M' => ∃ n13 : Nat, ∃ w15 : Sponge, (keccak_Sponge_absorb.l1 a0 k n13 w15) = some q1 ∧ (n13 ≤ 9223372036854775807) ∧ L' = [(0, ptr (some b0_) 0), (7, .agg (u8s a0.part.toList).toArray), (8, .int .i64 ((n13 : Nat) : Int))] ∧ M' = ((some b0_, blk w15.C 157) :: ([] ++ N))) (k0 := (136 - 0 + 2)) ⟨0, a0, hq2, (by omega), rfl, rfl⟩ ⟨rfl, rfl, rfl, trivial⟩ (fun w m => m.pick [0] 1 rfl rfl) ?_)
  clear hq2
  rintro k16 L19 M20 ⟨n13, w15, hl17, b14, e21, e22⟩
  rw [e21, e22]
  clear e21 e22 L19 M20
  rcases k16 with _ | k16
  ·rw [keccak_Sponge_absorb.l1] at hl17; cases hl17
  rw [keccak_Sponge_absorb.l1] at hl17
  refine Z4 (Z2 (Z0 (RV.lss rfl rfl) rfl (Z7 (.bool (decide (n13 < 136))) (congrArg Value.bool (decide_eq_decide.2 (by omega))) (Z6 (Z1 (Z4 ?_))))))
  by_cases h23 : n13 < 136
  ·replace hl17 := if_t hl17 h23
   refine Z13 rfl (decide_eq_true h23) (CW.skip (Z1 (Z4 (CW.block (Z4 (Z2 (Z0 (Z3 rfl) rfl ?_)))))))
   obtain ⟨x24, hx25, hl17⟩ := Z102 hl17
   have hl26 := (Vector.getElem?_eq_some_iff.1 hx25).1
   refine Z0 (RV.indexV (n13) rfl rfl rfl rfl rfl rfl rfl (by omega) (u8s_at (vat hx25))) rfl (Z0 (Z5 rfl) rfl (Z0 (Z5 rfl) rfl (Z6 (Z1 (CW.drawsX (([] ++ N)) [17] (fun w m => m.pick [] 1 rfl rfl) mixed (by kernel_rfl) (Z10 0 rfl (by kernel_rfl) rfl (Z3 rfl) rfl (Z10 1 rfl (by kernel_rfl) rfl (Z3 rfl) rfl (Z10 2 rfl (by kernel_rfl) rfl (RV.quo rfl rfl (by omega) (by omega) (by omega)) rfl ?_))))))))
   refine XW.slot (.int .i64 ((n13 / 8 : Nat) : Int)) (by first | rfl | (congr 1; omega)) (Z10 3 rfl (by kernel_rfl) rfl (RV.nilCheck rfl) rfl (Z10 4 rfl (by kernel_rfl) rfl (Z30 rfl rfl rfl rfl) rfl (XW.slot (ptr (some b0_) 1) rfl ?_)))
   obtain ⟨g27, hl17⟩ := Z115 hl17
   refine Z10 5 rfl (by kernel_rfl) rfl (Z111 ((n13 / 8)) rfl rfl rfl rfl rfl (by omega)) rfl ?_
   obtain ⟨x28, hx29, hl17⟩ := Z102 hl17
   refine XW.rv 6 rfl (by kernel_rfl) rfl (by kernel_rfl) (Z29 rfl Zh rfl rfl rfl (Sponge.C_lanes _ hx29)) rfl (Z10 7 rfl (by kernel_rfl) rfl (Z3 rfl) rfl (Z10 8 rfl (by kernel_rfl) rfl (RV.conv8_64 rfl (by first | rfl | exact lit8 _ rfl) rfl rfl) rfl (Z10 9 rfl (by kernel_rfl) rfl (Z3 rfl) rfl (Z10 10 rfl (by kernel_rfl) rfl (RV.rem rfl rfl (by omega) (by omega)) rfl (XW.slot (.int .i64 ((n13 % 8 : Nat) : Int)) (by first | rfl | (congr 1; omega)) (Z10 11 rfl (by kernel_rfl) rfl (RV.mul rfl rfl (by omega)) rfl (XW.slot (.int .i64 (((8 * (n13 % 8)) : Nat) : Int)) (by first | rfl | (congr 1) | (congr 1; omega)) ?_)))))))
   refine Z10 12 rfl (by kernel_rfl) rfl (RV.shl64 (s := (8 * (n13 % 8))) rfl (by first | rfl | exact lit64 _ rfl) rfl (by first | rfl | (congr 1))) rfl (Z10 13 rfl (by kernel_rfl) rfl (Z171 rfl (by first | rfl | exact lit64 _ rfl) rfl (by first | rfl | exact lit64 _ rfl)) rfl (Z10 14 rfl (by kernel_rfl) rfl (RV.nilCheck rfl) rfl (Z10 15 rfl (by kernel_rfl) rfl (Z30 rfl rfl rfl rfl) rfl (XW.slot (ptr (some b0_) 1) rfl (Z10 16 rfl (by kernel_rfl) rfl (Z111 ((n13 / 8)) rfl rfl rfl rfl rfl (by omega)) rfl (XW.sv 17 rfl (by kernel_rfl) (SV.store rfl rfl rfl rfl rfl (by rw [Sponge.C_length]; omega)) (fun w m => m.pick [] 1 rfl rfl) (XW.cells ({ w15 with lanes := w15.lanes.setIfInBounds (n13 / 8) (x28 ^^^ ((x24.setWidth 64) <<< (8 * (n13 % 8)))) } : Sponge).C (Sponge.C_lanes_set _ (by omega) _) ?_)))))))
   refine XW.nil (by kernel_rfl) (Z27 (Z1 (Z2 (Z0 (RV.add rfl rfl (by omega)) rfl (Z7 (.int .i64 (((n13 + 1) : Nat) : Int)) (by first | rfl | (congr 1) | (congr 1; omega)) (Z0 (Z3 rfl) rfl (Z6 ?_)))))))
   exact Z114 (k' := k16) (Nat.lt_succ_self _) ⟨(n13 + 1), ({ w15 with lanes := w15.lanes.setIfInBounds (n13 / 8) (x28 ^^^ ((x24.setWidth 64) <<< (8 * (n13 % 8)))) } : Sponge), hl17, (by omega), rfl, rfl⟩ ⟨rfl, rfl, rfl, trivial⟩ (fun w m => m.pick [0] 1 rfl rfl)
  ·replace hl17 := if_f hl17 h23
   refine Z14 rfl (decide_eq_false h23) (CW.exit (Z9 (Z9 (Z15 ?_))))
   exact QW.join ⟨w15, (Zi hl17).symm, rfl, rfl⟩ ⟨rfl, trivial⟩ (fun w m => m.pick [0] 1 rfl rfl)
theorem keccak_Sponge_Write_does (w0 : World) (Φ : Ctx) (N : List Ent) (hΦ : ∀ w, Mem w0 w N → Φ w) (b0_ : Nat) (a0 : Sponge) (A1_ : Option Addr) (c1_ : Nat) (a1 : List (BitVec 8)) (new0 : Sponge) (va1 : View Φ A1_ a1.length c1_ 1 (u8s a1)) (hf : keccak_Sponge_Write a0 a1 = some new0) : DoesG Tryd.prog 102 [ptr (some b0_) 0, .slice A1_ a1.length c1_] w0 [(some b0_, blk a0.C 157)] N (fun v G => ∃ B : List Ent, v = .tuple #[] ∧ G = (some b0_, blk new0.C 157) :: B) := by
 unfold keccak_Sponge_Write at hf
 replace va1 := va1.mono (Ψ := More w0 Φ []) (fun w q => q.1)
 have m1 := va1.mx
 refine DoesG.enter Tryd.func102 rfl Tryd.ntmps102 rfl (M := ((some b0_, blk a0.C 157) :: ([] ++ N))) rfl (Z4 (Z4 (Z2 (Z0 (Z3 rfl) rfl (Z0 (RV.eqlS rfl rfl rfl) rfl (Z6 (Z1 (Z14 rfl rfl (CW.skip (Z1 (Z4 (Z2 (Z0 (Z3 rfl) rfl ?_)))))))))))))
 refine Z0 (RV.nilCheck rfl) rfl (Z0 (Z30 rfl rfl rfl rfl) rfl (Z7 (ptr (some b0_) 163) rfl (Z0 (Z29 rfl Zh rfl rfl rfl (Sponge.C_long _)) rfl (Z0 (Z3 rfl) rfl (Z0 (RV.len rfl rfl) rfl ?_)))))
 obtain ⟨g2, hf⟩ := Z115 hf
 refine Z0 (RV.add rfl rfl (by omega)) rfl (Z0 (RV.nilCheck rfl) rfl (Z0 (Z30 rfl rfl rfl rfl) rfl (Z7 (ptr (some b0_) 163) rfl (Z28 (SV.store rfl rfl rfl rfl rfl (by rw [Sponge.C_length]; omega)) (OW.cells ({ a0 with long := (a0.long + ((a1.length : Nat) : Int)) } : Sponge).C (Sponge.C_long_set _ _) (Z6 (Z1 ?_)))))))
 obtain ⟨q3, hq4, hf⟩ := Z102 hf
 refine Z120 (fun L' M' => ∃ w7 : Sponge, ∃ B5 : List Ent, q3 = w7 ∧ (∀ w, Mem w0 w B5 → Mem w0 w []) ∧ L' = [] ∧ M' = ((some b0_, blk w7.C 157) :: (B5 ++ N))) ?_ ?_
 ·rintro L9 M10 ⟨w7, B5, e8, hB6, e11, e12⟩
  rw [e11, e12]
  clear e11 e12 L9 M10
  clear hq4
  rw [e8] at hf
  clear e8
  try dsimp only at hf
  have e0 := Zi hf
  subst e0
  refine Z108 (rs := []) ([]) ((some b0_, blk w7.C 157) :: B5) rfl ?_ rfl ?_ ?_ _ (.inr rfl)
  ·exact trivial
  ·exact ⟨B5, rfl, rfl⟩
  ·exact (fun w m => m.pick [0] 1 rfl rfl)
 ·skip
  refine CW.block (Z121 (fun k L' M' => ∃ l15 : List (BitVec 8), ∃ w19 : Sponge, ∃ B13 : List Ent, ∃ A16 : Option Addr, ∃ c17 : Nat, (keccak_Sponge_Write.l1 k l15 w19) = some q3 ∧ (∀ w, Mem w0 w B13 → Mem w0 w []) ∧ (View (More w0 Φ B13) A16 l15.length c17 1 (u8s l15)) ∧ L' = [(0, ptr (some b0_) 0), (1, .slice A16 l15.length c17)] ∧ M' = ((some b0_, blk w19.C 157) :: (B13 ++ N))) (k0 := (a1.length - 0 + 2)) ⟨a1, ({ a0 with long := (a0.long + ((a1.length : Nat) : Int)) } : Sponge), [], A1_, c1_, hq4, (fun w m => m), va1, rfl, rfl⟩ ⟨rfl, rfl, trivial⟩ (fun w m => m.pick [0] 1 rfl rfl) ?_)
  clear hq4
  rintro k20 L23 M24 ⟨l15, w19, B13, A16, c17, hl21, hB14, v18, e25, e26⟩
  rw [e25, e26]
  clear e25 e26 L23 M24
  rcases k20 with _ | k20
  ·rw [keccak_Sponge_Write.l1] at hl21; cases hl21
  rw [keccak_Sponge_Write.l1] at hl21
  have m27 := v18.mx
  refine Z4 (Z4 (Z2 (Z0 (Z3 rfl) rfl (Z0 (RV.len rfl rfl) rfl (Z0 (RV.gtr rfl rfl) rfl (Z7 (.bool (decide (0 < l15.length))) (congrArg Value.bool (decide_eq_decide.2 (by omega))) (Z6 (Z1 ?_))))))))
  by_cases h28 : 0 < l15.length
  ·replace hl21 := if_t hl21 h28
   refine Z13 rfl (decide_eq_true h28) (CW.skip (Z1 (CW.block (Z4 (Z159 9 mixed (by kernel_rfl) rfl (Z18 0 rfl (by kernel_rfl) rfl (Z3 rfl) rfl (Z18 1 rfl (by kernel_rfl) rfl (RV.nilCheck rfl) rfl (Z18 2 rfl (by kernel_rfl) rfl (Z30 rfl rfl rfl rfl) rfl (UW.slot (ptr (some b0_) 26) rfl (Z18 3 rfl (by kernel_rfl) rfl (Z3 rfl) rfl ?_))))))))))
   refine Z18 4 rfl (by kernel_rfl) rfl (RV.nilCheck rfl) rfl (Z18 5 rfl (by kernel_rfl) rfl (Z30 rfl rfl rfl rfl) rfl (UW.slot (ptr (some b0_) 162) rfl (Z18 6 rfl (by kernel_rfl) rfl (Z29 rfl Zh rfl rfl rfl (Sponge.C_held _)) rfl ?_)))
   obtain ⟨g29, hl21⟩ := Z115 hl21
   obtain ⟨g30, hl21⟩ := Z115 hl21
   refine Z18 7 rfl (by kernel_rfl) rfl (RV.arr_loS ((w19.held).toNat) rfl rfl (by omega) rfl rfl (by omega)) rfl (Z18 8 rfl (by kernel_rfl) rfl (Z3 rfl) rfl (UW.nil (by kernel_rfl) (OW.copy (ob := some b0_) (off := 26 + ((w19.held).toNat)) rfl rfl rfl rfl (fun h => nomatch h) (by rw [Sponge.C_length]; omega) (fun w m => v18.rd w (More.of hΦ 1 m rfl)) (Z100 _) (Z119 _) (v18.zero (by decide)) rfl ?_)))
   refine OW.cells ({ w19 with part := cpV w19.part ((w19.held).toNat) (l15.take (min l15.length (136 - ((w19.held).toNat)))) } : Sponge).C (by rw [u8s_take]; exact Sponge.C_part_cpy _ (by rw [List.length_take]; omega)) ?_
   refine Z0 (Z5 rfl) rfl (Z6 (Z1 (Z4 (Z2 (Z0 (Z3 rfl) rfl (Z0 (Z3 rfl) rfl ?_))))))
   obtain ⟨g32, hl21⟩ := Z115 hl21
   refine Z0 (RV.cut_lo (s := 1) ((min l15.length (136 - ((w19.held).toNat)))) rfl rfl (by omega) rfl rfl (by omega)) rfl (Z7 (.slice (subA A16 c17 (min l15.length (136 - ((w19.held).toNat))) 1) (l15.drop (min l15.length (136 - ((w19.held).toNat)))).length (c17 - (min l15.length (136 - ((w19.held).toNat))))) (by rw [show ((l15.drop (min l15.length (136 - ((w19.held).toNat))))).length = (l15).length - ((min l15.length (136 - ((w19.held).toNat)))) from List.length_drop]) ?_)
   have v31 : View (More w0 Φ B13) (subA A16 c17 (min l15.length (136 - ((w19.held).toNat))) 1) (l15.drop (min l15.length (136 - ((w19.held).toNat)))).length (c17 - (min l15.length (136 - ((w19.held).toNat)))) 1 (u8s (l15.drop (min l15.length (136 - ((w19.held).toNat))))) := v18.lo8 (by omega)
   have m33 := v31.mx
   refine Z0 (Z5 rfl) rfl (Z6 (Z1 (Z4 (Z2 (Z0 (Z3 rfl) rfl (Z0 (RV.nilCheck rfl) rfl (Z0 (Z30 rfl rfl rfl rfl) rfl (Z7 (ptr (some b0_) 162) rfl (Z0 (Z29 rfl Zh rfl rfl rfl (Sponge.C_held _)) rfl (Z0 (Z3 rfl) rfl ?_))))))))))
   obtain ⟨g34, hl21⟩ := Z115 hl21
   refine Z0 (RV.add rfl rfl (by omega)) rfl (Z0 (RV.nilCheck rfl) rfl (Z0 (Z30 rfl rfl rfl rfl) rfl (Z7 (ptr (some b0_) 162) rfl (Z28 (SV.store rfl rfl rfl rfl rfl (by rw [Sponge.C_length]; omega)) (OW.cells ({ ({ w19 with part := cpV w19.part ((w19.held).toNat) (l15.take (min l15.length (136 - ((w19.held).toNat)))) } : Sponge) with held := (({ w19 with part := cpV w19.part ((w19.held).toNat) (l15.take (min l15.length (136 - ((w19.held).toNat)))) } : Sponge).held + (((min l15.length (136 - ((w19.held).toNat))) : Nat) : Int)) } : Sponge).C (Sponge.C_held_set _ _) (Z6 (Z1 (Z4 (Z2 (Z0 (Z3 rfl) rfl ?_))))))))))
   refine Z0 (RV.nilCheck rfl) rfl (Z0 (Z30 rfl rfl rfl rfl) rfl (Z7 (ptr (some b0_) 162) rfl (Z0 (Z29 rfl Zh rfl rfl rfl (Sponge.C_held _)) rfl (Z0 (RV.eql rfl rfl) rfl (Z6 (Z1 ?_))))))
   obtain ⟨q35, hq36, hl21⟩ := Z102 hl21
   refine Z120 (fun L' M' => ∃ w39 : Sponge, ∃ B37 : List Ent, q35 = w39 ∧ (∀ w, Mem w0 w B37 → Mem w0 w B13) ∧ L' = [(0, ptr (some b0_) 0), (1, .slice (subA A16 c17 (min l15.length (136 - ((w19.held).toNat))) 1) (l15.drop (min l15.length (136 - ((w19.held).toNat)))).length (c17 - (min l15.length (136 - ((w19.held).toNat)))))] ∧ M' = ((some b0_, blk w39.C 157) :: (B37 ++ N))) ?_ ?_
   ·rintro L41 M42 ⟨w39, B37, e40, hB38, e43, e44⟩
    rw [e43, e44]
    clear e43 e44 L41 M42
    clear hq36
    rw [e40] at hl21
    clear e40
    try dsimp only at hl21
    have gq3 : ∀ w, More w0 Φ B37 w → More w0 Φ B13 w := fun w q => More.mono (fun w m => hB38 w (m)) q
    replace v31 := v31.mono gq3
    refine Z27 ?_
    exact Z114 (k' := k20) (Nat.lt_succ_self _) ⟨(l15.drop (min l15.length (136 - ((w19.held).toNat)))), w39, B37, (subA A16 c17 (min l15.length (136 - ((w19.held).toNat))) 1), (c17 - (min l15.length (136 - ((w19.held).toNat)))), hl21, (fun w m => hB14 w (hB38 w (m))), v31, rfl, rfl⟩ ⟨rfl, rfl, trivial⟩ (fun w m => m.pick [0] 1 rfl rfl)
   ·skip
    by_cases h45 : ({ ({ w19 with part := cpV w19.part ((w19.held).toNat) (l15.take (min l15.length (136 - ((w19.held).toNat)))) } : Sponge) with held := (({ w19 with part := cpV w19.part ((w19.held).toNat) (l15.take (min l15.length (136 - ((w19.held).toNat)))) } : Sponge).held + (((min l15.length (136 - ((w19.held).toNat))) : Nat) : Int)) } : Sponge).held = (136 : Int)
    ·replace hq36 := if_t hq36 h45
     refine Z13 rfl (decide_eq_true h45) (Z2 (Z0 (Z3 rfl) rfl ?_))
     obtain ⟨x47, hx46, hq36⟩ := Z102 hq36
     refine Z12 Tryd.call128 rfl (Z172 w0 (More w0 Φ B13) ((B13 ++ N)) (fun w m => More.of hΦ 0 m rfl) b0_ ({ ({ w19 with part := cpV w19.part ((w19.held).toNat) (l15.take (min l15.length (136 - ((w19.held).toNat)))) } : Sponge) with held := (({ w19 with part := cpV w19.part ((w19.held).toNat) (l15.take (min l15.length (136 - ((w19.held).toNat)))) } : Sponge).held + (((min l15.length (136 - ((w19.held).toNat))) : Nat) : Int)) } : Sponge) x47 hx46) rfl rfl ?_
     rintro L49 M50 ⟨B48, e51, e52⟩
     rw [e51, e52]
     clear e51 e52 L49 M50
     refine Z20 (M' := ((some b0_, blk x47.C 157) :: ((B48 ++ B13) ++ N))) (fun w m => by have h := Z110 (A := B48) m 1 0 rfl rfl; exact h) ?_
     have gq4 : ∀ w, More w0 Φ (B48 ++ B13) w → More w0 Φ B13 w := fun w q => More.mono (fun w m => (m).appR) q
     replace v31 := v31.mono gq4
     replace v18 := v18.mono gq4
     refine Z6 ?_
     exact QW.join ⟨x47, (B48 ++ B13), (Zi hq36).symm, (fun w m => (m).appR), rfl, rfl⟩ ⟨rfl, rfl, trivial⟩ (fun w m => m.pick [0] 1 rfl rfl)
    ·replace hq36 := if_f hq36 h45
     refine Z14 rfl (decide_eq_false h45) (CW.skip ?_)
     exact QW.join ⟨({ ({ w19 with part := cpV w19.part ((w19.held).toNat) (l15.take (min l15.length (136 - ((w19.held).toNat)))) } : Sponge) with held := (({ w19 with part := cpV w19.part ((w19.held).toNat) (l15.take (min l15.length (136 - ((w19.held).toNat)))) } : Sponge).held + (((min l15.length (136 - ((w19.held).toNat))) : Nat) : Int)) } : Sponge), B13, (Zi hq36).symm, (fun w m => m), rfl, rfl⟩ ⟨rfl, rfl, trivial⟩ (fun w m => m.pick [0] 1 rfl rfl)
  ·replace hl21 := if_f hl21 h28
   refine Z14 rfl (decide_eq_false h28) (CW.exit (Z9 (Z9 (Z15 ?_))))
   exact QW.join ⟨w19, B13, (Zi hl21).symm, (fun w m => hB14 w (m)), rfl, rfl⟩ trivial (fun w m => m.pick [0] 1 rfl rfl)
theorem keccak_Sponge_Sum_does (w0 : World) (Φ : Ctx) (N : List Ent) (hΦ : ∀ w, Mem w0 w N → Φ w) (b0_ : Nat) (a0 : Sponge) (res0 : Vector (BitVec 8) 32) (new0 : Sponge) (hg1 : View Φ (some ⟨1, 0, none⟩) 2 2 1 (u8s firstL)) (hf : keccak_Sponge_Sum a0 = some (res0, new0)) : DoesG Tryd.prog 103 [ptr (some b0_) 0] w0 [(some b0_, blk a0.C 157)] N (fun v G => ∃ B : List Ent, v = .agg (u8s res0.toList).toArray ∧ G = (some b0_, blk new0.C 157) :: B) := by
 unfold keccak_Sponge_Sum at hf
 replace hg1 := hg1.mono (Ψ := More w0 Φ []) (fun w q => q.1)
 refine DoesG.enter Tryd.func103 rfl Tryd.ntmps103 rfl (M := ((some b0_, blk a0.C 157) :: ([] ++ N))) rfl (Z4 (Z2 (OW.alloc (l := (u8s (Vector.replicate 32 0#8).toList)) rfl (by rw [Vector.toList_replicate, ← Z133]; rfl) rfl (fun b1 => (Z6 (Z1 (Z4 (Z4 (Z2 (Z0 (Z3 rfl) rfl (Z0 (RV.eqlS rfl rfl rfl) rfl (Z6 (Z1 (Z14 rfl rfl ?_))))))))))))))
 refine CW.skip (Z1 (Z4 (Z2 (Z0 (Z3 rfl) rfl (Z0 (RV.nilCheck rfl) rfl (Z0 (Z22 rfl (List.Mem.tail _ Zh) rfl rfl rfl rfl (Sponge.C_length _)) rfl (OW.alloc (l := (⟨0, (Vector.replicate 25 0#64), (Vector.replicate 136 0#8), 0, 0⟩ : Sponge).C) rfl (by kernel_rfl) rfl (fun b2 => (Z28 (Z109 rfl rfl rfl (Sponge.C_one _) rfl (Sponge.C_length _) (Sponge.C_length _)) (Z6 (Z1 (Z4 (Z2 (Z0 (Z30 rfl rfl rfl rfl) rfl ?_))))))))))))))
 refine Z7 (ptr (some b2) 26) rfl (Z0 (Z30 rfl rfl rfl rfl) rfl (Z7 (ptr (some b2) 162) rfl (Z0 (Z29 rfl Zh rfl rfl rfl (Sponge.C_held _)) rfl ?_)))
 obtain ⟨g3, hf⟩ := Z115 hf
 obtain ⟨g4, hf⟩ := Z115 hf
 refine Z0 (RV.arr_loS ((a0.held).toNat) rfl rfl (by omega) rfl rfl (by omega)) rfl (OW.clear (z := .int .u8 0) (b := b2) (off := 26 + ((a0.held).toNat)) rfl rfl rfl rfl rfl (by omega) (by rw [Sponge.C_length]; omega) ?_)
 refine OW.cells ({ a0 with part := cpV a0.part ((a0.held).toNat) (List.replicate (136 - ((a0.held).toNat)) 0#8) } : Sponge).C (by rw [u8s_rep0]; exact Sponge.C_part_cpy _ (by rw [List.length_replicate]; omega)) ?_
 refine Z6 (Z1 (Z4 (CW.drawsX ((some b1, blk (u8s (Vector.replicate 32 0#8).toList) 28) :: (some b0_, blk a0.C 157) :: ([] ++ N)) [12] (fun w m => m.pick [1, 2] 3 rfl rfl) mixed (by kernel_rfl) (Z10 0 rfl (by kernel_rfl) rfl (Z30 rfl rfl rfl rfl) rfl (XW.slot (ptr (some b2) 162) rfl (XW.rv 1 rfl (by kernel_rfl) rfl (by kernel_rfl) (Z29 rfl Zh rfl rfl rfl (Sponge.C_held _)) rfl (Z10 2 rfl (by kernel_rfl) rfl (Z30 rfl rfl rfl rfl) rfl (XW.slot (ptr (some b2) 26) rfl ?_))))))))
 obtain ⟨g5, hf⟩ := Z115 hf
 obtain ⟨g6, hf⟩ := Z115 hf
 refine Z10 3 rfl (by kernel_rfl) rfl (Z111 ((({ a0 with part := cpV a0.part ((a0.held).toNat) (List.replicate (136 - ((a0.held).toNat)) 0#8) } : Sponge).held).toNat) rfl rfl (by omega) rfl rfl (by omega)) rfl ?_
 obtain ⟨x7, hx8, hf⟩ := Z102 hf
 refine XW.rv 4 rfl (by kernel_rfl) rfl (by kernel_rfl) (Z29 rfl Zh rfl rfl rfl (Sponge.C_part _ hx8)) rfl (Z10 5 rfl (by kernel_rfl) rfl (Z30 rfl rfl rfl rfl) rfl (XW.slot (ptr (some b2) 0) rfl (XW.rv 6 rfl (by kernel_rfl) rfl (by kernel_rfl) (Z29 rfl Zh rfl rfl rfl (Sponge.C_kind _)) rfl ?_)))
 obtain ⟨g9, hf⟩ := Z115 hf
 obtain ⟨x10, hx11, hf⟩ := Z102 hf
 have hl12 : (({ a0 with part := cpV a0.part ((a0.held).toNat) (List.replicate (136 - ((a0.held).toNat)) 0#8) } : Sponge).kind).toNat < 2 := Z130 hx11
 refine Z10 7 rfl (by kernel_rfl) rfl (RV.idx_arr_at (a := ⟨1, 0, none⟩) rfl rfl rfl rfl (by omega) (by omega)) rfl (XW.slot (rptr (some ⟨1, 0, none⟩) ((({ a0 with part := cpV a0.part ((a0.held).toNat) (List.replicate (136 - ((a0.held).toNat)) 0#8) } : Sponge).kind).toNat)) (congrArg (fun k => Value.pointer (some (Addr.add ⟨1, 0, none⟩ k))) (Nat.mul_one _)) (Z10 8 rfl (by kernel_rfl) rfl (Z21 rfl rfl rfl (fun w m => hg1.cell (More.of hΦ 2 m rfl) (u8s_at hx11))) rfl (Z10 9 rfl (by kernel_rfl) rfl (RV.xor8 rfl (by first | rfl | exact lit8 _ rfl) rfl (by first | rfl | exact lit8 _ rfl)) rfl (Z10 10 rfl (by kernel_rfl) rfl (Z30 rfl rfl rfl rfl) rfl (XW.slot (ptr (some b2) 26) rfl (Z10 11 rfl (by kernel_rfl) rfl (Z111 ((({ a0 with part := cpV a0.part ((a0.held).toNat) (List.replicate (136 - ((a0.held).toNat)) 0#8) } : Sponge).held).toNat) rfl rfl (by omega) rfl rfl (by omega)) rfl (XW.sv 12 rfl (by kernel_rfl) (SV.store rfl rfl rfl rfl rfl (by rw [Sponge.C_length]; omega)) (fun w m => m.pick [1, 2] 3 rfl rfl) ?_)))))))
 refine XW.cells ({ ({ a0 with part := cpV a0.part ((a0.held).toNat) (List.replicate (136 - ((a0.held).toNat)) 0#8) } : Sponge) with part := ({ a0 with part := cpV a0.part ((a0.held).toNat) (List.replicate (136 - ((a0.held).toNat)) 0#8) } : Sponge).part.setIfInBounds ((({ a0 with part := cpV a0.part ((a0.held).toNat) (List.replicate (136 - ((a0.held).toNat)) 0#8) } : Sponge).held).toNat) (x7 ^^^ x10) } : Sponge).C (Sponge.C_part_set _ (by omega) _) (XW.nil (by kernel_rfl) (Z1 (Z4 (Z2 (Z0 (Z30 rfl rfl rfl rfl) rfl (Z7 (ptr (some b2) 26) rfl (Z0 (Z111 (135) rfl rfl rfl rfl rfl (by omega)) rfl ?_)))))))
 refine Z0 (Z29 rfl Zh rfl rfl rfl (Sponge.C_part _ (Vector.getElem?_eq_getElem (by decide)))) rfl ?_
 refine Z0 (RV.xor8 rfl (by first | rfl | exact lit8 _ rfl) rfl (by first | rfl | exact lit8 _ rfl)) rfl (Z0 (Z30 rfl rfl rfl rfl) rfl (Z7 (ptr (some b2) 26) rfl (Z0 (Z111 (135) rfl rfl rfl rfl rfl (by omega)) rfl (Z28 (SV.store rfl rfl rfl rfl rfl (by rw [Sponge.C_length]; omega)) (OW.cells ({ ({ ({ a0 with part := cpV a0.part ((a0.held).toNat) (List.replicate (136 - ((a0.held).toNat)) 0#8) } : Sponge) with part := ({ a0 with part := cpV a0.part ((a0.held).toNat) (List.replicate (136 - ((a0.held).toNat)) 0#8) } : Sponge).part.setIfInBounds ((({ a0 with part := cpV a0.part ((a0.held).toNat) (List.replicate (136 - ((a0.held).toNat)) 0#8) } : Sponge).held).toNat) (x7 ^^^ x10) } : Sponge) with part := ({ ({ a0 with part := cpV a0.part ((a0.held).toNat) (List.replicate (136 - ((a0.held).toNat)) 0#8) } : Sponge) with part := ({ a0 with part := cpV a0.part ((a0.held).toNat) (List.replicate (136 - ((a0.held).toNat)) 0#8) } : Sponge).part.setIfInBounds ((({ a0 with part := cpV a0.part ((a0.held).toNat) (List.replicate (136 - ((a0.held).toNat)) 0#8) } : Sponge).held).toNat) (x7 ^^^ x10) } : Sponge).part.setIfInBounds 135 (({ ({ a0 with part := cpV a0.part ((a0.held).toNat) (List.replicate (136 - ((a0.held).toNat)) 0#8) } : Sponge) with part := ({ a0 with part := cpV a0.part ((a0.held).toNat) (List.replicate (136 - ((a0.held).toNat)) 0#8) } : Sponge).part.setIfInBounds ((({ a0 with part := cpV a0.part ((a0.held).toNat) (List.replicate (136 - ((a0.held).toNat)) 0#8) } : Sponge).held).toNat) (x7 ^^^ x10) } : Sponge).part[135] ^^^ 128#8) } : Sponge).C (Sponge.C_part_set _ (by omega) _) (Z6 (Z1 (Z4 (Z2 ?_)))))))))
 obtain ⟨x14, hx13, hf⟩ := Z102 hf
 refine Z12 Tryd.call128 rfl (Z172 w0 (More w0 Φ []) ((some b1, blk (u8s (Vector.replicate 32 0#8).toList) 28) :: (some b0_, blk a0.C 157) :: ([] ++ N)) (fun w m => More.of hΦ 2 m rfl) b2 ({ ({ ({ a0 with part := cpV a0.part ((a0.held).toNat) (List.replicate (136 - ((a0.held).toNat)) 0#8) } : Sponge) with part := ({ a0 with part := cpV a0.part ((a0.held).toNat) (List.replicate (136 - ((a0.held).toNat)) 0#8) } : Sponge).part.setIfInBounds ((({ a0 with part := cpV a0.part ((a0.held).toNat) (List.replicate (136 - ((a0.held).toNat)) 0#8) } : Sponge).held).toNat) (x7 ^^^ x10) } : Sponge) with part := ({ ({ a0 with part := cpV a0.part ((a0.held).toNat) (List.replicate (136 - ((a0.held).toNat)) 0#8) } : Sponge) with part := ({ a0 with part := cpV a0.part ((a0.held).toNat) (List.replicate (136 - ((a0.held).toNat)) 0#8) } : Sponge).part.setIfInBounds ((({ a0 with part := cpV a0.part ((a0.held).toNat) (List.replicate (136 - ((a0.held).toNat)) 0#8) } : Sponge).held).toNat) (x7 ^^^ x10) } : Sponge).part.setIfInBounds 135 (({ ({ a0 with part := cpV a0.part ((a0.held).toNat) (List.replicate (136 - ((a0.held).toNat)) 0#8) } : Sponge) with part := ({ a0 with part := cpV a0.part ((a0.held).toNat) (List.replicate (136 - ((a0.held).toNat)) 0#8) } : Sponge).part.setIfInBounds ((({ a0 with part := cpV a0.part ((a0.held).toNat) (List.replicate (136 - ((a0.held).toNat)) 0#8) } : Sponge).held).toNat) (x7 ^^^ x10) } : Sponge).part[135] ^^^ 128#8) } : Sponge) x14 hx13) rfl rfl ?_
 rintro L16 M17 ⟨B15, e18, e19⟩
 rw [e18, e19]
 clear e18 e19 L16 M17
 refine Z20 (M' := ((some b2, blk x14.C 157) :: (some b1, blk (u8s (Vector.replicate 32 0#8).toList) 28) :: (some b0_, blk a0.C 157) :: ((B15 ++ []) ++ N))) (fun w m => by have h := Z110 (A := B15) m 1 2 rfl rfl; exact h) ?_
 have gq1 : ∀ w, More w0 Φ (B15 ++ []) w → More w0 Φ [] w := fun w q => More.mono (fun w m => (m).appR) q
 replace hg1 := hg1.mono gq1
 refine Z6 (Z1 (Z4 (Z2 (OW.alloc (l := (u8s (Vector.replicate 32 0#8).toList)) rfl (by rw [Vector.toList_replicate, ← Z133]; rfl) rfl (fun b20 => (Z6 (Z1 (Z4 (Z4 (Z2 (Z0 (Z3 rfl) rfl (Z6 (Z1 ?_)))))))))))))
 obtain ⟨q21, hq22, hf⟩ := Z102 hf
 refine Z120 (fun L' M' => ∃ w23 : Vector (BitVec 8) 32, q21 = w23 ∧ L' = [(2, ptr (some b1) 0), (4, ptr (some b20) 0)] ∧ M' = ((some b20, blk (u8s w23.toList) 28) :: (some b1, blk (u8s (Vector.replicate 32 0#8).toList) 28) :: (some b0_, blk a0.C 157) :: ((B15 ++ []) ++ N))) ?_ ?_
 ·rintro L25 M26 ⟨w23, e24, e27, e28⟩
  rw [e27, e28]
  clear e27 e28 L25 M26
  clear hq22
  rw [e24] at hf
  clear e24
  try dsimp only at hf
  refine Z1 (Z4 (Z2 (Z0 (Z22 rfl Zh rfl rfl rfl rfl ((Z100 _).trans Zv)) rfl (OW.rot1 (Z28 (Z109 rfl rfl rfl (Z119 _) rfl ((Z100 _).trans Zv) ((Z100 _).trans Zv)) (Z6 (Z1 (CW.ret ?_))))))))
  have er0 := Zi hf
  obtain ⟨e0, er1⟩ := Prod.mk.inj er0
  clear er0
  subst e0
  subst er1
  refine Z108 (rs := [.cell 2 28]) ([.agg (u8s w23.toList).toArray]) ((some b0_, blk a0.C 157) :: (B15 ++ [])) rfl ?_ rfl ?_ ?_ _ (.inl rfl)
  ·exact ⟨⟨_, _, _, _, rfl, Zh, rfl, rfl, (congrArg some ((Z100 _).trans Zv).symm), rfl⟩, trivial⟩
  ·exact ⟨(B15 ++ []), rfl, rfl⟩
  ·exact (fun w m => m.pick [2] 3 rfl rfl)
 ·skip
  refine CW.block (Z121 (fun k L' M' => ∃ n29 : Nat, ∃ w31 : Vector (BitVec 8) 32, (keccak_Sponge_Sum.l1 x14 k n29 w31) = some q21 ∧ (n29 ≤ 9223372036854775807) ∧ L' = [(2, ptr (some b1) 0), (3, ptr (some b2) 0), (4, ptr (some b20) 0), (35, .int .i64 ((n29 : Nat) : Int))] ∧ M' = ((some b20, blk (u8s w31.toList) 28) :: (some b2, blk x14.C 157) :: (some b1, blk (u8s (Vector.replicate 32 0#8).toList) 28) :: (some b0_, blk a0.C 157) :: ((B15 ++ []) ++ N))) (k0 := (32 - 0 + 2)) ⟨0, (Vector.replicate 32 0#8), hq22, (by omega), rfl, rfl⟩ ⟨rfl, rfl, rfl, rfl, trivial⟩ (fun w m => m.pick [0, 1, 2, 3] 4 rfl rfl) ?_)
  clear hq22
  rintro k32 L35 M36 ⟨n29, w31, hl33, b30, e37, e38⟩
  rw [e37, e38]
  clear e37 e38 L35 M36
  rcases k32 with _ | k32
  ·rw [keccak_Sponge_Sum.l1] at hl33; cases hl33
  rw [keccak_Sponge_Sum.l1] at hl33
  refine Z4 (Z2 (Z0 (RV.lss rfl rfl) rfl (Z7 (.bool (decide (n29 < 32))) (congrArg Value.bool (decide_eq_decide.2 (by omega))) (Z6 (Z1 (Z4 ?_))))))
  by_cases h39 : n29 < 32
  ·replace hl33 := if_t hl33 h39
   refine Z13 rfl (decide_eq_true h39) (CW.skip (Z1 (Z4 (CW.block (Z4 (Z2 (Z0 (Z3 rfl) rfl (Z0 (Z5 rfl) rfl (Z6 (Z1 (Z2 (Z0 (Z3 rfl) rfl (Z0 (Z3 rfl) rfl (Z0 (RV.quo rfl rfl (by omega) (by omega) (by omega)) rfl ?_))))))))))))))
   refine Z7 (.int .i64 ((n29 / 8 : Nat) : Int)) (by first | rfl | (congr 1; omega)) (Z0 (Z30 rfl rfl rfl rfl) rfl (Z7 (ptr (some b2) 1) rfl ?_))
   obtain ⟨g40, hl33⟩ := Z115 hl33
   refine Z0 (Z111 ((n29 / 8)) rfl rfl rfl rfl rfl (by omega)) rfl ?_
   obtain ⟨x41, hx42, hl33⟩ := Z102 hl33
   refine Z0 (Z29 rfl (List.Mem.tail _ Zh) rfl rfl rfl (Sponge.C_lanes _ hx42)) rfl (Z0 (Z3 rfl) rfl (Z0 (RV.rem rfl rfl (by omega) (by omega)) rfl (Z7 (.int .i64 ((n29 % 8 : Nat) : Int)) (by first | rfl | (congr 1; omega)) (Z0 (RV.mul rfl rfl (by omega)) rfl (Z7 (.int .i64 (((8 * (n29 % 8)) : Nat) : Int)) (by first | rfl | (congr 1) | (congr 1; omega)) (Z0 (RV.shr64 (s := (8 * (n29 % 8))) rfl (by first | rfl | exact lit64 _ rfl) rfl (by first | rfl | (congr 1))) rfl (Z0 (RV.conv64_8 rfl (by first | rfl | exact lit64 _ rfl) rfl rfl) rfl ?_)))))))
   refine Z0 (Z111 (n29) rfl rfl rfl rfl rfl (by omega)) rfl (Z28 (SV.store rfl rfl rfl rfl rfl (by rw [Z100, Zv]; omega)) (OW.cells (u8s (w31.setIfInBounds n29 ((x41 >>> (8 * (n29 % 8))).setWidth 8)).toList) (by rw [Nat.zero_add, u8s_set', vset]) (Z6 (Z27 (Z1 (Z2 (Z0 (RV.add rfl rfl (by omega)) rfl (Z7 (.int .i64 (((n29 + 1) : Nat) : Int)) (by first | rfl | (congr 1) | (congr 1; omega)) (Z0 (Z3 rfl) rfl (Z6 ?_))))))))))
   exact Z114 (k' := k32) (Nat.lt_succ_self _) ⟨(n29 + 1), (w31.setIfInBounds n29 ((x41 >>> (8 * (n29 % 8))).setWidth 8)), hl33, (by omega), rfl, rfl⟩ ⟨rfl, rfl, rfl, rfl, trivial⟩ (fun w m => m.pick [0, 1, 2, 3] 4 rfl rfl)
  ·replace hl33 := if_f hl33 h39
   refine Z14 rfl (decide_eq_false h39) (CW.exit (Z9 (Z9 (Z15 ?_))))
   exact QW.join ⟨w31, (Zi hl33).symm, rfl, rfl⟩ ⟨rfl, rfl, trivial⟩ (fun w m => m.pick [0, 2, 3] 4 rfl rfl)
theorem keccak_digest_does (w0 : World) (Φ : Ctx) (N : List Ent) (hΦ : ∀ w, Mem w0 w N → Φ w) (a0 : Int) (A1_ : Option Addr) (c1_ : Nat) (cs1_ : List Value) (a1 : List (List (BitVec 8))) (res0 : Vector (BitVec 8) 32) (ba0 : -9223372036854775808 ≤ a0 ∧ a0 ≤ 9223372036854775807) (va1 : View Φ A1_ a1.length c1_ 1 cs1_) (ha1 : Reps (BsRd Φ) cs1_ a1) (hg1 : View Φ (some ⟨1, 0, none⟩) 2 2 1 (u8s firstL)) (hf : keccak_digest a0 a1 = some res0) : DoesG Tryd.prog 66 [.int .i64 a0, .slice A1_ a1.length c1_] w0 [] N (fun v G => v = .agg (u8s res0.toList).toArray) := by
 unfold keccak_digest at hf
 replace va1 := va1.mono (Ψ := More w0 Φ []) (fun w q => q.1)
 replace hg1 := hg1.mono (Ψ := More w0 Φ []) (fun w q => q.1)
 replace ha1 := ha1.mono (BsRd.mono (Ψ := More w0 Φ []) (fun w q => q.1))
 have m1 := va1.mx
 refine DoesG.enter Tryd.func66 rfl Tryd.ntmps66 rfl (M := (([] ++ N))) rfl (Z4 (Z2 (OW.alloc (l := (u8s (Vector.replicate 32 0#8).toList)) rfl (by rw [Vector.toList_replicate, ← Z133]; rfl) rfl (fun b2 => (Z6 (Z1 (Z4 (Z2 (Z0 (Z3 rfl) rfl (Z0 (Z112 (l := (⟨0, (Vector.replicate 25 0#64), (Vector.replicate 136 0#8), 0, 0⟩ : Sponge).C) (cs := ({ (⟨0, (Vector.replicate 25 0#64), (Vector.replicate 136 0#8), 0, 0⟩ : Sponge) with kind := a0 } : Sponge).C) [(0, [.int .i64 a0])] rfl rfl rfl rfl rfl rfl rfl) rfl (OW.alloc (l := (⟨0, (Vector.replicate 25 0#64), (Vector.replicate 136 0#8), 0, 0⟩ : Sponge).C) rfl (by kernel_rfl) rfl (fun b3 => (Z28 (Z109 rfl rfl rfl (Sponge.C_one _) rfl (Sponge.C_length _) (Sponge.C_length _)) ?_)))))))))))))
 refine Z6 (Z1 (Z4 (Z4 (Z2 (Z0 (Z3 rfl) rfl (Z0 (RV.len rfl rfl) rfl (Z0 (Z3 rfl) rfl (Z6 (Z1 ?_)))))))))
 obtain ⟨q4, hq5, hf⟩ := Z102 hf
 refine Z120 (fun L' M' => ∃ w8 : Sponge, ∃ B6 : List Ent, q4 = w8 ∧ (∀ w, Mem w0 w B6 → Mem w0 w []) ∧ L' = [(4, ptr (some b2) 0), (5, ptr (some b3) 0)] ∧ M' = ((some b3, blk w8.C 157) :: (some b2, blk (u8s (Vector.replicate 32 0#8).toList) 28) :: (B6 ++ N))) ?_ ?_
 ·rintro L10 M11 ⟨w8, B6, e9, hB7, e12, e13⟩
  rw [e12, e13]
  clear e12 e13 L10 M11
  clear hq5
  rw [e9] at hf
  clear e9
  try dsimp only at hf
  have gq1 : ∀ w, More w0 Φ B6 w → More w0 Φ [] w := fun w q => More.mono (fun w m => hB7 w (m)) q
  replace hg1 := hg1.mono gq1
  refine Z1 (Z4 (Z2 ?_))
  obtain ⟨⟨x15, x16⟩, hx14, hf⟩ := Z102 hf
  try dsimp only at hf
  refine Z12 Tryd.call103 rfl (keccak_Sponge_Sum_does w0 (More w0 Φ B6) ((some b2, blk (u8s (Vector.replicate 32 0#8).toList) 28) :: (B6 ++ N)) (fun w m => More.of hΦ 1 m rfl) b3 w8 x15 x16 hg1 hx14) rfl rfl ?_
  rintro L18 M19 ⟨B17, e20, e21⟩
  rw [e20, e21]
  clear e20 e21 L18 M19
  refine Z20 (M' := ((some b3, blk x16.C 157) :: (some b2, blk (u8s (Vector.replicate 32 0#8).toList) 28) :: ((B17 ++ B6) ++ N))) (fun w m => by have h := Z110 (A := B17) m 1 1 rfl rfl; exact h) ?_
  have gq2 : ∀ w, More w0 Φ (B17 ++ B6) w → More w0 Φ B6 w := fun w q => More.mono (fun w m => (m).appR) q
  replace hg1 := hg1.mono gq2
  refine OW.rot1 (Z28 (Z109 rfl rfl rfl (Z119 _) rfl ((Z100 _).trans Zv) ((Z100 _).trans Zv)) (Z6 (Z1 (CW.ret ?_))))
  have e0 := Zi hf
  subst e0
  refine Z108 (rs := [.cell 4 28]) ([.agg (u8s x15.toList).toArray]) ((some b2, blk (u8s x15.toList) 28) :: (some b3, blk x16.C 157) :: (B17 ++ B6)) rfl ?_ rfl ?_ ?_ _ (.inl rfl)
  ·exact ⟨⟨_, _, _, _, rfl, Zh, rfl, rfl, (congrArg some ((Z100 _).trans Zv).symm), rfl⟩, trivial⟩
  ·exact rfl
  ·exact (fun w m => m)
 ·skip
  refine CW.block (Z121 (fun k L' M' => ∃ n24 : Nat, ∃ w26 : Sponge, ∃ B22 : List Ent, (keccak_digest.l1 a1 k n24 w26) = some q4 ∧ (∀ w, Mem w0 w B22 → Mem w0 w []) ∧ (n24 ≤ 9223372036854775807) ∧ L' = [(4, ptr (some b2) 0), (5, ptr (some b3) 0), (10, .slice A1_ a1.length c1_), (11, .int .i64 ((a1.length : Nat) : Int)), (12, .int .i64 ((n24 : Nat) : Int))] ∧ M' = ((some b3, blk w26.C 157) :: (some b2, blk (u8s (Vector.replicate 32 0#8).toList) 28) :: (B22 ++ N))) (k0 := (a1.length - 0 + 2)) ⟨0, ({ (⟨0, (Vector.replicate 25 0#64), (Vector.replicate 136 0#8), 0, 0⟩ : Sponge) with kind := a0 } : Sponge), [], hq5, (fun w m => m), (by omega), rfl, rfl⟩ ⟨rfl, rfl, rfl, rfl, rfl, trivial⟩ (fun w m => m.pick [0, 1] 2 rfl rfl) ?_)
  clear hq5
  rintro k27 L30 M31 ⟨n24, w26, B22, hl28, hB23, b25, e32, e33⟩
  rw [e32, e33]
  clear e32 e33 L30 M31
  rcases k27 with _ | k27
  ·rw [keccak_digest.l1] at hl28; cases hl28
  rw [keccak_digest.l1] at hl28
  have gq3 : ∀ w, More w0 Φ B22 w → More w0 Φ [] w := fun w q => More.mono (fun w m => hB23 w (m)) q
  replace va1 := va1.mono gq3
  replace ha1 := ha1.mono (BsRd.mono gq3)
  replace hg1 := hg1.mono gq3
  refine Z4 (Z2 (Z0 (RV.lss rfl rfl) rfl (Z7 (.bool (decide (n24 < a1.length))) (congrArg Value.bool (decide_eq_decide.2 (by omega))) (Z6 (Z1 (Z4 ?_))))))
  by_cases h34 : n24 < a1.length
  ·replace hl28 := if_t hl28 h34
   refine Z13 rfl (decide_eq_true h34) (CW.skip (Z1 (Z4 (CW.block (Z4 (Z2 ?_))))))
   obtain ⟨x35, hx36, hl28⟩ := Z102 hl28
   have hl37 := Z130 hx36
   refine Z0 (Z179 (n24) rfl rfl rfl rfl rfl (va1.isSome (by decide) hl37) (by omega)) rfl ?_
   obtain ⟨cs38, h39, h40⟩ := ha1.get BsRd.len hx36
   obtain ⟨A41, c42, e44, v43⟩ := h39
   subst e44
   have m45 := v43.mx
   refine Z0 (Z21 rfl rfl rfl (fun w m => by have := va1.load (More.of hΦ 2 m rfl) h40 0 _ rfl; simpa [Addr.add] using this)) rfl ?_
   refine Z0 (Z5 rfl) rfl (Z6 (Z1 (Z2 (Z0 (Z3 rfl) rfl ?_))))
   obtain ⟨x47, hx46, hl28⟩ := Z102 hl28
   refine Z12 Tryd.call102 rfl (keccak_Sponge_Write_does w0 (More w0 Φ B22) ((some b2, blk (u8s (Vector.replicate 32 0#8).toList) 28) :: (B22 ++ N)) (fun w m => More.of hΦ 1 m rfl) b3 w26 A41 c42 x35 x47 v43 hx46) rfl rfl ?_
   rintro L49 M50 ⟨B48, e51, e52⟩
   rw [e51, e52]
   clear e51 e52 L49 M50
   refine Z20 (M' := ((some b3, blk x47.C 157) :: (some b2, blk (u8s (Vector.replicate 32 0#8).toList) 28) :: ((B48 ++ B22) ++ N))) (fun w m => by have h := Z110 (A := B48) m 1 1 rfl rfl; exact h) ?_
   have gq4 : ∀ w, More w0 Φ (B48 ++ B22) w → More w0 Φ B22 w := fun w q => More.mono (fun w m => (m).appR) q
   replace va1 := va1.mono gq4
   replace ha1 := ha1.mono (BsRd.mono gq4)
   replace v43 := v43.mono gq4
   replace hg1 := hg1.mono gq4
   refine Z6 (Z27 (Z1 (Z2 (Z0 (RV.add rfl rfl (by omega)) rfl (Z7 (.int .i64 (((n24 + 1) : Nat) : Int)) (by first | rfl | (congr 1) | (congr 1; omega)) (Z0 (Z3 rfl) rfl (Z6 ?_)))))))
   exact Z114 (k' := k27) (Nat.lt_succ_self _) ⟨(n24 + 1), x47, (B48 ++ B22), hl28, (fun w m => hB23 w ((m).appR)), (by omega), rfl, rfl⟩ ⟨rfl, rfl, rfl, rfl, rfl, trivial⟩ (fun w m => m.pick [0, 1] 2 rfl rfl)
  ·replace hl28 := if_f hl28 h34
   refine Z14 rfl (decide_eq_false h34) (CW.exit (Z9 (Z9 (Z15 ?_))))
   exact QW.join ⟨w26, B22, (Zi hl28).symm, (fun w m => hB23 w (m)), rfl, rfl⟩ ⟨rfl, rfl, trivial⟩ (fun w m => m.pick [0, 1] 2 rfl rfl)
theorem keccak_Sum_does (w0 : World) (Φ : Ctx) (N : List Ent) (hΦ : ∀ w, Mem w0 w N → Φ w) (A0_ : Option Addr) (c0_ : Nat) (cs0_ : List Value) (a0 : List (List (BitVec 8))) (res0 : Vector (BitVec 8) 32) (va0 : View Φ A0_ a0.length c0_ 1 cs0_) (ha0 : Reps (BsRd Φ) cs0_ a0) (hg1 : View Φ (some ⟨1, 0, none⟩) 2 2 1 (u8s firstL)) (hf : keccak_Sum a0 = some res0) : DoesG Tryd.prog 31 [.slice A0_ a0.length c0_] w0 [] N (fun v G => v = .agg (u8s res0.toList).toArray) := by
 unfold keccak_Sum at hf
 replace va0 := va0.mono (Ψ := More w0 Φ []) (fun w q => q.1)
 replace hg1 := hg1.mono (Ψ := More w0 Φ []) (fun w q => q.1)
 replace ha0 := ha0.mono (BsRd.mono (Ψ := More w0 Φ []) (fun w q => q.1))
 have m1 := va0.mx
 refine DoesG.enter Tryd.func31 rfl Tryd.ntmps31 rfl (M := (([] ++ N))) rfl (Z4 (Z2 (OW.alloc (l := (u8s (Vector.replicate 32 0#8).toList)) rfl (by rw [Vector.toList_replicate, ← Z133]; rfl) rfl (fun b2 => (Z6 (Z1 (Z4 (Z2 (Z0 (Z3 rfl) rfl ?_)))))))))
 obtain ⟨x4, hx3, hf⟩ := Z102 hf
 refine Z12 Tryd.call66 rfl (keccak_digest_does w0 (More w0 Φ []) ((some b2, blk (u8s (Vector.replicate 32 0#8).toList) 28) :: ([] ++ N)) (fun w m => More.of hΦ 1 m rfl) (0 : Int) A0_ c0_ cs0_ a0 x4 (by omega) va0 ha0 hg1 hx3) rfl rfl ?_
 rintro _ G5 rfl
 refine Z20 (M' := ((some b2, blk (u8s (Vector.replicate 32 0#8).toList) 28) :: ([] ++ N))) (fun w m => m.appR) (Z28 (Z109 rfl rfl rfl (Z119 _) rfl ((Z100 _).trans Zv) ((Z100 _).trans Zv)) (Z6 (Z1 (CW.ret ?_))))
 have e0 := Zi hf
 subst e0
 refine Z108 (rs := [.cell 2 28]) ([.agg (u8s x4.toList).toArray]) ((some b2, blk (u8s x4.toList) 28) :: []) rfl ?_ rfl ?_ ?_ _ (.inl rfl)
 ·exact ⟨⟨_, _, _, _, rfl, Zh, rfl, rfl, (congrArg some ((Z100 _).trans Zv).symm), rfl⟩, trivial⟩
 ·exact rfl
 ·exact (fun w m => m)
theorem waybillref02_filled_does (w0 : World) (Φ : Ctx) (N : List Ent) (hΦ : ∀ w, Mem w0 w N → Φ w) (A0_ : Option Addr) (c0_ : Nat) (a0 : List (BitVec 8)) (a1 : BitVec 8) (res0 : List (BitVec 8)) (va0 : View Φ A0_ a0.length c0_ 1 (u8s a0)) (hf : waybillref02_filled a0 a1 = some res0) : DoesG Tryd.prog 126 [.slice A0_ a0.length c0_, U8 a1] w0 [] N (fun v G => ∃ B : List Ent, ∃ or0 : Option Nat, ∃ kr0 : Nat, ∃ rr0 : List Value, (OwnS or0 res0.length kr0 1 (u8s res0) rr0) ∧ v = sl or0 0 res0.length kr0 ∧ G = (or0, blk ((u8s res0) ++ rr0) 5) :: B) := by
 unfold waybillref02_filled at hf
 replace va0 := va0.mono (Ψ := More w0 Φ []) (fun w q => q.1)
 have m1 := va0.mx
 refine DoesG.enter Tryd.func126 rfl Tryd.ntmps126 rfl (M := (([] ++ N))) rfl (Z4 (Z2 (Z0 (Z5 rfl) rfl (Z6 (Z1 (Z4 (Z2 (Z0 (Z5 rfl) rfl (Z6 (Z1 (Z4 (Z2 (Z0 (Z3 rfl) rfl (Z0 (Z3 rfl) rfl ?_))))))))))))))
 refine Z20 (M' := ((none, blk ((u8s ([] : List (BitVec 8))) ++ []) 5) :: ([] ++ N))) (fun w m => m.nil_ent _) (OW.appendOwn (s := 1) rfl rfl rfl rfl rfl rfl OwnS.nil (fun w m => va0.rd w (More.of hΦ 1 m rfl)) va0.n (Z119 _) (va0.zero (by decide)) (by decide) (by decide) (by first | omega | (simp only [i5, List.length_nil]; omega)) rfl rfl (a0.length) (u8s a0) (Nat.zero_add _) rfl (fun ob2 r3 c4 o5 => ?_))
 have m6 := o5.mx
 refine Z0 (Z5 rfl) rfl (Z6 (Z1 (Z4 (Z2 (Z0 (Z3 rfl) rfl (Z0 (Z3 rfl) rfl (OW.ofN (NV.bs1 rfl rfl rfl rfl rfl rfl) rfl (fun b7 => (Z20 (M' := (((some b7), blk ((u8s ([a1] : List (BitVec 8))) ++ []) 5) :: (ob2, blk ((u8s a0) ++ r3) 5) :: ([] ++ N))) (fun w m => by first | exact m | simpa [u8s] using m) ?_)))))))))
 have o8 : OwnS (some b7) ([a1] : List (BitVec 8)).length 1 1 (u8s ([a1] : List (BitVec 8))) [] := ⟨by simp [u8s], by simp [u8s], (fun h => nomatch h), by simp⟩
 have mx_o8 := o8.mx
 refine Z7 (sl (some b7) 0 ([a1] : List (BitVec 8)).length 1) (rfl) (OW.rot1 ?_)
 obtain ⟨g9, hf⟩ := Z115 hf
 refine OW.appendOwn (s := 1) rfl rfl rfl rfl rfl rfl o5 (fun w m => m.rd0 (List.Mem.tail _ Zh) (fun e => o8.nilc (by decide) e)) o8.n (Z119 _) (o8.zeroO (by decide)) (by decide) (by decide) (by first | omega | (simp only [i5, List.length_nil]; omega)) rfl rfl ((a0 ++ ([a1] : List (BitVec 8))).length) (u8s (a0 ++ ([a1] : List (BitVec 8)))) (List.length_append ..).symm (u8s_app _ _) (fun ob10 r11 c12 o13 => ?_)
 have m14 := o13.mx
 refine Z0 (Z5 rfl) rfl (Z6 (Z1 (Z4 ?_)))
 obtain ⟨q15, hq16, hf⟩ := Z102 hf
 refine Z120 (fun L' M' => ∃ l17 : List (BitVec 8), ∃ ob18 : Option Nat, ∃ c19 : Nat, ∃ r20 : List Value, q15 = l17 ∧ (OwnS ob18 l17.length c19 1 (u8s l17) r20) ∧ L' = [(5, sl ob18 0 l17.length c19)] ∧ M' = ((ob18, blk ((u8s l17) ++ r20) 5) :: ([] ++ N))) ?_ ?_
 ·rintro L23 M24 ⟨l17, ob18, c19, r20, e22, o21, e25, e26⟩
  rw [e25, e26]
  clear e25 e26 L23 M24
  clear hq16
  rw [e22] at hf
  clear e22
  try dsimp only at hf
  have m27 := o21.mx
  refine Z1 (Z4 (Z2 (Z0 (Z3 rfl) rfl (Z0 (Z3 rfl) rfl (Z0 (RV.len rfl rfl) rfl (Z0 (RV.sub rfl rfl (by omega)) rfl (Z0 (Z3 rfl) rfl (Z0 (Z3 rfl) rfl (Z0 (RV.len rfl rfl) rfl ?_)))))))))
  refine Z0 (RV.sub rfl rfl (by omega)) rfl ?_
  obtain ⟨g28, hf⟩ := Z115 hf
  obtain ⟨x29, hx30, hf⟩ := Z102 hf
  have hl31 := Z130 hx30
  refine Z0 (RV.idx_o (((((l17.length : Nat) : Int) - (1 : Int))).toNat) rfl rfl (by omega) rfl rfl (o21.isSome (by decide) hl31) (by omega)) rfl (Z0 (Z29 rfl Zh (o21.isSome (by decide) hl31) rfl rfl (own_at0 (u8s_at hx30))) rfl (Z0 (RV.or8 rfl (by first | rfl | exact lit8 _ rfl) rfl (by first | rfl | exact lit8 _ rfl)) rfl ?_))
  obtain ⟨x32, hx33, hf⟩ := Z102 hf
  have hl34 := Z130 hx33
  refine Z0 (RV.idx_o (((((l17.length : Nat) : Int) - (1 : Int))).toNat) rfl rfl (by omega) rfl rfl (o21.isSome (by decide) hl34) (by omega)) rfl (Z28 (SV.store rfl (o21.isSome (by decide) hl34) rfl rfl rfl (by rw [List.length_append, Z100]; omega)) ?_)
  refine OW.cells ((u8s (l17.set (((((l17.length : Nat) : Int) - (1 : Int))).toNat) (x29 ||| 128#8))) ++ r20) (by rw [Nat.zero_add, List.set_append_left _ _ (by rw [Z100]; omega)]; first | rw [u8s_set'] | (rw [← u8s_set']; rfl)) ?_
  have o35 : OwnS ob18 (l17.set (((((l17.length : Nat) : Int) - (1 : Int))).toNat) (x29 ||| 128#8)).length c19 1 (u8s (l17.set (((((l17.length : Nat) : Int) - (1 : Int))).toNat) (x29 ||| 128#8))) r20 := OwnS.same o21 (by simp) (by simp)
  refine OW.frame (L' := [(5, sl ob18 0 (l17.set (((((l17.length : Nat) : Int) - (1 : Int))).toNat) (x29 ||| 128#8)).length c19), (20, sl ob18 0 (l17.set (((((l17.length : Nat) : Int) - (1 : Int))).toNat) (x29 ||| 128#8)).length c19), (21, sl ob18 0 (l17.set (((((l17.length : Nat) : Int) - (1 : Int))).toNat) (x29 ||| 128#8)).length c19), (22, .int .i64 ((l17.length : Nat) : Int)), (23, .int .i64 (((l17.length : Nat) : Int) - (1 : Int))), (24, sl ob18 0 (l17.set (((((l17.length : Nat) : Int) - (1 : Int))).toNat) (x29 ||| 128#8)).length c19), (25, sl ob18 0 (l17.set (((((l17.length : Nat) : Int) - (1 : Int))).toNat) (x29 ||| 128#8)).length c19), (26, .int .i64 ((l17.length : Nat) : Int)), (27, .int .i64 (((l17.length : Nat) : Int) - (1 : Int))), (29, U8 x29), (30, U8 (x29 ||| 128#8))]) (fun k v h => Sub.get (L' := [(5, sl ob18 0 (l17.set (((((l17.length : Nat) : Int) - (1 : Int))).toNat) (x29 ||| 128#8)).length c19), (20, sl ob18 0 (l17.set (((((l17.length : Nat) : Int) - (1 : Int))).toNat) (x29 ||| 128#8)).length c19), (21, sl ob18 0 (l17.set (((((l17.length : Nat) : Int) - (1 : Int))).toNat) (x29 ||| 128#8)).length c19), (22, .int .i64 ((l17.length : Nat) : Int)), (23, .int .i64 (((l17.length : Nat) : Int) - (1 : Int))), (24, sl ob18 0 (l17.set (((((l17.length : Nat) : Int) - (1 : Int))).toNat) (x29 ||| 128#8)).length c19), (25, sl ob18 0 (l17.set (((((l17.length : Nat) : Int) - (1 : Int))).toNat) (x29 ||| 128#8)).length c19), (26, .int .i64 ((l17.length : Nat) : Int)), (27, .int .i64 (((l17.length : Nat) : Int) - (1 : Int))), (29, U8 x29), (30, U8 (x29 ||| 128#8))]) ?_ k v h) ?_
  ·exact ⟨(congrArg (fun k => some (sl ob18 0 k c19)) (List.length_set ..).symm), (congrArg (fun k => some (sl ob18 0 k c19)) (List.length_set ..).symm), (congrArg (fun k => some (sl ob18 0 k c19)) (List.length_set ..).symm), rfl, rfl, (congrArg (fun k => some (sl ob18 0 k c19)) (List.length_set ..).symm), (congrArg (fun k => some (sl ob18 0 k c19)) (List.length_set ..).symm), rfl, rfl, rfl, rfl, trivial⟩
  refine Z6 (Z1 (Z4 (Z2 (Z0 (Z3 rfl) rfl (Z0 (Z5 rfl) rfl (Z6 (Z1 (CW.ret ?_))))))))
  have e0 := Zi hf
  subst e0
  refine Z108 (rs := [.tmp 4]) ([sl ob18 0 (l17.set (((((l17.length : Nat) : Int) - (1 : Int))).toNat) (x29 ||| 128#8)).length c19]) ((ob18, blk ((u8s (l17.set (((((l17.length : Nat) : Int) - (1 : Int))).toNat) (x29 ||| 128#8))) ++ r20) 5) :: []) rfl ?_ rfl ?_ ?_ _ (.inl rfl)
  ·exact ⟨rfl, trivial⟩
  ·exact ⟨[], ob18, c19, r20, o35, rfl, rfl⟩
  ·exact (fun w m => m.pick [0] 1 rfl rfl)
 ·skip
  refine CW.block (Z121 (fun k L' M' => ∃ l36 : List (BitVec 8), ∃ ob37 : Option Nat, ∃ c38 : Nat, ∃ r39 : List Value, (waybillref02_filled.l1 k l36) = some q15 ∧ (OwnS ob37 l36.length c38 1 (u8s l36) r39) ∧ L' = [(5, sl ob37 0 l36.length c38)] ∧ M' = ((ob37, blk ((u8s l36) ++ r39) 5) :: ([] ++ N))) (k0 := 140) ⟨(a0 ++ ([a1] : List (BitVec 8))), ob10, c12, r11, hq16, o13, rfl, rfl⟩ ⟨rfl, trivial⟩ (fun w m => m.pick [0] 2 rfl rfl) ?_)
  clear hq16
  rintro k41 L44 M45 ⟨l36, ob37, c38, r39, hl42, o40, e46, e47⟩
  rw [e46, e47]
  clear e46 e47 L44 M45
  rcases k41 with _ | k41
  ·rw [waybillref02_filled.l1] at hl42; cases hl42
  rw [waybillref02_filled.l1] at hl42
  have m48 := o40.mx
  refine Z4 (Z4 (Z2 (Z0 (Z3 rfl) rfl (Z0 (RV.len rfl rfl) rfl (Z0 (RV.rem rfl rfl (by omega) (by omega)) rfl (Z7 (.int .i64 ((l36.length % 136 : Nat) : Int)) (by first | rfl | (congr 1; omega)) (Z0 (RV.neq rfl rfl) rfl (Z7 (.bool (!decide ((l36.length % 136) = 0))) (congrArg (fun b => Value.bool (!b)) (decide_eq_decide.2 (by omega))) (Z6 (Z1 ?_))))))))))
  by_cases h49 : (l36.length % 136) = 0
  ·replace hl42 := if_t hl42 h49
   refine Z14 rfl (congrArg (fun b => !b) (decide_eq_true h49)) (CW.exit (Z9 (Z9 (Z15 ?_))))
   exact QW.join ⟨l36, ob37, c38, r39, (Zi hl42).symm, o40, rfl, rfl⟩ ⟨rfl, trivial⟩ (fun w m => m.pick [0] 1 rfl rfl)
  ·replace hl42 := if_f hl42 h49
   refine Z13 rfl (congrArg (fun b => !b) (decide_eq_false h49)) (CW.skip (Z1 (CW.block (Z2 (Z0 (Z3 rfl) rfl (OW.ofN (NV.bs1 rfl rfl rfl rfl rfl rfl) rfl (fun b50 => (Z20 (M' := (((some b50), blk ((u8s ([0#8] : List (BitVec 8))) ++ []) 5) :: (ob37, blk ((u8s l36) ++ r39) 5) :: ([] ++ N))) (fun w m => by first | exact m | simpa [u8s] using m) ?_))))))))
   have o51 : OwnS (some b50) ([0#8] : List (BitVec 8)).length 1 1 (u8s ([0#8] : List (BitVec 8))) [] := ⟨by simp [u8s], by simp [u8s], (fun h => nomatch h), by simp⟩
   have mx_o51 := o51.mx
   refine Z7 (sl (some b50) 0 ([0#8] : List (BitVec 8)).length 1) (rfl) (OW.rot1 ?_)
   obtain ⟨g52, hl42⟩ := Z115 hl42
   refine OW.appendOwn (s := 1) rfl rfl rfl rfl rfl rfl o40 (fun w m => m.rd0 (List.Mem.tail _ Zh) (fun e => o51.nilc (by decide) e)) o51.n (Z119 _) (o51.zeroO (by decide)) (by decide) (by decide) (by first | omega | (simp only [i5, List.length_nil]; omega)) rfl rfl ((l36 ++ ([0#8] : List (BitVec 8))).length) (u8s (l36 ++ ([0#8] : List (BitVec 8)))) (List.length_append ..).symm (u8s_app _ _) (fun ob53 r54 c55 o56 => ?_)
   have m57 := o56.mx
   refine Z0 (Z5 rfl) rfl (Z6 (Z27 ?_))
   exact Z114 (k' := k41) (Nat.lt_succ_self _) ⟨(l36 ++ ([0#8] : List (BitVec 8))), ob53, c55, r54, hl42, o56, rfl, rfl⟩ ⟨rfl, trivial⟩ (fun w m => m.pick [0] 2 rfl rfl)
theorem waybillref02_joined_does (w0 : World) (Φ : Ctx) (N : List Ent) (hΦ : ∀ w, Mem w0 w N → Φ w) (A0_ : Option Addr) (c0_ : Nat) (cs0_ : List Value) (a0 : List (List (BitVec 8))) (res0 : List (BitVec 8)) (va0 : View Φ A0_ a0.length c0_ 1 cs0_) (ha0 : Reps (BsRd Φ) cs0_ a0) (hf : waybillref02_joined a0 = some res0) : DoesG Tryd.prog 98 [.slice A0_ a0.length c0_] w0 [] N (fun v G => ∃ B : List Ent, ∃ or0 : Option Nat, ∃ kr0 : Nat, ∃ rr0 : List Value, (OwnS or0 res0.length kr0 1 (u8s res0) rr0) ∧ v = sl or0 0 res0.length kr0 ∧ G = (or0, blk ((u8s res0) ++ rr0) 5) :: B) := by
 unfold waybillref02_joined at hf
 replace va0 := va0.mono (Ψ := More w0 Φ []) (fun w q => q.1)
 replace ha0 := ha0.mono (BsRd.mono (Ψ := More w0 Φ []) (fun w q => q.1))
 have m1 := va0.mx
 refine DoesG.enter Tryd.func98 rfl Tryd.ntmps98 rfl (M := (([] ++ N))) rfl (Z4 (Z2 (Z0 (Z5 rfl) rfl (Z6 (Z1 (Z4 (Z2 (Z0 (Z5 rfl) rfl (Z6 (Z1 (Z4 (Z4 (Z2 (Z0 (Z5 rfl) rfl (Z6 (Z1 ?_))))))))))))))))
 obtain ⟨q2, hq3, hf⟩ := Z102 hf
 refine Z120 (fun L' M' => ∃ l4 : List (BitVec 8), ∃ ob5 : Option Nat, ∃ c6 : Nat, ∃ r7 : List Value, q2 = l4 ∧ (OwnS ob5 l4.length c6 1 (u8s l4) r7) ∧ L' = [(3, sl ob5 0 l4.length c6)] ∧ M' = ((ob5, blk ((u8s l4) ++ r7) 5) :: ([] ++ N))) ?_ ?_
 ·rintro L10 M11 ⟨l4, ob5, c6, r7, e9, o8, e12, e13⟩
  rw [e12, e13]
  clear e12 e13 L10 M11
  clear hq3
  rw [e9] at hf
  clear e9
  try dsimp only at hf
  have m14 := o8.mx
  refine Z1 (Z4 (Z2 (Z0 (Z3 rfl) rfl (Z0 (Z5 rfl) rfl (Z6 (Z1 (CW.ret ?_)))))))
  have e0 := Zi hf
  subst e0
  refine Z108 (rs := [.tmp 2]) ([sl ob5 0 l4.length c6]) ((ob5, blk ((u8s l4) ++ r7) 5) :: []) rfl ?_ rfl ?_ ?_ _ (.inl rfl)
  ·exact ⟨rfl, trivial⟩
  ·exact ⟨[], ob5, c6, r7, o8, rfl, rfl⟩
  ·exact (fun w m => m.pick [0] 1 rfl rfl)
 ·skip
  refine CW.block (CW.mem (M' := ((none, blk ((u8s ([] : List (BitVec 8))) ++ []) 5) :: ([] ++ N))) (fun w m => m.nil_ent _) (Z121 (fun k L' M' => ∃ l15 : List (BitVec 8), ∃ n20 : Nat, ∃ ob16 : Option Nat, ∃ c17 : Nat, ∃ r18 : List Value, (waybillref02_joined.l1 a0 k l15 n20) = some q2 ∧ (OwnS ob16 l15.length c17 1 (u8s l15) r18) ∧ (n20 ≤ 9223372036854775807) ∧ L' = [(0, .slice A0_ a0.length c0_), (3, sl ob16 0 l15.length c17), (4, .int .i64 ((n20 : Nat) : Int))] ∧ M' = ((ob16, blk ((u8s l15) ++ r18) 5) :: ([] ++ N))) (k0 := (a0.length - 0 + 2)) ⟨([] : List (BitVec 8)), 0, none, 0, [], hq3, OwnS.nil, (by omega), rfl, rfl⟩ ⟨rfl, rfl, rfl, trivial⟩ (fun w m => m.pick [0] 1 rfl rfl) ?_))
  clear hq3
  rintro k22 L25 M26 ⟨l15, n20, ob16, c17, r18, hl23, o19, b21, e27, e28⟩
  rw [e27, e28]
  clear e27 e28 L25 M26
  rcases k22 with _ | k22
  ·rw [waybillref02_joined.l1] at hl23; cases hl23
  rw [waybillref02_joined.l1] at hl23
  have m29 := o19.mx
  refine Z4 (Z4 (Z2 (Z0 (Z3 rfl) rfl (Z0 (Z3 rfl) rfl (Z0 (RV.len rfl rfl) rfl (Z0 (RV.lss rfl rfl) rfl (Z7 (.bool (decide (n20 < a0.length))) (congrArg Value.bool (decide_eq_decide.2 (by omega))) (Z6 (Z1 ?_)))))))))
  by_cases h30 : n20 < a0.length
  ·replace hl23 := if_t hl23 h30
   refine Z13 rfl (decide_eq_true h30) (CW.skip (Z1 (Z4 (CW.block (Z2 (Z0 (Z3 rfl) rfl (Z0 (Z3 rfl) rfl (Z0 (Z3 rfl) rfl ?_))))))))
   obtain ⟨x31, hx32, hl23⟩ := Z102 hl23
   have hl33 := Z130 hx32
   refine Z0 (Z179 (n20) rfl rfl rfl rfl rfl (va0.isSome (by decide) hl33) (by omega)) rfl ?_
   obtain ⟨cs34, h35, h36⟩ := ha0.get BsRd.len hx32
   obtain ⟨A37, c38, e40, v39⟩ := h35
   subst e40
   have m41 := v39.mx
   refine Z0 (Z21 rfl rfl rfl (fun w m => by have := va0.load (More.of hΦ 1 m rfl) h36 0 _ rfl; simpa [Addr.add] using this)) rfl ?_
   obtain ⟨g42, hl23⟩ := Z115 hl23
   refine OW.appendOwn (s := 1) rfl rfl rfl rfl rfl rfl o19 (fun w m => v39.rd w (More.of hΦ 1 m rfl)) v39.n (Z119 _) (v39.zero (by decide)) (by decide) (by decide) (by first | omega | (simp only [i5, List.length_nil]; omega)) rfl rfl ((l15 ++ x31).length) (u8s (l15 ++ x31)) (List.length_append ..).symm (u8s_app _ _) (fun ob43 r44 c45 o46 => ?_)
   have m47 := o46.mx
   refine Z0 (Z5 rfl) rfl (Z6 (Z27 (Z1 (Z2 (Z0 (Z3 rfl) rfl (Z0 (RV.add rfl rfl (by omega)) rfl (Z7 (.int .i64 (((n20 + 1) : Nat) : Int)) (by first | rfl | (congr 1) | (congr 1; omega)) (Z0 (Z5 rfl) rfl (Z6 ?_)))))))))
   exact Z114 (k' := k22) (Nat.lt_succ_self _) ⟨(l15 ++ x31), (n20 + 1), ob43, c45, r44, hl23, o46, (by omega), rfl, rfl⟩ ⟨rfl, rfl, rfl, trivial⟩ (fun w m => m.pick [0] 1 rfl rfl)
  ·replace hl23 := if_f hl23 h30
   refine Z14 rfl (decide_eq_false h30) (CW.exit (Z9 (Z9 (Z15 ?_))))
   exact QW.join ⟨l15, ob16, c17, r18, (Zi hl23).symm, o19, rfl, rfl⟩ ⟨rfl, trivial⟩ (fun w m => m.pick [0] 1 rfl rfl)
theorem waybillref02_Digest_does (w0 : World) (Φ : Ctx) (N : List Ent) (hΦ : ∀ w, Mem w0 w N → Φ w) (A0_ : Option Addr) (c0_ : Nat) (a0 : List (BitVec 8)) (a1 : BitVec 8) (res0 : Vector (BitVec 8) 32) (va0 : View Φ A0_ a0.length c0_ 1 (u8s a0)) (hTn : ∀ i, i < 25 → w0.cell? ⟨5, i, none⟩ = some (.int .i64 (turnsL.getD i 0))) (hRn : ∀ i, i < 24 → w0.cell? ⟨2, i, none⟩ = some (U64 (g64 roundsL i))) (hf : waybillref02_Digest a0 a1 = some res0) : DoesG Tryd.prog 97 [.slice A0_ a0.length c0_, U8 a1] w0 [] N (fun v G => v = .agg (u8s res0.toList).toArray) := by
 unfold waybillref02_Digest at hf
 replace va0 := va0.mono (Ψ := More w0 Φ []) (fun w q => q.1)
 have m1 := va0.mx
 refine DoesG.enter Tryd.func97 rfl Tryd.ntmps97 rfl (M := (([] ++ N))) rfl (Z4 (Z2 (OW.alloc (l := (u8s (Vector.replicate 32 0#8).toList)) rfl (by rw [Vector.toList_replicate, ← Z133]; rfl) rfl (fun b2 => (Z6 (Z1 (Z4 (Z2 (Z0 (Z3 rfl) rfl (Z0 (Z3 rfl) rfl ?_))))))))))
 obtain ⟨x4, hx3, hf⟩ := Z102 hf
 refine Z12 Tryd.call126 rfl (waybillref02_filled_does w0 (More w0 Φ []) ((some b2, blk (u8s (Vector.replicate 32 0#8).toList) 28) :: ([] ++ N)) (fun w m => More.of hΦ 1 m rfl) A0_ c0_ a0 a1 x4 va0 hx3) rfl rfl ?_
 rintro L10 M11 ⟨B5, ob6, c7, r8, o9, e12, e13⟩
 rw [e12, e13]
 clear e12 e13 L10 M11
 refine Z20 (M' := ((ob6, blk ((u8s x4) ++ r8) 5) :: (some b2, blk (u8s (Vector.replicate 32 0#8).toList) 28) :: ((B5 ++ []) ++ N))) (fun w m => by have h := Z110 (A := B5) m 1 1 rfl rfl; exact h) ?_
 have gq1 : ∀ w, More w0 Φ (B5 ++ []) w → More w0 Φ [] w := fun w q => More.mono (fun w m => (m).appR) q
 replace va0 := va0.mono gq1
 have m14 := o9.mx
 refine Z0 (Z5 rfl) rfl (Z6 (Z1 (Z4 (Z2 (OW.alloc (l := (u64s (Vector.replicate 25 0#64).toList)) rfl (by rw [Vector.toList_replicate, ← Z145]; rfl) rfl (fun b15 => (Z6 (Z1 (Z4 (Z4 (Z2 (Z0 (Z5 rfl) rfl (Z6 (Z1 ?_))))))))))))))
 obtain ⟨q16, hq17, hf⟩ := Z102 hf
 refine Z120 (fun L' M' => ∃ w18 : Vector (BitVec 64) 25, q16 = w18 ∧ L' = [(4, ptr (some b2) 0), (6, ptr (some b15) 0)] ∧ M' = ((some b15, blk (u64s w18.toList) 154) :: (some b2, blk (u8s (Vector.replicate 32 0#8).toList) 28) :: ((B5 ++ []) ++ N))) ?_ ?_
 ·rintro L20 M21 ⟨w18, e19, e22, e23⟩
  rw [e22, e23]
  clear e22 e23 L20 M21
  clear hq17
  rw [e19] at hf
  clear e19
  try dsimp only at hf
  refine Z1 (Z4 (Z2 (OW.alloc (l := (u8s (Vector.replicate 32 0#8).toList)) rfl (by rw [Vector.toList_replicate, ← Z133]; rfl) rfl (fun b24 => (Z6 (Z1 (Z4 (Z4 (Z2 (Z0 (Z5 rfl) rfl (Z6 (Z1 ?_))))))))))))
  obtain ⟨q25, hq26, hf⟩ := Z102 hf
  refine Z120 (fun L' M' => ∃ w27 : Vector (BitVec 8) 32, q25 = w27 ∧ L' = [(4, ptr (some b2) 0), (9, ptr (some b24) 0)] ∧ M' = ((some b24, blk (u8s w27.toList) 28) :: (some b2, blk (u8s (Vector.replicate 32 0#8).toList) 28) :: ((B5 ++ []) ++ N))) ?_ ?_
  ·rintro L29 M30 ⟨w27, e28, e31, e32⟩
   rw [e31, e32]
   clear e31 e32 L29 M30
   clear hq26
   rw [e28] at hf
   clear e28
   try dsimp only at hf
   refine Z1 (Z4 (Z2 (Z0 (Z22 rfl Zh rfl rfl rfl rfl ((Z100 _).trans Zv)) rfl (OW.rot1 (Z28 (Z109 rfl rfl rfl (Z119 _) rfl ((Z100 _).trans Zv) ((Z100 _).trans Zv)) (Z6 (Z1 (CW.ret ?_))))))))
   have e0 := Zi hf
   subst e0
   refine Z108 (rs := [.cell 4 28]) ([.agg (u8s w27.toList).toArray]) ((some b2, blk (u8s w27.toList) 28) :: (some b24, blk (u8s w27.toList) 28) :: (B5 ++ [])) rfl ?_ rfl ?_ ?_ _ (.inl rfl)
   ·exact ⟨⟨_, _, _, _, rfl, Zh, rfl, rfl, (congrArg some ((Z100 _).trans Zv).symm), rfl⟩, trivial⟩
   ·exact rfl
   ·exact (fun w m => m)
  ·skip
   refine CW.block (Z121 (fun k L' M' => ∃ n33 : Nat, ∃ w35 : Vector (BitVec 8) 32, (waybillref02_Digest.l1 w18 k n33 w35) = some q25 ∧ (n33 ≤ 9223372036854775807) ∧ L' = [(4, ptr (some b2) 0), (6, ptr (some b15) 0), (9, ptr (some b24) 0), (10, .int .i64 ((n33 : Nat) : Int))] ∧ M' = ((some b24, blk (u8s w35.toList) 28) :: (some b15, blk (u64s w18.toList) 154) :: (some b2, blk (u8s (Vector.replicate 32 0#8).toList) 28) :: ((B5 ++ []) ++ N))) (k0 := (32 - 0 + 2)) ⟨0, (Vector.replicate 32 0#8), hq26, (by omega), rfl, rfl⟩ ⟨rfl, rfl, rfl, rfl, trivial⟩ (fun w m => m.pick [0, 1, 2] 3 rfl rfl) ?_)
   clear hq26
   rintro k36 L39 M40 ⟨n33, w35, hl37, b34, e41, e42⟩
   rw [e41, e42]
   clear e41 e42 L39 M40
   rcases k36 with _ | k36
   ·rw [waybillref02_Digest.l1] at hl37; cases hl37
   rw [waybillref02_Digest.l1] at hl37
   refine Z4 (Z4 (Z2 (Z0 (Z3 rfl) rfl (Z0 (RV.lss rfl rfl) rfl (Z7 (.bool (decide (n33 < 32))) (congrArg Value.bool (decide_eq_decide.2 (by omega))) (Z6 (Z1 ?_)))))))
   by_cases h43 : n33 < 32
   ·replace hl37 := if_t hl37 h43
    refine Z13 rfl (decide_eq_true h43) (CW.skip (Z1 (Z4 (CW.block (Z2 (Z0 (Z3 rfl) rfl (Z0 (Z3 rfl) rfl (Z0 (RV.quo rfl rfl (by omega) (by omega) (by omega)) rfl (Z7 (.int .i64 ((n33 / 8 : Nat) : Int)) (by first | rfl | (congr 1; omega)) ?_)))))))))
    obtain ⟨g44, hl37⟩ := Z115 hl37
    refine Z0 (Z111 ((n33 / 8)) rfl rfl rfl rfl rfl (by omega)) rfl ?_
    obtain ⟨x45, hx46, hl37⟩ := Z102 hl37
    refine Z0 (Z29 rfl (List.Mem.tail _ Zh) rfl rfl rfl (by rw [Nat.zero_add]; exact u64s_at (vat hx46))) rfl ?_
    refine Z0 (Z3 rfl) rfl (Z0 (RV.rem rfl rfl (by omega) (by omega)) rfl (Z7 (.int .i64 ((n33 % 8 : Nat) : Int)) (by first | rfl | (congr 1; omega)) (Z0 (RV.mul rfl rfl (by omega)) rfl (Z7 (.int .i64 (((8 * (n33 % 8)) : Nat) : Int)) (by first | rfl | (congr 1) | (congr 1; omega)) (Z0 (Z173 rfl rfl rfl) rfl (Z7 (U64 (BitVec.ofNat 64 (8 * (n33 % 8)))) (congrArg U64 (BitVec.ofInt_natCast ..)) ?_))))))
    refine Z0 (RV.shr64 (s := (BitVec.ofNat 64 (8 * (n33 % 8))).toNat) rfl (by first | rfl | exact lit64 _ rfl) rfl (by first | rfl | (simp [U64]; done))) rfl ?_
    refine Z0 (RV.conv64_8 rfl (by first | rfl | exact lit64 _ rfl) rfl rfl) rfl (Z0 (Z111 (n33) rfl rfl rfl rfl rfl (by omega)) rfl (Z28 (SV.store rfl rfl rfl rfl rfl (by rw [Z100, Zv]; omega)) (OW.cells (u8s (w35.setIfInBounds n33 ((x45 >>> (BitVec.ofNat 64 (8 * (n33 % 8))).toNat).setWidth 8)).toList) (by rw [Nat.zero_add, u8s_set', vset]) (Z6 (Z27 (Z1 (Z2 (Z0 (Z3 rfl) rfl (Z0 (RV.add rfl rfl (by omega)) rfl (Z7 (.int .i64 (((n33 + 1) : Nat) : Int)) (by first | rfl | (congr 1) | (congr 1; omega)) ?_))))))))))
    refine Z0 (Z5 rfl) rfl (Z6 ?_)
    exact Z114 (k' := k36) (Nat.lt_succ_self _) ⟨(n33 + 1), (w35.setIfInBounds n33 ((x45 >>> (BitVec.ofNat 64 (8 * (n33 % 8))).toNat).setWidth 8)), hl37, (by omega), rfl, rfl⟩ ⟨rfl, rfl, rfl, rfl, trivial⟩ (fun w m => m.pick [0, 1, 2] 3 rfl rfl)
   ·replace hl37 := if_f hl37 h43
    refine Z14 rfl (decide_eq_false h43) (CW.exit (Z9 (Z9 (Z15 ?_))))
    exact QW.join ⟨w35, (Zi hl37).symm, rfl, rfl⟩ ⟨rfl, rfl, trivial⟩ (fun w m => m.pick [0, 2] 3 rfl rfl)
 ·skip
  refine CW.block (Z121 (fun k L' M' => ∃ n47 : Nat, ∃ w49 : Vector (BitVec 64) 25, (waybillref02_Digest.l2 x4 k n47 w49) = some q16 ∧ (n47 ≤ 9223372036854775807) ∧ L' = [(4, ptr (some b2) 0), (5, sl ob6 0 x4.length c7), (6, ptr (some b15) 0), (7, .int .i64 ((n47 : Nat) : Int))] ∧ M' = ((some b15, blk (u64s w49.toList) 154) :: (ob6, blk ((u8s x4) ++ r8) 5) :: (some b2, blk (u8s (Vector.replicate 32 0#8).toList) 28) :: ((B5 ++ []) ++ N))) (k0 := (x4.length - 0 + 2)) ⟨0, (Vector.replicate 25 0#64), hq17, (by omega), rfl, rfl⟩ ⟨rfl, rfl, rfl, rfl, trivial⟩ (fun w m => m.pick [0, 1, 2] 3 rfl rfl) ?_)
  clear hq17
  rintro k50 L53 M54 ⟨n47, w49, hl51, b48, e55, e56⟩
  rw [e55, e56]
  clear e55 e56 L53 M54
  rcases k50 with _ | k50
  ·rw [waybillref02_Digest.l2] at hl51; cases hl51
  rw [waybillref02_Digest.l2] at hl51
  have m57 := o9.mx
  refine Z4 (Z4 (Z2 (Z0 (Z3 rfl) rfl (Z0 (Z3 rfl) rfl (Z0 (RV.len rfl rfl) rfl (Z0 (RV.lss rfl rfl) rfl (Z7 (.bool (decide (n47 < x4.length))) (congrArg Value.bool (decide_eq_decide.2 (by omega))) (Z6 (Z1 ?_)))))))))
  by_cases h58 : n47 < x4.length
  ·replace hl51 := if_t hl51 h58
   refine Z13 rfl (decide_eq_true h58) (CW.skip (Z1 (Z4 (CW.block (Z4 (Z4 (Z2 (Z0 (Z5 rfl) rfl (Z6 (Z1 ?_))))))))))
   obtain ⟨q59, hq60, hl51⟩ := Z102 hl51
   refine Z120 (fun L' M' => ∃ w61 : Vector (BitVec 64) 25, q59 = w61 ∧ L' = [(4, ptr (some b2) 0), (5, sl ob6 0 x4.length c7), (6, ptr (some b15) 0), (7, .int .i64 ((n47 : Nat) : Int))] ∧ M' = ((some b15, blk (u64s w61.toList) 154) :: (ob6, blk ((u8s x4) ++ r8) 5) :: (some b2, blk (u8s (Vector.replicate 32 0#8).toList) 28) :: ((B5 ++ []) ++ N))) ?_ ?_
   ·rintro L63 M64 ⟨w61, e62, e65, e66⟩
    rw [e65, e66]
    clear e65 e66 L63 M64
    clear hq60
    rw [e62] at hl51
    clear e62
    try dsimp only at hl51
    have m67 := o9.mx
    refine Z1 (Z2 (Z0 (Z22 rfl Zh rfl rfl rfl rfl ((Z103 _).trans Zv)) rfl ?_))
    obtain ⟨x69, hx68, hl51⟩ := Z102 hl51
    refine Z12 Tryd.call127 rfl (waybillref02_Permute_does w0 (More w0 Φ (B5 ++ [])) ((some b15, blk (u64s w61.toList) 154) :: (ob6, blk ((u8s x4) ++ r8) 5) :: (some b2, blk (u8s (Vector.replicate 32 0#8).toList) 28) :: ((B5 ++ []) ++ N)) (fun w m => More.of hΦ 3 m rfl) w61 x69 hTn hRn hx68) rfl rfl ?_
    rintro _ G70 rfl
    refine Z20 (M' := ((some b15, blk (u64s w61.toList) 154) :: (ob6, blk ((u8s x4) ++ r8) 5) :: (some b2, blk (u8s (Vector.replicate 32 0#8).toList) 28) :: ((B5 ++ []) ++ N))) (fun w m => m.appR) (Z28 (Z109 rfl rfl rfl (Z154 _) rfl ((Z103 _).trans Zv) ((Z103 _).trans Zv)) (Z6 (Z27 (Z1 (Z2 (Z0 (Z3 rfl) rfl (Z0 (RV.add rfl rfl (by omega)) rfl (Z7 (.int .i64 (((n47 + 136) : Nat) : Int)) (by first | rfl | (congr 1) | (congr 1; omega)) (Z0 (Z5 rfl) rfl (Z6 ?_))))))))))
    exact Z114 (k' := k50) (Nat.lt_succ_self _) ⟨(n47 + 136), x69, hl51, (by omega), rfl, rfl⟩ ⟨rfl, rfl, rfl, rfl, trivial⟩ (fun w m => m.pick [0, 1, 2] 3 rfl rfl)
   ·skip
    refine CW.block (Z121 (fun k L' M' => ∃ n72 : Nat, ∃ w74 : Vector (BitVec 64) 25, (waybillref02_Digest.l3 x4 n47 k n72 w74) = some q59 ∧ (n72 ≤ 9223372036854775807) ∧ L' = [(4, ptr (some b2) 0), (5, sl ob6 0 x4.length c7), (6, ptr (some b15) 0), (7, .int .i64 ((n47 : Nat) : Int)), (8, .int .i64 ((n72 : Nat) : Int))] ∧ M' = ((some b15, blk (u64s w74.toList) 154) :: (ob6, blk ((u8s x4) ++ r8) 5) :: (some b2, blk (u8s (Vector.replicate 32 0#8).toList) 28) :: ((B5 ++ []) ++ N))) (k0 := (136 - 0 + 2)) ⟨0, w49, hq60, (by omega), rfl, rfl⟩ ⟨rfl, rfl, rfl, rfl, rfl, trivial⟩ (fun w m => m.pick [0, 1, 2] 3 rfl rfl) ?_)
    clear hq60
    rintro k75 L78 M79 ⟨n72, w74, hl76, b73, e80, e81⟩
    rw [e80, e81]
    clear e80 e81 L78 M79
    rcases k75 with _ | k75
    ·rw [waybillref02_Digest.l3] at hl76; cases hl76
    rw [waybillref02_Digest.l3] at hl76
    have m82 := o9.mx
    refine Z4 (Z4 (Z2 (Z0 (Z3 rfl) rfl (Z0 (RV.lss rfl rfl) rfl (Z7 (.bool (decide (n72 < 136))) (congrArg Value.bool (decide_eq_decide.2 (by omega))) (Z6 (Z1 ?_)))))))
    by_cases h83 : n72 < 136
    ·replace hl76 := if_t hl76 h83
     refine Z13 rfl (decide_eq_true h83) (CW.skip (Z1 (Z4 (CW.block (CW.drawsX ((ob6, blk ((u8s x4) ++ r8) 5) :: (some b2, blk (u8s (Vector.replicate 32 0#8).toList) 28) :: ((B5 ++ []) ++ N)) [20] (fun w m => m.pick [1, 2] 3 rfl rfl) mixed (by kernel_rfl) (Z10 0 rfl (by kernel_rfl) rfl (Z3 rfl) rfl (Z10 1 rfl (by kernel_rfl) rfl (RV.quo rfl rfl (by omega) (by omega) (by omega)) rfl (XW.slot (.int .i64 ((n72 / 8 : Nat) : Int)) (by first | rfl | (congr 1; omega)) (Z10 2 rfl (by kernel_rfl) rfl (Z3 rfl) rfl (Z10 3 rfl (by kernel_rfl) rfl (RV.quo rfl rfl (by omega) (by omega) (by omega)) rfl ?_))))))))))
     refine XW.slot (.int .i64 ((n72 / 8 : Nat) : Int)) (by first | rfl | (congr 1; omega)) ?_
     obtain ⟨g84, hl76⟩ := Z115 hl76
     refine Z10 4 rfl (by kernel_rfl) rfl (Z111 ((n72 / 8)) rfl rfl rfl rfl rfl (by omega)) rfl ?_
     obtain ⟨x85, hx86, hl76⟩ := Z102 hl76
     refine XW.rv 5 rfl (by kernel_rfl) rfl (by kernel_rfl) (Z29 rfl Zh rfl rfl rfl (by rw [Nat.zero_add]; exact u64s_at (vat hx86))) rfl ?_
     refine Z10 6 rfl (by kernel_rfl) rfl (Z3 rfl) rfl (Z10 7 rfl (by kernel_rfl) rfl (Z3 rfl) rfl (Z10 8 rfl (by kernel_rfl) rfl (Z3 rfl) rfl (Z10 9 rfl (by kernel_rfl) rfl (RV.add rfl rfl (by omega)) rfl (XW.slot (.int .i64 (((n47 + n72) : Nat) : Int)) (by first | rfl | (congr 1) | (congr 1; omega)) ?_))))
     obtain ⟨x87, hx88, hl76⟩ := Z102 hl76
     have hl89 := Z130 hx88
     refine Z10 10 rfl (by kernel_rfl) rfl (RV.idx_o ((n47 + n72)) rfl rfl rfl rfl rfl (o9.isSome (by decide) hl89) (by omega)) rfl (Z10 11 rfl (by kernel_rfl) rfl (Z29 rfl Zh (o9.isSome (by decide) hl89) rfl rfl (own_at0 (u8s_at hx88))) rfl (Z10 12 rfl (by kernel_rfl) rfl (RV.conv8_64 rfl (by first | rfl | exact lit8 _ rfl) rfl rfl) rfl (Z10 13 rfl (by kernel_rfl) rfl (Z3 rfl) rfl (Z10 14 rfl (by kernel_rfl) rfl (RV.rem rfl rfl (by omega) (by omega)) rfl (XW.slot (.int .i64 ((n72 % 8 : Nat) : Int)) (by first | rfl | (congr 1; omega)) (Z10 15 rfl (by kernel_rfl) rfl (RV.mul rfl rfl (by omega)) rfl (XW.slot (.int .i64 (((8 * (n72 % 8)) : Nat) : Int)) (by first | rfl | (congr 1) | (congr 1; omega)) ?_)))))))
     refine Z10 16 rfl (by kernel_rfl) rfl (Z173 rfl rfl rfl) rfl (XW.slot (U64 (BitVec.ofNat 64 (8 * (n72 % 8)))) (congrArg U64 (BitVec.ofInt_natCast ..)) ?_)
     refine Z10 17 rfl (by kernel_rfl) rfl (RV.shl64 (s := (BitVec.ofNat 64 (8 * (n72 % 8))).toNat) rfl (by first | rfl | exact lit64 _ rfl) rfl (by first | rfl | (simp [U64]; done))) rfl ?_
     refine Z10 18 rfl (by kernel_rfl) rfl (Z171 rfl (by first | rfl | exact lit64 _ rfl) rfl (by first | rfl | exact lit64 _ rfl)) rfl (Z10 19 rfl (by kernel_rfl) rfl (Z111 ((n72 / 8)) rfl rfl rfl rfl rfl (by omega)) rfl (XW.sv 20 rfl (by kernel_rfl) (SV.store rfl rfl rfl rfl rfl (by rw [Z103, Zv]; omega)) (fun w m => m.pick [1, 2] 3 rfl rfl) (XW.cells (u64s (w74.setIfInBounds (n72 / 8) (x85 ^^^ ((x87.setWidth 64) <<< (BitVec.ofNat 64 (8 * (n72 % 8))).toNat))).toList) (by rw [Nat.zero_add, Z149, vset]) (XW.nil (by kernel_rfl) (Z27 (Z1 (Z2 (Z0 (Z3 rfl) rfl (Z0 (RV.add rfl rfl (by omega)) rfl ?_)))))))))
     refine Z7 (.int .i64 (((n72 + 1) : Nat) : Int)) (by first | rfl | (congr 1) | (congr 1; omega)) (Z0 (Z5 rfl) rfl (Z6 ?_))
     exact Z114 (k' := k75) (Nat.lt_succ_self _) ⟨(n72 + 1), (w74.setIfInBounds (n72 / 8) (x85 ^^^ ((x87.setWidth 64) <<< (BitVec.ofNat 64 (8 * (n72 % 8))).toNat))), hl76, (by omega), rfl, rfl⟩ ⟨rfl, rfl, rfl, rfl, rfl, trivial⟩ (fun w m => m.pick [0, 1, 2] 3 rfl rfl)
    ·replace hl76 := if_f hl76 h83
     refine Z14 rfl (decide_eq_false h83) (CW.exit (Z9 (Z9 (Z15 ?_))))
     exact QW.join ⟨w74, (Zi hl76).symm, rfl, rfl⟩ ⟨rfl, rfl, rfl, rfl, trivial⟩ (fun w m => m.pick [0, 1, 2] 3 rfl rfl)
  ·replace hl51 := if_f hl51 h58
   refine Z14 rfl (decide_eq_false h58) (CW.exit (Z9 (Z9 (Z15 ?_))))
   exact QW.join ⟨w49, (Zi hl51).symm, rfl, rfl⟩ ⟨rfl, rfl, trivial⟩ (fun w m => m.pick [0, 2] 3 rfl rfl)
theorem waybillref02_Sum_does (w0 : World) (Φ : Ctx) (N : List Ent) (hΦ : ∀ w, Mem w0 w N → Φ w) (A0_ : Option Addr) (c0_ : Nat) (cs0_ : List Value) (a0 : List (List (BitVec 8))) (res0 : Vector (BitVec 8) 32) (va0 : View Φ A0_ a0.length c0_ 1 cs0_) (ha0 : Reps (BsRd Φ) cs0_ a0) (hTn : ∀ i, i < 25 → w0.cell? ⟨5, i, none⟩ = some (.int .i64 (turnsL.getD i 0))) (hRn : ∀ i, i < 24 → w0.cell? ⟨2, i, none⟩ = some (U64 (g64 roundsL i))) (hf : waybillref02_Sum a0 = some res0) : DoesG Tryd.prog 63 [.slice A0_ a0.length c0_] w0 [] N (fun v G => v = .agg (u8s res0.toList).toArray) := by
 unfold waybillref02_Sum at hf
 replace va0 := va0.mono (Ψ := More w0 Φ []) (fun w q => q.1)
 replace ha0 := ha0.mono (BsRd.mono (Ψ := More w0 Φ []) (fun w q => q.1))
 have m1 := va0.mx
 refine DoesG.enter Tryd.func63 rfl Tryd.ntmps63 rfl (M := (([] ++ N))) rfl (Z4 (Z2 (OW.alloc (l := (u8s (Vector.replicate 32 0#8).toList)) rfl (by rw [Vector.toList_replicate, ← Z133]; rfl) rfl (fun b2 => (Z6 (Z1 (Z4 (Z2 (Z0 (Z3 rfl) rfl ?_)))))))))
 obtain ⟨x4, hx3, hf⟩ := Z102 hf
 refine Z12 Tryd.call98 rfl (waybillref02_joined_does w0 (More w0 Φ []) ((some b2, blk (u8s (Vector.replicate 32 0#8).toList) 28) :: ([] ++ N)) (fun w m => More.of hΦ 1 m rfl) A0_ c0_ cs0_ a0 x4 va0 ha0 hx3) rfl rfl ?_
 rintro L10 M11 ⟨B5, ob6, c7, r8, o9, e12, e13⟩
 rw [e12, e13]
 clear e12 e13 L10 M11
 refine Z20 (M' := ((ob6, blk ((u8s x4) ++ r8) 5) :: (some b2, blk (u8s (Vector.replicate 32 0#8).toList) 28) :: ((B5 ++ []) ++ N))) (fun w m => by have h := Z110 (A := B5) m 1 1 rfl rfl; exact h) ?_
 have gq1 : ∀ w, More w0 Φ (B5 ++ []) w → More w0 Φ [] w := fun w q => More.mono (fun w m => (m).appR) q
 replace va0 := va0.mono gq1
 replace ha0 := ha0.mono (BsRd.mono gq1)
 have m14 := o9.mx
 refine Z20 (M' := (some b2, blk (u8s (Vector.replicate 32 0#8).toList) 28) :: (((ob6, blk ((u8s x4) ++ r8) 5) :: (B5 ++ [])) ++ N)) (fun w m => m.pick [1, 0] 2 rfl rfl) ?_
 have gq2 : ∀ w, More w0 Φ ((ob6, blk ((u8s x4) ++ r8) 5) :: (B5 ++ [])) w → More w0 Φ (B5 ++ []) w := fun w q => More.mono (fun w m => (m).tail) q
 replace va0 := va0.mono gq2
 replace ha0 := ha0.mono (BsRd.mono gq2)
 have v15 : View (More w0 Φ ((ob6, blk ((u8s x4) ++ r8) 5) :: (B5 ++ []))) ((ob6).map fun k => ⟨k, 0, none⟩) x4.length c7 1 (u8s x4) := o9.view (by decide) (fun w q => q.2.sublist (List.singleton_sublist.2 (List.mem_cons_self ..)))
 obtain ⟨x17, hx16, hf⟩ := Z102 hf
 refine Z12 Tryd.call97 rfl (waybillref02_Digest_does w0 (More w0 Φ ((ob6, blk ((u8s x4) ++ r8) 5) :: (B5 ++ []))) ((some b2, blk (u8s (Vector.replicate 32 0#8).toList) 28) :: (((ob6, blk ((u8s x4) ++ r8) 5) :: (B5 ++ [])) ++ N)) (fun w m => More.of hΦ 1 m rfl) ((ob6).map fun k => ⟨k, 0, none⟩) c7 x4 (1#8) x17 v15 hTn hRn hx16) rfl rfl ?_
 rintro _ G18 rfl
 refine Z20 (M' := ((some b2, blk (u8s (Vector.replicate 32 0#8).toList) 28) :: (((ob6, blk ((u8s x4) ++ r8) 5) :: (B5 ++ [])) ++ N))) (fun w m => m.appR) (Z28 (Z109 rfl rfl rfl (Z119 _) rfl ((Z100 _).trans Zv) ((Z100 _).trans Zv)) (Z6 (Z1 (CW.ret ?_))))
 have e0 := Zi hf
 subst e0
 refine Z108 (rs := [.cell 2 28]) ([.agg (u8s x17.toList).toArray]) ((some b2, blk (u8s x17.toList) 28) :: ((ob6, blk ((u8s x4) ++ r8) 5) :: (B5 ++ []))) rfl ?_ rfl ?_ ?_ _ (.inl rfl)
 ·exact ⟨⟨_, _, _, _, rfl, Zh, rfl, rfl, (congrArg some ((Z100 _).trans Zv).symm), rfl⟩, trivial⟩
 ·exact rfl
 ·exact (fun w m => m)
theorem Z137 (w0 : World) (Φ : Ctx) (N : List Ent) (hΦ : ∀ w, Mem w0 w N → Φ w) (a0 : Int) (res0 : Nat) (ba0 : -9223372036854775808 ≤ a0 ∧ a0 ≤ 9223372036854775807) (hf : header_count a0 = some res0) : DoesG Tryd.prog 53 [.int .i64 a0] w0 [] N (fun v G => (res0 ≤ 9223372036854775807) ∧ v = .int .i64 ((res0 : Nat) : Int)) := by
 unfold header_count at hf
 refine DoesG.enter Tryd.func53 rfl Tryd.ntmps53 rfl (M := (([] ++ N))) rfl (Z4 (Z2 (Z0 (Z5 rfl) rfl (Z6 (Z1 (Z4 (Z4 (Z2 (Z0 (Z3 rfl) rfl (Z6 (Z1 (CW.block (Z4 (Z2 (Z0 (RV.eql rfl rfl) rfl (Z0 (Z5 rfl) rfl ?_))))))))))))))))
 refine Z6 (Z1 ?_)
 by_cases h1 : a0 = (0 : Int)
 ·replace hf := if_t hf h1
  refine Z13 rfl (decide_eq_true h1) (Z4 (Z2 (Z0 (Z5 rfl) rfl (Z6 (Z1 (CW.ret (Z16 (Z8 ?_))))))))
  have e0 := Zi hf
  subst e0
  refine Z108 (rs := [.tmp 2]) ([.int .i64 (15 : Int)]) ([]) rfl ?_ rfl ?_ ?_ _ (.inl rfl)
  ·exact ⟨rfl, trivial⟩
  ·exact ⟨(by omega), rfl⟩
  ·exact (fun w m => m)
 ·replace hf := if_f hf h1
  refine Z14 rfl (decide_eq_false h1) (Z4 (Z2 (Z0 (RV.eql rfl rfl) rfl (Z0 (Z5 rfl) rfl (Z6 (Z1 ?_))))))
  by_cases h2 : a0 = (1 : Int)
  ·replace hf := if_t hf h2
   refine Z13 rfl (decide_eq_true h2) (Z4 (Z2 (Z0 (Z5 rfl) rfl (Z6 (Z1 (CW.ret (Z16 (Z8 ?_))))))))
   have e0 := Zi hf
   subst e0
   refine Z108 (rs := [.tmp 2]) ([.int .i64 (16 : Int)]) ([]) rfl ?_ rfl ?_ ?_ _ (.inl rfl)
   ·exact ⟨rfl, trivial⟩
   ·exact ⟨(by omega), rfl⟩
   ·exact (fun w m => m)
  ·replace hf := if_f hf h2
   refine Z14 rfl (decide_eq_false h2) (Z4 (Z2 (Z0 (RV.eql rfl rfl) rfl (Z0 (Z5 rfl) rfl (Z6 (Z1 ?_))))))
   by_cases h3 : a0 = (2 : Int)
   ·replace hf := if_t hf h3
    refine Z13 rfl (decide_eq_true h3) (Z4 (Z2 (Z0 (Z5 rfl) rfl (Z6 (Z1 (CW.ret (Z16 (Z8 ?_))))))))
    have e0 := Zi hf
    subst e0
    refine Z108 (rs := [.tmp 2]) ([.int .i64 (17 : Int)]) ([]) rfl ?_ rfl ?_ ?_ _ (.inl rfl)
    ·exact ⟨rfl, trivial⟩
    ·exact ⟨(by omega), rfl⟩
    ·exact (fun w m => m)
   ·replace hf := if_f hf h3
    refine Z14 rfl (decide_eq_false h3) (Z4 (Z2 (Z0 (RV.eql rfl rfl) rfl (Z0 (Z5 rfl) rfl (Z6 (Z1 ?_))))))
    by_cases h4 : a0 = (3 : Int)
    ·replace hf := if_t hf h4
     refine Z13 rfl (decide_eq_true h4) (Z4 (Z2 (Z0 (Z5 rfl) rfl (Z6 (Z1 (CW.ret (Z16 (Z8 ?_))))))))
     have e0 := Zi hf
     subst e0
     refine Z108 (rs := [.tmp 2]) ([.int .i64 (20 : Int)]) ([]) rfl ?_ rfl ?_ ?_ _ (.inl rfl)
     ·exact ⟨rfl, trivial⟩
     ·exact ⟨(by omega), rfl⟩
     ·exact (fun w m => m)
    ·replace hf := if_f hf h4
     refine Z14 rfl (decide_eq_false h4) (CW.skip (Z27 (Z1 (Z4 (Z2 (Z0 (Z5 rfl) rfl (Z6 (Z1 (CW.ret ?_)))))))))
     have e0 := Zi hf
     subst e0
     refine Z108 (rs := [.tmp 2]) ([.int .i64 (21 : Int)]) ([]) rfl ?_ rfl ?_ ?_ _ (.inl rfl)
     ·exact ⟨rfl, trivial⟩
     ·exact ⟨(by omega), rfl⟩
     ·exact (fun w m => m)
theorem Z127 (w0 : World) (Φ : Ctx) (N : List Ent) (hΦ : ∀ w, Mem w0 w N → Φ w) (a0 : Int) (res0 : Int) (ba0 : -9223372036854775808 ≤ a0 ∧ a0 ≤ 9223372036854775807) (hf : waybilllaw19_num a0 = some res0) : DoesG Tryd.prog 12 [.int .i64 a0] w0 [] N (fun v G => (-9223372036854775808 ≤ res0 ∧ res0 ≤ 9223372036854775807) ∧ v = .int .i64 res0) := by
 unfold waybilllaw19_num at hf
 refine DoesG.enter Tryd.func12 rfl Tryd.ntmps12 rfl (M := (([] ++ N))) rfl (Z4 (Z2 (Z0 (Z5 rfl) rfl (Z6 (Z1 (Z4 (Z2 (Z0 (Z3 rfl) rfl (Z0 (Z5 rfl) rfl (Z6 (Z1 (CW.ret ?_))))))))))))
 have e0 := Zi hf
 subst e0
 refine Z108 (rs := [.tmp 2]) ([.int .i64 a0]) ([]) rfl ?_ rfl ?_ ?_ _ (.inl rfl)
 ·exact ⟨rfl, trivial⟩
 ·exact ⟨(by omega), rfl⟩
 ·exact (fun w m => m)
theorem Z140 (w0 : World) (Φ : Ctx) (N : List Ent) (hΦ : ∀ w, Mem w0 w N → Φ w) (A0_ : Option Addr) (c0_ : Nat) (a0 : List (BitVec 8)) (A1_ : Option Addr) (c1_ : Nat) (a1 : List (BitVec 8)) (res0 : Bool) (va0 : View Φ A0_ a0.length c0_ 1 (u8s a0)) (va1 : View Φ A1_ a1.length c1_ 1 (u8s a1)) (hf : waybilllaw19_equal a0 a1 = some res0) : DoesG Tryd.prog 14 [.slice A0_ a0.length c0_, .slice A1_ a1.length c1_] w0 [] N (fun v G => v = .bool res0) := by
 unfold waybilllaw19_equal at hf
 replace va0 := va0.mono (Ψ := More w0 Φ []) (fun w q => q.1)
 replace va1 := va1.mono (Ψ := More w0 Φ []) (fun w q => q.1)
 have m1 := va0.mx
 have m2 := va1.mx
 refine DoesG.enter Tryd.func14 rfl Tryd.ntmps14 rfl (M := (([] ++ N))) rfl (Z4 (Z2 (Z0 (Z5 rfl) rfl (Z6 (Z1 (Z4 (Z4 (Z2 (Z0 (Z3 rfl) rfl (Z0 (RV.len rfl rfl) rfl (Z0 (Z3 rfl) rfl (Z0 (RV.len rfl rfl) rfl ?_))))))))))))
 refine Z0 (RV.neq rfl rfl) rfl (Z7 (.bool (!decide (a0.length = a1.length))) (congrArg (fun b => Value.bool (!b)) (decide_eq_decide.2 (by omega))) (Z6 (Z1 ?_)))
 by_cases h3 : a0.length = a1.length
 ·replace hf := if_t hf h3
  refine Z14 rfl (congrArg (fun b => !b) (decide_eq_true h3)) (CW.skip (Z1 (Z4 (Z4 (Z2 (Z0 (Z5 rfl) rfl (Z6 (Z1 ?_))))))))
  obtain ⟨q4, hq5, hf⟩ := Z102 hf
  refine Z120 (fun L' M' => q4 = Lp.go () ∧ L' = [] ∧ M' = (([] ++ N))) ?_ ?_
  ·rintro L7 M8 ⟨e6, e9, e10⟩
   rw [e9, e10]
   clear e9 e10 L7 M8
   clear hq5
   rw [e6] at hf
   clear e6
   try dsimp only at hf
   refine Z1 (Z4 (Z2 (Z0 (Z5 rfl) rfl (Z6 (Z1 (CW.ret ?_))))))
   have e0 := Zi hf
   subst e0
   refine Z108 (rs := [.tmp 4]) ([.bool true]) ([]) rfl ?_ rfl ?_ ?_ _ (.inl rfl)
   ·exact ⟨rfl, trivial⟩
   ·exact rfl
   ·exact (fun w m => m)
  ·skip
   refine CW.block (Z121 (fun k L' M' => ∃ n11 : Nat, (waybilllaw19_equal.l1 a0 a1 k n11) = some q4 ∧ (n11 ≤ 9223372036854775807) ∧ L' = [(0, .slice A0_ a0.length c0_), (1, .slice A1_ a1.length c1_), (5, .int .i64 ((n11 : Nat) : Int))] ∧ M' = (([] ++ N))) (k0 := (a0.length - 0 + 2)) ⟨0, hq5, (by omega), rfl, rfl⟩ ⟨rfl, rfl, rfl, trivial⟩ (fun w m => m.pick [] 0 rfl rfl) ?_)
   clear hq5
   rintro k13 L16 M17 ⟨n11, hl14, b12, e18, e19⟩
   rw [e18, e19]
   clear e18 e19 L16 M17
   rcases k13 with _ | k13
   ·rw [waybilllaw19_equal.l1] at hl14; cases hl14
   rw [waybilllaw19_equal.l1] at hl14
   refine Z4 (Z4 (Z2 (Z0 (Z3 rfl) rfl (Z0 (Z3 rfl) rfl (Z0 (RV.len rfl rfl) rfl (Z0 (RV.lss rfl rfl) rfl (Z7 (.bool (decide (n11 < a0.length))) (congrArg Value.bool (decide_eq_decide.2 (by omega))) (Z6 (Z1 ?_)))))))))
   by_cases h20 : n11 < a0.length
   ·replace hl14 := if_t hl14 h20
    refine Z13 rfl (decide_eq_true h20) (CW.skip (Z1 (Z4 (CW.block (Z4 (Z159 9 mixed (by kernel_rfl) rfl (Z18 0 rfl (by kernel_rfl) rfl (Z3 rfl) rfl (Z18 1 rfl (by kernel_rfl) rfl (Z3 rfl) rfl ?_))))))))
    obtain ⟨x21, hx22, hl14⟩ := Z102 hl14
    have hl23 := Z130 hx22
    refine Z18 2 rfl (by kernel_rfl) rfl (Z179 (n11) rfl rfl rfl rfl rfl (va0.isSome (by decide) hl23) (by omega)) rfl (Z18 3 rfl (by kernel_rfl) rfl (Z21 rfl rfl rfl (fun w m => va0.cell (More.of hΦ 0 m rfl) (u8s_at hx22))) rfl (Z18 4 rfl (by kernel_rfl) rfl (Z3 rfl) rfl (Z18 5 rfl (by kernel_rfl) rfl (Z3 rfl) rfl ?_)))
    obtain ⟨x24, hx25, hl14⟩ := Z102 hl14
    have hl26 := Z130 hx25
    refine Z18 6 rfl (by kernel_rfl) rfl (Z179 (n11) rfl rfl rfl rfl rfl (va1.isSome (by decide) hl26) (by omega)) rfl (Z18 7 rfl (by kernel_rfl) rfl (Z21 rfl rfl rfl (fun w m => va1.cell (More.of hΦ 0 m rfl) (u8s_at hx25))) rfl (Z18 8 rfl (by kernel_rfl) rfl (RV.neq8 rfl (by first | rfl | exact lit8 _ rfl) rfl (by first | rfl | exact lit8 _ rfl)) rfl (UW.nil (by kernel_rfl) (Z6 (Z1 ?_)))))
    by_cases h27 : x21 = x24
    ·replace hl14 := if_t hl14 h27
     refine Z14 rfl (congrArg (fun b => !b) (decide_eq_true h27)) (CW.skip (Z27 (Z1 (Z2 (Z0 (Z3 rfl) rfl (Z0 (RV.add rfl rfl (by omega)) rfl (Z7 (.int .i64 (((n11 + 1) : Nat) : Int)) (by first | rfl | (congr 1) | (congr 1; omega)) (Z0 (Z5 rfl) rfl (Z6 ?_)))))))))
     exact Z114 (k' := k13) (Nat.lt_succ_self _) ⟨(n11 + 1), hl14, (by omega), rfl, rfl⟩ ⟨rfl, rfl, rfl, trivial⟩ (fun w m => m.pick [] 0 rfl rfl)
    ·replace hl14 := if_f hl14 h27
     refine Z13 rfl (congrArg (fun b => !b) (decide_eq_false h27)) (Z4 (Z2 (Z0 (Z5 rfl) rfl (Z6 (Z1 (CW.ret (Z16 (Z8 (Z8 (Z16 (Z8 ?_)))))))))))
     have hc := Zi hl14
     subst hc
     try dsimp only at hf
     refine Z8 ?_
     have e0 := Zi hf
     subst e0
     refine Z108 (rs := [.tmp 4]) ([.bool false]) ([]) rfl ?_ rfl ?_ ?_ _ (.inl rfl)
     ·exact ⟨rfl, trivial⟩
     ·exact rfl
     ·exact (fun w m => m)
   ·replace hl14 := if_f hl14 h20
    refine Z14 rfl (decide_eq_false h20) (CW.exit (Z9 (Z9 (Z15 ?_))))
    exact QW.join ⟨(Zi hl14).symm, rfl, rfl⟩ trivial (fun w m => m.pick [] 0 rfl rfl)
 ·replace hf := if_f hf h3
  refine Z13 rfl (congrArg (fun b => !b) (decide_eq_false h3)) (Z4 (Z2 (Z0 (Z5 rfl) rfl (Z6 (Z1 (CW.ret (Z8 ?_)))))))
  have e0 := Zi hf
  subst e0
  refine Z108 (rs := [.tmp 4]) ([.bool false]) ([]) rfl ?_ rfl ?_ ?_ _ (.inl rfl)
  ·exact ⟨rfl, trivial⟩
  ·exact rfl
  ·exact (fun w m => m)
theorem waybillref19_zero_does (w0 : World) (Φ : Ctx) (N : List Ent) (hΦ : ∀ w, Mem w0 w N → Φ w) (cs0_ : List Value) (a0 : Hdr) (res0 : Bool) (ha0 : HdrRd Φ cs0_ a0) (hf : waybillref19_zero a0 = some res0) : DoesG Tryd.prog 55 [.agg cs0_.toArray] w0 [] N (fun v G => v = .bool res0) := by
 unfold waybillref19_zero at hf
 replace ha0 := HdrRd.mono (Ψ := More w0 Φ []) (fun w q => q.1) _ _ ha0
 have h6 := ha0
 obtain ⟨A1, c2, e5, v3, b4⟩ := HdrRd.opn ha0
 subst e5
 have m7 := v3.mx
 refine DoesG.enter Tryd.func55 rfl Tryd.ntmps55 rfl (M := (([] ++ N))) rfl (Z4 (Z2 (OW.boxA rfl rfl (fun b8 => (Z0 (Z5 rfl) rfl (Z6 (Z1 (Z4 (Z4 ?_)))))))))
 obtain ⟨q9, hq10, hf⟩ := Z102 hf
 refine Z120 (fun L' M' => ∃ p11 : Bool, q9 = p11 ∧ L' = [(1, ptr (some b8) 0), (33, .bool (p11))] ∧ M' = ((some b8, blk (⟨a0.parent, a0.uncles, a0.coinbase, a0.state, a0.txRoot, a0.receiptRoot, a0.bloom, a0.difficulty, a0.number, a0.limit, a0.used, a0.time, .slice A1 a0.extra.length c2, a0.mix, a0.nonce, a0.tail, a0.baseFee, a0.withdrawals, a0.blobUsed, a0.blobExcess, a0.beacon, a0.requests⟩ : HdrC).C 38) :: ([] ++ N))) ?_ ?_
 ·rintro L13 M14 ⟨p11, e12, e15, e16⟩
  rw [e15, e16]
  clear e15 e16 L13 M14
  clear hq10
  rw [e12] at hf
  clear e12
  try dsimp only at hf
  refine Z1 ?_
  by_cases h17 : p11 = true
  ·replace hf := if_t hf h17
   refine Z13 rfl (h17) (Z4 (Z2 (Z0 (Z5 rfl) rfl (Z6 (Z1 (CW.ret (Z8 ?_)))))))
   have e0 := Zi hf
   subst e0
   refine Z108 (rs := [.tmp 2]) ([.bool false]) ((some b8, blk (⟨a0.parent, a0.uncles, a0.coinbase, a0.state, a0.txRoot, a0.receiptRoot, a0.bloom, a0.difficulty, a0.number, a0.limit, a0.used, a0.time, .slice A1 a0.extra.length c2, a0.mix, a0.nonce, a0.tail, a0.baseFee, a0.withdrawals, a0.blobUsed, a0.blobExcess, a0.beacon, a0.requests⟩ : HdrC).C 38) :: []) rfl ?_ rfl ?_ ?_ _ (.inl rfl)
   ·exact ⟨rfl, trivial⟩
   ·exact rfl
   ·exact (fun w m => m)
  ·replace hf := if_f hf h17
   refine Z14 rfl (Bool.eq_false_iff.2 h17) (CW.skip (Z1 (Z4 ?_)))
   obtain ⟨q18, hq19, hf⟩ := Z102 hf
   refine Z120 (fun L' M' => ∃ p20 : Bool, q18 = p20 ∧ L' = [(2, .bool (p20))] ∧ M' = (([] ++ N))) ?_ ?_
   ·rintro L22 M23 ⟨p20, e21, e24, e25⟩
    rw [e24, e25]
    clear e24 e25 L22 M23
    clear hq19
    rw [e21] at hf
    clear e21
    try dsimp only at hf
    refine Z1 (CW.ret ?_)
    have e0 := Zi hf
    subst e0
    refine Z108 (rs := [.tmp 2]) ([.bool (p20)]) ([]) rfl ?_ rfl ?_ ?_ _ (.inl rfl)
    ·exact ⟨rfl, trivial⟩
    ·exact rfl
    ·exact (fun w m => m)
   ·skip
    refine Z2 (Z0 (Z30 rfl rfl rfl rfl) rfl (Z7 (ptr (some b8) 485) rfl (Z0 (Z29 rfl Zh rfl rfl rfl (Z122 (⟨a0.parent, a0.uncles, a0.coinbase, a0.state, a0.txRoot, a0.receiptRoot, a0.bloom, a0.difficulty, a0.number, a0.limit, a0.used, a0.time, .slice A1 a0.extra.length c2, a0.mix, a0.nonce, a0.tail, a0.baseFee, a0.withdrawals, a0.blobUsed, a0.blobExcess, a0.beacon, a0.requests⟩ : HdrC))) rfl (Z0 (RV.geq rfl rfl) rfl (Z0 (Z3 rfl) rfl ?_)))))
    by_cases h26 : (3 : Int) ≤ a0.tail
    ·replace hq19 := if_t hq19 h26
     refine Z7 (.bool true) (congrArg Value.bool (decide_eq_true h26)) (Z23 rfl rfl rfl (Z23 rfl rfl rfl (Z23 rfl rfl rfl (Z23 rfl rfl rfl (Z23 rfl rfl rfl (Z23 rfl rfl rfl (Z23 rfl rfl rfl ?_)))))))
     refine Z23 rfl rfl rfl (Z23 rfl rfl rfl (Z23 rfl rfl rfl (Z23 rfl rfl rfl (Z23 rfl rfl rfl (Z23 rfl rfl rfl (Z23 rfl rfl rfl (Z0 (Z105 rfl rfl rfl) rfl ?_)))))))
     refine Z0 (Z5 rfl) rfl (Z6 ?_)
     exact QW.join ⟨true, (Zi hq19).symm, rfl, rfl⟩ ⟨rfl, trivial⟩ (fun w m => m.pick [] 1 rfl rfl)
    ·replace hq19 := if_f hq19 h26
     refine Z7 (.bool false) (congrArg Value.bool (decide_eq_false h26)) (Z24 rfl (Z0 (Z30 rfl rfl rfl rfl) rfl (Z7 (ptr (some b8) 522) rfl (Z24 rfl (Z0 (Z29 rfl Zh rfl rfl rfl (Z167 (⟨a0.parent, a0.uncles, a0.coinbase, a0.state, a0.txRoot, a0.receiptRoot, a0.bloom, a0.difficulty, a0.number, a0.limit, a0.used, a0.time, .slice A1 a0.extra.length c2, a0.mix, a0.nonce, a0.tail, a0.baseFee, a0.withdrawals, a0.blobUsed, a0.blobExcess, a0.beacon, a0.requests⟩ : HdrC))) rfl (Z24 rfl (Z0 (RV.eql64 rfl (by first | rfl | exact lit64 _ rfl) rfl (by first | rfl | exact lit64 _ rfl)) rfl ?_)))))))
     refine Z24 rfl (Z0 (Z3 rfl) rfl ?_)
     by_cases h27 : a0.blobUsed = 0#64
     ·replace hq19 := if_t hq19 h27
      refine Z7 (.bool true) (congrArg Value.bool (decide_eq_true h27)) (Z24 rfl (Z0 (Z30 rfl rfl rfl rfl) rfl (Z7 (ptr (some b8) 523) rfl (Z24 rfl (Z0 (Z29 rfl Zh rfl rfl rfl (Z152 (⟨a0.parent, a0.uncles, a0.coinbase, a0.state, a0.txRoot, a0.receiptRoot, a0.bloom, a0.difficulty, a0.number, a0.limit, a0.used, a0.time, .slice A1 a0.extra.length c2, a0.mix, a0.nonce, a0.tail, a0.baseFee, a0.withdrawals, a0.blobUsed, a0.blobExcess, a0.beacon, a0.requests⟩ : HdrC))) rfl (Z24 rfl (Z0 (RV.eql64 rfl (by first | rfl | exact lit64 _ rfl) rfl (by first | rfl | exact lit64 _ rfl)) rfl ?_)))))))
      refine Z24 rfl (Z0 (Z105 rfl rfl rfl) rfl (Z24 rfl (Z0 (Z3 rfl) rfl ?_)))
      by_cases h28 : a0.blobExcess = 0#64
      ·replace hq19 := if_t hq19 h28
       refine Z7 (.bool true) (congrArg Value.bool (decide_eq_true h28)) (Z24 rfl (Z0 (Z30 rfl rfl rfl rfl) rfl (Z7 (ptr (some b8) 524) rfl (Z24 rfl (Z0 (Z113 rfl Zh rfl rfl rfl rfl (Z153 (⟨a0.parent, a0.uncles, a0.coinbase, a0.state, a0.txRoot, a0.receiptRoot, a0.bloom, a0.difficulty, a0.number, a0.limit, a0.used, a0.time, .slice A1 a0.extra.length c2, a0.mix, a0.nonce, a0.tail, a0.baseFee, a0.withdrawals, a0.blobUsed, a0.blobExcess, a0.beacon, a0.requests⟩ : HdrC)) ((Z100 _).trans Zv)) rfl (Z24 rfl (Z0 (Z180 (l := (u8s (Vector.replicate 32 0#8).toList)) rfl rfl rfl (by rw [Vector.toList_replicate, ← Z133]; rfl)) rfl ?_)))))))
       refine Z24 rfl (Z0 (RV.eqA8 rfl rfl rfl rfl rfl rfl (Zv) (Zv)) rfl (Z7 (.bool (decide (a0.beacon = (Vector.replicate 32 0#8)))) (congrArg Value.bool (decide_eq_decide.2 Vector.toList_inj)) (Z24 rfl (Z0 (Z105 rfl rfl rfl) rfl (Z0 (Z106 rfl rfl rfl) rfl (Z0 (Z5 rfl) rfl (Z6 ?_)))))))
       exact QW.join ⟨(decide (a0.beacon = (Vector.replicate 32 0#8))), (Zi hq19).symm, rfl, rfl⟩ ⟨rfl, trivial⟩ (fun w m => m.pick [] 1 rfl rfl)
      ·replace hq19 := if_f hq19 h28
       refine Z7 (.bool false) (congrArg Value.bool (decide_eq_false h28)) (Z23 rfl rfl rfl (Z23 rfl rfl rfl (Z23 rfl rfl rfl (Z23 rfl rfl rfl (Z24 rfl (Z0 (Z106 rfl rfl rfl) rfl (Z0 (Z106 rfl rfl rfl) rfl ?_)))))))
       refine Z0 (Z5 rfl) rfl (Z6 ?_)
       exact QW.join ⟨false, (Zi hq19).symm, rfl, rfl⟩ ⟨rfl, trivial⟩ (fun w m => m.pick [] 1 rfl rfl)
     ·replace hq19 := if_f hq19 h27
      refine Z7 (.bool false) (congrArg Value.bool (decide_eq_false h27)) (Z23 rfl rfl rfl (Z23 rfl rfl rfl (Z23 rfl rfl rfl (Z24 rfl (Z0 (Z106 rfl rfl rfl) rfl (Z24 rfl (Z0 (Z3 rfl) rfl ?_)))))))
      refine Z23 rfl rfl rfl (Z23 rfl rfl rfl (Z23 rfl rfl rfl (Z23 rfl rfl rfl (Z24 rfl (Z0 (Z106 rfl rfl rfl) rfl (Z0 (Z106 rfl rfl rfl) rfl (Z0 (Z5 rfl) rfl ?_)))))))
      refine Z6 ?_
      exact QW.join ⟨false, (Zi hq19).symm, rfl, rfl⟩ ⟨rfl, trivial⟩ (fun w m => m.pick [] 1 rfl rfl)
 ·skip
  refine Z2 (Z0 (Z30 rfl rfl rfl rfl) rfl (Z7 (ptr (some b8) 485) rfl (Z0 (Z29 rfl Zh rfl rfl rfl (Z122 (⟨a0.parent, a0.uncles, a0.coinbase, a0.state, a0.txRoot, a0.receiptRoot, a0.bloom, a0.difficulty, a0.number, a0.limit, a0.used, a0.time, .slice A1 a0.extra.length c2, a0.mix, a0.nonce, a0.tail, a0.baseFee, a0.withdrawals, a0.blobUsed, a0.blobExcess, a0.beacon, a0.requests⟩ : HdrC))) rfl (Z0 (RV.lss rfl rfl) rfl (Z0 (Z3 rfl) rfl ?_)))))
  by_cases h29 : a0.tail < (1 : Int)
  ·replace hq10 := if_t hq10 h29
   refine Z7 (.bool true) (congrArg Value.bool (decide_eq_true h29)) (Z24 rfl (Z0 (Z30 rfl rfl rfl rfl) rfl (Z7 (ptr (some b8) 486) rfl (Z24 rfl (Z0 (Z113 rfl Zh rfl rfl rfl rfl (Z146 (⟨a0.parent, a0.uncles, a0.coinbase, a0.state, a0.txRoot, a0.receiptRoot, a0.bloom, a0.difficulty, a0.number, a0.limit, a0.used, a0.time, .slice A1 a0.extra.length c2, a0.mix, a0.nonce, a0.tail, a0.baseFee, a0.withdrawals, a0.blobUsed, a0.blobExcess, a0.beacon, a0.requests⟩ : HdrC)) ((Z103 _).trans Zv)) rfl (Z24 rfl (Z0 (Z180 (l := (u64s (Vector.replicate 4 0#64).toList)) rfl rfl rfl (by rw [Vector.toList_replicate, ← Z145]; rfl)) rfl ?_)))))))
   refine Z24 rfl (Z0 (RV.neA64 rfl rfl rfl rfl rfl rfl (Zv) (Zv)) rfl (Z7 (.bool (!decide (a0.baseFee = (Vector.replicate 4 0#64)))) (congrArg (fun b => Value.bool (!b)) (decide_eq_decide.2 Vector.toList_inj)) (Z0 (Z105 rfl rfl rfl) rfl (Z0 (Z3 rfl) rfl ?_))))
   by_cases h30 : a0.baseFee = (Vector.replicate 4 0#64)
   ·replace hq10 := if_t hq10 h30
    refine Z7 (.bool false) (congrArg Value.bool (congrArg (fun b => !b) (decide_eq_true h30))) (Z24 rfl (Z0 (Z30 rfl rfl rfl rfl) rfl (Z7 (ptr (some b8) 485) rfl (Z24 rfl (Z0 (Z29 rfl Zh rfl rfl rfl (Z122 (⟨a0.parent, a0.uncles, a0.coinbase, a0.state, a0.txRoot, a0.receiptRoot, a0.bloom, a0.difficulty, a0.number, a0.limit, a0.used, a0.time, .slice A1 a0.extra.length c2, a0.mix, a0.nonce, a0.tail, a0.baseFee, a0.withdrawals, a0.blobUsed, a0.blobExcess, a0.beacon, a0.requests⟩ : HdrC))) rfl (Z24 rfl (Z0 (RV.lss rfl rfl) rfl ?_)))))))
    refine Z24 rfl (Z0 (Z3 rfl) rfl ?_)
    by_cases h31 : a0.tail < (2 : Int)
    ·replace hq10 := if_t hq10 h31
     refine Z7 (.bool true) (congrArg Value.bool (decide_eq_true h31)) (Z24 rfl (Z0 (Z30 rfl rfl rfl rfl) rfl (Z7 (ptr (some b8) 490) rfl (Z24 rfl (Z0 (Z113 rfl Zh rfl rfl rfl rfl (Z125 (⟨a0.parent, a0.uncles, a0.coinbase, a0.state, a0.txRoot, a0.receiptRoot, a0.bloom, a0.difficulty, a0.number, a0.limit, a0.used, a0.time, .slice A1 a0.extra.length c2, a0.mix, a0.nonce, a0.tail, a0.baseFee, a0.withdrawals, a0.blobUsed, a0.blobExcess, a0.beacon, a0.requests⟩ : HdrC)) ((Z100 _).trans Zv)) rfl (Z24 rfl (Z0 (Z180 (l := (u8s (Vector.replicate 32 0#8).toList)) rfl rfl rfl (by rw [Vector.toList_replicate, ← Z133]; rfl)) rfl ?_)))))))
     refine Z24 rfl (Z0 (RV.neA8 rfl rfl rfl rfl rfl rfl (Zv) (Zv)) rfl (Z7 (.bool (!decide (a0.withdrawals = (Vector.replicate 32 0#8)))) (congrArg (fun b => Value.bool (!b)) (decide_eq_decide.2 Vector.toList_inj)) (Z24 rfl (Z0 (Z105 rfl rfl rfl) rfl (Z0 (Z106 rfl rfl rfl) rfl (Z0 (Z3 rfl) rfl ?_))))))
     by_cases h32 : a0.withdrawals = (Vector.replicate 32 0#8)
     ·replace hq10 := if_t hq10 h32
      refine Z7 (.bool false) (congrArg Value.bool (congrArg (fun b => !b) (decide_eq_true h32))) (Z24 rfl (Z0 (Z30 rfl rfl rfl rfl) rfl (Z7 (ptr (some b8) 485) rfl (Z24 rfl (Z0 (Z29 rfl Zh rfl rfl rfl (Z122 (⟨a0.parent, a0.uncles, a0.coinbase, a0.state, a0.txRoot, a0.receiptRoot, a0.bloom, a0.difficulty, a0.number, a0.limit, a0.used, a0.time, .slice A1 a0.extra.length c2, a0.mix, a0.nonce, a0.tail, a0.baseFee, a0.withdrawals, a0.blobUsed, a0.blobExcess, a0.beacon, a0.requests⟩ : HdrC))) rfl (Z24 rfl (Z0 (RV.lss rfl rfl) rfl ?_)))))))
      refine Z24 rfl (Z0 (Z3 rfl) rfl ?_)
      by_cases h33 : a0.tail < (4 : Int)
      ·replace hq10 := if_t hq10 h33
       refine Z7 (.bool true) (congrArg Value.bool (decide_eq_true h33)) (Z24 rfl (Z0 (Z30 rfl rfl rfl rfl) rfl (Z7 (ptr (some b8) 556) rfl (Z24 rfl (Z0 (Z113 rfl Zh rfl rfl rfl rfl (Z123 (⟨a0.parent, a0.uncles, a0.coinbase, a0.state, a0.txRoot, a0.receiptRoot, a0.bloom, a0.difficulty, a0.number, a0.limit, a0.used, a0.time, .slice A1 a0.extra.length c2, a0.mix, a0.nonce, a0.tail, a0.baseFee, a0.withdrawals, a0.blobUsed, a0.blobExcess, a0.beacon, a0.requests⟩ : HdrC)) ((Z100 _).trans Zv)) rfl (Z24 rfl (Z0 (Z180 (l := (u8s (Vector.replicate 32 0#8).toList)) rfl rfl rfl (by rw [Vector.toList_replicate, ← Z133]; rfl)) rfl ?_)))))))
       refine Z24 rfl (Z0 (RV.neA8 rfl rfl rfl rfl rfl rfl (Zv) (Zv)) rfl (Z7 (.bool (!decide (a0.requests = (Vector.replicate 32 0#8)))) (congrArg (fun b => Value.bool (!b)) (decide_eq_decide.2 Vector.toList_inj)) (Z24 rfl (Z0 (Z105 rfl rfl rfl) rfl (Z0 (Z106 rfl rfl rfl) rfl (Z6 ?_))))))
       exact QW.join ⟨(!decide (a0.requests = (Vector.replicate 32 0#8))), (Zi hq10).symm, rfl, rfl⟩ ⟨rfl, rfl, trivial⟩ (fun w m => m.pick [0] 1 rfl rfl)
      ·replace hq10 := if_f hq10 h33
       refine Z7 (.bool false) (congrArg Value.bool (decide_eq_false h33)) (Z23 rfl rfl rfl (Z23 rfl rfl rfl (Z23 rfl rfl rfl (Z23 rfl rfl rfl (Z24 rfl (Z0 (Z106 rfl rfl rfl) rfl (Z0 (Z106 rfl rfl rfl) rfl ?_)))))))
       refine Z6 ?_
       exact QW.join ⟨false, (Zi hq10).symm, rfl, rfl⟩ ⟨rfl, rfl, trivial⟩ (fun w m => m.pick [0] 1 rfl rfl)
     ·replace hq10 := if_f hq10 h32
      refine Z7 (.bool true) (congrArg Value.bool (congrArg (fun b => !b) (decide_eq_false h32))) (Z23 rfl rfl rfl (Z23 rfl rfl rfl (Z23 rfl rfl rfl (Z23 rfl rfl rfl (Z23 rfl rfl rfl (Z23 rfl rfl rfl (Z23 rfl rfl rfl ?_)))))))
      refine Z23 rfl rfl rfl (Z23 rfl rfl rfl (Z0 (Z105 rfl rfl rfl) rfl (Z6 ?_)))
      exact QW.join ⟨true, (Zi hq10).symm, rfl, rfl⟩ ⟨rfl, rfl, trivial⟩ (fun w m => m.pick [0] 1 rfl rfl)
    ·replace hq10 := if_f hq10 h31
     refine Z7 (.bool false) (congrArg Value.bool (decide_eq_false h31)) (Z23 rfl rfl rfl (Z23 rfl rfl rfl (Z23 rfl rfl rfl (Z23 rfl rfl rfl (Z24 rfl (Z0 (Z106 rfl rfl rfl) rfl (Z0 (Z106 rfl rfl rfl) rfl ?_)))))))
     refine Z0 (Z3 rfl) rfl (Z24 rfl (Z0 (Z30 rfl rfl rfl rfl) rfl (Z7 (ptr (some b8) 485) rfl (Z24 rfl (Z0 (Z29 rfl Zh rfl rfl rfl (Z122 (⟨a0.parent, a0.uncles, a0.coinbase, a0.state, a0.txRoot, a0.receiptRoot, a0.bloom, a0.difficulty, a0.number, a0.limit, a0.used, a0.time, .slice A1 a0.extra.length c2, a0.mix, a0.nonce, a0.tail, a0.baseFee, a0.withdrawals, a0.blobUsed, a0.blobExcess, a0.beacon, a0.requests⟩ : HdrC))) rfl (Z24 rfl (Z0 (RV.lss rfl rfl) rfl ?_)))))))
     refine Z24 rfl (Z0 (Z3 rfl) rfl ?_)
     by_cases h34 : a0.tail < (4 : Int)
     ·replace hq10 := if_t hq10 h34
      refine Z7 (.bool true) (congrArg Value.bool (decide_eq_true h34)) (Z24 rfl (Z0 (Z30 rfl rfl rfl rfl) rfl (Z7 (ptr (some b8) 556) rfl (Z24 rfl (Z0 (Z113 rfl Zh rfl rfl rfl rfl (Z123 (⟨a0.parent, a0.uncles, a0.coinbase, a0.state, a0.txRoot, a0.receiptRoot, a0.bloom, a0.difficulty, a0.number, a0.limit, a0.used, a0.time, .slice A1 a0.extra.length c2, a0.mix, a0.nonce, a0.tail, a0.baseFee, a0.withdrawals, a0.blobUsed, a0.blobExcess, a0.beacon, a0.requests⟩ : HdrC)) ((Z100 _).trans Zv)) rfl (Z24 rfl (Z0 (Z180 (l := (u8s (Vector.replicate 32 0#8).toList)) rfl rfl rfl (by rw [Vector.toList_replicate, ← Z133]; rfl)) rfl ?_)))))))
      refine Z24 rfl (Z0 (RV.neA8 rfl rfl rfl rfl rfl rfl (Zv) (Zv)) rfl (Z7 (.bool (!decide (a0.requests = (Vector.replicate 32 0#8)))) (congrArg (fun b => Value.bool (!b)) (decide_eq_decide.2 Vector.toList_inj)) (Z24 rfl (Z0 (Z105 rfl rfl rfl) rfl (Z0 (Z106 rfl rfl rfl) rfl (Z6 ?_))))))
      exact QW.join ⟨(!decide (a0.requests = (Vector.replicate 32 0#8))), (Zi hq10).symm, rfl, rfl⟩ ⟨rfl, rfl, trivial⟩ (fun w m => m.pick [0] 1 rfl rfl)
     ·replace hq10 := if_f hq10 h34
      refine Z7 (.bool false) (congrArg Value.bool (decide_eq_false h34)) (Z23 rfl rfl rfl (Z23 rfl rfl rfl (Z23 rfl rfl rfl (Z23 rfl rfl rfl (Z24 rfl (Z0 (Z106 rfl rfl rfl) rfl (Z0 (Z106 rfl rfl rfl) rfl ?_)))))))
      refine Z6 ?_
      exact QW.join ⟨false, (Zi hq10).symm, rfl, rfl⟩ ⟨rfl, rfl, trivial⟩ (fun w m => m.pick [0] 1 rfl rfl)
   ·replace hq10 := if_f hq10 h30
    refine Z7 (.bool true) (congrArg Value.bool (congrArg (fun b => !b) (decide_eq_false h30))) (Z23 rfl rfl rfl (Z23 rfl rfl rfl (Z23 rfl rfl rfl (Z23 rfl rfl rfl (Z23 rfl rfl rfl (Z23 rfl rfl rfl (Z23 rfl rfl rfl ?_)))))))
    refine Z23 rfl rfl rfl (Z23 rfl rfl rfl (Z0 (Z105 rfl rfl rfl) rfl (Z0 (Z3 rfl) rfl (Z23 rfl rfl rfl (Z23 rfl rfl rfl (Z23 rfl rfl rfl (Z23 rfl rfl rfl ?_)))))))
    refine Z23 rfl rfl rfl (Z23 rfl rfl rfl (Z23 rfl rfl rfl (Z23 rfl rfl rfl (Z23 rfl rfl rfl (Z0 (Z105 rfl rfl rfl) rfl (Z6 ?_))))))
    exact QW.join ⟨true, (Zi hq10).symm, rfl, rfl⟩ ⟨rfl, rfl, trivial⟩ (fun w m => m.pick [0] 1 rfl rfl)
  ·replace hq10 := if_f hq10 h29
   refine Z7 (.bool false) (congrArg Value.bool (decide_eq_false h29)) (Z23 rfl rfl rfl (Z23 rfl rfl rfl (Z23 rfl rfl rfl (Z23 rfl rfl rfl (Z0 (Z106 rfl rfl rfl) rfl (Z0 (Z3 rfl) rfl (Z24 rfl ?_)))))))
   refine Z0 (Z30 rfl rfl rfl rfl) rfl (Z7 (ptr (some b8) 485) rfl (Z24 rfl (Z0 (Z29 rfl Zh rfl rfl rfl (Z122 (⟨a0.parent, a0.uncles, a0.coinbase, a0.state, a0.txRoot, a0.receiptRoot, a0.bloom, a0.difficulty, a0.number, a0.limit, a0.used, a0.time, .slice A1 a0.extra.length c2, a0.mix, a0.nonce, a0.tail, a0.baseFee, a0.withdrawals, a0.blobUsed, a0.blobExcess, a0.beacon, a0.requests⟩ : HdrC))) rfl (Z24 rfl (Z0 (RV.lss rfl rfl) rfl (Z24 rfl (Z0 (Z3 rfl) rfl ?_)))))))
   by_cases h35 : a0.tail < (2 : Int)
   ·replace hq10 := if_t hq10 h35
    refine Z7 (.bool true) (congrArg Value.bool (decide_eq_true h35)) (Z24 rfl (Z0 (Z30 rfl rfl rfl rfl) rfl (Z7 (ptr (some b8) 490) rfl (Z24 rfl (Z0 (Z113 rfl Zh rfl rfl rfl rfl (Z125 (⟨a0.parent, a0.uncles, a0.coinbase, a0.state, a0.txRoot, a0.receiptRoot, a0.bloom, a0.difficulty, a0.number, a0.limit, a0.used, a0.time, .slice A1 a0.extra.length c2, a0.mix, a0.nonce, a0.tail, a0.baseFee, a0.withdrawals, a0.blobUsed, a0.blobExcess, a0.beacon, a0.requests⟩ : HdrC)) ((Z100 _).trans Zv)) rfl (Z24 rfl (Z0 (Z180 (l := (u8s (Vector.replicate 32 0#8).toList)) rfl rfl rfl (by rw [Vector.toList_replicate, ← Z133]; rfl)) rfl ?_)))))))
    refine Z24 rfl (Z0 (RV.neA8 rfl rfl rfl rfl rfl rfl (Zv) (Zv)) rfl (Z7 (.bool (!decide (a0.withdrawals = (Vector.replicate 32 0#8)))) (congrArg (fun b => Value.bool (!b)) (decide_eq_decide.2 Vector.toList_inj)) (Z24 rfl (Z0 (Z105 rfl rfl rfl) rfl (Z0 (Z106 rfl rfl rfl) rfl (Z0 (Z3 rfl) rfl ?_))))))
    by_cases h36 : a0.withdrawals = (Vector.replicate 32 0#8)
    ·replace hq10 := if_t hq10 h36
     refine Z7 (.bool false) (congrArg Value.bool (congrArg (fun b => !b) (decide_eq_true h36))) (Z24 rfl (Z0 (Z30 rfl rfl rfl rfl) rfl (Z7 (ptr (some b8) 485) rfl (Z24 rfl (Z0 (Z29 rfl Zh rfl rfl rfl (Z122 (⟨a0.parent, a0.uncles, a0.coinbase, a0.state, a0.txRoot, a0.receiptRoot, a0.bloom, a0.difficulty, a0.number, a0.limit, a0.used, a0.time, .slice A1 a0.extra.length c2, a0.mix, a0.nonce, a0.tail, a0.baseFee, a0.withdrawals, a0.blobUsed, a0.blobExcess, a0.beacon, a0.requests⟩ : HdrC))) rfl (Z24 rfl (Z0 (RV.lss rfl rfl) rfl ?_)))))))
     refine Z24 rfl (Z0 (Z3 rfl) rfl ?_)
     by_cases h37 : a0.tail < (4 : Int)
     ·replace hq10 := if_t hq10 h37
      refine Z7 (.bool true) (congrArg Value.bool (decide_eq_true h37)) (Z24 rfl (Z0 (Z30 rfl rfl rfl rfl) rfl (Z7 (ptr (some b8) 556) rfl (Z24 rfl (Z0 (Z113 rfl Zh rfl rfl rfl rfl (Z123 (⟨a0.parent, a0.uncles, a0.coinbase, a0.state, a0.txRoot, a0.receiptRoot, a0.bloom, a0.difficulty, a0.number, a0.limit, a0.used, a0.time, .slice A1 a0.extra.length c2, a0.mix, a0.nonce, a0.tail, a0.baseFee, a0.withdrawals, a0.blobUsed, a0.blobExcess, a0.beacon, a0.requests⟩ : HdrC)) ((Z100 _).trans Zv)) rfl (Z24 rfl (Z0 (Z180 (l := (u8s (Vector.replicate 32 0#8).toList)) rfl rfl rfl (by rw [Vector.toList_replicate, ← Z133]; rfl)) rfl ?_)))))))
      refine Z24 rfl (Z0 (RV.neA8 rfl rfl rfl rfl rfl rfl (Zv) (Zv)) rfl (Z7 (.bool (!decide (a0.requests = (Vector.replicate 32 0#8)))) (congrArg (fun b => Value.bool (!b)) (decide_eq_decide.2 Vector.toList_inj)) (Z24 rfl (Z0 (Z105 rfl rfl rfl) rfl (Z0 (Z106 rfl rfl rfl) rfl (Z6 ?_))))))
      exact QW.join ⟨(!decide (a0.requests = (Vector.replicate 32 0#8))), (Zi hq10).symm, rfl, rfl⟩ ⟨rfl, rfl, trivial⟩ (fun w m => m.pick [0] 1 rfl rfl)
     ·replace hq10 := if_f hq10 h37
      refine Z7 (.bool false) (congrArg Value.bool (decide_eq_false h37)) (Z23 rfl rfl rfl (Z23 rfl rfl rfl (Z23 rfl rfl rfl (Z23 rfl rfl rfl (Z24 rfl (Z0 (Z106 rfl rfl rfl) rfl (Z0 (Z106 rfl rfl rfl) rfl ?_)))))))
      refine Z6 ?_
      exact QW.join ⟨false, (Zi hq10).symm, rfl, rfl⟩ ⟨rfl, rfl, trivial⟩ (fun w m => m.pick [0] 1 rfl rfl)
    ·replace hq10 := if_f hq10 h36
     refine Z7 (.bool true) (congrArg Value.bool (congrArg (fun b => !b) (decide_eq_false h36))) (Z23 rfl rfl rfl (Z23 rfl rfl rfl (Z23 rfl rfl rfl (Z23 rfl rfl rfl (Z23 rfl rfl rfl (Z23 rfl rfl rfl (Z23 rfl rfl rfl ?_)))))))
     refine Z23 rfl rfl rfl (Z23 rfl rfl rfl (Z0 (Z105 rfl rfl rfl) rfl (Z6 ?_)))
     exact QW.join ⟨true, (Zi hq10).symm, rfl, rfl⟩ ⟨rfl, rfl, trivial⟩ (fun w m => m.pick [0] 1 rfl rfl)
   ·replace hq10 := if_f hq10 h35
    refine Z7 (.bool false) (congrArg Value.bool (decide_eq_false h35)) (Z23 rfl rfl rfl (Z23 rfl rfl rfl (Z23 rfl rfl rfl (Z23 rfl rfl rfl (Z24 rfl (Z0 (Z106 rfl rfl rfl) rfl (Z0 (Z106 rfl rfl rfl) rfl ?_)))))))
    refine Z0 (Z3 rfl) rfl (Z24 rfl (Z0 (Z30 rfl rfl rfl rfl) rfl (Z7 (ptr (some b8) 485) rfl (Z24 rfl (Z0 (Z29 rfl Zh rfl rfl rfl (Z122 (⟨a0.parent, a0.uncles, a0.coinbase, a0.state, a0.txRoot, a0.receiptRoot, a0.bloom, a0.difficulty, a0.number, a0.limit, a0.used, a0.time, .slice A1 a0.extra.length c2, a0.mix, a0.nonce, a0.tail, a0.baseFee, a0.withdrawals, a0.blobUsed, a0.blobExcess, a0.beacon, a0.requests⟩ : HdrC))) rfl (Z24 rfl (Z0 (RV.lss rfl rfl) rfl ?_)))))))
    refine Z24 rfl (Z0 (Z3 rfl) rfl ?_)
    by_cases h38 : a0.tail < (4 : Int)
    ·replace hq10 := if_t hq10 h38
     refine Z7 (.bool true) (congrArg Value.bool (decide_eq_true h38)) (Z24 rfl (Z0 (Z30 rfl rfl rfl rfl) rfl (Z7 (ptr (some b8) 556) rfl (Z24 rfl (Z0 (Z113 rfl Zh rfl rfl rfl rfl (Z123 (⟨a0.parent, a0.uncles, a0.coinbase, a0.state, a0.txRoot, a0.receiptRoot, a0.bloom, a0.difficulty, a0.number, a0.limit, a0.used, a0.time, .slice A1 a0.extra.length c2, a0.mix, a0.nonce, a0.tail, a0.baseFee, a0.withdrawals, a0.blobUsed, a0.blobExcess, a0.beacon, a0.requests⟩ : HdrC)) ((Z100 _).trans Zv)) rfl (Z24 rfl (Z0 (Z180 (l := (u8s (Vector.replicate 32 0#8).toList)) rfl rfl rfl (by rw [Vector.toList_replicate, ← Z133]; rfl)) rfl ?_)))))))
     refine Z24 rfl (Z0 (RV.neA8 rfl rfl rfl rfl rfl rfl (Zv) (Zv)) rfl (Z7 (.bool (!decide (a0.requests = (Vector.replicate 32 0#8)))) (congrArg (fun b => Value.bool (!b)) (decide_eq_decide.2 Vector.toList_inj)) (Z24 rfl (Z0 (Z105 rfl rfl rfl) rfl (Z0 (Z106 rfl rfl rfl) rfl (Z6 ?_))))))
     exact QW.join ⟨(!decide (a0.requests = (Vector.replicate 32 0#8))), (Zi hq10).symm, rfl, rfl⟩ ⟨rfl, rfl, trivial⟩ (fun w m => m.pick [0] 1 rfl rfl)
    ·replace hq10 := if_f hq10 h38
     refine Z7 (.bool false) (congrArg Value.bool (decide_eq_false h38)) (Z23 rfl rfl rfl (Z23 rfl rfl rfl (Z23 rfl rfl rfl (Z23 rfl rfl rfl (Z24 rfl (Z0 (Z106 rfl rfl rfl) rfl (Z0 (Z106 rfl rfl rfl) rfl ?_)))))))
     refine Z6 ?_
     exact QW.join ⟨false, (Zi hq10).symm, rfl, rfl⟩ ⟨rfl, rfl, trivial⟩ (fun w m => m.pick [0] 1 rfl rfl)
theorem waybillref19_Check_does (w0 : World) (Φ : Ctx) (N : List Ent) (hΦ : ∀ w, Mem w0 w N → Φ w) (cs0_ : List Value) (a0 : Hdr) (res0 : Nat) (ha0 : HdrRd Φ cs0_ a0) (hf : waybillref19_Check a0 = some res0) : DoesG Tryd.prog 21 [.agg cs0_.toArray] w0 [] N (fun v G => (res0 ≤ 9223372036854775807) ∧ v = .int .i64 ((res0 : Nat) : Int)) := by
 unfold waybillref19_Check at hf
 replace ha0 := HdrRd.mono (Ψ := More w0 Φ []) (fun w q => q.1) _ _ ha0
 have h6 := ha0
 obtain ⟨A1, c2, e5, v3, b4⟩ := HdrRd.opn ha0
 subst e5
 have m7 := v3.mx
 refine DoesG.enter Tryd.func21 rfl Tryd.ntmps21 rfl (M := (([] ++ N))) rfl (Z4 (Z2 (OW.boxA rfl rfl (fun b8 => (Z0 (Z5 rfl) rfl (Z6 (Z1 (Z4 (Z4 ?_)))))))))
 obtain ⟨q9, hq10, hf⟩ := Z102 hf
 refine Z120 (fun L' M' => ∃ p11 : Bool, q9 = p11 ∧ L' = [(1, ptr (some b8) 0), (11, .bool (p11))] ∧ M' = ((some b8, blk (⟨a0.parent, a0.uncles, a0.coinbase, a0.state, a0.txRoot, a0.receiptRoot, a0.bloom, a0.difficulty, a0.number, a0.limit, a0.used, a0.time, .slice A1 a0.extra.length c2, a0.mix, a0.nonce, a0.tail, a0.baseFee, a0.withdrawals, a0.blobUsed, a0.blobExcess, a0.beacon, a0.requests⟩ : HdrC).C 38) :: ([] ++ N))) ?_ ?_
 ·rintro L13 M14 ⟨p11, e12, e15, e16⟩
  rw [e15, e16]
  clear e15 e16 L13 M14
  clear hq10
  rw [e12] at hf
  clear e12
  try dsimp only at hf
  refine Z1 ?_
  by_cases h17 : p11 = true
  ·replace hf := if_t hf h17
   refine Z13 rfl (h17) (Z4 (Z2 (Z0 (Z5 rfl) rfl (Z6 (Z1 (CW.ret (Z8 ?_)))))))
   have e0 := Zi hf
   subst e0
   refine Z108 (rs := [.tmp 2]) ([.int .i64 (191 : Int)]) ((some b8, blk (⟨a0.parent, a0.uncles, a0.coinbase, a0.state, a0.txRoot, a0.receiptRoot, a0.bloom, a0.difficulty, a0.number, a0.limit, a0.used, a0.time, .slice A1 a0.extra.length c2, a0.mix, a0.nonce, a0.tail, a0.baseFee, a0.withdrawals, a0.blobUsed, a0.blobExcess, a0.beacon, a0.requests⟩ : HdrC).C 38) :: []) rfl ?_ rfl ?_ ?_ _ (.inl rfl)
   ·exact ⟨rfl, trivial⟩
   ·exact ⟨(by omega), rfl⟩
   ·exact (fun w m => m)
  ·replace hf := if_f hf h17
   refine Z14 rfl (Bool.eq_false_iff.2 h17) (CW.skip (Z1 (Z4 (Z2 (Z0 (Z22 rfl Zh rfl rfl rfl rfl (HdrC.C_length _)) rfl ?_)))))
   obtain ⟨x19, hx18, hf⟩ := Z102 hf
   refine Z12 Tryd.call55 rfl (waybillref19_zero_does w0 (More w0 Φ []) ((some b8, blk (⟨a0.parent, a0.uncles, a0.coinbase, a0.state, a0.txRoot, a0.receiptRoot, a0.bloom, a0.difficulty, a0.number, a0.limit, a0.used, a0.time, .slice A1 a0.extra.length c2, a0.mix, a0.nonce, a0.tail, a0.baseFee, a0.withdrawals, a0.blobUsed, a0.blobExcess, a0.beacon, a0.requests⟩ : HdrC).C 38) :: ([] ++ N)) (fun w m => More.of hΦ 1 m rfl) (⟨a0.parent, a0.uncles, a0.coinbase, a0.state, a0.txRoot, a0.receiptRoot, a0.bloom, a0.difficulty, a0.number, a0.limit, a0.used, a0.time, .slice A1 a0.extra.length c2, a0.mix, a0.nonce, a0.tail, a0.baseFee, a0.withdrawals, a0.blobUsed, a0.blobExcess, a0.beacon, a0.requests⟩ : HdrC).C a0 x19 h6 hx18) rfl rfl ?_
   rintro _ G20 rfl
   refine Z20 (M' := ((some b8, blk (⟨a0.parent, a0.uncles, a0.coinbase, a0.state, a0.txRoot, a0.receiptRoot, a0.bloom, a0.difficulty, a0.number, a0.limit, a0.used, a0.time, .slice A1 a0.extra.length c2, a0.mix, a0.nonce, a0.tail, a0.baseFee, a0.withdrawals, a0.blobUsed, a0.blobExcess, a0.beacon, a0.requests⟩ : HdrC).C 38) :: ([] ++ N))) (fun w m => m.appR) (Z0 (Z5 rfl) rfl (Z6 (Z1 (Z4 (Z4 (Z2 (Z0 (Z3 rfl) rfl (Z0 (RV.not rfl) rfl (Z6 (Z1 ?_))))))))))
   by_cases h22 : x19 = true
   ·replace hf := if_t hf h22
    refine Z14 rfl (congrArg (fun b => !b) (h22)) (CW.skip (Z1 (Z4 (Z4 (Z2 (Z0 (Z30 rfl rfl rfl rfl) rfl (Z7 (ptr (some b8) 444) rfl (Z0 (Z29 rfl Zh rfl rfl rfl (Z138 (⟨a0.parent, a0.uncles, a0.coinbase, a0.state, a0.txRoot, a0.receiptRoot, a0.bloom, a0.difficulty, a0.number, a0.limit, a0.used, a0.time, .slice A1 a0.extra.length c2, a0.mix, a0.nonce, a0.tail, a0.baseFee, a0.withdrawals, a0.blobUsed, a0.blobExcess, a0.beacon, a0.requests⟩ : HdrC))) rfl (Z0 (RV.len rfl rfl) rfl (Z0 (RV.gtr rfl rfl) rfl (Z7 (.bool (decide (32 < a0.extra.length))) (congrArg Value.bool (decide_eq_decide.2 (by omega))) ?_)))))))))))
    refine Z6 (Z1 ?_)
    by_cases h23 : 32 < a0.extra.length
    ·replace hf := if_t hf h23
     refine Z13 rfl (decide_eq_true h23) (Z4 (Z2 (Z0 (Z5 rfl) rfl (Z6 (Z1 (CW.ret (Z8 ?_)))))))
     have e0 := Zi hf
     subst e0
     refine Z108 (rs := [.tmp 2]) ([.int .i64 (192 : Int)]) ((some b8, blk (⟨a0.parent, a0.uncles, a0.coinbase, a0.state, a0.txRoot, a0.receiptRoot, a0.bloom, a0.difficulty, a0.number, a0.limit, a0.used, a0.time, .slice A1 a0.extra.length c2, a0.mix, a0.nonce, a0.tail, a0.baseFee, a0.withdrawals, a0.blobUsed, a0.blobExcess, a0.beacon, a0.requests⟩ : HdrC).C 38) :: []) rfl ?_ rfl ?_ ?_ _ (.inl rfl)
     ·exact ⟨rfl, trivial⟩
     ·exact ⟨(by omega), rfl⟩
     ·exact (fun w m => m)
    ·replace hf := if_f hf h23
     refine Z14 rfl (decide_eq_false h23) (CW.skip (Z1 (Z4 (Z2 (Z0 (Z5 rfl) rfl (Z6 (Z1 (CW.ret ?_))))))))
     have e0 := Zi hf
     subst e0
     refine Z108 (rs := [.tmp 2]) ([.int .i64 (0 : Int)]) ((some b8, blk (⟨a0.parent, a0.uncles, a0.coinbase, a0.state, a0.txRoot, a0.receiptRoot, a0.bloom, a0.difficulty, a0.number, a0.limit, a0.used, a0.time, .slice A1 a0.extra.length c2, a0.mix, a0.nonce, a0.tail, a0.baseFee, a0.withdrawals, a0.blobUsed, a0.blobExcess, a0.beacon, a0.requests⟩ : HdrC).C 38) :: []) rfl ?_ rfl ?_ ?_ _ (.inl rfl)
     ·exact ⟨rfl, trivial⟩
     ·exact ⟨(by omega), rfl⟩
     ·exact (fun w m => m)
   ·replace hf := if_f hf h22
    refine Z13 rfl (congrArg (fun b => !b) (Bool.eq_false_iff.2 h22)) (Z4 (Z2 (Z0 (Z5 rfl) rfl (Z6 (Z1 (CW.ret (Z8 ?_)))))))
    have e0 := Zi hf
    subst e0
    refine Z108 (rs := [.tmp 2]) ([.int .i64 (191 : Int)]) ((some b8, blk (⟨a0.parent, a0.uncles, a0.coinbase, a0.state, a0.txRoot, a0.receiptRoot, a0.bloom, a0.difficulty, a0.number, a0.limit, a0.used, a0.time, .slice A1 a0.extra.length c2, a0.mix, a0.nonce, a0.tail, a0.baseFee, a0.withdrawals, a0.blobUsed, a0.blobExcess, a0.beacon, a0.requests⟩ : HdrC).C 38) :: []) rfl ?_ rfl ?_ ?_ _ (.inl rfl)
    ·exact ⟨rfl, trivial⟩
    ·exact ⟨(by omega), rfl⟩
    ·exact (fun w m => m)
 ·skip
  refine Z2 (Z0 (Z30 rfl rfl rfl rfl) rfl (Z7 (ptr (some b8) 485) rfl (Z0 (Z29 rfl Zh rfl rfl rfl (Z122 (⟨a0.parent, a0.uncles, a0.coinbase, a0.state, a0.txRoot, a0.receiptRoot, a0.bloom, a0.difficulty, a0.number, a0.limit, a0.used, a0.time, .slice A1 a0.extra.length c2, a0.mix, a0.nonce, a0.tail, a0.baseFee, a0.withdrawals, a0.blobUsed, a0.blobExcess, a0.beacon, a0.requests⟩ : HdrC))) rfl (Z0 (RV.lss rfl rfl) rfl (Z0 (Z3 rfl) rfl ?_)))))
  by_cases h24 : a0.tail < (0 : Int)
  ·replace hq10 := if_t hq10 h24
   refine Z7 (.bool true) (congrArg Value.bool (decide_eq_true h24)) (Z23 rfl rfl rfl (Z23 rfl rfl rfl (Z23 rfl rfl rfl (Z0 (Z105 rfl rfl rfl) rfl (Z6 ?_)))))
   exact QW.join ⟨true, (Zi hq10).symm, rfl, rfl⟩ ⟨rfl, rfl, trivial⟩ (fun w m => m.pick [0] 1 rfl rfl)
  ·replace hq10 := if_f hq10 h24
   refine Z7 (.bool false) (congrArg Value.bool (decide_eq_false h24)) (Z24 rfl (Z0 (Z30 rfl rfl rfl rfl) rfl (Z7 (ptr (some b8) 485) rfl (Z24 rfl (Z0 (Z29 rfl Zh rfl rfl rfl (Z122 (⟨a0.parent, a0.uncles, a0.coinbase, a0.state, a0.txRoot, a0.receiptRoot, a0.bloom, a0.difficulty, a0.number, a0.limit, a0.used, a0.time, .slice A1 a0.extra.length c2, a0.mix, a0.nonce, a0.tail, a0.baseFee, a0.withdrawals, a0.blobUsed, a0.blobExcess, a0.beacon, a0.requests⟩ : HdrC))) rfl (Z24 rfl (Z0 (RV.gtr rfl rfl) rfl ?_)))))))
   refine Z0 (Z106 rfl rfl rfl) rfl (Z6 ?_)
   exact QW.join ⟨(decide ((4 : Int) < a0.tail)), (Zi hq10).symm, rfl, rfl⟩ ⟨rfl, rfl, trivial⟩ (fun w m => m.pick [0] 1 rfl rfl)
theorem Z117 (w0 : World) (Φ : Ctx) (N : List Ent) (hΦ : ∀ w, Mem w0 w N → Φ w) (a0 : Vector (BitVec 8) 32) (res0 : It) (hf : waybillref19_hash a0 = some res0) : DoesG Tryd.prog 58 [.agg (u8s a0.toList).toArray] w0 [] N (fun v G => ∃ B : List Ent, ∃ cr0 : List Value, (ItRd (More w0 Φ B) cr0 res0) ∧ v = .agg cr0.toArray ∧ G = B) := by
 unfold waybillref19_hash at hf
 refine DoesG.enter Tryd.func58 rfl Tryd.ntmps58 rfl (M := (([] ++ N))) rfl (Z4 (Z2 (OW.boxA rfl rfl (fun b1 => (OW.alloc (l := [.bool false, .slice none 0 0, .slice none 0 0]) rfl rfl rfl (fun b2 => (Z6 (Z1 (Z4 (Z2 (Z20 (M' := (some b2, blk [.bool false, .slice none 0 0, .slice none 0 0] 25) :: (((some b1, blk (u8s a0.toList) 28) :: []) ++ N)) (fun w m => m.pick [0, 1] 2 rfl rfl) ?_)))))))))))
 have v3 : View (More w0 Φ ((some b1, blk (u8s a0.toList) 28) :: [])) (some ⟨b1, 0, none⟩) a0.toList.length 32 1 (u8s a0.toList) := View.arr (w0 := w0) (te := 28) (fun w q => q.2.sublist (List.singleton_sublist.2 (List.mem_cons_self ..))) (by decide)
 refine Z0 (Z139 rfl rfl rfl) rfl ?_
 refine Z7 (.slice (some ⟨b1, 0, none⟩) a0.toList.length 32) (by rw [Zv]; try rfl) ?_
 have v4 := v3
 have m5 := v4.mx
 obtain ⟨x7, hx6, hf⟩ := Z102 hf
 refine Z12 Tryd.call59 rfl (Z132 w0 (More w0 Φ ((some b1, blk (u8s a0.toList) 28) :: [])) ((some b2, blk [.bool false, .slice none 0 0, .slice none 0 0] 25) :: (((some b1, blk (u8s a0.toList) 28) :: []) ++ N)) (fun w m => More.of hΦ 1 m rfl) (some ⟨b1, 0, none⟩) 32 a0.toList x7 v4 hx6) rfl rfl ?_
 rintro L11 M12 ⟨B8, cs9, h10, e13, e14⟩
 rw [e13, e14]
 clear e13 e14 L11 M12
 refine Z20 (M' := ((some b2, blk [.bool false, .slice none 0 0, .slice none 0 0] 25) :: ((B8 ++ ((some b1, blk (u8s a0.toList) 28) :: [])) ++ N))) (fun w m => by have h := Z110 (A := B8) m 0 1 rfl rfl; exact h) ?_
 have gq1 : ∀ w, More w0 Φ (B8 ++ ((some b1, blk (u8s a0.toList) 28) :: [])) w → More w0 Φ ((some b1, blk (u8s a0.toList) 28) :: []) w := fun w q => More.mono (fun w m => (m).appR) q
 replace v4 := v4.mono gq1
 replace h10 := ItRd.mono (Ψ := (More w0 Φ (B8 ++ ((some b1, blk (u8s a0.toList) 28) :: [])))) (fun w q => More.flat q) _ _ h10
 have h24 := h10
 obtain ⟨A15, c16, A18, c19, cs21, e23, v17, v20, h22⟩ := ItRd.opn h10
 subst e23
 have m25 := v17.mx
 have m26 := v20.mx
 have m27 := v17.mx
 have m28 := v20.mx
 refine Z28 (Z109 rfl rfl rfl (by intro u hu; simp at hu; rcases hu with rfl | rfl | rfl <;> rfl) rfl rfl rfl) ?_
 refine Z6 (Z1 (CW.ret ?_))
 have e0 := Zi hf
 subst e0
 refine Z108 (rs := [.cell 2 25]) ([.agg [.bool (x7.list), .slice A15 x7.data.length c16, .slice A18 x7.items.length c19].toArray]) ((B8 ++ ((some b1, blk (u8s a0.toList) 28) :: []))) rfl ?_ rfl ?_ ?_ _ (.inl rfl)
 ·exact ⟨⟨_, _, _, _, rfl, Zh, rfl, rfl, rfl, rfl⟩, trivial⟩
 ·exact ⟨(B8 ++ ((some b1, blk (u8s a0.toList) 28) :: [])), [.bool (x7.list), .slice A15 x7.data.length c16, .slice A18 x7.items.length c19], h24, rfl, rfl⟩
 ·exact (fun w m => m.pick [] 1 rfl rfl)
end Go.Fw.Tryd
