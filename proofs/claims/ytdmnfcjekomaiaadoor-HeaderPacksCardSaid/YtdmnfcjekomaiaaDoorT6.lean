/- Part of a proof: rules that its law uses. -/
import Derived.Test.YtdmnfcjekomaiaaDoorT5
set_option linter.unusedVariables false
set_option linter.unusedSimpArgs false
set_option linter.unusedSectionVars false
set_option maxRecDepth 100000
set_option maxHeartbeats 1000000
namespace Go.Fw.Tryd
open Go Go.Proofs Go.Fw
theorem waybillref19_Item_does (w0 : World) (Φ : Ctx) (N : List Ent) (hΦ : ∀ w, Mem w0 w N → Φ w) (cs0_ : List Value) (a0 : Hdr) (res0 : It) (res1 : Nat) (ha0 : HdrRd Φ cs0_ a0) (hf : waybillref19_Item a0 = some (res0, res1)) : DoesG Tryd.prog 23 [.agg cs0_.toArray] w0 [] N (fun v G => ∃ B : List Ent, ∃ cr0 : List Value, (ItRd (More w0 Φ B) cr0 res0) ∧ (res1 ≤ 9223372036854775807) ∧ v = .tuple #[.agg cr0.toArray, .int .i64 ((res1 : Nat) : Int)] ∧ G = B) := by
 unfold waybillref19_Item at hf
 replace ha0 := HdrRd.mono (Ψ := More w0 Φ []) (fun w q => q.1) _ _ ha0
 have h6 := ha0
 obtain ⟨A1, c2, e5, v3, b4⟩ := HdrRd.opn ha0
 subst e5
 have m7 := v3.mx
 refine DoesG.enter Tryd.func23 rfl Tryd.ntmps23 rfl (M := (([] ++ N))) rfl (Z4 (Z2 (OW.boxA rfl rfl (fun b8 => (OW.alloc (l := [.bool false, .slice none 0 0, .slice none 0 0]) rfl rfl rfl (fun b9 => (Z0 (Z5 rfl) rfl (Z6 (Z1 (Z4 (Z2 (Z0 (Z22 rfl (List.Mem.tail _ Zh) rfl rfl rfl rfl (HdrC.C_length _)) rfl ?_))))))))))))
 obtain ⟨x11, hx10, hf⟩ := Z102 hf
 refine Z12 Tryd.call21 rfl (waybillref19_Check_does w0 (More w0 Φ []) ((some b9, blk [.bool false, .slice none 0 0, .slice none 0 0] 25) :: (some b8, blk (⟨a0.parent, a0.uncles, a0.coinbase, a0.state, a0.txRoot, a0.receiptRoot, a0.bloom, a0.difficulty, a0.number, a0.limit, a0.used, a0.time, .slice A1 a0.extra.length c2, a0.mix, a0.nonce, a0.tail, a0.baseFee, a0.withdrawals, a0.blobUsed, a0.blobExcess, a0.beacon, a0.requests⟩ : HdrC).C 38) :: ([] ++ N)) (fun w m => More.of hΦ 2 m rfl) (⟨a0.parent, a0.uncles, a0.coinbase, a0.state, a0.txRoot, a0.receiptRoot, a0.bloom, a0.difficulty, a0.number, a0.limit, a0.used, a0.time, .slice A1 a0.extra.length c2, a0.mix, a0.nonce, a0.tail, a0.baseFee, a0.withdrawals, a0.blobUsed, a0.blobExcess, a0.beacon, a0.requests⟩ : HdrC).C a0 x11 h6 hx10) rfl rfl ?_
 rintro _ G13 ⟨b12, rfl⟩
 refine Z20 (M' := ((some b9, blk [.bool false, .slice none 0 0, .slice none 0 0] 25) :: (some b8, blk (⟨a0.parent, a0.uncles, a0.coinbase, a0.state, a0.txRoot, a0.receiptRoot, a0.bloom, a0.difficulty, a0.number, a0.limit, a0.used, a0.time, .slice A1 a0.extra.length c2, a0.mix, a0.nonce, a0.tail, a0.baseFee, a0.withdrawals, a0.blobUsed, a0.blobExcess, a0.beacon, a0.requests⟩ : HdrC).C 38) :: ([] ++ N))) (fun w m => m.appR) (Z0 (Z5 rfl) rfl (Z6 (Z1 (Z4 (Z4 (Z2 (Z0 (Z3 rfl) rfl (Z0 (RV.neq rfl rfl) rfl (Z7 (.bool (!decide (x11 = 0))) (congrArg (fun b => Value.bool (!b)) (decide_eq_decide.2 (by omega))) (Z6 (Z1 ?_)))))))))))
 by_cases h15 : x11 = 0
 ·replace hf := if_t hf h15
  refine Z14 rfl (congrArg (fun b => !b) (decide_eq_true h15)) (CW.skip (Z1 (Z4 (Z2 (Z0 (Z5 rfl) rfl (Z6 (Z1 (Z4 (Z159 20 mixed (by kernel_rfl) rfl (Z18 0 rfl (by kernel_rfl) rfl (Z3 rfl) rfl (Z18 1 rfl (by kernel_rfl) rfl (Z30 rfl rfl rfl rfl) rfl (UW.slot (ptr (some b8) 0) rfl ?_))))))))))))
  refine Z18 2 rfl (by kernel_rfl) rfl (Z113 rfl (List.Mem.tail _ Zh) rfl rfl rfl rfl (Z170 (⟨a0.parent, a0.uncles, a0.coinbase, a0.state, a0.txRoot, a0.receiptRoot, a0.bloom, a0.difficulty, a0.number, a0.limit, a0.used, a0.time, .slice A1 a0.extra.length c2, a0.mix, a0.nonce, a0.tail, a0.baseFee, a0.withdrawals, a0.blobUsed, a0.blobExcess, a0.beacon, a0.requests⟩ : HdrC)) ((Z100 _).trans Zv)) rfl (Z18 4 rfl (by kernel_rfl) rfl (Z30 rfl rfl rfl rfl) rfl (UW.slot (ptr (some b8) 32) rfl (Z18 5 rfl (by kernel_rfl) rfl (Z113 rfl (List.Mem.tail _ Zh) rfl rfl rfl rfl (Z168 (⟨a0.parent, a0.uncles, a0.coinbase, a0.state, a0.txRoot, a0.receiptRoot, a0.bloom, a0.difficulty, a0.number, a0.limit, a0.used, a0.time, .slice A1 a0.extra.length c2, a0.mix, a0.nonce, a0.tail, a0.baseFee, a0.withdrawals, a0.blobUsed, a0.blobExcess, a0.beacon, a0.requests⟩ : HdrC)) ((Z100 _).trans Zv)) rfl (Z18 7 rfl (by kernel_rfl) rfl (Z30 rfl rfl rfl rfl) rfl (UW.slot (ptr (some b8) 64) rfl (UW.mem (M' := (some b9, blk [.bool false, .slice none 0 0, .slice none 0 0] 25) :: (((some b8, blk (⟨a0.parent, a0.uncles, a0.coinbase, a0.state, a0.txRoot, a0.receiptRoot, a0.bloom, a0.difficulty, a0.number, a0.limit, a0.used, a0.time, .slice A1 a0.extra.length c2, a0.mix, a0.nonce, a0.tail, a0.baseFee, a0.withdrawals, a0.blobUsed, a0.blobExcess, a0.beacon, a0.requests⟩ : HdrC).C 38) :: []) ++ N)) (fun w m => m.pick [0, 1] 2 rfl rfl) ?_))))))
  have gq1 : ∀ w, More w0 Φ ((some b8, blk (⟨a0.parent, a0.uncles, a0.coinbase, a0.state, a0.txRoot, a0.receiptRoot, a0.bloom, a0.difficulty, a0.number, a0.limit, a0.used, a0.time, .slice A1 a0.extra.length c2, a0.mix, a0.nonce, a0.tail, a0.baseFee, a0.withdrawals, a0.blobUsed, a0.blobExcess, a0.beacon, a0.requests⟩ : HdrC).C 38) :: []) w → More w0 Φ [] w := fun w q => More.mono (fun w m => (m).tail) q
  replace h6 := HdrRd.mono gq1 _ _ h6
  replace v3 := v3.mono gq1
  have hH17 : Held w0 (More w0 Φ ((some b8, blk (⟨a0.parent, a0.uncles, a0.coinbase, a0.state, a0.txRoot, a0.receiptRoot, a0.bloom, a0.difficulty, a0.number, a0.limit, a0.used, a0.time, .slice A1 a0.extra.length c2, a0.mix, a0.nonce, a0.tail, a0.baseFee, a0.withdrawals, a0.blobUsed, a0.blobExcess, a0.beacon, a0.requests⟩ : HdrC).C 38) :: [])) b8 (⟨a0.parent, a0.uncles, a0.coinbase, a0.state, a0.txRoot, a0.receiptRoot, a0.bloom, a0.difficulty, a0.number, a0.limit, a0.used, a0.time, .slice A1 a0.extra.length c2, a0.mix, a0.nonce, a0.tail, a0.baseFee, a0.withdrawals, a0.blobUsed, a0.blobExcess, a0.beacon, a0.requests⟩ : HdrC).C 38 := fun w q => q.2.sublist (List.singleton_sublist.2 (List.mem_cons_self ..))
  refine Z18 8 rfl (by kernel_rfl) rfl (Z139 rfl rfl rfl) rfl ?_
  refine UW.slot (.slice (some ⟨b8, 64, none⟩) a0.coinbase.toList.length 20) (by rw [Zv]; try rfl) ?_
  have v16 : View (More w0 Φ ((some b8, blk (⟨a0.parent, a0.uncles, a0.coinbase, a0.state, a0.txRoot, a0.receiptRoot, a0.bloom, a0.difficulty, a0.number, a0.limit, a0.used, a0.time, .slice A1 a0.extra.length c2, a0.mix, a0.nonce, a0.tail, a0.baseFee, a0.withdrawals, a0.blobUsed, a0.blobExcess, a0.beacon, a0.requests⟩ : HdrC).C 38) :: [])) (some ⟨b8, 64, none⟩) a0.coinbase.toList.length 20 1 (u8s a0.coinbase.toList) := Held.part hH17 (Z158 (⟨a0.parent, a0.uncles, a0.coinbase, a0.state, a0.txRoot, a0.receiptRoot, a0.bloom, a0.difficulty, a0.number, a0.limit, a0.used, a0.time, .slice A1 a0.extra.length c2, a0.mix, a0.nonce, a0.tail, a0.baseFee, a0.withdrawals, a0.blobUsed, a0.blobExcess, a0.beacon, a0.requests⟩ : HdrC)) (by decide)
  refine Z18 10 rfl (by kernel_rfl) rfl (Z30 rfl rfl rfl rfl) rfl (UW.slot (ptr (some b8) 84) rfl (Z18 11 rfl (by kernel_rfl) rfl (RV.loadAH rfl hH17 (fun w m => More.of hΦ 1 m rfl) rfl rfl rfl (Z181 (⟨a0.parent, a0.uncles, a0.coinbase, a0.state, a0.txRoot, a0.receiptRoot, a0.bloom, a0.difficulty, a0.number, a0.limit, a0.used, a0.time, .slice A1 a0.extra.length c2, a0.mix, a0.nonce, a0.tail, a0.baseFee, a0.withdrawals, a0.blobUsed, a0.blobExcess, a0.beacon, a0.requests⟩ : HdrC)) ((Z100 _).trans Zv)) rfl (Z18 13 rfl (by kernel_rfl) rfl (Z30 rfl rfl rfl rfl) rfl (UW.slot (ptr (some b8) 116) rfl (Z18 14 rfl (by kernel_rfl) rfl (RV.loadAH rfl hH17 (fun w m => More.of hΦ 1 m rfl) rfl rfl rfl (Z169 (⟨a0.parent, a0.uncles, a0.coinbase, a0.state, a0.txRoot, a0.receiptRoot, a0.bloom, a0.difficulty, a0.number, a0.limit, a0.used, a0.time, .slice A1 a0.extra.length c2, a0.mix, a0.nonce, a0.tail, a0.baseFee, a0.withdrawals, a0.blobUsed, a0.blobExcess, a0.beacon, a0.requests⟩ : HdrC)) ((Z100 _).trans Zv)) rfl (Z18 16 rfl (by kernel_rfl) rfl (Z30 rfl rfl rfl rfl) rfl (UW.slot (ptr (some b8) 148) rfl ?_)))))))
  refine Z18 17 rfl (by kernel_rfl) rfl (RV.loadAH rfl hH17 (fun w m => More.of hΦ 1 m rfl) rfl rfl rfl (Z143 (⟨a0.parent, a0.uncles, a0.coinbase, a0.state, a0.txRoot, a0.receiptRoot, a0.bloom, a0.difficulty, a0.number, a0.limit, a0.used, a0.time, .slice A1 a0.extra.length c2, a0.mix, a0.nonce, a0.tail, a0.baseFee, a0.withdrawals, a0.blobUsed, a0.blobExcess, a0.beacon, a0.requests⟩ : HdrC)) ((Z100 _).trans Zv)) rfl ?_
  obtain ⟨x19, hx18, hf⟩ := Z102 hf
  refine Z25 3 rfl (by kernel_rfl) rfl Tryd.call58 rfl (fun N' hN' => Z117 w0 (More w0 Φ ((some b8, blk (⟨a0.parent, a0.uncles, a0.coinbase, a0.state, a0.txRoot, a0.receiptRoot, a0.bloom, a0.difficulty, a0.number, a0.limit, a0.used, a0.time, .slice A1 a0.extra.length c2, a0.mix, a0.nonce, a0.tail, a0.baseFee, a0.withdrawals, a0.blobUsed, a0.blobExcess, a0.beacon, a0.requests⟩ : HdrC).C 38) :: [])) N' (fun w m => More.of hΦ 1 (hN' w m) rfl) a0.parent x19 hx18) rfl ?_
  rintro L23 M24 ⟨B20, cs21, h22, e25, e26⟩
  rw [e25, e26]
  clear e25 e26 L23 M24
  refine UW.mem (M' := ((some b9, blk [.bool false, .slice none 0 0, .slice none 0 0] 25) :: ((B20 ++ ((some b8, blk (⟨a0.parent, a0.uncles, a0.coinbase, a0.state, a0.txRoot, a0.receiptRoot, a0.bloom, a0.difficulty, a0.number, a0.limit, a0.used, a0.time, .slice A1 a0.extra.length c2, a0.mix, a0.nonce, a0.tail, a0.baseFee, a0.withdrawals, a0.blobUsed, a0.blobExcess, a0.beacon, a0.requests⟩ : HdrC).C 38) :: [])) ++ N))) (fun w m => by have h := Z110 (A := B20) m 0 1 rfl rfl; exact h) ?_
  have gq2 : ∀ w, More w0 Φ (B20 ++ ((some b8, blk (⟨a0.parent, a0.uncles, a0.coinbase, a0.state, a0.txRoot, a0.receiptRoot, a0.bloom, a0.difficulty, a0.number, a0.limit, a0.used, a0.time, .slice A1 a0.extra.length c2, a0.mix, a0.nonce, a0.tail, a0.baseFee, a0.withdrawals, a0.blobUsed, a0.blobExcess, a0.beacon, a0.requests⟩ : HdrC).C 38) :: [])) w → More w0 Φ ((some b8, blk (⟨a0.parent, a0.uncles, a0.coinbase, a0.state, a0.txRoot, a0.receiptRoot, a0.bloom, a0.difficulty, a0.number, a0.limit, a0.used, a0.time, .slice A1 a0.extra.length c2, a0.mix, a0.nonce, a0.tail, a0.baseFee, a0.withdrawals, a0.blobUsed, a0.blobExcess, a0.beacon, a0.requests⟩ : HdrC).C 38) :: []) w := fun w q => More.mono (fun w m => (m).appR) q
  replace h6 := HdrRd.mono gq2 _ _ h6
  replace v3 := v3.mono gq2
  replace hH17 := hH17.mono gq2
  replace v16 := v16.mono gq2
  replace h22 := ItRd.mono (Ψ := (More w0 Φ (B20 ++ ((some b8, blk (⟨a0.parent, a0.uncles, a0.coinbase, a0.state, a0.txRoot, a0.receiptRoot, a0.bloom, a0.difficulty, a0.number, a0.limit, a0.used, a0.time, .slice A1 a0.extra.length c2, a0.mix, a0.nonce, a0.tail, a0.baseFee, a0.withdrawals, a0.blobUsed, a0.blobExcess, a0.beacon, a0.requests⟩ : HdrC).C 38) :: [])))) (fun w q => More.flat q) _ _ h22
  have h36 := h22
  obtain ⟨A27, c28, A30, c31, cs33, e35, v29, v32, h34⟩ := ItRd.opn h22
  subst e35
  have m37 := v29.mx
  have m38 := v32.mx
  have m39 := v29.mx
  have m40 := v32.mx
  obtain ⟨x42, hx41, hf⟩ := Z102 hf
  refine Z25 6 rfl (by kernel_rfl) rfl Tryd.call58 rfl (fun N' hN' => Z117 w0 (More w0 Φ (B20 ++ ((some b8, blk (⟨a0.parent, a0.uncles, a0.coinbase, a0.state, a0.txRoot, a0.receiptRoot, a0.bloom, a0.difficulty, a0.number, a0.limit, a0.used, a0.time, .slice A1 a0.extra.length c2, a0.mix, a0.nonce, a0.tail, a0.baseFee, a0.withdrawals, a0.blobUsed, a0.blobExcess, a0.beacon, a0.requests⟩ : HdrC).C 38) :: []))) N' (fun w m => More.of hΦ 1 (hN' w m) rfl) a0.uncles x42 hx41) rfl ?_
  rintro L46 M47 ⟨B43, cs44, h45, e48, e49⟩
  rw [e48, e49]
  clear e48 e49 L46 M47
  refine UW.mem (M' := ((some b9, blk [.bool false, .slice none 0 0, .slice none 0 0] 25) :: ((B43 ++ (B20 ++ ((some b8, blk (⟨a0.parent, a0.uncles, a0.coinbase, a0.state, a0.txRoot, a0.receiptRoot, a0.bloom, a0.difficulty, a0.number, a0.limit, a0.used, a0.time, .slice A1 a0.extra.length c2, a0.mix, a0.nonce, a0.tail, a0.baseFee, a0.withdrawals, a0.blobUsed, a0.blobExcess, a0.beacon, a0.requests⟩ : HdrC).C 38) :: []))) ++ N))) (fun w m => by have h := Z110 (A := B43) m 0 1 rfl rfl; exact h) ?_
  have gq3 : ∀ w, More w0 Φ (B43 ++ (B20 ++ ((some b8, blk (⟨a0.parent, a0.uncles, a0.coinbase, a0.state, a0.txRoot, a0.receiptRoot, a0.bloom, a0.difficulty, a0.number, a0.limit, a0.used, a0.time, .slice A1 a0.extra.length c2, a0.mix, a0.nonce, a0.tail, a0.baseFee, a0.withdrawals, a0.blobUsed, a0.blobExcess, a0.beacon, a0.requests⟩ : HdrC).C 38) :: []))) w → More w0 Φ (B20 ++ ((some b8, blk (⟨a0.parent, a0.uncles, a0.coinbase, a0.state, a0.txRoot, a0.receiptRoot, a0.bloom, a0.difficulty, a0.number, a0.limit, a0.used, a0.time, .slice A1 a0.extra.length c2, a0.mix, a0.nonce, a0.tail, a0.baseFee, a0.withdrawals, a0.blobUsed, a0.blobExcess, a0.beacon, a0.requests⟩ : HdrC).C 38) :: [])) w := fun w q => More.mono (fun w m => (m).appR) q
  replace h6 := HdrRd.mono gq3 _ _ h6
  replace v3 := v3.mono gq3
  replace hH17 := hH17.mono gq3
  replace v16 := v16.mono gq3
  replace h36 := ItRd.mono gq3 _ _ h36
  replace v29 := v29.mono gq3
  replace v32 := v32.mono gq3
  replace h34 := h34.mono (ItRd.mono gq3)
  replace h45 := ItRd.mono (Ψ := (More w0 Φ (B43 ++ (B20 ++ ((some b8, blk (⟨a0.parent, a0.uncles, a0.coinbase, a0.state, a0.txRoot, a0.receiptRoot, a0.bloom, a0.difficulty, a0.number, a0.limit, a0.used, a0.time, .slice A1 a0.extra.length c2, a0.mix, a0.nonce, a0.tail, a0.baseFee, a0.withdrawals, a0.blobUsed, a0.blobExcess, a0.beacon, a0.requests⟩ : HdrC).C 38) :: []))))) (fun w q => More.flat q) _ _ h45
  have h59 := h45
  obtain ⟨A50, c51, A53, c54, cs56, e58, v52, v55, h57⟩ := ItRd.opn h45
  subst e58
  have m60 := v52.mx
  have m61 := v55.mx
  have m62 := v52.mx
  have m63 := v55.mx
  obtain ⟨x65, hx64, hf⟩ := Z102 hf
  refine Z25 9 rfl (by kernel_rfl) rfl Tryd.call59 rfl (fun N' hN' => Z132 w0 (More w0 Φ (B43 ++ (B20 ++ ((some b8, blk (⟨a0.parent, a0.uncles, a0.coinbase, a0.state, a0.txRoot, a0.receiptRoot, a0.bloom, a0.difficulty, a0.number, a0.limit, a0.used, a0.time, .slice A1 a0.extra.length c2, a0.mix, a0.nonce, a0.tail, a0.baseFee, a0.withdrawals, a0.blobUsed, a0.blobExcess, a0.beacon, a0.requests⟩ : HdrC).C 38) :: [])))) N' (fun w m => More.of hΦ 1 (hN' w m) rfl) (some ⟨b8, 64, none⟩) 20 a0.coinbase.toList x65 v16 hx64) rfl ?_
  rintro L69 M70 ⟨B66, cs67, h68, e71, e72⟩
  rw [e71, e72]
  clear e71 e72 L69 M70
  refine UW.mem (M' := ((some b9, blk [.bool false, .slice none 0 0, .slice none 0 0] 25) :: ((B66 ++ (B43 ++ (B20 ++ ((some b8, blk (⟨a0.parent, a0.uncles, a0.coinbase, a0.state, a0.txRoot, a0.receiptRoot, a0.bloom, a0.difficulty, a0.number, a0.limit, a0.used, a0.time, .slice A1 a0.extra.length c2, a0.mix, a0.nonce, a0.tail, a0.baseFee, a0.withdrawals, a0.blobUsed, a0.blobExcess, a0.beacon, a0.requests⟩ : HdrC).C 38) :: [])))) ++ N))) (fun w m => by have h := Z110 (A := B66) m 0 1 rfl rfl; exact h) ?_
  have gq4 : ∀ w, More w0 Φ (B66 ++ (B43 ++ (B20 ++ ((some b8, blk (⟨a0.parent, a0.uncles, a0.coinbase, a0.state, a0.txRoot, a0.receiptRoot, a0.bloom, a0.difficulty, a0.number, a0.limit, a0.used, a0.time, .slice A1 a0.extra.length c2, a0.mix, a0.nonce, a0.tail, a0.baseFee, a0.withdrawals, a0.blobUsed, a0.blobExcess, a0.beacon, a0.requests⟩ : HdrC).C 38) :: [])))) w → More w0 Φ (B43 ++ (B20 ++ ((some b8, blk (⟨a0.parent, a0.uncles, a0.coinbase, a0.state, a0.txRoot, a0.receiptRoot, a0.bloom, a0.difficulty, a0.number, a0.limit, a0.used, a0.time, .slice A1 a0.extra.length c2, a0.mix, a0.nonce, a0.tail, a0.baseFee, a0.withdrawals, a0.blobUsed, a0.blobExcess, a0.beacon, a0.requests⟩ : HdrC).C 38) :: []))) w := fun w q => More.mono (fun w m => (m).appR) q
  replace h6 := HdrRd.mono gq4 _ _ h6
  replace v3 := v3.mono gq4
  replace hH17 := hH17.mono gq4
  replace v16 := v16.mono gq4
  replace h36 := ItRd.mono gq4 _ _ h36
  replace v29 := v29.mono gq4
  replace v32 := v32.mono gq4
  replace h34 := h34.mono (ItRd.mono gq4)
  replace h59 := ItRd.mono gq4 _ _ h59
  replace v52 := v52.mono gq4
  replace v55 := v55.mono gq4
  replace h57 := h57.mono (ItRd.mono gq4)
  replace h68 := ItRd.mono (Ψ := (More w0 Φ (B66 ++ (B43 ++ (B20 ++ ((some b8, blk (⟨a0.parent, a0.uncles, a0.coinbase, a0.state, a0.txRoot, a0.receiptRoot, a0.bloom, a0.difficulty, a0.number, a0.limit, a0.used, a0.time, .slice A1 a0.extra.length c2, a0.mix, a0.nonce, a0.tail, a0.baseFee, a0.withdrawals, a0.blobUsed, a0.blobExcess, a0.beacon, a0.requests⟩ : HdrC).C 38) :: [])))))) (fun w q => More.flat q) _ _ h68
  have h82 := h68
  obtain ⟨A73, c74, A76, c77, cs79, e81, v75, v78, h80⟩ := ItRd.opn h68
  subst e81
  have m83 := v75.mx
  have m84 := v78.mx
  have m85 := v75.mx
  have m86 := v78.mx
  obtain ⟨x88, hx87, hf⟩ := Z102 hf
  refine Z25 12 rfl (by kernel_rfl) rfl Tryd.call58 rfl (fun N' hN' => Z117 w0 (More w0 Φ (B66 ++ (B43 ++ (B20 ++ ((some b8, blk (⟨a0.parent, a0.uncles, a0.coinbase, a0.state, a0.txRoot, a0.receiptRoot, a0.bloom, a0.difficulty, a0.number, a0.limit, a0.used, a0.time, .slice A1 a0.extra.length c2, a0.mix, a0.nonce, a0.tail, a0.baseFee, a0.withdrawals, a0.blobUsed, a0.blobExcess, a0.beacon, a0.requests⟩ : HdrC).C 38) :: []))))) N' (fun w m => More.of hΦ 1 (hN' w m) rfl) a0.state x88 hx87) rfl ?_
  rintro L92 M93 ⟨B89, cs90, h91, e94, e95⟩
  rw [e94, e95]
  clear e94 e95 L92 M93
  refine UW.mem (M' := ((some b9, blk [.bool false, .slice none 0 0, .slice none 0 0] 25) :: ((B89 ++ (B66 ++ (B43 ++ (B20 ++ ((some b8, blk (⟨a0.parent, a0.uncles, a0.coinbase, a0.state, a0.txRoot, a0.receiptRoot, a0.bloom, a0.difficulty, a0.number, a0.limit, a0.used, a0.time, .slice A1 a0.extra.length c2, a0.mix, a0.nonce, a0.tail, a0.baseFee, a0.withdrawals, a0.blobUsed, a0.blobExcess, a0.beacon, a0.requests⟩ : HdrC).C 38) :: []))))) ++ N))) (fun w m => by have h := Z110 (A := B89) m 0 1 rfl rfl; exact h) ?_
  have gq5 : ∀ w, More w0 Φ (B89 ++ (B66 ++ (B43 ++ (B20 ++ ((some b8, blk (⟨a0.parent, a0.uncles, a0.coinbase, a0.state, a0.txRoot, a0.receiptRoot, a0.bloom, a0.difficulty, a0.number, a0.limit, a0.used, a0.time, .slice A1 a0.extra.length c2, a0.mix, a0.nonce, a0.tail, a0.baseFee, a0.withdrawals, a0.blobUsed, a0.blobExcess, a0.beacon, a0.requests⟩ : HdrC).C 38) :: []))))) w → More w0 Φ (B66 ++ (B43 ++ (B20 ++ ((some b8, blk (⟨a0.parent, a0.uncles, a0.coinbase, a0.state, a0.txRoot, a0.receiptRoot, a0.bloom, a0.difficulty, a0.number, a0.limit, a0.used, a0.time, .slice A1 a0.extra.length c2, a0.mix, a0.nonce, a0.tail, a0.baseFee, a0.withdrawals, a0.blobUsed, a0.blobExcess, a0.beacon, a0.requests⟩ : HdrC).C 38) :: [])))) w := fun w q => More.mono (fun w m => (m).appR) q
  replace h6 := HdrRd.mono gq5 _ _ h6
  replace v3 := v3.mono gq5
  replace hH17 := hH17.mono gq5
  replace v16 := v16.mono gq5
  replace h36 := ItRd.mono gq5 _ _ h36
  replace v29 := v29.mono gq5
  replace v32 := v32.mono gq5
  replace h34 := h34.mono (ItRd.mono gq5)
  replace h59 := ItRd.mono gq5 _ _ h59
  replace v52 := v52.mono gq5
  replace v55 := v55.mono gq5
  replace h57 := h57.mono (ItRd.mono gq5)
  replace h82 := ItRd.mono gq5 _ _ h82
  replace v75 := v75.mono gq5
  replace v78 := v78.mono gq5
  replace h80 := h80.mono (ItRd.mono gq5)
  replace h91 := ItRd.mono (Ψ := (More w0 Φ (B89 ++ (B66 ++ (B43 ++ (B20 ++ ((some b8, blk (⟨a0.parent, a0.uncles, a0.coinbase, a0.state, a0.txRoot, a0.receiptRoot, a0.bloom, a0.difficulty, a0.number, a0.limit, a0.used, a0.time, .slice A1 a0.extra.length c2, a0.mix, a0.nonce, a0.tail, a0.baseFee, a0.withdrawals, a0.blobUsed, a0.blobExcess, a0.beacon, a0.requests⟩ : HdrC).C 38) :: []))))))) (fun w q => More.flat q) _ _ h91
  have h105 := h91
  obtain ⟨A96, c97, A99, c100, cs102, e104, v98, v101, h103⟩ := ItRd.opn h91
  subst e104
  have m106 := v98.mx
  have m107 := v101.mx
  have m108 := v98.mx
  have m109 := v101.mx
  obtain ⟨x111, hx110, hf⟩ := Z102 hf
  refine Z25 15 rfl (by kernel_rfl) rfl Tryd.call58 rfl (fun N' hN' => Z117 w0 (More w0 Φ (B89 ++ (B66 ++ (B43 ++ (B20 ++ ((some b8, blk (⟨a0.parent, a0.uncles, a0.coinbase, a0.state, a0.txRoot, a0.receiptRoot, a0.bloom, a0.difficulty, a0.number, a0.limit, a0.used, a0.time, .slice A1 a0.extra.length c2, a0.mix, a0.nonce, a0.tail, a0.baseFee, a0.withdrawals, a0.blobUsed, a0.blobExcess, a0.beacon, a0.requests⟩ : HdrC).C 38) :: [])))))) N' (fun w m => More.of hΦ 1 (hN' w m) rfl) a0.txRoot x111 hx110) rfl ?_
  rintro L115 M116 ⟨B112, cs113, h114, e117, e118⟩
  rw [e117, e118]
  clear e117 e118 L115 M116
  refine UW.mem (M' := ((some b9, blk [.bool false, .slice none 0 0, .slice none 0 0] 25) :: ((B112 ++ (B89 ++ (B66 ++ (B43 ++ (B20 ++ ((some b8, blk (⟨a0.parent, a0.uncles, a0.coinbase, a0.state, a0.txRoot, a0.receiptRoot, a0.bloom, a0.difficulty, a0.number, a0.limit, a0.used, a0.time, .slice A1 a0.extra.length c2, a0.mix, a0.nonce, a0.tail, a0.baseFee, a0.withdrawals, a0.blobUsed, a0.blobExcess, a0.beacon, a0.requests⟩ : HdrC).C 38) :: [])))))) ++ N))) (fun w m => by have h := Z110 (A := B112) m 0 1 rfl rfl; exact h) ?_
  have gq6 : ∀ w, More w0 Φ (B112 ++ (B89 ++ (B66 ++ (B43 ++ (B20 ++ ((some b8, blk (⟨a0.parent, a0.uncles, a0.coinbase, a0.state, a0.txRoot, a0.receiptRoot, a0.bloom, a0.difficulty, a0.number, a0.limit, a0.used, a0.time, .slice A1 a0.extra.length c2, a0.mix, a0.nonce, a0.tail, a0.baseFee, a0.withdrawals, a0.blobUsed, a0.blobExcess, a0.beacon, a0.requests⟩ : HdrC).C 38) :: [])))))) w → More w0 Φ (B89 ++ (B66 ++ (B43 ++ (B20 ++ ((some b8, blk (⟨a0.parent, a0.uncles, a0.coinbase, a0.state, a0.txRoot, a0.receiptRoot, a0.bloom, a0.difficulty, a0.number, a0.limit, a0.used, a0.time, .slice A1 a0.extra.length c2, a0.mix, a0.nonce, a0.tail, a0.baseFee, a0.withdrawals, a0.blobUsed, a0.blobExcess, a0.beacon, a0.requests⟩ : HdrC).C 38) :: []))))) w := fun w q => More.mono (fun w m => (m).appR) q
  replace h6 := HdrRd.mono gq6 _ _ h6
  replace v3 := v3.mono gq6
  replace hH17 := hH17.mono gq6
  replace v16 := v16.mono gq6
  replace h36 := ItRd.mono gq6 _ _ h36
  replace v29 := v29.mono gq6
  replace v32 := v32.mono gq6
  replace h34 := h34.mono (ItRd.mono gq6)
  replace h59 := ItRd.mono gq6 _ _ h59
  replace v52 := v52.mono gq6
  replace v55 := v55.mono gq6
  replace h57 := h57.mono (ItRd.mono gq6)
  replace h82 := ItRd.mono gq6 _ _ h82
  replace v75 := v75.mono gq6
  replace v78 := v78.mono gq6
  replace h80 := h80.mono (ItRd.mono gq6)
  replace h105 := ItRd.mono gq6 _ _ h105
  replace v98 := v98.mono gq6
  replace v101 := v101.mono gq6
  replace h103 := h103.mono (ItRd.mono gq6)
  replace h114 := ItRd.mono (Ψ := (More w0 Φ (B112 ++ (B89 ++ (B66 ++ (B43 ++ (B20 ++ ((some b8, blk (⟨a0.parent, a0.uncles, a0.coinbase, a0.state, a0.txRoot, a0.receiptRoot, a0.bloom, a0.difficulty, a0.number, a0.limit, a0.used, a0.time, .slice A1 a0.extra.length c2, a0.mix, a0.nonce, a0.tail, a0.baseFee, a0.withdrawals, a0.blobUsed, a0.blobExcess, a0.beacon, a0.requests⟩ : HdrC).C 38) :: [])))))))) (fun w q => More.flat q) _ _ h114
  have h128 := h114
  obtain ⟨A119, c120, A122, c123, cs125, e127, v121, v124, h126⟩ := ItRd.opn h114
  subst e127
  have m129 := v121.mx
  have m130 := v124.mx
  have m131 := v121.mx
  have m132 := v124.mx
  obtain ⟨x134, hx133, hf⟩ := Z102 hf
  refine Z25 18 rfl (by kernel_rfl) rfl Tryd.call58 rfl (fun N' hN' => Z117 w0 (More w0 Φ (B112 ++ (B89 ++ (B66 ++ (B43 ++ (B20 ++ ((some b8, blk (⟨a0.parent, a0.uncles, a0.coinbase, a0.state, a0.txRoot, a0.receiptRoot, a0.bloom, a0.difficulty, a0.number, a0.limit, a0.used, a0.time, .slice A1 a0.extra.length c2, a0.mix, a0.nonce, a0.tail, a0.baseFee, a0.withdrawals, a0.blobUsed, a0.blobExcess, a0.beacon, a0.requests⟩ : HdrC).C 38) :: []))))))) N' (fun w m => More.of hΦ 1 (hN' w m) rfl) a0.receiptRoot x134 hx133) rfl ?_
  rintro L138 M139 ⟨B135, cs136, h137, e140, e141⟩
  rw [e140, e141]
  clear e140 e141 L138 M139
  refine UW.mem (M' := ((some b9, blk [.bool false, .slice none 0 0, .slice none 0 0] 25) :: ((B135 ++ (B112 ++ (B89 ++ (B66 ++ (B43 ++ (B20 ++ ((some b8, blk (⟨a0.parent, a0.uncles, a0.coinbase, a0.state, a0.txRoot, a0.receiptRoot, a0.bloom, a0.difficulty, a0.number, a0.limit, a0.used, a0.time, .slice A1 a0.extra.length c2, a0.mix, a0.nonce, a0.tail, a0.baseFee, a0.withdrawals, a0.blobUsed, a0.blobExcess, a0.beacon, a0.requests⟩ : HdrC).C 38) :: []))))))) ++ N))) (fun w m => by have h := Z110 (A := B135) m 0 1 rfl rfl; exact h) ?_
  have gq7 : ∀ w, More w0 Φ (B135 ++ (B112 ++ (B89 ++ (B66 ++ (B43 ++ (B20 ++ ((some b8, blk (⟨a0.parent, a0.uncles, a0.coinbase, a0.state, a0.txRoot, a0.receiptRoot, a0.bloom, a0.difficulty, a0.number, a0.limit, a0.used, a0.time, .slice A1 a0.extra.length c2, a0.mix, a0.nonce, a0.tail, a0.baseFee, a0.withdrawals, a0.blobUsed, a0.blobExcess, a0.beacon, a0.requests⟩ : HdrC).C 38) :: []))))))) w → More w0 Φ (B112 ++ (B89 ++ (B66 ++ (B43 ++ (B20 ++ ((some b8, blk (⟨a0.parent, a0.uncles, a0.coinbase, a0.state, a0.txRoot, a0.receiptRoot, a0.bloom, a0.difficulty, a0.number, a0.limit, a0.used, a0.time, .slice A1 a0.extra.length c2, a0.mix, a0.nonce, a0.tail, a0.baseFee, a0.withdrawals, a0.blobUsed, a0.blobExcess, a0.beacon, a0.requests⟩ : HdrC).C 38) :: [])))))) w := fun w q => More.mono (fun w m => (m).appR) q
  replace h6 := HdrRd.mono gq7 _ _ h6
  replace v3 := v3.mono gq7
  replace hH17 := hH17.mono gq7
  replace v16 := v16.mono gq7
  replace h36 := ItRd.mono gq7 _ _ h36
  replace v29 := v29.mono gq7
  replace v32 := v32.mono gq7
  replace h34 := h34.mono (ItRd.mono gq7)
  replace h59 := ItRd.mono gq7 _ _ h59
  replace v52 := v52.mono gq7
  replace v55 := v55.mono gq7
  replace h57 := h57.mono (ItRd.mono gq7)
  replace h82 := ItRd.mono gq7 _ _ h82
  replace v75 := v75.mono gq7
  replace v78 := v78.mono gq7
  replace h80 := h80.mono (ItRd.mono gq7)
  replace h105 := ItRd.mono gq7 _ _ h105
  replace v98 := v98.mono gq7
  replace v101 := v101.mono gq7
  replace h103 := h103.mono (ItRd.mono gq7)
  replace h128 := ItRd.mono gq7 _ _ h128
  replace v121 := v121.mono gq7
  replace v124 := v124.mono gq7
  replace h126 := h126.mono (ItRd.mono gq7)
  replace h137 := ItRd.mono (Ψ := (More w0 Φ (B135 ++ (B112 ++ (B89 ++ (B66 ++ (B43 ++ (B20 ++ ((some b8, blk (⟨a0.parent, a0.uncles, a0.coinbase, a0.state, a0.txRoot, a0.receiptRoot, a0.bloom, a0.difficulty, a0.number, a0.limit, a0.used, a0.time, .slice A1 a0.extra.length c2, a0.mix, a0.nonce, a0.tail, a0.baseFee, a0.withdrawals, a0.blobUsed, a0.blobExcess, a0.beacon, a0.requests⟩ : HdrC).C 38) :: []))))))))) (fun w q => More.flat q) _ _ h137
  have h151 := h137
  obtain ⟨A142, c143, A145, c146, cs148, e150, v144, v147, h149⟩ := ItRd.opn h137
  subst e150
  have m152 := v144.mx
  have m153 := v147.mx
  have m154 := v144.mx
  have m155 := v147.mx
  refine UW.new 19 rfl (by kernel_rfl) rfl (NV.bsA rfl rfl (by intro x hx; simp at hx; rcases hx with rfl | rfl | rfl | rfl | rfl | rfl <;> exact rfl) rfl rfl rfl (by decide) (by decide) rfl) rfl (fun b156 => ?_)
  have h159 : Reps (ItRd (More w0 Φ (B135 ++ (B112 ++ (B89 ++ (B66 ++ (B43 ++ (B20 ++ ((some b8, blk (⟨a0.parent, a0.uncles, a0.coinbase, a0.state, a0.txRoot, a0.receiptRoot, a0.bloom, a0.difficulty, a0.number, a0.limit, a0.used, a0.time, .slice A1 a0.extra.length c2, a0.mix, a0.nonce, a0.tail, a0.baseFee, a0.withdrawals, a0.blobUsed, a0.blobExcess, a0.beacon, a0.requests⟩ : HdrC).C 38) :: []))))))))) (([.bool (x19.list), .slice A27 x19.data.length c28, .slice A30 x19.items.length c31] : List Value) ++ ([.bool (x42.list), .slice A50 x42.data.length c51, .slice A53 x42.items.length c54] : List Value) ++ ([.bool (x65.list), .slice A73 x65.data.length c74, .slice A76 x65.items.length c77] : List Value) ++ ([.bool (x88.list), .slice A96 x88.data.length c97, .slice A99 x88.items.length c100] : List Value) ++ ([.bool (x111.list), .slice A119 x111.data.length c120, .slice A122 x111.items.length c123] : List Value) ++ ([.bool (x134.list), .slice A142 x134.data.length c143, .slice A145 x134.items.length c146] : List Value)) [x19, x42, x65, x88, x111, x134] := by simpa using (show Reps (ItRd (More w0 Φ (B135 ++ (B112 ++ (B89 ++ (B66 ++ (B43 ++ (B20 ++ ((some b8, blk (⟨a0.parent, a0.uncles, a0.coinbase, a0.state, a0.txRoot, a0.receiptRoot, a0.bloom, a0.difficulty, a0.number, a0.limit, a0.used, a0.time, .slice A1 a0.extra.length c2, a0.mix, a0.nonce, a0.tail, a0.baseFee, a0.withdrawals, a0.blobUsed, a0.blobExcess, a0.beacon, a0.requests⟩ : HdrC).C 38) :: []))))))))) _ [x19, x42, x65, x88, x111, x134] from (.cons h36 (.cons h59 (.cons h82 (.cons h105 (.cons h128 (.cons h151 .nil)))))))
  refine UW.mem (M' := (((some b156), blk ((([.bool (x19.list), .slice A27 x19.data.length c28, .slice A30 x19.items.length c31] : List Value) ++ ([.bool (x42.list), .slice A50 x42.data.length c51, .slice A53 x42.items.length c54] : List Value) ++ ([.bool (x65.list), .slice A73 x65.data.length c74, .slice A76 x65.items.length c77] : List Value) ++ ([.bool (x88.list), .slice A96 x88.data.length c97, .slice A99 x88.items.length c100] : List Value) ++ ([.bool (x111.list), .slice A119 x111.data.length c120, .slice A122 x111.items.length c123] : List Value) ++ ([.bool (x134.list), .slice A142 x134.data.length c143, .slice A145 x134.items.length c146] : List Value)) ++ []) 25) :: (some b9, blk [.bool false, .slice none 0 0, .slice none 0 0] 25) :: ((B135 ++ (B112 ++ (B89 ++ (B66 ++ (B43 ++ (B20 ++ ((some b8, blk (⟨a0.parent, a0.uncles, a0.coinbase, a0.state, a0.txRoot, a0.receiptRoot, a0.bloom, a0.difficulty, a0.number, a0.limit, a0.used, a0.time, .slice A1 a0.extra.length c2, a0.mix, a0.nonce, a0.tail, a0.baseFee, a0.withdrawals, a0.blobUsed, a0.blobExcess, a0.beacon, a0.requests⟩ : HdrC).C 38) :: []))))))) ++ N))) (fun w m => m) ?_
  have o157 : OwnS (some b156) ([x19, x42, x65, x88, x111, x134] : List (It)).length 6 3 (([.bool (x19.list), .slice A27 x19.data.length c28, .slice A30 x19.items.length c31] : List Value) ++ ([.bool (x42.list), .slice A50 x42.data.length c51, .slice A53 x42.items.length c54] : List Value) ++ ([.bool (x65.list), .slice A73 x65.data.length c74, .slice A76 x65.items.length c77] : List Value) ++ ([.bool (x88.list), .slice A96 x88.data.length c97, .slice A99 x88.items.length c100] : List Value) ++ ([.bool (x111.list), .slice A119 x111.data.length c120, .slice A122 x111.items.length c123] : List Value) ++ ([.bool (x134.list), .slice A142 x134.data.length c143, .slice A145 x134.items.length c146] : List Value)) [] := ⟨by simp [ItRd], by simp [ItRd], (fun h => nomatch h), by simp⟩
  have mx_o157 := o157.mx
  refine UW.slot (sl (some b156) 0 ([x19, x42, x65, x88, x111, x134] : List (It)).length 6) (rfl) (UW.nil (by kernel_rfl) (Z20 (M' := ((none, blk ([] ++ []) 25) :: ((some b156), blk ((([.bool (x19.list), .slice A27 x19.data.length c28, .slice A30 x19.items.length c31] : List Value) ++ ([.bool (x42.list), .slice A50 x42.data.length c51, .slice A53 x42.items.length c54] : List Value) ++ ([.bool (x65.list), .slice A73 x65.data.length c74, .slice A76 x65.items.length c77] : List Value) ++ ([.bool (x88.list), .slice A96 x88.data.length c97, .slice A99 x88.items.length c100] : List Value) ++ ([.bool (x111.list), .slice A119 x111.data.length c120, .slice A122 x111.items.length c123] : List Value) ++ ([.bool (x134.list), .slice A142 x134.data.length c143, .slice A145 x134.items.length c146] : List Value)) ++ []) 25) :: (some b9, blk [.bool false, .slice none 0 0, .slice none 0 0] 25) :: ((B135 ++ (B112 ++ (B89 ++ (B66 ++ (B43 ++ (B20 ++ ((some b8, blk (⟨a0.parent, a0.uncles, a0.coinbase, a0.state, a0.txRoot, a0.receiptRoot, a0.bloom, a0.difficulty, a0.number, a0.limit, a0.used, a0.time, .slice A1 a0.extra.length c2, a0.mix, a0.nonce, a0.tail, a0.baseFee, a0.withdrawals, a0.blobUsed, a0.blobExcess, a0.beacon, a0.requests⟩ : HdrC).C 38) :: []))))))) ++ N))) (fun w m => m.nil_ent _) ?_))
  obtain ⟨g160, hf⟩ := Z115 hf
  have h165 := h159
  refine OW.appendOwn (s := 3) rfl rfl rfl rfl rfl rfl OwnS.nil (fun w m => m.rd0 (List.Mem.tail _ Zh) (fun e => o157.nilc (by decide) e)) o157.n (h159.cell1 ItRd.one) (o157.zeroO (by decide)) (by decide) (by decide) (by first | omega | (simp only [i25, List.length_nil]; omega)) rfl rfl (([x19, x42, x65, x88, x111, x134] : List (It)).length) (([.bool (x19.list), .slice A27 x19.data.length c28, .slice A30 x19.items.length c31] : List Value) ++ ([.bool (x42.list), .slice A50 x42.data.length c51, .slice A53 x42.items.length c54] : List Value) ++ ([.bool (x65.list), .slice A73 x65.data.length c74, .slice A76 x65.items.length c77] : List Value) ++ ([.bool (x88.list), .slice A96 x88.data.length c97, .slice A99 x88.items.length c100] : List Value) ++ ([.bool (x111.list), .slice A119 x111.data.length c120, .slice A122 x111.items.length c123] : List Value) ++ ([.bool (x134.list), .slice A142 x134.data.length c143, .slice A145 x134.items.length c146] : List Value)) (Nat.zero_add _) rfl (fun ob161 r162 c163 o164 => ?_)
  have m166 := o164.mx
  refine Z0 (Z5 rfl) rfl (Z6 (Z1 (Z4 (Z159 14 mixed (by kernel_rfl) rfl (Z18 0 rfl (by kernel_rfl) rfl (Z3 rfl) rfl (Z18 1 rfl (by kernel_rfl) rfl (Z30 rfl rfl rfl rfl) rfl (UW.slot (ptr (some b8) 180) rfl (Z18 2 rfl (by kernel_rfl) rfl (Z139 rfl rfl rfl) rfl ?_))))))))
  refine UW.slot (.slice (some ⟨b8, 180, none⟩) a0.bloom.toList.length 256) (by rw [Zv]; try rfl) ?_
  have v167 : View (More w0 Φ (B135 ++ (B112 ++ (B89 ++ (B66 ++ (B43 ++ (B20 ++ ((some b8, blk (⟨a0.parent, a0.uncles, a0.coinbase, a0.state, a0.txRoot, a0.receiptRoot, a0.bloom, a0.difficulty, a0.number, a0.limit, a0.used, a0.time, .slice A1 a0.extra.length c2, a0.mix, a0.nonce, a0.tail, a0.baseFee, a0.withdrawals, a0.blobUsed, a0.blobExcess, a0.beacon, a0.requests⟩ : HdrC).C 38) :: [])))))))) (some ⟨b8, 180, none⟩) a0.bloom.toList.length 256 1 (u8s a0.bloom.toList) := Held.part hH17 (HdrC.C_bloom_all (⟨a0.parent, a0.uncles, a0.coinbase, a0.state, a0.txRoot, a0.receiptRoot, a0.bloom, a0.difficulty, a0.number, a0.limit, a0.used, a0.time, .slice A1 a0.extra.length c2, a0.mix, a0.nonce, a0.tail, a0.baseFee, a0.withdrawals, a0.blobUsed, a0.blobExcess, a0.beacon, a0.requests⟩ : HdrC)) (by decide)
  refine Z18 4 rfl (by kernel_rfl) rfl (Z30 rfl rfl rfl rfl) rfl (UW.slot (ptr (some b8) 436) rfl (Z18 5 rfl (by kernel_rfl) rfl (RV.loadAH rfl hH17 (fun w m => More.of hΦ 3 m rfl) rfl rfl rfl (Z144 (⟨a0.parent, a0.uncles, a0.coinbase, a0.state, a0.txRoot, a0.receiptRoot, a0.bloom, a0.difficulty, a0.number, a0.limit, a0.used, a0.time, .slice A1 a0.extra.length c2, a0.mix, a0.nonce, a0.tail, a0.baseFee, a0.withdrawals, a0.blobUsed, a0.blobExcess, a0.beacon, a0.requests⟩ : HdrC)) ((Z103 _).trans Zv)) rfl (Z18 7 rfl (by kernel_rfl) rfl (Z30 rfl rfl rfl rfl) rfl (UW.slot (ptr (some b8) 440) rfl (Z18 8 rfl (by kernel_rfl) rfl (RV.loadH rfl hH17 (fun w m => More.of hΦ 3 m rfl) rfl rfl (HdrC.C_number (⟨a0.parent, a0.uncles, a0.coinbase, a0.state, a0.txRoot, a0.receiptRoot, a0.bloom, a0.difficulty, a0.number, a0.limit, a0.used, a0.time, .slice A1 a0.extra.length c2, a0.mix, a0.nonce, a0.tail, a0.baseFee, a0.withdrawals, a0.blobUsed, a0.blobExcess, a0.beacon, a0.requests⟩ : HdrC))) rfl (Z18 10 rfl (by kernel_rfl) rfl (Z30 rfl rfl rfl rfl) rfl (UW.slot (ptr (some b8) 441) rfl ?_)))))))
  refine Z18 11 rfl (by kernel_rfl) rfl (RV.loadH rfl hH17 (fun w m => More.of hΦ 3 m rfl) rfl rfl (HdrC.C_limit (⟨a0.parent, a0.uncles, a0.coinbase, a0.state, a0.txRoot, a0.receiptRoot, a0.bloom, a0.difficulty, a0.number, a0.limit, a0.used, a0.time, .slice A1 a0.extra.length c2, a0.mix, a0.nonce, a0.tail, a0.baseFee, a0.withdrawals, a0.blobUsed, a0.blobExcess, a0.beacon, a0.requests⟩ : HdrC))) rfl ?_
  obtain ⟨x169, hx168, hf⟩ := Z102 hf
  refine Z25 3 rfl (by kernel_rfl) rfl Tryd.call59 rfl (fun N' hN' => Z132 w0 (More w0 Φ (B135 ++ (B112 ++ (B89 ++ (B66 ++ (B43 ++ (B20 ++ ((some b8, blk (⟨a0.parent, a0.uncles, a0.coinbase, a0.state, a0.txRoot, a0.receiptRoot, a0.bloom, a0.difficulty, a0.number, a0.limit, a0.used, a0.time, .slice A1 a0.extra.length c2, a0.mix, a0.nonce, a0.tail, a0.baseFee, a0.withdrawals, a0.blobUsed, a0.blobExcess, a0.beacon, a0.requests⟩ : HdrC).C 38) :: [])))))))) N' (fun w m => More.of hΦ 3 (hN' w m) rfl) (some ⟨b8, 180, none⟩) 256 a0.bloom.toList x169 v167 hx168) rfl ?_
  rintro L173 M174 ⟨B170, cs171, h172, e175, e176⟩
  rw [e175, e176]
  clear e175 e176 L173 M174
  refine UW.mem (M' := ((ob161, blk ((([.bool (x19.list), .slice A27 x19.data.length c28, .slice A30 x19.items.length c31] : List Value) ++ ([.bool (x42.list), .slice A50 x42.data.length c51, .slice A53 x42.items.length c54] : List Value) ++ ([.bool (x65.list), .slice A73 x65.data.length c74, .slice A76 x65.items.length c77] : List Value) ++ ([.bool (x88.list), .slice A96 x88.data.length c97, .slice A99 x88.items.length c100] : List Value) ++ ([.bool (x111.list), .slice A119 x111.data.length c120, .slice A122 x111.items.length c123] : List Value) ++ ([.bool (x134.list), .slice A142 x134.data.length c143, .slice A145 x134.items.length c146] : List Value)) ++ r162) 25) :: ((some b156), blk ((([.bool (x19.list), .slice A27 x19.data.length c28, .slice A30 x19.items.length c31] : List Value) ++ ([.bool (x42.list), .slice A50 x42.data.length c51, .slice A53 x42.items.length c54] : List Value) ++ ([.bool (x65.list), .slice A73 x65.data.length c74, .slice A76 x65.items.length c77] : List Value) ++ ([.bool (x88.list), .slice A96 x88.data.length c97, .slice A99 x88.items.length c100] : List Value) ++ ([.bool (x111.list), .slice A119 x111.data.length c120, .slice A122 x111.items.length c123] : List Value) ++ ([.bool (x134.list), .slice A142 x134.data.length c143, .slice A145 x134.items.length c146] : List Value)) ++ []) 25) :: (some b9, blk [.bool false, .slice none 0 0, .slice none 0 0] 25) :: ((B170 ++ (B135 ++ (B112 ++ (B89 ++ (B66 ++ (B43 ++ (B20 ++ ((some b8, blk (⟨a0.parent, a0.uncles, a0.coinbase, a0.state, a0.txRoot, a0.receiptRoot, a0.bloom, a0.difficulty, a0.number, a0.limit, a0.used, a0.time, .slice A1 a0.extra.length c2, a0.mix, a0.nonce, a0.tail, a0.baseFee, a0.withdrawals, a0.blobUsed, a0.blobExcess, a0.beacon, a0.requests⟩ : HdrC).C 38) :: [])))))))) ++ N))) (fun w m => by have h := Z110 (A := B170) m 0 3 rfl rfl; exact h) ?_
  have gq8 : ∀ w, More w0 Φ (B170 ++ (B135 ++ (B112 ++ (B89 ++ (B66 ++ (B43 ++ (B20 ++ ((some b8, blk (⟨a0.parent, a0.uncles, a0.coinbase, a0.state, a0.txRoot, a0.receiptRoot, a0.bloom, a0.difficulty, a0.number, a0.limit, a0.used, a0.time, .slice A1 a0.extra.length c2, a0.mix, a0.nonce, a0.tail, a0.baseFee, a0.withdrawals, a0.blobUsed, a0.blobExcess, a0.beacon, a0.requests⟩ : HdrC).C 38) :: [])))))))) w → More w0 Φ (B135 ++ (B112 ++ (B89 ++ (B66 ++ (B43 ++ (B20 ++ ((some b8, blk (⟨a0.parent, a0.uncles, a0.coinbase, a0.state, a0.txRoot, a0.receiptRoot, a0.bloom, a0.difficulty, a0.number, a0.limit, a0.used, a0.time, .slice A1 a0.extra.length c2, a0.mix, a0.nonce, a0.tail, a0.baseFee, a0.withdrawals, a0.blobUsed, a0.blobExcess, a0.beacon, a0.requests⟩ : HdrC).C 38) :: []))))))) w := fun w q => More.mono (fun w m => (m).appR) q
  replace h6 := HdrRd.mono gq8 _ _ h6
  replace v3 := v3.mono gq8
  replace hH17 := hH17.mono gq8
  replace h165 := h165.mono (ItRd.mono gq8)
  replace v16 := v16.mono gq8
  replace h36 := ItRd.mono gq8 _ _ h36
  replace v29 := v29.mono gq8
  replace v32 := v32.mono gq8
  replace h34 := h34.mono (ItRd.mono gq8)
  replace h59 := ItRd.mono gq8 _ _ h59
  replace v52 := v52.mono gq8
  replace v55 := v55.mono gq8
  replace h57 := h57.mono (ItRd.mono gq8)
  replace h82 := ItRd.mono gq8 _ _ h82
  replace v75 := v75.mono gq8
  replace v78 := v78.mono gq8
  replace h80 := h80.mono (ItRd.mono gq8)
  replace h105 := ItRd.mono gq8 _ _ h105
  replace v98 := v98.mono gq8
  replace v101 := v101.mono gq8
  replace h103 := h103.mono (ItRd.mono gq8)
  replace h128 := ItRd.mono gq8 _ _ h128
  replace v121 := v121.mono gq8
  replace v124 := v124.mono gq8
  replace h126 := h126.mono (ItRd.mono gq8)
  replace h151 := ItRd.mono gq8 _ _ h151
  replace v144 := v144.mono gq8
  replace v147 := v147.mono gq8
  replace h149 := h149.mono (ItRd.mono gq8)
  replace h159 := h159.mono (ItRd.mono gq8)
  replace v167 := v167.mono gq8
  replace h172 := ItRd.mono (Ψ := (More w0 Φ (B170 ++ (B135 ++ (B112 ++ (B89 ++ (B66 ++ (B43 ++ (B20 ++ ((some b8, blk (⟨a0.parent, a0.uncles, a0.coinbase, a0.state, a0.txRoot, a0.receiptRoot, a0.bloom, a0.difficulty, a0.number, a0.limit, a0.used, a0.time, .slice A1 a0.extra.length c2, a0.mix, a0.nonce, a0.tail, a0.baseFee, a0.withdrawals, a0.blobUsed, a0.blobExcess, a0.beacon, a0.requests⟩ : HdrC).C 38) :: [])))))))))) (fun w q => More.flat q) _ _ h172
  have h186 := h172
  obtain ⟨A177, c178, A180, c181, cs183, e185, v179, v182, h184⟩ := ItRd.opn h172
  subst e185
  have m187 := v179.mx
  have m188 := v182.mx
  have m189 := v179.mx
  have m190 := v182.mx
  obtain ⟨x192, hx191, hf⟩ := Z102 hf
  refine Z25 6 rfl (by kernel_rfl) rfl Tryd.call60 rfl (fun N' hN' => Z148 w0 (More w0 Φ (B170 ++ (B135 ++ (B112 ++ (B89 ++ (B66 ++ (B43 ++ (B20 ++ ((some b8, blk (⟨a0.parent, a0.uncles, a0.coinbase, a0.state, a0.txRoot, a0.receiptRoot, a0.bloom, a0.difficulty, a0.number, a0.limit, a0.used, a0.time, .slice A1 a0.extra.length c2, a0.mix, a0.nonce, a0.tail, a0.baseFee, a0.withdrawals, a0.blobUsed, a0.blobExcess, a0.beacon, a0.requests⟩ : HdrC).C 38) :: []))))))))) N' (fun w m => More.of hΦ 3 (hN' w m) rfl) a0.difficulty x192 hx191) rfl ?_
  rintro L196 M197 ⟨B193, cs194, h195, e198, e199⟩
  rw [e198, e199]
  clear e198 e199 L196 M197
  refine UW.mem (M' := ((ob161, blk ((([.bool (x19.list), .slice A27 x19.data.length c28, .slice A30 x19.items.length c31] : List Value) ++ ([.bool (x42.list), .slice A50 x42.data.length c51, .slice A53 x42.items.length c54] : List Value) ++ ([.bool (x65.list), .slice A73 x65.data.length c74, .slice A76 x65.items.length c77] : List Value) ++ ([.bool (x88.list), .slice A96 x88.data.length c97, .slice A99 x88.items.length c100] : List Value) ++ ([.bool (x111.list), .slice A119 x111.data.length c120, .slice A122 x111.items.length c123] : List Value) ++ ([.bool (x134.list), .slice A142 x134.data.length c143, .slice A145 x134.items.length c146] : List Value)) ++ r162) 25) :: ((some b156), blk ((([.bool (x19.list), .slice A27 x19.data.length c28, .slice A30 x19.items.length c31] : List Value) ++ ([.bool (x42.list), .slice A50 x42.data.length c51, .slice A53 x42.items.length c54] : List Value) ++ ([.bool (x65.list), .slice A73 x65.data.length c74, .slice A76 x65.items.length c77] : List Value) ++ ([.bool (x88.list), .slice A96 x88.data.length c97, .slice A99 x88.items.length c100] : List Value) ++ ([.bool (x111.list), .slice A119 x111.data.length c120, .slice A122 x111.items.length c123] : List Value) ++ ([.bool (x134.list), .slice A142 x134.data.length c143, .slice A145 x134.items.length c146] : List Value)) ++ []) 25) :: (some b9, blk [.bool false, .slice none 0 0, .slice none 0 0] 25) :: ((B193 ++ (B170 ++ (B135 ++ (B112 ++ (B89 ++ (B66 ++ (B43 ++ (B20 ++ ((some b8, blk (⟨a0.parent, a0.uncles, a0.coinbase, a0.state, a0.txRoot, a0.receiptRoot, a0.bloom, a0.difficulty, a0.number, a0.limit, a0.used, a0.time, .slice A1 a0.extra.length c2, a0.mix, a0.nonce, a0.tail, a0.baseFee, a0.withdrawals, a0.blobUsed, a0.blobExcess, a0.beacon, a0.requests⟩ : HdrC).C 38) :: []))))))))) ++ N))) (fun w m => by have h := Z110 (A := B193) m 0 3 rfl rfl; exact h) ?_
  have gq9 : ∀ w, More w0 Φ (B193 ++ (B170 ++ (B135 ++ (B112 ++ (B89 ++ (B66 ++ (B43 ++ (B20 ++ ((some b8, blk (⟨a0.parent, a0.uncles, a0.coinbase, a0.state, a0.txRoot, a0.receiptRoot, a0.bloom, a0.difficulty, a0.number, a0.limit, a0.used, a0.time, .slice A1 a0.extra.length c2, a0.mix, a0.nonce, a0.tail, a0.baseFee, a0.withdrawals, a0.blobUsed, a0.blobExcess, a0.beacon, a0.requests⟩ : HdrC).C 38) :: []))))))))) w → More w0 Φ (B170 ++ (B135 ++ (B112 ++ (B89 ++ (B66 ++ (B43 ++ (B20 ++ ((some b8, blk (⟨a0.parent, a0.uncles, a0.coinbase, a0.state, a0.txRoot, a0.receiptRoot, a0.bloom, a0.difficulty, a0.number, a0.limit, a0.used, a0.time, .slice A1 a0.extra.length c2, a0.mix, a0.nonce, a0.tail, a0.baseFee, a0.withdrawals, a0.blobUsed, a0.blobExcess, a0.beacon, a0.requests⟩ : HdrC).C 38) :: [])))))))) w := fun w q => More.mono (fun w m => (m).appR) q
  replace h6 := HdrRd.mono gq9 _ _ h6
  replace v3 := v3.mono gq9
  replace hH17 := hH17.mono gq9
  replace h165 := h165.mono (ItRd.mono gq9)
  replace v16 := v16.mono gq9
  replace h36 := ItRd.mono gq9 _ _ h36
  replace v29 := v29.mono gq9
  replace v32 := v32.mono gq9
  replace h34 := h34.mono (ItRd.mono gq9)
  replace h59 := ItRd.mono gq9 _ _ h59
  replace v52 := v52.mono gq9
  replace v55 := v55.mono gq9
  replace h57 := h57.mono (ItRd.mono gq9)
  replace h82 := ItRd.mono gq9 _ _ h82
  replace v75 := v75.mono gq9
  replace v78 := v78.mono gq9
  replace h80 := h80.mono (ItRd.mono gq9)
  replace h105 := ItRd.mono gq9 _ _ h105
  replace v98 := v98.mono gq9
  replace v101 := v101.mono gq9
  replace h103 := h103.mono (ItRd.mono gq9)
  replace h128 := ItRd.mono gq9 _ _ h128
  replace v121 := v121.mono gq9
  replace v124 := v124.mono gq9
  replace h126 := h126.mono (ItRd.mono gq9)
  replace h151 := ItRd.mono gq9 _ _ h151
  replace v144 := v144.mono gq9
  replace v147 := v147.mono gq9
  replace h149 := h149.mono (ItRd.mono gq9)
  replace h159 := h159.mono (ItRd.mono gq9)
  replace v167 := v167.mono gq9
  replace h186 := ItRd.mono gq9 _ _ h186
  replace v179 := v179.mono gq9
  replace v182 := v182.mono gq9
  replace h184 := h184.mono (ItRd.mono gq9)
  replace h195 := ItRd.mono (Ψ := (More w0 Φ (B193 ++ (B170 ++ (B135 ++ (B112 ++ (B89 ++ (B66 ++ (B43 ++ (B20 ++ ((some b8, blk (⟨a0.parent, a0.uncles, a0.coinbase, a0.state, a0.txRoot, a0.receiptRoot, a0.bloom, a0.difficulty, a0.number, a0.limit, a0.used, a0.time, .slice A1 a0.extra.length c2, a0.mix, a0.nonce, a0.tail, a0.baseFee, a0.withdrawals, a0.blobUsed, a0.blobExcess, a0.beacon, a0.requests⟩ : HdrC).C 38) :: []))))))))))) (fun w q => More.flat q) _ _ h195
  have h209 := h195
  obtain ⟨A200, c201, A203, c204, cs206, e208, v202, v205, h207⟩ := ItRd.opn h195
  subst e208
  have m210 := v202.mx
  have m211 := v205.mx
  have m212 := v202.mx
  have m213 := v205.mx
  obtain ⟨x215, hx214, hf⟩ := Z102 hf
  refine Z25 9 rfl (by kernel_rfl) rfl Tryd.call61 rfl (fun N' hN' => Z124 w0 (More w0 Φ (B193 ++ (B170 ++ (B135 ++ (B112 ++ (B89 ++ (B66 ++ (B43 ++ (B20 ++ ((some b8, blk (⟨a0.parent, a0.uncles, a0.coinbase, a0.state, a0.txRoot, a0.receiptRoot, a0.bloom, a0.difficulty, a0.number, a0.limit, a0.used, a0.time, .slice A1 a0.extra.length c2, a0.mix, a0.nonce, a0.tail, a0.baseFee, a0.withdrawals, a0.blobUsed, a0.blobExcess, a0.beacon, a0.requests⟩ : HdrC).C 38) :: [])))))))))) N' (fun w m => More.of hΦ 3 (hN' w m) rfl) a0.number x215 hx214) rfl ?_
  rintro L219 M220 ⟨B216, cs217, h218, e221, e222⟩
  rw [e221, e222]
  clear e221 e222 L219 M220
  refine UW.mem (M' := ((ob161, blk ((([.bool (x19.list), .slice A27 x19.data.length c28, .slice A30 x19.items.length c31] : List Value) ++ ([.bool (x42.list), .slice A50 x42.data.length c51, .slice A53 x42.items.length c54] : List Value) ++ ([.bool (x65.list), .slice A73 x65.data.length c74, .slice A76 x65.items.length c77] : List Value) ++ ([.bool (x88.list), .slice A96 x88.data.length c97, .slice A99 x88.items.length c100] : List Value) ++ ([.bool (x111.list), .slice A119 x111.data.length c120, .slice A122 x111.items.length c123] : List Value) ++ ([.bool (x134.list), .slice A142 x134.data.length c143, .slice A145 x134.items.length c146] : List Value)) ++ r162) 25) :: ((some b156), blk ((([.bool (x19.list), .slice A27 x19.data.length c28, .slice A30 x19.items.length c31] : List Value) ++ ([.bool (x42.list), .slice A50 x42.data.length c51, .slice A53 x42.items.length c54] : List Value) ++ ([.bool (x65.list), .slice A73 x65.data.length c74, .slice A76 x65.items.length c77] : List Value) ++ ([.bool (x88.list), .slice A96 x88.data.length c97, .slice A99 x88.items.length c100] : List Value) ++ ([.bool (x111.list), .slice A119 x111.data.length c120, .slice A122 x111.items.length c123] : List Value) ++ ([.bool (x134.list), .slice A142 x134.data.length c143, .slice A145 x134.items.length c146] : List Value)) ++ []) 25) :: (some b9, blk [.bool false, .slice none 0 0, .slice none 0 0] 25) :: ((B216 ++ (B193 ++ (B170 ++ (B135 ++ (B112 ++ (B89 ++ (B66 ++ (B43 ++ (B20 ++ ((some b8, blk (⟨a0.parent, a0.uncles, a0.coinbase, a0.state, a0.txRoot, a0.receiptRoot, a0.bloom, a0.difficulty, a0.number, a0.limit, a0.used, a0.time, .slice A1 a0.extra.length c2, a0.mix, a0.nonce, a0.tail, a0.baseFee, a0.withdrawals, a0.blobUsed, a0.blobExcess, a0.beacon, a0.requests⟩ : HdrC).C 38) :: [])))))))))) ++ N))) (fun w m => by have h := Z110 (A := B216) m 0 3 rfl rfl; exact h) ?_
  have gq10 : ∀ w, More w0 Φ (B216 ++ (B193 ++ (B170 ++ (B135 ++ (B112 ++ (B89 ++ (B66 ++ (B43 ++ (B20 ++ ((some b8, blk (⟨a0.parent, a0.uncles, a0.coinbase, a0.state, a0.txRoot, a0.receiptRoot, a0.bloom, a0.difficulty, a0.number, a0.limit, a0.used, a0.time, .slice A1 a0.extra.length c2, a0.mix, a0.nonce, a0.tail, a0.baseFee, a0.withdrawals, a0.blobUsed, a0.blobExcess, a0.beacon, a0.requests⟩ : HdrC).C 38) :: [])))))))))) w → More w0 Φ (B193 ++ (B170 ++ (B135 ++ (B112 ++ (B89 ++ (B66 ++ (B43 ++ (B20 ++ ((some b8, blk (⟨a0.parent, a0.uncles, a0.coinbase, a0.state, a0.txRoot, a0.receiptRoot, a0.bloom, a0.difficulty, a0.number, a0.limit, a0.used, a0.time, .slice A1 a0.extra.length c2, a0.mix, a0.nonce, a0.tail, a0.baseFee, a0.withdrawals, a0.blobUsed, a0.blobExcess, a0.beacon, a0.requests⟩ : HdrC).C 38) :: []))))))))) w := fun w q => More.mono (fun w m => (m).appR) q
  replace h6 := HdrRd.mono gq10 _ _ h6
  replace v3 := v3.mono gq10
  replace hH17 := hH17.mono gq10
  replace h165 := h165.mono (ItRd.mono gq10)
  replace v16 := v16.mono gq10
  replace h36 := ItRd.mono gq10 _ _ h36
  replace v29 := v29.mono gq10
  replace v32 := v32.mono gq10
  replace h34 := h34.mono (ItRd.mono gq10)
  replace h59 := ItRd.mono gq10 _ _ h59
  replace v52 := v52.mono gq10
  replace v55 := v55.mono gq10
  replace h57 := h57.mono (ItRd.mono gq10)
  replace h82 := ItRd.mono gq10 _ _ h82
  replace v75 := v75.mono gq10
  replace v78 := v78.mono gq10
  replace h80 := h80.mono (ItRd.mono gq10)
  replace h105 := ItRd.mono gq10 _ _ h105
  replace v98 := v98.mono gq10
  replace v101 := v101.mono gq10
  replace h103 := h103.mono (ItRd.mono gq10)
  replace h128 := ItRd.mono gq10 _ _ h128
  replace v121 := v121.mono gq10
  replace v124 := v124.mono gq10
  replace h126 := h126.mono (ItRd.mono gq10)
  replace h151 := ItRd.mono gq10 _ _ h151
  replace v144 := v144.mono gq10
  replace v147 := v147.mono gq10
  replace h149 := h149.mono (ItRd.mono gq10)
  replace h159 := h159.mono (ItRd.mono gq10)
  replace v167 := v167.mono gq10
  replace h186 := ItRd.mono gq10 _ _ h186
  replace v179 := v179.mono gq10
  replace v182 := v182.mono gq10
  replace h184 := h184.mono (ItRd.mono gq10)
  replace h209 := ItRd.mono gq10 _ _ h209
  replace v202 := v202.mono gq10
  replace v205 := v205.mono gq10
  replace h207 := h207.mono (ItRd.mono gq10)
  replace h218 := ItRd.mono (Ψ := (More w0 Φ (B216 ++ (B193 ++ (B170 ++ (B135 ++ (B112 ++ (B89 ++ (B66 ++ (B43 ++ (B20 ++ ((some b8, blk (⟨a0.parent, a0.uncles, a0.coinbase, a0.state, a0.txRoot, a0.receiptRoot, a0.bloom, a0.difficulty, a0.number, a0.limit, a0.used, a0.time, .slice A1 a0.extra.length c2, a0.mix, a0.nonce, a0.tail, a0.baseFee, a0.withdrawals, a0.blobUsed, a0.blobExcess, a0.beacon, a0.requests⟩ : HdrC).C 38) :: [])))))))))))) (fun w q => More.flat q) _ _ h218
  have h232 := h218
  obtain ⟨A223, c224, A226, c227, cs229, e231, v225, v228, h230⟩ := ItRd.opn h218
  subst e231
  have m233 := v225.mx
  have m234 := v228.mx
  have m235 := v225.mx
  have m236 := v228.mx
  obtain ⟨x238, hx237, hf⟩ := Z102 hf
  refine Z25 12 rfl (by kernel_rfl) rfl Tryd.call61 rfl (fun N' hN' => Z124 w0 (More w0 Φ (B216 ++ (B193 ++ (B170 ++ (B135 ++ (B112 ++ (B89 ++ (B66 ++ (B43 ++ (B20 ++ ((some b8, blk (⟨a0.parent, a0.uncles, a0.coinbase, a0.state, a0.txRoot, a0.receiptRoot, a0.bloom, a0.difficulty, a0.number, a0.limit, a0.used, a0.time, .slice A1 a0.extra.length c2, a0.mix, a0.nonce, a0.tail, a0.baseFee, a0.withdrawals, a0.blobUsed, a0.blobExcess, a0.beacon, a0.requests⟩ : HdrC).C 38) :: []))))))))))) N' (fun w m => More.of hΦ 3 (hN' w m) rfl) a0.limit x238 hx237) rfl ?_
  rintro L242 M243 ⟨B239, cs240, h241, e244, e245⟩
  rw [e244, e245]
  clear e244 e245 L242 M243
  refine UW.mem (M' := ((ob161, blk ((([.bool (x19.list), .slice A27 x19.data.length c28, .slice A30 x19.items.length c31] : List Value) ++ ([.bool (x42.list), .slice A50 x42.data.length c51, .slice A53 x42.items.length c54] : List Value) ++ ([.bool (x65.list), .slice A73 x65.data.length c74, .slice A76 x65.items.length c77] : List Value) ++ ([.bool (x88.list), .slice A96 x88.data.length c97, .slice A99 x88.items.length c100] : List Value) ++ ([.bool (x111.list), .slice A119 x111.data.length c120, .slice A122 x111.items.length c123] : List Value) ++ ([.bool (x134.list), .slice A142 x134.data.length c143, .slice A145 x134.items.length c146] : List Value)) ++ r162) 25) :: ((some b156), blk ((([.bool (x19.list), .slice A27 x19.data.length c28, .slice A30 x19.items.length c31] : List Value) ++ ([.bool (x42.list), .slice A50 x42.data.length c51, .slice A53 x42.items.length c54] : List Value) ++ ([.bool (x65.list), .slice A73 x65.data.length c74, .slice A76 x65.items.length c77] : List Value) ++ ([.bool (x88.list), .slice A96 x88.data.length c97, .slice A99 x88.items.length c100] : List Value) ++ ([.bool (x111.list), .slice A119 x111.data.length c120, .slice A122 x111.items.length c123] : List Value) ++ ([.bool (x134.list), .slice A142 x134.data.length c143, .slice A145 x134.items.length c146] : List Value)) ++ []) 25) :: (some b9, blk [.bool false, .slice none 0 0, .slice none 0 0] 25) :: ((B239 ++ (B216 ++ (B193 ++ (B170 ++ (B135 ++ (B112 ++ (B89 ++ (B66 ++ (B43 ++ (B20 ++ ((some b8, blk (⟨a0.parent, a0.uncles, a0.coinbase, a0.state, a0.txRoot, a0.receiptRoot, a0.bloom, a0.difficulty, a0.number, a0.limit, a0.used, a0.time, .slice A1 a0.extra.length c2, a0.mix, a0.nonce, a0.tail, a0.baseFee, a0.withdrawals, a0.blobUsed, a0.blobExcess, a0.beacon, a0.requests⟩ : HdrC).C 38) :: []))))))))))) ++ N))) (fun w m => by have h := Z110 (A := B239) m 0 3 rfl rfl; exact h) ?_
  have gq11 : ∀ w, More w0 Φ (B239 ++ (B216 ++ (B193 ++ (B170 ++ (B135 ++ (B112 ++ (B89 ++ (B66 ++ (B43 ++ (B20 ++ ((some b8, blk (⟨a0.parent, a0.uncles, a0.coinbase, a0.state, a0.txRoot, a0.receiptRoot, a0.bloom, a0.difficulty, a0.number, a0.limit, a0.used, a0.time, .slice A1 a0.extra.length c2, a0.mix, a0.nonce, a0.tail, a0.baseFee, a0.withdrawals, a0.blobUsed, a0.blobExcess, a0.beacon, a0.requests⟩ : HdrC).C 38) :: []))))))))))) w → More w0 Φ (B216 ++ (B193 ++ (B170 ++ (B135 ++ (B112 ++ (B89 ++ (B66 ++ (B43 ++ (B20 ++ ((some b8, blk (⟨a0.parent, a0.uncles, a0.coinbase, a0.state, a0.txRoot, a0.receiptRoot, a0.bloom, a0.difficulty, a0.number, a0.limit, a0.used, a0.time, .slice A1 a0.extra.length c2, a0.mix, a0.nonce, a0.tail, a0.baseFee, a0.withdrawals, a0.blobUsed, a0.blobExcess, a0.beacon, a0.requests⟩ : HdrC).C 38) :: [])))))))))) w := fun w q => More.mono (fun w m => (m).appR) q
  replace h6 := HdrRd.mono gq11 _ _ h6
  replace v3 := v3.mono gq11
  replace hH17 := hH17.mono gq11
  replace h165 := h165.mono (ItRd.mono gq11)
  replace v16 := v16.mono gq11
  replace h36 := ItRd.mono gq11 _ _ h36
  replace v29 := v29.mono gq11
  replace v32 := v32.mono gq11
  replace h34 := h34.mono (ItRd.mono gq11)
  replace h59 := ItRd.mono gq11 _ _ h59
  replace v52 := v52.mono gq11
  replace v55 := v55.mono gq11
  replace h57 := h57.mono (ItRd.mono gq11)
  replace h82 := ItRd.mono gq11 _ _ h82
  replace v75 := v75.mono gq11
  replace v78 := v78.mono gq11
  replace h80 := h80.mono (ItRd.mono gq11)
  replace h105 := ItRd.mono gq11 _ _ h105
  replace v98 := v98.mono gq11
  replace v101 := v101.mono gq11
  replace h103 := h103.mono (ItRd.mono gq11)
  replace h128 := ItRd.mono gq11 _ _ h128
  replace v121 := v121.mono gq11
  replace v124 := v124.mono gq11
  replace h126 := h126.mono (ItRd.mono gq11)
  replace h151 := ItRd.mono gq11 _ _ h151
  replace v144 := v144.mono gq11
  replace v147 := v147.mono gq11
  replace h149 := h149.mono (ItRd.mono gq11)
  replace h159 := h159.mono (ItRd.mono gq11)
  replace v167 := v167.mono gq11
  replace h186 := ItRd.mono gq11 _ _ h186
  replace v179 := v179.mono gq11
  replace v182 := v182.mono gq11
  replace h184 := h184.mono (ItRd.mono gq11)
  replace h209 := ItRd.mono gq11 _ _ h209
  replace v202 := v202.mono gq11
  replace v205 := v205.mono gq11
  replace h207 := h207.mono (ItRd.mono gq11)
  replace h232 := ItRd.mono gq11 _ _ h232
  replace v225 := v225.mono gq11
  replace v228 := v228.mono gq11
  replace h230 := h230.mono (ItRd.mono gq11)
  replace h241 := ItRd.mono (Ψ := (More w0 Φ (B239 ++ (B216 ++ (B193 ++ (B170 ++ (B135 ++ (B112 ++ (B89 ++ (B66 ++ (B43 ++ (B20 ++ ((some b8, blk (⟨a0.parent, a0.uncles, a0.coinbase, a0.state, a0.txRoot, a0.receiptRoot, a0.bloom, a0.difficulty, a0.number, a0.limit, a0.used, a0.time, .slice A1 a0.extra.length c2, a0.mix, a0.nonce, a0.tail, a0.baseFee, a0.withdrawals, a0.blobUsed, a0.blobExcess, a0.beacon, a0.requests⟩ : HdrC).C 38) :: []))))))))))))) (fun w q => More.flat q) _ _ h241
  have h255 := h241
  obtain ⟨A246, c247, A249, c250, cs252, e254, v248, v251, h253⟩ := ItRd.opn h241
  subst e254
  have m256 := v248.mx
  have m257 := v251.mx
  have m258 := v248.mx
  have m259 := v251.mx
  refine UW.new 13 rfl (by kernel_rfl) rfl (NV.bsA rfl rfl (by intro x hx; simp at hx; rcases hx with rfl | rfl | rfl | rfl <;> exact rfl) rfl rfl rfl (by decide) (by decide) rfl) rfl (fun b260 => ?_)
  have h263 : Reps (ItRd (More w0 Φ (B239 ++ (B216 ++ (B193 ++ (B170 ++ (B135 ++ (B112 ++ (B89 ++ (B66 ++ (B43 ++ (B20 ++ ((some b8, blk (⟨a0.parent, a0.uncles, a0.coinbase, a0.state, a0.txRoot, a0.receiptRoot, a0.bloom, a0.difficulty, a0.number, a0.limit, a0.used, a0.time, .slice A1 a0.extra.length c2, a0.mix, a0.nonce, a0.tail, a0.baseFee, a0.withdrawals, a0.blobUsed, a0.blobExcess, a0.beacon, a0.requests⟩ : HdrC).C 38) :: []))))))))))))) (([.bool (x169.list), .slice A177 x169.data.length c178, .slice A180 x169.items.length c181] : List Value) ++ ([.bool (x192.list), .slice A200 x192.data.length c201, .slice A203 x192.items.length c204] : List Value) ++ ([.bool (x215.list), .slice A223 x215.data.length c224, .slice A226 x215.items.length c227] : List Value) ++ ([.bool (x238.list), .slice A246 x238.data.length c247, .slice A249 x238.items.length c250] : List Value)) [x169, x192, x215, x238] := by simpa using (show Reps (ItRd (More w0 Φ (B239 ++ (B216 ++ (B193 ++ (B170 ++ (B135 ++ (B112 ++ (B89 ++ (B66 ++ (B43 ++ (B20 ++ ((some b8, blk (⟨a0.parent, a0.uncles, a0.coinbase, a0.state, a0.txRoot, a0.receiptRoot, a0.bloom, a0.difficulty, a0.number, a0.limit, a0.used, a0.time, .slice A1 a0.extra.length c2, a0.mix, a0.nonce, a0.tail, a0.baseFee, a0.withdrawals, a0.blobUsed, a0.blobExcess, a0.beacon, a0.requests⟩ : HdrC).C 38) :: []))))))))))))) _ [x169, x192, x215, x238] from (.cons h186 (.cons h209 (.cons h232 (.cons h255 .nil)))))
  refine UW.mem (M' := (((some b260), blk ((([.bool (x169.list), .slice A177 x169.data.length c178, .slice A180 x169.items.length c181] : List Value) ++ ([.bool (x192.list), .slice A200 x192.data.length c201, .slice A203 x192.items.length c204] : List Value) ++ ([.bool (x215.list), .slice A223 x215.data.length c224, .slice A226 x215.items.length c227] : List Value) ++ ([.bool (x238.list), .slice A246 x238.data.length c247, .slice A249 x238.items.length c250] : List Value)) ++ []) 25) :: (ob161, blk ((([.bool (x19.list), .slice A27 x19.data.length c28, .slice A30 x19.items.length c31] : List Value) ++ ([.bool (x42.list), .slice A50 x42.data.length c51, .slice A53 x42.items.length c54] : List Value) ++ ([.bool (x65.list), .slice A73 x65.data.length c74, .slice A76 x65.items.length c77] : List Value) ++ ([.bool (x88.list), .slice A96 x88.data.length c97, .slice A99 x88.items.length c100] : List Value) ++ ([.bool (x111.list), .slice A119 x111.data.length c120, .slice A122 x111.items.length c123] : List Value) ++ ([.bool (x134.list), .slice A142 x134.data.length c143, .slice A145 x134.items.length c146] : List Value)) ++ r162) 25) :: ((some b156), blk ((([.bool (x19.list), .slice A27 x19.data.length c28, .slice A30 x19.items.length c31] : List Value) ++ ([.bool (x42.list), .slice A50 x42.data.length c51, .slice A53 x42.items.length c54] : List Value) ++ ([.bool (x65.list), .slice A73 x65.data.length c74, .slice A76 x65.items.length c77] : List Value) ++ ([.bool (x88.list), .slice A96 x88.data.length c97, .slice A99 x88.items.length c100] : List Value) ++ ([.bool (x111.list), .slice A119 x111.data.length c120, .slice A122 x111.items.length c123] : List Value) ++ ([.bool (x134.list), .slice A142 x134.data.length c143, .slice A145 x134.items.length c146] : List Value)) ++ []) 25) :: (some b9, blk [.bool false, .slice none 0 0, .slice none 0 0] 25) :: ((B239 ++ (B216 ++ (B193 ++ (B170 ++ (B135 ++ (B112 ++ (B89 ++ (B66 ++ (B43 ++ (B20 ++ ((some b8, blk (⟨a0.parent, a0.uncles, a0.coinbase, a0.state, a0.txRoot, a0.receiptRoot, a0.bloom, a0.difficulty, a0.number, a0.limit, a0.used, a0.time, .slice A1 a0.extra.length c2, a0.mix, a0.nonce, a0.tail, a0.baseFee, a0.withdrawals, a0.blobUsed, a0.blobExcess, a0.beacon, a0.requests⟩ : HdrC).C 38) :: []))))))))))) ++ N))) (fun w m => m) ?_
  have o261 : OwnS (some b260) ([x169, x192, x215, x238] : List (It)).length 4 3 (([.bool (x169.list), .slice A177 x169.data.length c178, .slice A180 x169.items.length c181] : List Value) ++ ([.bool (x192.list), .slice A200 x192.data.length c201, .slice A203 x192.items.length c204] : List Value) ++ ([.bool (x215.list), .slice A223 x215.data.length c224, .slice A226 x215.items.length c227] : List Value) ++ ([.bool (x238.list), .slice A246 x238.data.length c247, .slice A249 x238.items.length c250] : List Value)) [] := ⟨by simp [ItRd], by simp [ItRd], (fun h => nomatch h), by simp⟩
  have mx_o261 := o261.mx
  refine UW.slot (sl (some b260) 0 ([x169, x192, x215, x238] : List (It)).length 4) (rfl) (UW.nil (by kernel_rfl) (OW.rot1 ?_))
  obtain ⟨g264, hf⟩ := Z115 hf
  have h269 := h165.app h263
  refine OW.appendOwn (s := 3) rfl rfl rfl rfl rfl rfl o164 (fun w m => m.rd0 (List.Mem.tail _ Zh) (fun e => o261.nilc (by decide) e)) o261.n (h263.cell1 ItRd.one) (o261.zeroO (by decide)) (by decide) (by decide) (by first | omega | (simp only [i25, List.length_nil]; omega)) rfl rfl ((([x19, x42, x65, x88, x111, x134] : List (It)) ++ ([x169, x192, x215, x238] : List (It))).length) ((([.bool (x19.list), .slice A27 x19.data.length c28, .slice A30 x19.items.length c31] : List Value) ++ ([.bool (x42.list), .slice A50 x42.data.length c51, .slice A53 x42.items.length c54] : List Value) ++ ([.bool (x65.list), .slice A73 x65.data.length c74, .slice A76 x65.items.length c77] : List Value) ++ ([.bool (x88.list), .slice A96 x88.data.length c97, .slice A99 x88.items.length c100] : List Value) ++ ([.bool (x111.list), .slice A119 x111.data.length c120, .slice A122 x111.items.length c123] : List Value) ++ ([.bool (x134.list), .slice A142 x134.data.length c143, .slice A145 x134.items.length c146] : List Value)) ++ (([.bool (x169.list), .slice A177 x169.data.length c178, .slice A180 x169.items.length c181] : List Value) ++ ([.bool (x192.list), .slice A200 x192.data.length c201, .slice A203 x192.items.length c204] : List Value) ++ ([.bool (x215.list), .slice A223 x215.data.length c224, .slice A226 x215.items.length c227] : List Value) ++ ([.bool (x238.list), .slice A246 x238.data.length c247, .slice A249 x238.items.length c250] : List Value))) (List.length_append ..).symm rfl (fun ob265 r266 c267 o268 => ?_)
  have m270 := o268.mx
  refine Z0 (Z5 rfl) rfl (Z6 (Z1 (Z4 (Z159 17 mixed (by kernel_rfl) rfl (Z18 0 rfl (by kernel_rfl) rfl (Z3 rfl) rfl (Z18 1 rfl (by kernel_rfl) rfl (Z30 rfl rfl rfl rfl) rfl (UW.slot (ptr (some b8) 442) rfl (Z18 2 rfl (by kernel_rfl) rfl (RV.loadH rfl hH17 (fun w m => More.of hΦ 4 m rfl) rfl rfl (HdrC.C_used (⟨a0.parent, a0.uncles, a0.coinbase, a0.state, a0.txRoot, a0.receiptRoot, a0.bloom, a0.difficulty, a0.number, a0.limit, a0.used, a0.time, .slice A1 a0.extra.length c2, a0.mix, a0.nonce, a0.tail, a0.baseFee, a0.withdrawals, a0.blobUsed, a0.blobExcess, a0.beacon, a0.requests⟩ : HdrC))) rfl (Z18 4 rfl (by kernel_rfl) rfl (Z30 rfl rfl rfl rfl) rfl ?_)))))))))
  refine UW.slot (ptr (some b8) 443) rfl (Z18 5 rfl (by kernel_rfl) rfl (RV.loadH rfl hH17 (fun w m => More.of hΦ 4 m rfl) rfl rfl (HdrC.C_time (⟨a0.parent, a0.uncles, a0.coinbase, a0.state, a0.txRoot, a0.receiptRoot, a0.bloom, a0.difficulty, a0.number, a0.limit, a0.used, a0.time, .slice A1 a0.extra.length c2, a0.mix, a0.nonce, a0.tail, a0.baseFee, a0.withdrawals, a0.blobUsed, a0.blobExcess, a0.beacon, a0.requests⟩ : HdrC))) rfl (Z18 7 rfl (by kernel_rfl) rfl (Z30 rfl rfl rfl rfl) rfl (UW.slot (ptr (some b8) 444) rfl (Z18 8 rfl (by kernel_rfl) rfl (RV.loadH rfl hH17 (fun w m => More.of hΦ 4 m rfl) rfl rfl (Z138 (⟨a0.parent, a0.uncles, a0.coinbase, a0.state, a0.txRoot, a0.receiptRoot, a0.bloom, a0.difficulty, a0.number, a0.limit, a0.used, a0.time, .slice A1 a0.extra.length c2, a0.mix, a0.nonce, a0.tail, a0.baseFee, a0.withdrawals, a0.blobUsed, a0.blobExcess, a0.beacon, a0.requests⟩ : HdrC))) rfl (Z18 10 rfl (by kernel_rfl) rfl (Z30 rfl rfl rfl rfl) rfl (UW.slot (ptr (some b8) 445) rfl (Z18 11 rfl (by kernel_rfl) rfl (RV.loadAH rfl hH17 (fun w m => More.of hΦ 4 m rfl) rfl rfl rfl (HdrC.C_mix_all (⟨a0.parent, a0.uncles, a0.coinbase, a0.state, a0.txRoot, a0.receiptRoot, a0.bloom, a0.difficulty, a0.number, a0.limit, a0.used, a0.time, .slice A1 a0.extra.length c2, a0.mix, a0.nonce, a0.tail, a0.baseFee, a0.withdrawals, a0.blobUsed, a0.blobExcess, a0.beacon, a0.requests⟩ : HdrC)) ((Z100 _).trans Zv)) rfl ?_)))))))
  refine Z18 13 rfl (by kernel_rfl) rfl (Z30 rfl rfl rfl rfl) rfl (UW.slot (ptr (some b8) 477) rfl (Z18 14 rfl (by kernel_rfl) rfl (Z139 rfl rfl rfl) rfl ?_))
  refine UW.slot (.slice (some ⟨b8, 477, none⟩) a0.nonce.toList.length 8) (by rw [Zv]; try rfl) ?_
  have v271 : View (More w0 Φ (B239 ++ (B216 ++ (B193 ++ (B170 ++ (B135 ++ (B112 ++ (B89 ++ (B66 ++ (B43 ++ (B20 ++ ((some b8, blk (⟨a0.parent, a0.uncles, a0.coinbase, a0.state, a0.txRoot, a0.receiptRoot, a0.bloom, a0.difficulty, a0.number, a0.limit, a0.used, a0.time, .slice A1 a0.extra.length c2, a0.mix, a0.nonce, a0.tail, a0.baseFee, a0.withdrawals, a0.blobUsed, a0.blobExcess, a0.beacon, a0.requests⟩ : HdrC).C 38) :: [])))))))))))) (some ⟨b8, 477, none⟩) a0.nonce.toList.length 8 1 (u8s a0.nonce.toList) := Held.part hH17 (Z182 (⟨a0.parent, a0.uncles, a0.coinbase, a0.state, a0.txRoot, a0.receiptRoot, a0.bloom, a0.difficulty, a0.number, a0.limit, a0.used, a0.time, .slice A1 a0.extra.length c2, a0.mix, a0.nonce, a0.tail, a0.baseFee, a0.withdrawals, a0.blobUsed, a0.blobExcess, a0.beacon, a0.requests⟩ : HdrC)) (by decide)
  obtain ⟨x273, hx272, hf⟩ := Z102 hf
  refine Z25 3 rfl (by kernel_rfl) rfl Tryd.call61 rfl (fun N' hN' => Z124 w0 (More w0 Φ (B239 ++ (B216 ++ (B193 ++ (B170 ++ (B135 ++ (B112 ++ (B89 ++ (B66 ++ (B43 ++ (B20 ++ ((some b8, blk (⟨a0.parent, a0.uncles, a0.coinbase, a0.state, a0.txRoot, a0.receiptRoot, a0.bloom, a0.difficulty, a0.number, a0.limit, a0.used, a0.time, .slice A1 a0.extra.length c2, a0.mix, a0.nonce, a0.tail, a0.baseFee, a0.withdrawals, a0.blobUsed, a0.blobExcess, a0.beacon, a0.requests⟩ : HdrC).C 38) :: [])))))))))))) N' (fun w m => More.of hΦ 4 (hN' w m) rfl) a0.used x273 hx272) rfl ?_
  rintro L277 M278 ⟨B274, cs275, h276, e279, e280⟩
  rw [e279, e280]
  clear e279 e280 L277 M278
  refine UW.mem (M' := ((ob265, blk (((([.bool (x19.list), .slice A27 x19.data.length c28, .slice A30 x19.items.length c31] : List Value) ++ ([.bool (x42.list), .slice A50 x42.data.length c51, .slice A53 x42.items.length c54] : List Value) ++ ([.bool (x65.list), .slice A73 x65.data.length c74, .slice A76 x65.items.length c77] : List Value) ++ ([.bool (x88.list), .slice A96 x88.data.length c97, .slice A99 x88.items.length c100] : List Value) ++ ([.bool (x111.list), .slice A119 x111.data.length c120, .slice A122 x111.items.length c123] : List Value) ++ ([.bool (x134.list), .slice A142 x134.data.length c143, .slice A145 x134.items.length c146] : List Value)) ++ (([.bool (x169.list), .slice A177 x169.data.length c178, .slice A180 x169.items.length c181] : List Value) ++ ([.bool (x192.list), .slice A200 x192.data.length c201, .slice A203 x192.items.length c204] : List Value) ++ ([.bool (x215.list), .slice A223 x215.data.length c224, .slice A226 x215.items.length c227] : List Value) ++ ([.bool (x238.list), .slice A246 x238.data.length c247, .slice A249 x238.items.length c250] : List Value))) ++ r266) 25) :: ((some b260), blk ((([.bool (x169.list), .slice A177 x169.data.length c178, .slice A180 x169.items.length c181] : List Value) ++ ([.bool (x192.list), .slice A200 x192.data.length c201, .slice A203 x192.items.length c204] : List Value) ++ ([.bool (x215.list), .slice A223 x215.data.length c224, .slice A226 x215.items.length c227] : List Value) ++ ([.bool (x238.list), .slice A246 x238.data.length c247, .slice A249 x238.items.length c250] : List Value)) ++ []) 25) :: ((some b156), blk ((([.bool (x19.list), .slice A27 x19.data.length c28, .slice A30 x19.items.length c31] : List Value) ++ ([.bool (x42.list), .slice A50 x42.data.length c51, .slice A53 x42.items.length c54] : List Value) ++ ([.bool (x65.list), .slice A73 x65.data.length c74, .slice A76 x65.items.length c77] : List Value) ++ ([.bool (x88.list), .slice A96 x88.data.length c97, .slice A99 x88.items.length c100] : List Value) ++ ([.bool (x111.list), .slice A119 x111.data.length c120, .slice A122 x111.items.length c123] : List Value) ++ ([.bool (x134.list), .slice A142 x134.data.length c143, .slice A145 x134.items.length c146] : List Value)) ++ []) 25) :: (some b9, blk [.bool false, .slice none 0 0, .slice none 0 0] 25) :: ((B274 ++ (B239 ++ (B216 ++ (B193 ++ (B170 ++ (B135 ++ (B112 ++ (B89 ++ (B66 ++ (B43 ++ (B20 ++ ((some b8, blk (⟨a0.parent, a0.uncles, a0.coinbase, a0.state, a0.txRoot, a0.receiptRoot, a0.bloom, a0.difficulty, a0.number, a0.limit, a0.used, a0.time, .slice A1 a0.extra.length c2, a0.mix, a0.nonce, a0.tail, a0.baseFee, a0.withdrawals, a0.blobUsed, a0.blobExcess, a0.beacon, a0.requests⟩ : HdrC).C 38) :: [])))))))))))) ++ N))) (fun w m => by have h := Z110 (A := B274) m 0 4 rfl rfl; exact h) ?_
  have gq12 : ∀ w, More w0 Φ (B274 ++ (B239 ++ (B216 ++ (B193 ++ (B170 ++ (B135 ++ (B112 ++ (B89 ++ (B66 ++ (B43 ++ (B20 ++ ((some b8, blk (⟨a0.parent, a0.uncles, a0.coinbase, a0.state, a0.txRoot, a0.receiptRoot, a0.bloom, a0.difficulty, a0.number, a0.limit, a0.used, a0.time, .slice A1 a0.extra.length c2, a0.mix, a0.nonce, a0.tail, a0.baseFee, a0.withdrawals, a0.blobUsed, a0.blobExcess, a0.beacon, a0.requests⟩ : HdrC).C 38) :: [])))))))))))) w → More w0 Φ (B239 ++ (B216 ++ (B193 ++ (B170 ++ (B135 ++ (B112 ++ (B89 ++ (B66 ++ (B43 ++ (B20 ++ ((some b8, blk (⟨a0.parent, a0.uncles, a0.coinbase, a0.state, a0.txRoot, a0.receiptRoot, a0.bloom, a0.difficulty, a0.number, a0.limit, a0.used, a0.time, .slice A1 a0.extra.length c2, a0.mix, a0.nonce, a0.tail, a0.baseFee, a0.withdrawals, a0.blobUsed, a0.blobExcess, a0.beacon, a0.requests⟩ : HdrC).C 38) :: []))))))))))) w := fun w q => More.mono (fun w m => (m).appR) q
  replace h6 := HdrRd.mono gq12 _ _ h6
  replace v3 := v3.mono gq12
  replace hH17 := hH17.mono gq12
  replace h269 := h269.mono (ItRd.mono gq12)
  replace v16 := v16.mono gq12
  replace h36 := ItRd.mono gq12 _ _ h36
  replace v29 := v29.mono gq12
  replace v32 := v32.mono gq12
  replace h34 := h34.mono (ItRd.mono gq12)
  replace h59 := ItRd.mono gq12 _ _ h59
  replace v52 := v52.mono gq12
  replace v55 := v55.mono gq12
  replace h57 := h57.mono (ItRd.mono gq12)
  replace h82 := ItRd.mono gq12 _ _ h82
  replace v75 := v75.mono gq12
  replace v78 := v78.mono gq12
  replace h80 := h80.mono (ItRd.mono gq12)
  replace h105 := ItRd.mono gq12 _ _ h105
  replace v98 := v98.mono gq12
  replace v101 := v101.mono gq12
  replace h103 := h103.mono (ItRd.mono gq12)
  replace h128 := ItRd.mono gq12 _ _ h128
  replace v121 := v121.mono gq12
  replace v124 := v124.mono gq12
  replace h126 := h126.mono (ItRd.mono gq12)
  replace h151 := ItRd.mono gq12 _ _ h151
  replace v144 := v144.mono gq12
  replace v147 := v147.mono gq12
  replace h149 := h149.mono (ItRd.mono gq12)
  replace h159 := h159.mono (ItRd.mono gq12)
  replace h165 := h165.mono (ItRd.mono gq12)
  replace v167 := v167.mono gq12
  replace h186 := ItRd.mono gq12 _ _ h186
  replace v179 := v179.mono gq12
  replace v182 := v182.mono gq12
  replace h184 := h184.mono (ItRd.mono gq12)
  replace h209 := ItRd.mono gq12 _ _ h209
  replace v202 := v202.mono gq12
  replace v205 := v205.mono gq12
  replace h207 := h207.mono (ItRd.mono gq12)
  replace h232 := ItRd.mono gq12 _ _ h232
  replace v225 := v225.mono gq12
  replace v228 := v228.mono gq12
  replace h230 := h230.mono (ItRd.mono gq12)
  replace h255 := ItRd.mono gq12 _ _ h255
  replace v248 := v248.mono gq12
  replace v251 := v251.mono gq12
  replace h253 := h253.mono (ItRd.mono gq12)
  replace h263 := h263.mono (ItRd.mono gq12)
  replace v271 := v271.mono gq12
  replace h276 := ItRd.mono (Ψ := (More w0 Φ (B274 ++ (B239 ++ (B216 ++ (B193 ++ (B170 ++ (B135 ++ (B112 ++ (B89 ++ (B66 ++ (B43 ++ (B20 ++ ((some b8, blk (⟨a0.parent, a0.uncles, a0.coinbase, a0.state, a0.txRoot, a0.receiptRoot, a0.bloom, a0.difficulty, a0.number, a0.limit, a0.used, a0.time, .slice A1 a0.extra.length c2, a0.mix, a0.nonce, a0.tail, a0.baseFee, a0.withdrawals, a0.blobUsed, a0.blobExcess, a0.beacon, a0.requests⟩ : HdrC).C 38) :: [])))))))))))))) (fun w q => More.flat q) _ _ h276
  have h290 := h276
  obtain ⟨A281, c282, A284, c285, cs287, e289, v283, v286, h288⟩ := ItRd.opn h276
  subst e289
  have m291 := v283.mx
  have m292 := v286.mx
  have m293 := v283.mx
  have m294 := v286.mx
  obtain ⟨x296, hx295, hf⟩ := Z102 hf
  refine Z25 6 rfl (by kernel_rfl) rfl Tryd.call61 rfl (fun N' hN' => Z124 w0 (More w0 Φ (B274 ++ (B239 ++ (B216 ++ (B193 ++ (B170 ++ (B135 ++ (B112 ++ (B89 ++ (B66 ++ (B43 ++ (B20 ++ ((some b8, blk (⟨a0.parent, a0.uncles, a0.coinbase, a0.state, a0.txRoot, a0.receiptRoot, a0.bloom, a0.difficulty, a0.number, a0.limit, a0.used, a0.time, .slice A1 a0.extra.length c2, a0.mix, a0.nonce, a0.tail, a0.baseFee, a0.withdrawals, a0.blobUsed, a0.blobExcess, a0.beacon, a0.requests⟩ : HdrC).C 38) :: []))))))))))))) N' (fun w m => More.of hΦ 4 (hN' w m) rfl) a0.time x296 hx295) rfl ?_
  rintro L300 M301 ⟨B297, cs298, h299, e302, e303⟩
  rw [e302, e303]
  clear e302 e303 L300 M301
  refine UW.mem (M' := ((ob265, blk (((([.bool (x19.list), .slice A27 x19.data.length c28, .slice A30 x19.items.length c31] : List Value) ++ ([.bool (x42.list), .slice A50 x42.data.length c51, .slice A53 x42.items.length c54] : List Value) ++ ([.bool (x65.list), .slice A73 x65.data.length c74, .slice A76 x65.items.length c77] : List Value) ++ ([.bool (x88.list), .slice A96 x88.data.length c97, .slice A99 x88.items.length c100] : List Value) ++ ([.bool (x111.list), .slice A119 x111.data.length c120, .slice A122 x111.items.length c123] : List Value) ++ ([.bool (x134.list), .slice A142 x134.data.length c143, .slice A145 x134.items.length c146] : List Value)) ++ (([.bool (x169.list), .slice A177 x169.data.length c178, .slice A180 x169.items.length c181] : List Value) ++ ([.bool (x192.list), .slice A200 x192.data.length c201, .slice A203 x192.items.length c204] : List Value) ++ ([.bool (x215.list), .slice A223 x215.data.length c224, .slice A226 x215.items.length c227] : List Value) ++ ([.bool (x238.list), .slice A246 x238.data.length c247, .slice A249 x238.items.length c250] : List Value))) ++ r266) 25) :: ((some b260), blk ((([.bool (x169.list), .slice A177 x169.data.length c178, .slice A180 x169.items.length c181] : List Value) ++ ([.bool (x192.list), .slice A200 x192.data.length c201, .slice A203 x192.items.length c204] : List Value) ++ ([.bool (x215.list), .slice A223 x215.data.length c224, .slice A226 x215.items.length c227] : List Value) ++ ([.bool (x238.list), .slice A246 x238.data.length c247, .slice A249 x238.items.length c250] : List Value)) ++ []) 25) :: ((some b156), blk ((([.bool (x19.list), .slice A27 x19.data.length c28, .slice A30 x19.items.length c31] : List Value) ++ ([.bool (x42.list), .slice A50 x42.data.length c51, .slice A53 x42.items.length c54] : List Value) ++ ([.bool (x65.list), .slice A73 x65.data.length c74, .slice A76 x65.items.length c77] : List Value) ++ ([.bool (x88.list), .slice A96 x88.data.length c97, .slice A99 x88.items.length c100] : List Value) ++ ([.bool (x111.list), .slice A119 x111.data.length c120, .slice A122 x111.items.length c123] : List Value) ++ ([.bool (x134.list), .slice A142 x134.data.length c143, .slice A145 x134.items.length c146] : List Value)) ++ []) 25) :: (some b9, blk [.bool false, .slice none 0 0, .slice none 0 0] 25) :: ((B297 ++ (B274 ++ (B239 ++ (B216 ++ (B193 ++ (B170 ++ (B135 ++ (B112 ++ (B89 ++ (B66 ++ (B43 ++ (B20 ++ ((some b8, blk (⟨a0.parent, a0.uncles, a0.coinbase, a0.state, a0.txRoot, a0.receiptRoot, a0.bloom, a0.difficulty, a0.number, a0.limit, a0.used, a0.time, .slice A1 a0.extra.length c2, a0.mix, a0.nonce, a0.tail, a0.baseFee, a0.withdrawals, a0.blobUsed, a0.blobExcess, a0.beacon, a0.requests⟩ : HdrC).C 38) :: []))))))))))))) ++ N))) (fun w m => by have h := Z110 (A := B297) m 0 4 rfl rfl; exact h) ?_
  have gq13 : ∀ w, More w0 Φ (B297 ++ (B274 ++ (B239 ++ (B216 ++ (B193 ++ (B170 ++ (B135 ++ (B112 ++ (B89 ++ (B66 ++ (B43 ++ (B20 ++ ((some b8, blk (⟨a0.parent, a0.uncles, a0.coinbase, a0.state, a0.txRoot, a0.receiptRoot, a0.bloom, a0.difficulty, a0.number, a0.limit, a0.used, a0.time, .slice A1 a0.extra.length c2, a0.mix, a0.nonce, a0.tail, a0.baseFee, a0.withdrawals, a0.blobUsed, a0.blobExcess, a0.beacon, a0.requests⟩ : HdrC).C 38) :: []))))))))))))) w → More w0 Φ (B274 ++ (B239 ++ (B216 ++ (B193 ++ (B170 ++ (B135 ++ (B112 ++ (B89 ++ (B66 ++ (B43 ++ (B20 ++ ((some b8, blk (⟨a0.parent, a0.uncles, a0.coinbase, a0.state, a0.txRoot, a0.receiptRoot, a0.bloom, a0.difficulty, a0.number, a0.limit, a0.used, a0.time, .slice A1 a0.extra.length c2, a0.mix, a0.nonce, a0.tail, a0.baseFee, a0.withdrawals, a0.blobUsed, a0.blobExcess, a0.beacon, a0.requests⟩ : HdrC).C 38) :: [])))))))))))) w := fun w q => More.mono (fun w m => (m).appR) q
  replace h6 := HdrRd.mono gq13 _ _ h6
  replace v3 := v3.mono gq13
  replace hH17 := hH17.mono gq13
  replace h269 := h269.mono (ItRd.mono gq13)
  replace v16 := v16.mono gq13
  replace h36 := ItRd.mono gq13 _ _ h36
  replace v29 := v29.mono gq13
  replace v32 := v32.mono gq13
  replace h34 := h34.mono (ItRd.mono gq13)
  replace h59 := ItRd.mono gq13 _ _ h59
  replace v52 := v52.mono gq13
  replace v55 := v55.mono gq13
  replace h57 := h57.mono (ItRd.mono gq13)
  replace h82 := ItRd.mono gq13 _ _ h82
  replace v75 := v75.mono gq13
  replace v78 := v78.mono gq13
  replace h80 := h80.mono (ItRd.mono gq13)
  replace h105 := ItRd.mono gq13 _ _ h105
  replace v98 := v98.mono gq13
  replace v101 := v101.mono gq13
  replace h103 := h103.mono (ItRd.mono gq13)
  replace h128 := ItRd.mono gq13 _ _ h128
  replace v121 := v121.mono gq13
  replace v124 := v124.mono gq13
  replace h126 := h126.mono (ItRd.mono gq13)
  replace h151 := ItRd.mono gq13 _ _ h151
  replace v144 := v144.mono gq13
  replace v147 := v147.mono gq13
  replace h149 := h149.mono (ItRd.mono gq13)
  replace h159 := h159.mono (ItRd.mono gq13)
  replace h165 := h165.mono (ItRd.mono gq13)
  replace v167 := v167.mono gq13
  replace h186 := ItRd.mono gq13 _ _ h186
  replace v179 := v179.mono gq13
  replace v182 := v182.mono gq13
  replace h184 := h184.mono (ItRd.mono gq13)
  replace h209 := ItRd.mono gq13 _ _ h209
  replace v202 := v202.mono gq13
  replace v205 := v205.mono gq13
  replace h207 := h207.mono (ItRd.mono gq13)
  replace h232 := ItRd.mono gq13 _ _ h232
  replace v225 := v225.mono gq13
  replace v228 := v228.mono gq13
  replace h230 := h230.mono (ItRd.mono gq13)
  replace h255 := ItRd.mono gq13 _ _ h255
  replace v248 := v248.mono gq13
  replace v251 := v251.mono gq13
  replace h253 := h253.mono (ItRd.mono gq13)
  replace h263 := h263.mono (ItRd.mono gq13)
  replace v271 := v271.mono gq13
  replace h290 := ItRd.mono gq13 _ _ h290
  replace v283 := v283.mono gq13
  replace v286 := v286.mono gq13
  replace h288 := h288.mono (ItRd.mono gq13)
  replace h299 := ItRd.mono (Ψ := (More w0 Φ (B297 ++ (B274 ++ (B239 ++ (B216 ++ (B193 ++ (B170 ++ (B135 ++ (B112 ++ (B89 ++ (B66 ++ (B43 ++ (B20 ++ ((some b8, blk (⟨a0.parent, a0.uncles, a0.coinbase, a0.state, a0.txRoot, a0.receiptRoot, a0.bloom, a0.difficulty, a0.number, a0.limit, a0.used, a0.time, .slice A1 a0.extra.length c2, a0.mix, a0.nonce, a0.tail, a0.baseFee, a0.withdrawals, a0.blobUsed, a0.blobExcess, a0.beacon, a0.requests⟩ : HdrC).C 38) :: []))))))))))))))) (fun w q => More.flat q) _ _ h299
  have h313 := h299
  obtain ⟨A304, c305, A307, c308, cs310, e312, v306, v309, h311⟩ := ItRd.opn h299
  subst e312
  have m314 := v306.mx
  have m315 := v309.mx
  have m316 := v306.mx
  have m317 := v309.mx
  obtain ⟨x319, hx318, hf⟩ := Z102 hf
  refine Z25 9 rfl (by kernel_rfl) rfl Tryd.call59 rfl (fun N' hN' => Z132 w0 (More w0 Φ (B297 ++ (B274 ++ (B239 ++ (B216 ++ (B193 ++ (B170 ++ (B135 ++ (B112 ++ (B89 ++ (B66 ++ (B43 ++ (B20 ++ ((some b8, blk (⟨a0.parent, a0.uncles, a0.coinbase, a0.state, a0.txRoot, a0.receiptRoot, a0.bloom, a0.difficulty, a0.number, a0.limit, a0.used, a0.time, .slice A1 a0.extra.length c2, a0.mix, a0.nonce, a0.tail, a0.baseFee, a0.withdrawals, a0.blobUsed, a0.blobExcess, a0.beacon, a0.requests⟩ : HdrC).C 38) :: [])))))))))))))) N' (fun w m => More.of hΦ 4 (hN' w m) rfl) A1 c2 a0.extra x319 v3 hx318) rfl ?_
  rintro L323 M324 ⟨B320, cs321, h322, e325, e326⟩
  rw [e325, e326]
  clear e325 e326 L323 M324
  refine UW.mem (M' := ((ob265, blk (((([.bool (x19.list), .slice A27 x19.data.length c28, .slice A30 x19.items.length c31] : List Value) ++ ([.bool (x42.list), .slice A50 x42.data.length c51, .slice A53 x42.items.length c54] : List Value) ++ ([.bool (x65.list), .slice A73 x65.data.length c74, .slice A76 x65.items.length c77] : List Value) ++ ([.bool (x88.list), .slice A96 x88.data.length c97, .slice A99 x88.items.length c100] : List Value) ++ ([.bool (x111.list), .slice A119 x111.data.length c120, .slice A122 x111.items.length c123] : List Value) ++ ([.bool (x134.list), .slice A142 x134.data.length c143, .slice A145 x134.items.length c146] : List Value)) ++ (([.bool (x169.list), .slice A177 x169.data.length c178, .slice A180 x169.items.length c181] : List Value) ++ ([.bool (x192.list), .slice A200 x192.data.length c201, .slice A203 x192.items.length c204] : List Value) ++ ([.bool (x215.list), .slice A223 x215.data.length c224, .slice A226 x215.items.length c227] : List Value) ++ ([.bool (x238.list), .slice A246 x238.data.length c247, .slice A249 x238.items.length c250] : List Value))) ++ r266) 25) :: ((some b260), blk ((([.bool (x169.list), .slice A177 x169.data.length c178, .slice A180 x169.items.length c181] : List Value) ++ ([.bool (x192.list), .slice A200 x192.data.length c201, .slice A203 x192.items.length c204] : List Value) ++ ([.bool (x215.list), .slice A223 x215.data.length c224, .slice A226 x215.items.length c227] : List Value) ++ ([.bool (x238.list), .slice A246 x238.data.length c247, .slice A249 x238.items.length c250] : List Value)) ++ []) 25) :: ((some b156), blk ((([.bool (x19.list), .slice A27 x19.data.length c28, .slice A30 x19.items.length c31] : List Value) ++ ([.bool (x42.list), .slice A50 x42.data.length c51, .slice A53 x42.items.length c54] : List Value) ++ ([.bool (x65.list), .slice A73 x65.data.length c74, .slice A76 x65.items.length c77] : List Value) ++ ([.bool (x88.list), .slice A96 x88.data.length c97, .slice A99 x88.items.length c100] : List Value) ++ ([.bool (x111.list), .slice A119 x111.data.length c120, .slice A122 x111.items.length c123] : List Value) ++ ([.bool (x134.list), .slice A142 x134.data.length c143, .slice A145 x134.items.length c146] : List Value)) ++ []) 25) :: (some b9, blk [.bool false, .slice none 0 0, .slice none 0 0] 25) :: ((B320 ++ (B297 ++ (B274 ++ (B239 ++ (B216 ++ (B193 ++ (B170 ++ (B135 ++ (B112 ++ (B89 ++ (B66 ++ (B43 ++ (B20 ++ ((some b8, blk (⟨a0.parent, a0.uncles, a0.coinbase, a0.state, a0.txRoot, a0.receiptRoot, a0.bloom, a0.difficulty, a0.number, a0.limit, a0.used, a0.time, .slice A1 a0.extra.length c2, a0.mix, a0.nonce, a0.tail, a0.baseFee, a0.withdrawals, a0.blobUsed, a0.blobExcess, a0.beacon, a0.requests⟩ : HdrC).C 38) :: [])))))))))))))) ++ N))) (fun w m => by have h := Z110 (A := B320) m 0 4 rfl rfl; exact h) ?_
  have gq14 : ∀ w, More w0 Φ (B320 ++ (B297 ++ (B274 ++ (B239 ++ (B216 ++ (B193 ++ (B170 ++ (B135 ++ (B112 ++ (B89 ++ (B66 ++ (B43 ++ (B20 ++ ((some b8, blk (⟨a0.parent, a0.uncles, a0.coinbase, a0.state, a0.txRoot, a0.receiptRoot, a0.bloom, a0.difficulty, a0.number, a0.limit, a0.used, a0.time, .slice A1 a0.extra.length c2, a0.mix, a0.nonce, a0.tail, a0.baseFee, a0.withdrawals, a0.blobUsed, a0.blobExcess, a0.beacon, a0.requests⟩ : HdrC).C 38) :: [])))))))))))))) w → More w0 Φ (B297 ++ (B274 ++ (B239 ++ (B216 ++ (B193 ++ (B170 ++ (B135 ++ (B112 ++ (B89 ++ (B66 ++ (B43 ++ (B20 ++ ((some b8, blk (⟨a0.parent, a0.uncles, a0.coinbase, a0.state, a0.txRoot, a0.receiptRoot, a0.bloom, a0.difficulty, a0.number, a0.limit, a0.used, a0.time, .slice A1 a0.extra.length c2, a0.mix, a0.nonce, a0.tail, a0.baseFee, a0.withdrawals, a0.blobUsed, a0.blobExcess, a0.beacon, a0.requests⟩ : HdrC).C 38) :: []))))))))))))) w := fun w q => More.mono (fun w m => (m).appR) q
  replace h6 := HdrRd.mono gq14 _ _ h6
  replace v3 := v3.mono gq14
  replace hH17 := hH17.mono gq14
  replace h269 := h269.mono (ItRd.mono gq14)
  replace v16 := v16.mono gq14
  replace h36 := ItRd.mono gq14 _ _ h36
  replace v29 := v29.mono gq14
  replace v32 := v32.mono gq14
  replace h34 := h34.mono (ItRd.mono gq14)
  replace h59 := ItRd.mono gq14 _ _ h59
  replace v52 := v52.mono gq14
  replace v55 := v55.mono gq14
  replace h57 := h57.mono (ItRd.mono gq14)
  replace h82 := ItRd.mono gq14 _ _ h82
  replace v75 := v75.mono gq14
  replace v78 := v78.mono gq14
  replace h80 := h80.mono (ItRd.mono gq14)
  replace h105 := ItRd.mono gq14 _ _ h105
  replace v98 := v98.mono gq14
  replace v101 := v101.mono gq14
  replace h103 := h103.mono (ItRd.mono gq14)
  replace h128 := ItRd.mono gq14 _ _ h128
  replace v121 := v121.mono gq14
  replace v124 := v124.mono gq14
  replace h126 := h126.mono (ItRd.mono gq14)
  replace h151 := ItRd.mono gq14 _ _ h151
  replace v144 := v144.mono gq14
  replace v147 := v147.mono gq14
  replace h149 := h149.mono (ItRd.mono gq14)
  replace h159 := h159.mono (ItRd.mono gq14)
  replace h165 := h165.mono (ItRd.mono gq14)
  replace v167 := v167.mono gq14
  replace h186 := ItRd.mono gq14 _ _ h186
  replace v179 := v179.mono gq14
  replace v182 := v182.mono gq14
  replace h184 := h184.mono (ItRd.mono gq14)
  replace h209 := ItRd.mono gq14 _ _ h209
  replace v202 := v202.mono gq14
  replace v205 := v205.mono gq14
  replace h207 := h207.mono (ItRd.mono gq14)
  replace h232 := ItRd.mono gq14 _ _ h232
  replace v225 := v225.mono gq14
  replace v228 := v228.mono gq14
  replace h230 := h230.mono (ItRd.mono gq14)
  replace h255 := ItRd.mono gq14 _ _ h255
  replace v248 := v248.mono gq14
  replace v251 := v251.mono gq14
  replace h253 := h253.mono (ItRd.mono gq14)
  replace h263 := h263.mono (ItRd.mono gq14)
  replace v271 := v271.mono gq14
  replace h290 := ItRd.mono gq14 _ _ h290
  replace v283 := v283.mono gq14
  replace v286 := v286.mono gq14
  replace h288 := h288.mono (ItRd.mono gq14)
  replace h313 := ItRd.mono gq14 _ _ h313
  replace v306 := v306.mono gq14
  replace v309 := v309.mono gq14
  replace h311 := h311.mono (ItRd.mono gq14)
  replace h322 := ItRd.mono (Ψ := (More w0 Φ (B320 ++ (B297 ++ (B274 ++ (B239 ++ (B216 ++ (B193 ++ (B170 ++ (B135 ++ (B112 ++ (B89 ++ (B66 ++ (B43 ++ (B20 ++ ((some b8, blk (⟨a0.parent, a0.uncles, a0.coinbase, a0.state, a0.txRoot, a0.receiptRoot, a0.bloom, a0.difficulty, a0.number, a0.limit, a0.used, a0.time, .slice A1 a0.extra.length c2, a0.mix, a0.nonce, a0.tail, a0.baseFee, a0.withdrawals, a0.blobUsed, a0.blobExcess, a0.beacon, a0.requests⟩ : HdrC).C 38) :: [])))))))))))))))) (fun w q => More.flat q) _ _ h322
  have h336 := h322
  obtain ⟨A327, c328, A330, c331, cs333, e335, v329, v332, h334⟩ := ItRd.opn h322
  subst e335
  have m337 := v329.mx
  have m338 := v332.mx
  have m339 := v329.mx
  have m340 := v332.mx
  obtain ⟨x342, hx341, hf⟩ := Z102 hf
  refine Z25 12 rfl (by kernel_rfl) rfl Tryd.call58 rfl (fun N' hN' => Z117 w0 (More w0 Φ (B320 ++ (B297 ++ (B274 ++ (B239 ++ (B216 ++ (B193 ++ (B170 ++ (B135 ++ (B112 ++ (B89 ++ (B66 ++ (B43 ++ (B20 ++ ((some b8, blk (⟨a0.parent, a0.uncles, a0.coinbase, a0.state, a0.txRoot, a0.receiptRoot, a0.bloom, a0.difficulty, a0.number, a0.limit, a0.used, a0.time, .slice A1 a0.extra.length c2, a0.mix, a0.nonce, a0.tail, a0.baseFee, a0.withdrawals, a0.blobUsed, a0.blobExcess, a0.beacon, a0.requests⟩ : HdrC).C 38) :: []))))))))))))))) N' (fun w m => More.of hΦ 4 (hN' w m) rfl) a0.mix x342 hx341) rfl ?_
  rintro L346 M347 ⟨B343, cs344, h345, e348, e349⟩
  rw [e348, e349]
  clear e348 e349 L346 M347
  refine UW.mem (M' := ((ob265, blk (((([.bool (x19.list), .slice A27 x19.data.length c28, .slice A30 x19.items.length c31] : List Value) ++ ([.bool (x42.list), .slice A50 x42.data.length c51, .slice A53 x42.items.length c54] : List Value) ++ ([.bool (x65.list), .slice A73 x65.data.length c74, .slice A76 x65.items.length c77] : List Value) ++ ([.bool (x88.list), .slice A96 x88.data.length c97, .slice A99 x88.items.length c100] : List Value) ++ ([.bool (x111.list), .slice A119 x111.data.length c120, .slice A122 x111.items.length c123] : List Value) ++ ([.bool (x134.list), .slice A142 x134.data.length c143, .slice A145 x134.items.length c146] : List Value)) ++ (([.bool (x169.list), .slice A177 x169.data.length c178, .slice A180 x169.items.length c181] : List Value) ++ ([.bool (x192.list), .slice A200 x192.data.length c201, .slice A203 x192.items.length c204] : List Value) ++ ([.bool (x215.list), .slice A223 x215.data.length c224, .slice A226 x215.items.length c227] : List Value) ++ ([.bool (x238.list), .slice A246 x238.data.length c247, .slice A249 x238.items.length c250] : List Value))) ++ r266) 25) :: ((some b260), blk ((([.bool (x169.list), .slice A177 x169.data.length c178, .slice A180 x169.items.length c181] : List Value) ++ ([.bool (x192.list), .slice A200 x192.data.length c201, .slice A203 x192.items.length c204] : List Value) ++ ([.bool (x215.list), .slice A223 x215.data.length c224, .slice A226 x215.items.length c227] : List Value) ++ ([.bool (x238.list), .slice A246 x238.data.length c247, .slice A249 x238.items.length c250] : List Value)) ++ []) 25) :: ((some b156), blk ((([.bool (x19.list), .slice A27 x19.data.length c28, .slice A30 x19.items.length c31] : List Value) ++ ([.bool (x42.list), .slice A50 x42.data.length c51, .slice A53 x42.items.length c54] : List Value) ++ ([.bool (x65.list), .slice A73 x65.data.length c74, .slice A76 x65.items.length c77] : List Value) ++ ([.bool (x88.list), .slice A96 x88.data.length c97, .slice A99 x88.items.length c100] : List Value) ++ ([.bool (x111.list), .slice A119 x111.data.length c120, .slice A122 x111.items.length c123] : List Value) ++ ([.bool (x134.list), .slice A142 x134.data.length c143, .slice A145 x134.items.length c146] : List Value)) ++ []) 25) :: (some b9, blk [.bool false, .slice none 0 0, .slice none 0 0] 25) :: ((B343 ++ (B320 ++ (B297 ++ (B274 ++ (B239 ++ (B216 ++ (B193 ++ (B170 ++ (B135 ++ (B112 ++ (B89 ++ (B66 ++ (B43 ++ (B20 ++ ((some b8, blk (⟨a0.parent, a0.uncles, a0.coinbase, a0.state, a0.txRoot, a0.receiptRoot, a0.bloom, a0.difficulty, a0.number, a0.limit, a0.used, a0.time, .slice A1 a0.extra.length c2, a0.mix, a0.nonce, a0.tail, a0.baseFee, a0.withdrawals, a0.blobUsed, a0.blobExcess, a0.beacon, a0.requests⟩ : HdrC).C 38) :: []))))))))))))))) ++ N))) (fun w m => by have h := Z110 (A := B343) m 0 4 rfl rfl; exact h) ?_
  have gq15 : ∀ w, More w0 Φ (B343 ++ (B320 ++ (B297 ++ (B274 ++ (B239 ++ (B216 ++ (B193 ++ (B170 ++ (B135 ++ (B112 ++ (B89 ++ (B66 ++ (B43 ++ (B20 ++ ((some b8, blk (⟨a0.parent, a0.uncles, a0.coinbase, a0.state, a0.txRoot, a0.receiptRoot, a0.bloom, a0.difficulty, a0.number, a0.limit, a0.used, a0.time, .slice A1 a0.extra.length c2, a0.mix, a0.nonce, a0.tail, a0.baseFee, a0.withdrawals, a0.blobUsed, a0.blobExcess, a0.beacon, a0.requests⟩ : HdrC).C 38) :: []))))))))))))))) w → More w0 Φ (B320 ++ (B297 ++ (B274 ++ (B239 ++ (B216 ++ (B193 ++ (B170 ++ (B135 ++ (B112 ++ (B89 ++ (B66 ++ (B43 ++ (B20 ++ ((some b8, blk (⟨a0.parent, a0.uncles, a0.coinbase, a0.state, a0.txRoot, a0.receiptRoot, a0.bloom, a0.difficulty, a0.number, a0.limit, a0.used, a0.time, .slice A1 a0.extra.length c2, a0.mix, a0.nonce, a0.tail, a0.baseFee, a0.withdrawals, a0.blobUsed, a0.blobExcess, a0.beacon, a0.requests⟩ : HdrC).C 38) :: [])))))))))))))) w := fun w q => More.mono (fun w m => (m).appR) q
  replace h6 := HdrRd.mono gq15 _ _ h6
  replace v3 := v3.mono gq15
  replace hH17 := hH17.mono gq15
  replace h269 := h269.mono (ItRd.mono gq15)
  replace v16 := v16.mono gq15
  replace h36 := ItRd.mono gq15 _ _ h36
  replace v29 := v29.mono gq15
  replace v32 := v32.mono gq15
  replace h34 := h34.mono (ItRd.mono gq15)
  replace h59 := ItRd.mono gq15 _ _ h59
  replace v52 := v52.mono gq15
  replace v55 := v55.mono gq15
  replace h57 := h57.mono (ItRd.mono gq15)
  replace h82 := ItRd.mono gq15 _ _ h82
  replace v75 := v75.mono gq15
  replace v78 := v78.mono gq15
  replace h80 := h80.mono (ItRd.mono gq15)
  replace h105 := ItRd.mono gq15 _ _ h105
  replace v98 := v98.mono gq15
  replace v101 := v101.mono gq15
  replace h103 := h103.mono (ItRd.mono gq15)
  replace h128 := ItRd.mono gq15 _ _ h128
  replace v121 := v121.mono gq15
  replace v124 := v124.mono gq15
  replace h126 := h126.mono (ItRd.mono gq15)
  replace h151 := ItRd.mono gq15 _ _ h151
  replace v144 := v144.mono gq15
  replace v147 := v147.mono gq15
  replace h149 := h149.mono (ItRd.mono gq15)
  replace h159 := h159.mono (ItRd.mono gq15)
  replace h165 := h165.mono (ItRd.mono gq15)
  replace v167 := v167.mono gq15
  replace h186 := ItRd.mono gq15 _ _ h186
  replace v179 := v179.mono gq15
  replace v182 := v182.mono gq15
  replace h184 := h184.mono (ItRd.mono gq15)
  replace h209 := ItRd.mono gq15 _ _ h209
  replace v202 := v202.mono gq15
  replace v205 := v205.mono gq15
  replace h207 := h207.mono (ItRd.mono gq15)
  replace h232 := ItRd.mono gq15 _ _ h232
  replace v225 := v225.mono gq15
  replace v228 := v228.mono gq15
  replace h230 := h230.mono (ItRd.mono gq15)
  replace h255 := ItRd.mono gq15 _ _ h255
  replace v248 := v248.mono gq15
  replace v251 := v251.mono gq15
  replace h253 := h253.mono (ItRd.mono gq15)
  replace h263 := h263.mono (ItRd.mono gq15)
  replace v271 := v271.mono gq15
  replace h290 := ItRd.mono gq15 _ _ h290
  replace v283 := v283.mono gq15
  replace v286 := v286.mono gq15
  replace h288 := h288.mono (ItRd.mono gq15)
  replace h313 := ItRd.mono gq15 _ _ h313
  replace v306 := v306.mono gq15
  replace v309 := v309.mono gq15
  replace h311 := h311.mono (ItRd.mono gq15)
  replace h336 := ItRd.mono gq15 _ _ h336
  replace v329 := v329.mono gq15
  replace v332 := v332.mono gq15
  replace h334 := h334.mono (ItRd.mono gq15)
  replace h345 := ItRd.mono (Ψ := (More w0 Φ (B343 ++ (B320 ++ (B297 ++ (B274 ++ (B239 ++ (B216 ++ (B193 ++ (B170 ++ (B135 ++ (B112 ++ (B89 ++ (B66 ++ (B43 ++ (B20 ++ ((some b8, blk (⟨a0.parent, a0.uncles, a0.coinbase, a0.state, a0.txRoot, a0.receiptRoot, a0.bloom, a0.difficulty, a0.number, a0.limit, a0.used, a0.time, .slice A1 a0.extra.length c2, a0.mix, a0.nonce, a0.tail, a0.baseFee, a0.withdrawals, a0.blobUsed, a0.blobExcess, a0.beacon, a0.requests⟩ : HdrC).C 38) :: []))))))))))))))))) (fun w q => More.flat q) _ _ h345
  have h359 := h345
  obtain ⟨A350, c351, A353, c354, cs356, e358, v352, v355, h357⟩ := ItRd.opn h345
  subst e358
  have m360 := v352.mx
  have m361 := v355.mx
  have m362 := v352.mx
  have m363 := v355.mx
  obtain ⟨x365, hx364, hf⟩ := Z102 hf
  refine Z25 15 rfl (by kernel_rfl) rfl Tryd.call59 rfl (fun N' hN' => Z132 w0 (More w0 Φ (B343 ++ (B320 ++ (B297 ++ (B274 ++ (B239 ++ (B216 ++ (B193 ++ (B170 ++ (B135 ++ (B112 ++ (B89 ++ (B66 ++ (B43 ++ (B20 ++ ((some b8, blk (⟨a0.parent, a0.uncles, a0.coinbase, a0.state, a0.txRoot, a0.receiptRoot, a0.bloom, a0.difficulty, a0.number, a0.limit, a0.used, a0.time, .slice A1 a0.extra.length c2, a0.mix, a0.nonce, a0.tail, a0.baseFee, a0.withdrawals, a0.blobUsed, a0.blobExcess, a0.beacon, a0.requests⟩ : HdrC).C 38) :: [])))))))))))))))) N' (fun w m => More.of hΦ 4 (hN' w m) rfl) (some ⟨b8, 477, none⟩) 8 a0.nonce.toList x365 v271 hx364) rfl ?_
  rintro L369 M370 ⟨B366, cs367, h368, e371, e372⟩
  rw [e371, e372]
  clear e371 e372 L369 M370
  refine UW.mem (M' := ((ob265, blk (((([.bool (x19.list), .slice A27 x19.data.length c28, .slice A30 x19.items.length c31] : List Value) ++ ([.bool (x42.list), .slice A50 x42.data.length c51, .slice A53 x42.items.length c54] : List Value) ++ ([.bool (x65.list), .slice A73 x65.data.length c74, .slice A76 x65.items.length c77] : List Value) ++ ([.bool (x88.list), .slice A96 x88.data.length c97, .slice A99 x88.items.length c100] : List Value) ++ ([.bool (x111.list), .slice A119 x111.data.length c120, .slice A122 x111.items.length c123] : List Value) ++ ([.bool (x134.list), .slice A142 x134.data.length c143, .slice A145 x134.items.length c146] : List Value)) ++ (([.bool (x169.list), .slice A177 x169.data.length c178, .slice A180 x169.items.length c181] : List Value) ++ ([.bool (x192.list), .slice A200 x192.data.length c201, .slice A203 x192.items.length c204] : List Value) ++ ([.bool (x215.list), .slice A223 x215.data.length c224, .slice A226 x215.items.length c227] : List Value) ++ ([.bool (x238.list), .slice A246 x238.data.length c247, .slice A249 x238.items.length c250] : List Value))) ++ r266) 25) :: ((some b260), blk ((([.bool (x169.list), .slice A177 x169.data.length c178, .slice A180 x169.items.length c181] : List Value) ++ ([.bool (x192.list), .slice A200 x192.data.length c201, .slice A203 x192.items.length c204] : List Value) ++ ([.bool (x215.list), .slice A223 x215.data.length c224, .slice A226 x215.items.length c227] : List Value) ++ ([.bool (x238.list), .slice A246 x238.data.length c247, .slice A249 x238.items.length c250] : List Value)) ++ []) 25) :: ((some b156), blk ((([.bool (x19.list), .slice A27 x19.data.length c28, .slice A30 x19.items.length c31] : List Value) ++ ([.bool (x42.list), .slice A50 x42.data.length c51, .slice A53 x42.items.length c54] : List Value) ++ ([.bool (x65.list), .slice A73 x65.data.length c74, .slice A76 x65.items.length c77] : List Value) ++ ([.bool (x88.list), .slice A96 x88.data.length c97, .slice A99 x88.items.length c100] : List Value) ++ ([.bool (x111.list), .slice A119 x111.data.length c120, .slice A122 x111.items.length c123] : List Value) ++ ([.bool (x134.list), .slice A142 x134.data.length c143, .slice A145 x134.items.length c146] : List Value)) ++ []) 25) :: (some b9, blk [.bool false, .slice none 0 0, .slice none 0 0] 25) :: ((B366 ++ (B343 ++ (B320 ++ (B297 ++ (B274 ++ (B239 ++ (B216 ++ (B193 ++ (B170 ++ (B135 ++ (B112 ++ (B89 ++ (B66 ++ (B43 ++ (B20 ++ ((some b8, blk (⟨a0.parent, a0.uncles, a0.coinbase, a0.state, a0.txRoot, a0.receiptRoot, a0.bloom, a0.difficulty, a0.number, a0.limit, a0.used, a0.time, .slice A1 a0.extra.length c2, a0.mix, a0.nonce, a0.tail, a0.baseFee, a0.withdrawals, a0.blobUsed, a0.blobExcess, a0.beacon, a0.requests⟩ : HdrC).C 38) :: [])))))))))))))))) ++ N))) (fun w m => by have h := Z110 (A := B366) m 0 4 rfl rfl; exact h) ?_
  have gq16 : ∀ w, More w0 Φ (B366 ++ (B343 ++ (B320 ++ (B297 ++ (B274 ++ (B239 ++ (B216 ++ (B193 ++ (B170 ++ (B135 ++ (B112 ++ (B89 ++ (B66 ++ (B43 ++ (B20 ++ ((some b8, blk (⟨a0.parent, a0.uncles, a0.coinbase, a0.state, a0.txRoot, a0.receiptRoot, a0.bloom, a0.difficulty, a0.number, a0.limit, a0.used, a0.time, .slice A1 a0.extra.length c2, a0.mix, a0.nonce, a0.tail, a0.baseFee, a0.withdrawals, a0.blobUsed, a0.blobExcess, a0.beacon, a0.requests⟩ : HdrC).C 38) :: [])))))))))))))))) w → More w0 Φ (B343 ++ (B320 ++ (B297 ++ (B274 ++ (B239 ++ (B216 ++ (B193 ++ (B170 ++ (B135 ++ (B112 ++ (B89 ++ (B66 ++ (B43 ++ (B20 ++ ((some b8, blk (⟨a0.parent, a0.uncles, a0.coinbase, a0.state, a0.txRoot, a0.receiptRoot, a0.bloom, a0.difficulty, a0.number, a0.limit, a0.used, a0.time, .slice A1 a0.extra.length c2, a0.mix, a0.nonce, a0.tail, a0.baseFee, a0.withdrawals, a0.blobUsed, a0.blobExcess, a0.beacon, a0.requests⟩ : HdrC).C 38) :: []))))))))))))))) w := fun w q => More.mono (fun w m => (m).appR) q
  replace h6 := HdrRd.mono gq16 _ _ h6
  replace v3 := v3.mono gq16
  replace hH17 := hH17.mono gq16
  replace h269 := h269.mono (ItRd.mono gq16)
  replace v16 := v16.mono gq16
  replace h36 := ItRd.mono gq16 _ _ h36
  replace v29 := v29.mono gq16
  replace v32 := v32.mono gq16
  replace h34 := h34.mono (ItRd.mono gq16)
  replace h59 := ItRd.mono gq16 _ _ h59
  replace v52 := v52.mono gq16
  replace v55 := v55.mono gq16
  replace h57 := h57.mono (ItRd.mono gq16)
  replace h82 := ItRd.mono gq16 _ _ h82
  replace v75 := v75.mono gq16
  replace v78 := v78.mono gq16
  replace h80 := h80.mono (ItRd.mono gq16)
  replace h105 := ItRd.mono gq16 _ _ h105
  replace v98 := v98.mono gq16
  replace v101 := v101.mono gq16
  replace h103 := h103.mono (ItRd.mono gq16)
  replace h128 := ItRd.mono gq16 _ _ h128
  replace v121 := v121.mono gq16
  replace v124 := v124.mono gq16
  replace h126 := h126.mono (ItRd.mono gq16)
  replace h151 := ItRd.mono gq16 _ _ h151
  replace v144 := v144.mono gq16
  replace v147 := v147.mono gq16
  replace h149 := h149.mono (ItRd.mono gq16)
  replace h159 := h159.mono (ItRd.mono gq16)
  replace h165 := h165.mono (ItRd.mono gq16)
  replace v167 := v167.mono gq16
  replace h186 := ItRd.mono gq16 _ _ h186
  replace v179 := v179.mono gq16
  replace v182 := v182.mono gq16
  replace h184 := h184.mono (ItRd.mono gq16)
  replace h209 := ItRd.mono gq16 _ _ h209
  replace v202 := v202.mono gq16
  replace v205 := v205.mono gq16
  replace h207 := h207.mono (ItRd.mono gq16)
  replace h232 := ItRd.mono gq16 _ _ h232
  replace v225 := v225.mono gq16
  replace v228 := v228.mono gq16
  replace h230 := h230.mono (ItRd.mono gq16)
  replace h255 := ItRd.mono gq16 _ _ h255
  replace v248 := v248.mono gq16
  replace v251 := v251.mono gq16
  replace h253 := h253.mono (ItRd.mono gq16)
  replace h263 := h263.mono (ItRd.mono gq16)
  replace v271 := v271.mono gq16
  replace h290 := ItRd.mono gq16 _ _ h290
  replace v283 := v283.mono gq16
  replace v286 := v286.mono gq16
  replace h288 := h288.mono (ItRd.mono gq16)
  replace h313 := ItRd.mono gq16 _ _ h313
  replace v306 := v306.mono gq16
  replace v309 := v309.mono gq16
  replace h311 := h311.mono (ItRd.mono gq16)
  replace h336 := ItRd.mono gq16 _ _ h336
  replace v329 := v329.mono gq16
  replace v332 := v332.mono gq16
  replace h334 := h334.mono (ItRd.mono gq16)
  replace h359 := ItRd.mono gq16 _ _ h359
  replace v352 := v352.mono gq16
  replace v355 := v355.mono gq16
  replace h357 := h357.mono (ItRd.mono gq16)
  replace h368 := ItRd.mono (Ψ := (More w0 Φ (B366 ++ (B343 ++ (B320 ++ (B297 ++ (B274 ++ (B239 ++ (B216 ++ (B193 ++ (B170 ++ (B135 ++ (B112 ++ (B89 ++ (B66 ++ (B43 ++ (B20 ++ ((some b8, blk (⟨a0.parent, a0.uncles, a0.coinbase, a0.state, a0.txRoot, a0.receiptRoot, a0.bloom, a0.difficulty, a0.number, a0.limit, a0.used, a0.time, .slice A1 a0.extra.length c2, a0.mix, a0.nonce, a0.tail, a0.baseFee, a0.withdrawals, a0.blobUsed, a0.blobExcess, a0.beacon, a0.requests⟩ : HdrC).C 38) :: [])))))))))))))))))) (fun w q => More.flat q) _ _ h368
  have h382 := h368
  obtain ⟨A373, c374, A376, c377, cs379, e381, v375, v378, h380⟩ := ItRd.opn h368
  subst e381
  have m383 := v375.mx
  have m384 := v378.mx
  have m385 := v375.mx
  have m386 := v378.mx
  refine UW.new 16 rfl (by kernel_rfl) rfl (NV.bsA rfl rfl (by intro x hx; simp at hx; rcases hx with rfl | rfl | rfl | rfl | rfl <;> exact rfl) rfl rfl rfl (by decide) (by decide) rfl) rfl (fun b387 => ?_)
  have h390 : Reps (ItRd (More w0 Φ (B366 ++ (B343 ++ (B320 ++ (B297 ++ (B274 ++ (B239 ++ (B216 ++ (B193 ++ (B170 ++ (B135 ++ (B112 ++ (B89 ++ (B66 ++ (B43 ++ (B20 ++ ((some b8, blk (⟨a0.parent, a0.uncles, a0.coinbase, a0.state, a0.txRoot, a0.receiptRoot, a0.bloom, a0.difficulty, a0.number, a0.limit, a0.used, a0.time, .slice A1 a0.extra.length c2, a0.mix, a0.nonce, a0.tail, a0.baseFee, a0.withdrawals, a0.blobUsed, a0.blobExcess, a0.beacon, a0.requests⟩ : HdrC).C 38) :: [])))))))))))))))))) (([.bool (x273.list), .slice A281 x273.data.length c282, .slice A284 x273.items.length c285] : List Value) ++ ([.bool (x296.list), .slice A304 x296.data.length c305, .slice A307 x296.items.length c308] : List Value) ++ ([.bool (x319.list), .slice A327 x319.data.length c328, .slice A330 x319.items.length c331] : List Value) ++ ([.bool (x342.list), .slice A350 x342.data.length c351, .slice A353 x342.items.length c354] : List Value) ++ ([.bool (x365.list), .slice A373 x365.data.length c374, .slice A376 x365.items.length c377] : List Value)) [x273, x296, x319, x342, x365] := by simpa using (show Reps (ItRd (More w0 Φ (B366 ++ (B343 ++ (B320 ++ (B297 ++ (B274 ++ (B239 ++ (B216 ++ (B193 ++ (B170 ++ (B135 ++ (B112 ++ (B89 ++ (B66 ++ (B43 ++ (B20 ++ ((some b8, blk (⟨a0.parent, a0.uncles, a0.coinbase, a0.state, a0.txRoot, a0.receiptRoot, a0.bloom, a0.difficulty, a0.number, a0.limit, a0.used, a0.time, .slice A1 a0.extra.length c2, a0.mix, a0.nonce, a0.tail, a0.baseFee, a0.withdrawals, a0.blobUsed, a0.blobExcess, a0.beacon, a0.requests⟩ : HdrC).C 38) :: [])))))))))))))))))) _ [x273, x296, x319, x342, x365] from (.cons h290 (.cons h313 (.cons h336 (.cons h359 (.cons h382 .nil))))))
  refine UW.mem (M' := (((some b387), blk ((([.bool (x273.list), .slice A281 x273.data.length c282, .slice A284 x273.items.length c285] : List Value) ++ ([.bool (x296.list), .slice A304 x296.data.length c305, .slice A307 x296.items.length c308] : List Value) ++ ([.bool (x319.list), .slice A327 x319.data.length c328, .slice A330 x319.items.length c331] : List Value) ++ ([.bool (x342.list), .slice A350 x342.data.length c351, .slice A353 x342.items.length c354] : List Value) ++ ([.bool (x365.list), .slice A373 x365.data.length c374, .slice A376 x365.items.length c377] : List Value)) ++ []) 25) :: (ob265, blk (((([.bool (x19.list), .slice A27 x19.data.length c28, .slice A30 x19.items.length c31] : List Value) ++ ([.bool (x42.list), .slice A50 x42.data.length c51, .slice A53 x42.items.length c54] : List Value) ++ ([.bool (x65.list), .slice A73 x65.data.length c74, .slice A76 x65.items.length c77] : List Value) ++ ([.bool (x88.list), .slice A96 x88.data.length c97, .slice A99 x88.items.length c100] : List Value) ++ ([.bool (x111.list), .slice A119 x111.data.length c120, .slice A122 x111.items.length c123] : List Value) ++ ([.bool (x134.list), .slice A142 x134.data.length c143, .slice A145 x134.items.length c146] : List Value)) ++ (([.bool (x169.list), .slice A177 x169.data.length c178, .slice A180 x169.items.length c181] : List Value) ++ ([.bool (x192.list), .slice A200 x192.data.length c201, .slice A203 x192.items.length c204] : List Value) ++ ([.bool (x215.list), .slice A223 x215.data.length c224, .slice A226 x215.items.length c227] : List Value) ++ ([.bool (x238.list), .slice A246 x238.data.length c247, .slice A249 x238.items.length c250] : List Value))) ++ r266) 25) :: ((some b260), blk ((([.bool (x169.list), .slice A177 x169.data.length c178, .slice A180 x169.items.length c181] : List Value) ++ ([.bool (x192.list), .slice A200 x192.data.length c201, .slice A203 x192.items.length c204] : List Value) ++ ([.bool (x215.list), .slice A223 x215.data.length c224, .slice A226 x215.items.length c227] : List Value) ++ ([.bool (x238.list), .slice A246 x238.data.length c247, .slice A249 x238.items.length c250] : List Value)) ++ []) 25) :: ((some b156), blk ((([.bool (x19.list), .slice A27 x19.data.length c28, .slice A30 x19.items.length c31] : List Value) ++ ([.bool (x42.list), .slice A50 x42.data.length c51, .slice A53 x42.items.length c54] : List Value) ++ ([.bool (x65.list), .slice A73 x65.data.length c74, .slice A76 x65.items.length c77] : List Value) ++ ([.bool (x88.list), .slice A96 x88.data.length c97, .slice A99 x88.items.length c100] : List Value) ++ ([.bool (x111.list), .slice A119 x111.data.length c120, .slice A122 x111.items.length c123] : List Value) ++ ([.bool (x134.list), .slice A142 x134.data.length c143, .slice A145 x134.items.length c146] : List Value)) ++ []) 25) :: (some b9, blk [.bool false, .slice none 0 0, .slice none 0 0] 25) :: ((B366 ++ (B343 ++ (B320 ++ (B297 ++ (B274 ++ (B239 ++ (B216 ++ (B193 ++ (B170 ++ (B135 ++ (B112 ++ (B89 ++ (B66 ++ (B43 ++ (B20 ++ ((some b8, blk (⟨a0.parent, a0.uncles, a0.coinbase, a0.state, a0.txRoot, a0.receiptRoot, a0.bloom, a0.difficulty, a0.number, a0.limit, a0.used, a0.time, .slice A1 a0.extra.length c2, a0.mix, a0.nonce, a0.tail, a0.baseFee, a0.withdrawals, a0.blobUsed, a0.blobExcess, a0.beacon, a0.requests⟩ : HdrC).C 38) :: [])))))))))))))))) ++ N))) (fun w m => m) ?_
  have o388 : OwnS (some b387) ([x273, x296, x319, x342, x365] : List (It)).length 5 3 (([.bool (x273.list), .slice A281 x273.data.length c282, .slice A284 x273.items.length c285] : List Value) ++ ([.bool (x296.list), .slice A304 x296.data.length c305, .slice A307 x296.items.length c308] : List Value) ++ ([.bool (x319.list), .slice A327 x319.data.length c328, .slice A330 x319.items.length c331] : List Value) ++ ([.bool (x342.list), .slice A350 x342.data.length c351, .slice A353 x342.items.length c354] : List Value) ++ ([.bool (x365.list), .slice A373 x365.data.length c374, .slice A376 x365.items.length c377] : List Value)) [] := ⟨by simp [ItRd], by simp [ItRd], (fun h => nomatch h), by simp⟩
  have mx_o388 := o388.mx
  refine UW.slot (sl (some b387) 0 ([x273, x296, x319, x342, x365] : List (It)).length 5) (rfl) (UW.nil (by kernel_rfl) (OW.rot1 ?_))
  obtain ⟨g391, hf⟩ := Z115 hf
  have h396 := h269.app h390
  refine OW.appendOwn (s := 3) rfl rfl rfl rfl rfl rfl o268 (fun w m => m.rd0 (List.Mem.tail _ Zh) (fun e => o388.nilc (by decide) e)) o388.n (h390.cell1 ItRd.one) (o388.zeroO (by decide)) (by decide) (by decide) (by first | omega | (simp only [i25, List.length_nil]; omega)) rfl rfl (((([x19, x42, x65, x88, x111, x134] : List (It)) ++ ([x169, x192, x215, x238] : List (It))) ++ ([x273, x296, x319, x342, x365] : List (It))).length) (((([.bool (x19.list), .slice A27 x19.data.length c28, .slice A30 x19.items.length c31] : List Value) ++ ([.bool (x42.list), .slice A50 x42.data.length c51, .slice A53 x42.items.length c54] : List Value) ++ ([.bool (x65.list), .slice A73 x65.data.length c74, .slice A76 x65.items.length c77] : List Value) ++ ([.bool (x88.list), .slice A96 x88.data.length c97, .slice A99 x88.items.length c100] : List Value) ++ ([.bool (x111.list), .slice A119 x111.data.length c120, .slice A122 x111.items.length c123] : List Value) ++ ([.bool (x134.list), .slice A142 x134.data.length c143, .slice A145 x134.items.length c146] : List Value)) ++ (([.bool (x169.list), .slice A177 x169.data.length c178, .slice A180 x169.items.length c181] : List Value) ++ ([.bool (x192.list), .slice A200 x192.data.length c201, .slice A203 x192.items.length c204] : List Value) ++ ([.bool (x215.list), .slice A223 x215.data.length c224, .slice A226 x215.items.length c227] : List Value) ++ ([.bool (x238.list), .slice A246 x238.data.length c247, .slice A249 x238.items.length c250] : List Value))) ++ (([.bool (x273.list), .slice A281 x273.data.length c282, .slice A284 x273.items.length c285] : List Value) ++ ([.bool (x296.list), .slice A304 x296.data.length c305, .slice A307 x296.items.length c308] : List Value) ++ ([.bool (x319.list), .slice A327 x319.data.length c328, .slice A330 x319.items.length c331] : List Value) ++ ([.bool (x342.list), .slice A350 x342.data.length c351, .slice A353 x342.items.length c354] : List Value) ++ ([.bool (x365.list), .slice A373 x365.data.length c374, .slice A376 x365.items.length c377] : List Value))) (List.length_append ..).symm rfl (fun ob392 r393 c394 o395 => ?_)
  have m397 := o395.mx
  refine Z0 (Z5 rfl) rfl (Z6 (Z1 (Z4 (Z4 (Z2 (Z0 (Z30 rfl rfl rfl rfl) rfl (Z7 (ptr (some b8) 485) rfl (Z0 (RV.loadH rfl hH17 (fun w m => More.of hΦ 5 m rfl) rfl rfl (Z122 (⟨a0.parent, a0.uncles, a0.coinbase, a0.state, a0.txRoot, a0.receiptRoot, a0.bloom, a0.difficulty, a0.number, a0.limit, a0.used, a0.time, .slice A1 a0.extra.length c2, a0.mix, a0.nonce, a0.tail, a0.baseFee, a0.withdrawals, a0.blobUsed, a0.blobExcess, a0.beacon, a0.requests⟩ : HdrC))) rfl (Z0 (RV.geq rfl rfl) rfl (Z6 (Z1 ?_)))))))))))
  obtain ⟨q398, hq399, hf⟩ := Z102 hf
  refine Z120 (fun L' M' => ∃ l402 : List (It), ∃ B400 : List Ent, ∃ cs403 : List Value, ∃ ob405 : Option Nat, ∃ c406 : Nat, ∃ r407 : List Value, q398 = l402 ∧ (∀ w, Mem w0 w B400 → Mem w0 w (B366 ++ (B343 ++ (B320 ++ (B297 ++ (B274 ++ (B239 ++ (B216 ++ (B193 ++ (B170 ++ (B135 ++ (B112 ++ (B89 ++ (B66 ++ (B43 ++ (B20 ++ ((some b8, blk (⟨a0.parent, a0.uncles, a0.coinbase, a0.state, a0.txRoot, a0.receiptRoot, a0.bloom, a0.difficulty, a0.number, a0.limit, a0.used, a0.time, .slice A1 a0.extra.length c2, a0.mix, a0.nonce, a0.tail, a0.baseFee, a0.withdrawals, a0.blobUsed, a0.blobExcess, a0.beacon, a0.requests⟩ : HdrC).C 38) :: []))))))))))))))))) ∧ (Reps (ItRd (More w0 Φ B400)) cs403 l402) ∧ (OwnS ob405 l402.length c406 3 cs403 r407) ∧ L' = [(1, ptr (some b8) 0), (2, ptr (some b9) 0), (5, sl ob405 0 l402.length c406)] ∧ M' = ((ob405, blk (cs403 ++ r407) 25) :: (some b9, blk [.bool false, .slice none 0 0, .slice none 0 0] 25) :: (B400 ++ N))) ?_ ?_
  ·rintro L410 M411 ⟨l402, B400, cs403, ob405, c406, r407, e409, hB401, h404, o408, e412, e413⟩
   rw [e412, e413]
   clear e412 e413 L410 M411
   clear hq399
   rw [e409] at hf
   clear e409
   try dsimp only at hf
   have gq17 : ∀ w, More w0 Φ B400 w → More w0 Φ (B366 ++ (B343 ++ (B320 ++ (B297 ++ (B274 ++ (B239 ++ (B216 ++ (B193 ++ (B170 ++ (B135 ++ (B112 ++ (B89 ++ (B66 ++ (B43 ++ (B20 ++ ((some b8, blk (⟨a0.parent, a0.uncles, a0.coinbase, a0.state, a0.txRoot, a0.receiptRoot, a0.bloom, a0.difficulty, a0.number, a0.limit, a0.used, a0.time, .slice A1 a0.extra.length c2, a0.mix, a0.nonce, a0.tail, a0.baseFee, a0.withdrawals, a0.blobUsed, a0.blobExcess, a0.beacon, a0.requests⟩ : HdrC).C 38) :: [])))))))))))))))) w := fun w q => More.mono (fun w m => hB401 w (m)) q
   replace hH17 := hH17.mono gq17
   replace h6 := HdrRd.mono gq17 _ _ h6
   replace v3 := v3.mono gq17
   have m414 := o408.mx
   refine Z1 (Z4 (Z4 (Z2 (Z0 (Z30 rfl rfl rfl rfl) rfl (Z7 (ptr (some b8) 485) rfl (Z0 (RV.loadH rfl hH17 (fun w m => More.of hΦ 2 m rfl) rfl rfl (Z122 (⟨a0.parent, a0.uncles, a0.coinbase, a0.state, a0.txRoot, a0.receiptRoot, a0.bloom, a0.difficulty, a0.number, a0.limit, a0.used, a0.time, .slice A1 a0.extra.length c2, a0.mix, a0.nonce, a0.tail, a0.baseFee, a0.withdrawals, a0.blobUsed, a0.blobExcess, a0.beacon, a0.requests⟩ : HdrC))) rfl (Z0 (RV.geq rfl rfl) rfl (Z6 (Z1 ?_)))))))))
   obtain ⟨q415, hq416, hf⟩ := Z102 hf
   refine Z120 (fun L' M' => ∃ l419 : List (It), ∃ B417 : List Ent, ∃ cs420 : List Value, ∃ ob422 : Option Nat, ∃ c423 : Nat, ∃ r424 : List Value, q415 = l419 ∧ (∀ w, Mem w0 w B417 → Mem w0 w B400) ∧ (Reps (ItRd (More w0 Φ B417)) cs420 l419) ∧ (OwnS ob422 l419.length c423 3 cs420 r424) ∧ L' = [(1, ptr (some b8) 0), (2, ptr (some b9) 0), (5, sl ob422 0 l419.length c423)] ∧ M' = ((ob422, blk (cs420 ++ r424) 25) :: (some b9, blk [.bool false, .slice none 0 0, .slice none 0 0] 25) :: (B417 ++ N))) ?_ ?_
   ·rintro L427 M428 ⟨l419, B417, cs420, ob422, c423, r424, e426, hB418, h421, o425, e429, e430⟩
    rw [e429, e430]
    clear e429 e430 L427 M428
    clear hq416
    rw [e426] at hf
    clear e426
    try dsimp only at hf
    have gq18 : ∀ w, More w0 Φ B417 w → More w0 Φ B400 w := fun w q => More.mono (fun w m => hB418 w (m)) q
    replace hH17 := hH17.mono gq18
    replace h6 := HdrRd.mono gq18 _ _ h6
    replace v3 := v3.mono gq18
    have m431 := o425.mx
    refine Z1 (Z4 (Z4 (Z2 (Z0 (Z30 rfl rfl rfl rfl) rfl (Z7 (ptr (some b8) 485) rfl (Z0 (RV.loadH rfl hH17 (fun w m => More.of hΦ 2 m rfl) rfl rfl (Z122 (⟨a0.parent, a0.uncles, a0.coinbase, a0.state, a0.txRoot, a0.receiptRoot, a0.bloom, a0.difficulty, a0.number, a0.limit, a0.used, a0.time, .slice A1 a0.extra.length c2, a0.mix, a0.nonce, a0.tail, a0.baseFee, a0.withdrawals, a0.blobUsed, a0.blobExcess, a0.beacon, a0.requests⟩ : HdrC))) rfl (Z0 (RV.geq rfl rfl) rfl (Z6 (Z1 ?_)))))))))
    obtain ⟨q432, hq433, hf⟩ := Z102 hf
    refine Z120 (fun L' M' => ∃ l436 : List (It), ∃ B434 : List Ent, ∃ cs437 : List Value, ∃ ob439 : Option Nat, ∃ c440 : Nat, ∃ r441 : List Value, q432 = l436 ∧ (∀ w, Mem w0 w B434 → Mem w0 w B417) ∧ (Reps (ItRd (More w0 Φ B434)) cs437 l436) ∧ (OwnS ob439 l436.length c440 3 cs437 r441) ∧ L' = [(1, ptr (some b8) 0), (2, ptr (some b9) 0), (5, sl ob439 0 l436.length c440)] ∧ M' = ((ob439, blk (cs437 ++ r441) 25) :: (some b9, blk [.bool false, .slice none 0 0, .slice none 0 0] 25) :: (B434 ++ N))) ?_ ?_
    ·rintro L444 M445 ⟨l436, B434, cs437, ob439, c440, r441, e443, hB435, h438, o442, e446, e447⟩
     rw [e446, e447]
     clear e446 e447 L444 M445
     clear hq433
     rw [e443] at hf
     clear e443
     try dsimp only at hf
     have gq19 : ∀ w, More w0 Φ B434 w → More w0 Φ B417 w := fun w q => More.mono (fun w m => hB435 w (m)) q
     replace hH17 := hH17.mono gq19
     replace h6 := HdrRd.mono gq19 _ _ h6
     replace v3 := v3.mono gq19
     have m448 := o442.mx
     refine Z1 (Z4 (Z4 (Z2 (Z0 (Z30 rfl rfl rfl rfl) rfl (Z7 (ptr (some b8) 485) rfl (Z0 (RV.loadH rfl hH17 (fun w m => More.of hΦ 2 m rfl) rfl rfl (Z122 (⟨a0.parent, a0.uncles, a0.coinbase, a0.state, a0.txRoot, a0.receiptRoot, a0.bloom, a0.difficulty, a0.number, a0.limit, a0.used, a0.time, .slice A1 a0.extra.length c2, a0.mix, a0.nonce, a0.tail, a0.baseFee, a0.withdrawals, a0.blobUsed, a0.blobExcess, a0.beacon, a0.requests⟩ : HdrC))) rfl (Z0 (RV.geq rfl rfl) rfl (Z6 (Z1 ?_)))))))))
     obtain ⟨q449, hq450, hf⟩ := Z102 hf
     refine Z120 (fun L' M' => ∃ l453 : List (It), ∃ B451 : List Ent, ∃ cs454 : List Value, ∃ ob456 : Option Nat, ∃ c457 : Nat, ∃ r458 : List Value, q449 = l453 ∧ (∀ w, Mem w0 w B451 → Mem w0 w B434) ∧ (Reps (ItRd (More w0 Φ B451)) cs454 l453) ∧ (OwnS ob456 l453.length c457 3 cs454 r458) ∧ L' = [(2, ptr (some b9) 0), (5, sl ob456 0 l453.length c457)] ∧ M' = ((ob456, blk (cs454 ++ r458) 25) :: (some b9, blk [.bool false, .slice none 0 0, .slice none 0 0] 25) :: (B451 ++ N))) ?_ ?_
     ·rintro L461 M462 ⟨l453, B451, cs454, ob456, c457, r458, e460, hB452, h455, o459, e463, e464⟩
      rw [e463, e464]
      clear e463 e464 L461 M462
      clear hq450
      rw [e460] at hf
      clear e460
      try dsimp only at hf
      have m465 := o459.mx
      refine Z1 (Z4 (Z2 (Z0 (Z3 rfl) rfl (Z0 (Z112 (l := [.bool false, .slice none 0 0, .slice none 0 0]) (cs := [.bool true, .slice none 0 0, sl ob456 0 l453.length c457]) [(0, [.bool true]), (2, [sl ob456 0 l453.length c457])] rfl rfl rfl rfl rfl rfl rfl) rfl (OW.rot1 ?_)))))
      refine Z28 (Z109 rfl rfl rfl (by intro u hu; simp at hu; rcases hu with rfl | rfl | rfl <;> rfl) rfl rfl rfl) ?_
      refine Z0 (Z5 rfl) rfl (Z6 (Z1 (CW.ret (QW.mem (M' := (some b9, blk [.bool true, .slice none 0 0, sl ob456 0 l453.length c457] 25) :: (((ob456, blk (cs454 ++ r458) 25) :: B451) ++ N)) (fun w m => m.pick [0, 1] 2 rfl rfl) ?_))))
      have gq20 : ∀ w, More w0 Φ ((ob456, blk (cs454 ++ r458) 25) :: B451) w → More w0 Φ B451 w := fun w q => More.mono (fun w m => (m).tail) q
      replace h455 := h455.mono (ItRd.mono gq20)
      have v466 : View (More w0 Φ ((ob456, blk (cs454 ++ r458) 25) :: B451)) ((ob456).map fun k => ⟨k, 0, none⟩) l453.length c457 3 cs454 := o459.view (by decide) (fun w q => q.2.sublist (List.singleton_sublist.2 (List.mem_cons_self ..)))
      have er0 := Zi hf
      obtain ⟨e0, er1⟩ := Prod.mk.inj er0
      clear er0
      subst e0
      subst er1
      have v467 : View (More w0 Φ ((ob456, blk (cs454 ++ r458) 25) :: B451)) none ([] : List (BitVec 8)).length 0 1 (u8s []) := View.nil
      refine Z108 (rs := [.cell 2 25, .tmp 3]) ([.agg [.bool true, .slice none 0 0, .slice ((ob456).map fun k => ⟨k, 0, none⟩) l453.length c457].toArray, .int .i64 (0 : Int)]) (((ob456, blk (cs454 ++ r458) 25) :: B451)) rfl ?_ rfl ?_ ?_ _ (.inl rfl)
      ·exact ⟨⟨_, _, _, _, rfl, Zh, rfl, rfl, rfl, rfl⟩, rfl, trivial⟩
      ·exact ⟨((ob456, blk (cs454 ++ r458) 25) :: B451), [.bool true, .slice none 0 0, .slice ((ob456).map fun k => ⟨k, 0, none⟩) l453.length c457], (ItRd.mk v467 v466 h455), (by omega), rfl, rfl⟩
      ·exact (fun w m => m.pick [] 1 rfl rfl)
     ·skip
      by_cases h468 : (4 : Int) ≤ a0.tail
      ·replace hq450 := if_t hq450 h468
       refine Z13 rfl (decide_eq_true h468) (Z2 (Z0 (Z3 rfl) rfl (Z0 (Z30 rfl rfl rfl rfl) rfl (Z7 (ptr (some b8) 556) rfl (Z0 (RV.loadAH rfl hH17 (fun w m => More.of hΦ 2 m rfl) rfl rfl rfl (Z123 (⟨a0.parent, a0.uncles, a0.coinbase, a0.state, a0.txRoot, a0.receiptRoot, a0.bloom, a0.difficulty, a0.number, a0.limit, a0.used, a0.time, .slice A1 a0.extra.length c2, a0.mix, a0.nonce, a0.tail, a0.baseFee, a0.withdrawals, a0.blobUsed, a0.blobExcess, a0.beacon, a0.requests⟩ : HdrC)) ((Z100 _).trans Zv)) rfl ?_)))))
       obtain ⟨x470, hx469, hq450⟩ := Z102 hq450
       refine Z12 Tryd.call58 rfl (Z117 w0 (More w0 Φ B434) ((ob439, blk (cs437 ++ r441) 25) :: (some b9, blk [.bool false, .slice none 0 0, .slice none 0 0] 25) :: (B434 ++ N)) (fun w m => More.of hΦ 2 m rfl) a0.requests x470 hx469) rfl rfl ?_
       rintro L474 M475 ⟨B471, cs472, h473, e476, e477⟩
       rw [e476, e477]
       clear e476 e477 L474 M475
       refine Z20 (M' := ((ob439, blk (cs437 ++ r441) 25) :: (some b9, blk [.bool false, .slice none 0 0, .slice none 0 0] 25) :: ((B471 ++ B434) ++ N))) (fun w m => by have h := Z110 (A := B471) m 0 2 rfl rfl; exact h) ?_
       have gq21 : ∀ w, More w0 Φ (B471 ++ B434) w → More w0 Φ B434 w := fun w q => More.mono (fun w m => (m).appR) q
       replace hH17 := hH17.mono gq21
       replace h6 := HdrRd.mono gq21 _ _ h6
       replace v3 := v3.mono gq21
       replace h438 := h438.mono (ItRd.mono gq21)
       replace h473 := ItRd.mono (Ψ := (More w0 Φ (B471 ++ B434))) (fun w q => More.flat q) _ _ h473
       have h487 := h473
       obtain ⟨A478, c479, A481, c482, cs484, e486, v480, v483, h485⟩ := ItRd.opn h473
       subst e486
       have m488 := v480.mx
       have m489 := v483.mx
       have m490 := v480.mx
       have m491 := v483.mx
       refine OW.ofN (NV.bsA rfl rfl (by intro x hx; simp at hx; subst hx; exact rfl) rfl rfl rfl (by decide) (by decide) rfl) rfl (fun b492 => ?_)
       have h495 : Reps (ItRd (More w0 Φ (B471 ++ B434))) (([.bool (x470.list), .slice A478 x470.data.length c479, .slice A481 x470.items.length c482] : List Value)) [x470] := Reps.one h487
       refine Z20 (M' := (((some b492), blk ((([.bool (x470.list), .slice A478 x470.data.length c479, .slice A481 x470.items.length c482] : List Value)) ++ []) 25) :: (ob439, blk (cs437 ++ r441) 25) :: (some b9, blk [.bool false, .slice none 0 0, .slice none 0 0] 25) :: ((B471 ++ B434) ++ N))) (fun w m => m) ?_
       have o493 : OwnS (some b492) ([x470] : List (It)).length 1 3 (([.bool (x470.list), .slice A478 x470.data.length c479, .slice A481 x470.items.length c482] : List Value)) [] := ⟨by simp [ItRd], by simp [ItRd], (fun h => nomatch h), by simp⟩
       have mx_o493 := o493.mx
       refine Z7 (sl (some b492) 0 ([x470] : List (It)).length 1) (rfl) (OW.rot1 ?_)
       obtain ⟨g496, hq450⟩ := Z115 hq450
       have h501 := h438.app h495
       refine OW.appendOwn (s := 3) rfl rfl rfl rfl rfl rfl o442 (fun w m => m.rd0 (List.Mem.tail _ Zh) (fun e => o493.nilc (by decide) e)) o493.n (h495.cell1 ItRd.one) (o493.zeroO (by decide)) (by decide) (by decide) (by first | omega | (simp only [i25, List.length_nil]; omega)) rfl rfl ((l436 ++ ([x470] : List (It))).length) (cs437 ++ (([.bool (x470.list), .slice A478 x470.data.length c479, .slice A481 x470.items.length c482] : List Value))) (List.length_append ..).symm rfl (fun ob497 r498 c499 o500 => ?_)
       have m502 := o500.mx
       refine Z0 (Z5 rfl) rfl (Z6 ?_)
       exact QW.join ⟨(l436 ++ ([x470] : List (It))), (B471 ++ B434), (cs437 ++ (([.bool (x470.list), .slice A478 x470.data.length c479, .slice A481 x470.items.length c482] : List Value))), ob497, c499, r498, (Zi hq450).symm, (fun w m => (m).appR), h501, o500, rfl, rfl⟩ ⟨rfl, rfl, trivial⟩ (fun w m => m.pick [0, 2] 3 rfl rfl)
      ·replace hq450 := if_f hq450 h468
       refine Z14 rfl (decide_eq_false h468) (CW.skip ?_)
       exact QW.join ⟨l436, B434, cs437, ob439, c440, r441, (Zi hq450).symm, (fun w m => m), h438, o442, rfl, rfl⟩ ⟨rfl, rfl, trivial⟩ (fun w m => m.pick [0, 1] 2 rfl rfl)
    ·skip
     by_cases h503 : (3 : Int) ≤ a0.tail
     ·replace hq433 := if_t hq433 h503
      refine Z13 rfl (decide_eq_true h503) (Z159 11 mixed (by kernel_rfl) rfl (Z18 0 rfl (by kernel_rfl) rfl (Z3 rfl) rfl (Z18 1 rfl (by kernel_rfl) rfl (Z30 rfl rfl rfl rfl) rfl (UW.slot (ptr (some b8) 522) rfl (Z18 2 rfl (by kernel_rfl) rfl (RV.loadH rfl hH17 (fun w m => More.of hΦ 2 m rfl) rfl rfl (Z167 (⟨a0.parent, a0.uncles, a0.coinbase, a0.state, a0.txRoot, a0.receiptRoot, a0.bloom, a0.difficulty, a0.number, a0.limit, a0.used, a0.time, .slice A1 a0.extra.length c2, a0.mix, a0.nonce, a0.tail, a0.baseFee, a0.withdrawals, a0.blobUsed, a0.blobExcess, a0.beacon, a0.requests⟩ : HdrC))) rfl (Z18 4 rfl (by kernel_rfl) rfl (Z30 rfl rfl rfl rfl) rfl (UW.slot (ptr (some b8) 523) rfl ?_)))))))
      refine Z18 5 rfl (by kernel_rfl) rfl (RV.loadH rfl hH17 (fun w m => More.of hΦ 2 m rfl) rfl rfl (Z152 (⟨a0.parent, a0.uncles, a0.coinbase, a0.state, a0.txRoot, a0.receiptRoot, a0.bloom, a0.difficulty, a0.number, a0.limit, a0.used, a0.time, .slice A1 a0.extra.length c2, a0.mix, a0.nonce, a0.tail, a0.baseFee, a0.withdrawals, a0.blobUsed, a0.blobExcess, a0.beacon, a0.requests⟩ : HdrC))) rfl (Z18 7 rfl (by kernel_rfl) rfl (Z30 rfl rfl rfl rfl) rfl (UW.slot (ptr (some b8) 524) rfl (Z18 8 rfl (by kernel_rfl) rfl (RV.loadAH rfl hH17 (fun w m => More.of hΦ 2 m rfl) rfl rfl rfl (Z153 (⟨a0.parent, a0.uncles, a0.coinbase, a0.state, a0.txRoot, a0.receiptRoot, a0.bloom, a0.difficulty, a0.number, a0.limit, a0.used, a0.time, .slice A1 a0.extra.length c2, a0.mix, a0.nonce, a0.tail, a0.baseFee, a0.withdrawals, a0.blobUsed, a0.blobExcess, a0.beacon, a0.requests⟩ : HdrC)) ((Z100 _).trans Zv)) rfl ?_)))
      obtain ⟨x505, hx504, hq433⟩ := Z102 hq433
      refine Z25 3 rfl (by kernel_rfl) rfl Tryd.call61 rfl (fun N' hN' => Z124 w0 (More w0 Φ B417) N' (fun w m => More.of hΦ 2 (hN' w m) rfl) a0.blobUsed x505 hx504) rfl ?_
      rintro L509 M510 ⟨B506, cs507, h508, e511, e512⟩
      rw [e511, e512]
      clear e511 e512 L509 M510
      refine UW.mem (M' := ((ob422, blk (cs420 ++ r424) 25) :: (some b9, blk [.bool false, .slice none 0 0, .slice none 0 0] 25) :: ((B506 ++ B417) ++ N))) (fun w m => by have h := Z110 (A := B506) m 0 2 rfl rfl; exact h) ?_
      have gq22 : ∀ w, More w0 Φ (B506 ++ B417) w → More w0 Φ B417 w := fun w q => More.mono (fun w m => (m).appR) q
      replace hH17 := hH17.mono gq22
      replace h6 := HdrRd.mono gq22 _ _ h6
      replace v3 := v3.mono gq22
      replace h421 := h421.mono (ItRd.mono gq22)
      replace h508 := ItRd.mono (Ψ := (More w0 Φ (B506 ++ B417))) (fun w q => More.flat q) _ _ h508
      have h522 := h508
      obtain ⟨A513, c514, A516, c517, cs519, e521, v515, v518, h520⟩ := ItRd.opn h508
      subst e521
      have m523 := v515.mx
      have m524 := v518.mx
      have m525 := v515.mx
      have m526 := v518.mx
      obtain ⟨x528, hx527, hq433⟩ := Z102 hq433
      refine Z25 6 rfl (by kernel_rfl) rfl Tryd.call61 rfl (fun N' hN' => Z124 w0 (More w0 Φ (B506 ++ B417)) N' (fun w m => More.of hΦ 2 (hN' w m) rfl) a0.blobExcess x528 hx527) rfl ?_
      rintro L532 M533 ⟨B529, cs530, h531, e534, e535⟩
      rw [e534, e535]
      clear e534 e535 L532 M533
      refine UW.mem (M' := ((ob422, blk (cs420 ++ r424) 25) :: (some b9, blk [.bool false, .slice none 0 0, .slice none 0 0] 25) :: ((B529 ++ (B506 ++ B417)) ++ N))) (fun w m => by have h := Z110 (A := B529) m 0 2 rfl rfl; exact h) ?_
      have gq23 : ∀ w, More w0 Φ (B529 ++ (B506 ++ B417)) w → More w0 Φ (B506 ++ B417) w := fun w q => More.mono (fun w m => (m).appR) q
      replace hH17 := hH17.mono gq23
      replace h6 := HdrRd.mono gq23 _ _ h6
      replace v3 := v3.mono gq23
      replace h421 := h421.mono (ItRd.mono gq23)
      replace h522 := ItRd.mono gq23 _ _ h522
      replace v515 := v515.mono gq23
      replace v518 := v518.mono gq23
      replace h520 := h520.mono (ItRd.mono gq23)
      replace h531 := ItRd.mono (Ψ := (More w0 Φ (B529 ++ (B506 ++ B417)))) (fun w q => More.flat q) _ _ h531
      have h545 := h531
      obtain ⟨A536, c537, A539, c540, cs542, e544, v538, v541, h543⟩ := ItRd.opn h531
      subst e544
      have m546 := v538.mx
      have m547 := v541.mx
      have m548 := v538.mx
      have m549 := v541.mx
      obtain ⟨x551, hx550, hq433⟩ := Z102 hq433
      refine Z25 9 rfl (by kernel_rfl) rfl Tryd.call58 rfl (fun N' hN' => Z117 w0 (More w0 Φ (B529 ++ (B506 ++ B417))) N' (fun w m => More.of hΦ 2 (hN' w m) rfl) a0.beacon x551 hx550) rfl ?_
      rintro L555 M556 ⟨B552, cs553, h554, e557, e558⟩
      rw [e557, e558]
      clear e557 e558 L555 M556
      refine UW.mem (M' := ((ob422, blk (cs420 ++ r424) 25) :: (some b9, blk [.bool false, .slice none 0 0, .slice none 0 0] 25) :: ((B552 ++ (B529 ++ (B506 ++ B417))) ++ N))) (fun w m => by have h := Z110 (A := B552) m 0 2 rfl rfl; exact h) ?_
      have gq24 : ∀ w, More w0 Φ (B552 ++ (B529 ++ (B506 ++ B417))) w → More w0 Φ (B529 ++ (B506 ++ B417)) w := fun w q => More.mono (fun w m => (m).appR) q
      replace hH17 := hH17.mono gq24
      replace h6 := HdrRd.mono gq24 _ _ h6
      replace v3 := v3.mono gq24
      replace h421 := h421.mono (ItRd.mono gq24)
      replace h522 := ItRd.mono gq24 _ _ h522
      replace v515 := v515.mono gq24
      replace v518 := v518.mono gq24
      replace h520 := h520.mono (ItRd.mono gq24)
      replace h545 := ItRd.mono gq24 _ _ h545
      replace v538 := v538.mono gq24
      replace v541 := v541.mono gq24
      replace h543 := h543.mono (ItRd.mono gq24)
      replace h554 := ItRd.mono (Ψ := (More w0 Φ (B552 ++ (B529 ++ (B506 ++ B417))))) (fun w q => More.flat q) _ _ h554
      have h568 := h554
      obtain ⟨A559, c560, A562, c563, cs565, e567, v561, v564, h566⟩ := ItRd.opn h554
      subst e567
      have m569 := v561.mx
      have m570 := v564.mx
      have m571 := v561.mx
      have m572 := v564.mx
      refine UW.new 10 rfl (by kernel_rfl) rfl (NV.bsA rfl rfl (by intro x hx; simp at hx; rcases hx with rfl | rfl | rfl <;> exact rfl) rfl rfl rfl (by decide) (by decide) rfl) rfl (fun b573 => ?_)
      have h576 : Reps (ItRd (More w0 Φ (B552 ++ (B529 ++ (B506 ++ B417))))) (([.bool (x505.list), .slice A513 x505.data.length c514, .slice A516 x505.items.length c517] : List Value) ++ ([.bool (x528.list), .slice A536 x528.data.length c537, .slice A539 x528.items.length c540] : List Value) ++ ([.bool (x551.list), .slice A559 x551.data.length c560, .slice A562 x551.items.length c563] : List Value)) [x505, x528, x551] := by simpa using (show Reps (ItRd (More w0 Φ (B552 ++ (B529 ++ (B506 ++ B417))))) _ [x505, x528, x551] from (.cons h522 (.cons h545 (.cons h568 .nil))))
      refine UW.mem (M' := (((some b573), blk ((([.bool (x505.list), .slice A513 x505.data.length c514, .slice A516 x505.items.length c517] : List Value) ++ ([.bool (x528.list), .slice A536 x528.data.length c537, .slice A539 x528.items.length c540] : List Value) ++ ([.bool (x551.list), .slice A559 x551.data.length c560, .slice A562 x551.items.length c563] : List Value)) ++ []) 25) :: (ob422, blk (cs420 ++ r424) 25) :: (some b9, blk [.bool false, .slice none 0 0, .slice none 0 0] 25) :: ((B552 ++ (B529 ++ (B506 ++ B417))) ++ N))) (fun w m => m) ?_
      have o574 : OwnS (some b573) ([x505, x528, x551] : List (It)).length 3 3 (([.bool (x505.list), .slice A513 x505.data.length c514, .slice A516 x505.items.length c517] : List Value) ++ ([.bool (x528.list), .slice A536 x528.data.length c537, .slice A539 x528.items.length c540] : List Value) ++ ([.bool (x551.list), .slice A559 x551.data.length c560, .slice A562 x551.items.length c563] : List Value)) [] := ⟨by simp [ItRd], by simp [ItRd], (fun h => nomatch h), by simp⟩
      have mx_o574 := o574.mx
      refine UW.slot (sl (some b573) 0 ([x505, x528, x551] : List (It)).length 3) (rfl) (UW.nil (by kernel_rfl) (OW.rot1 ?_))
      obtain ⟨g577, hq433⟩ := Z115 hq433
      have h582 := h421.app h576
      refine OW.appendOwn (s := 3) rfl rfl rfl rfl rfl rfl o425 (fun w m => m.rd0 (List.Mem.tail _ Zh) (fun e => o574.nilc (by decide) e)) o574.n (h576.cell1 ItRd.one) (o574.zeroO (by decide)) (by decide) (by decide) (by first | omega | (simp only [i25, List.length_nil]; omega)) rfl rfl ((l419 ++ ([x505, x528, x551] : List (It))).length) (cs420 ++ (([.bool (x505.list), .slice A513 x505.data.length c514, .slice A516 x505.items.length c517] : List Value) ++ ([.bool (x528.list), .slice A536 x528.data.length c537, .slice A539 x528.items.length c540] : List Value) ++ ([.bool (x551.list), .slice A559 x551.data.length c560, .slice A562 x551.items.length c563] : List Value))) (List.length_append ..).symm rfl (fun ob578 r579 c580 o581 => ?_)
      have m583 := o581.mx
      refine Z0 (Z5 rfl) rfl (Z6 ?_)
      exact QW.join ⟨(l419 ++ ([x505, x528, x551] : List (It))), (B552 ++ (B529 ++ (B506 ++ B417))), (cs420 ++ (([.bool (x505.list), .slice A513 x505.data.length c514, .slice A516 x505.items.length c517] : List Value) ++ ([.bool (x528.list), .slice A536 x528.data.length c537, .slice A539 x528.items.length c540] : List Value) ++ ([.bool (x551.list), .slice A559 x551.data.length c560, .slice A562 x551.items.length c563] : List Value))), ob578, c580, r579, (Zi hq433).symm, (fun w m => (((m).appR).appR).appR), h582, o581, rfl, rfl⟩ ⟨rfl, rfl, rfl, trivial⟩ (fun w m => m.pick [0, 2] 3 rfl rfl)
     ·replace hq433 := if_f hq433 h503
      refine Z14 rfl (decide_eq_false h503) (CW.skip ?_)
      exact QW.join ⟨l419, B417, cs420, ob422, c423, r424, (Zi hq433).symm, (fun w m => m), h421, o425, rfl, rfl⟩ ⟨rfl, rfl, rfl, trivial⟩ (fun w m => m.pick [0, 1] 2 rfl rfl)
   ·skip
    by_cases h584 : (2 : Int) ≤ a0.tail
    ·replace hq416 := if_t hq416 h584
     refine Z13 rfl (decide_eq_true h584) (Z2 (Z0 (Z3 rfl) rfl (Z0 (Z30 rfl rfl rfl rfl) rfl (Z7 (ptr (some b8) 490) rfl (Z0 (RV.loadAH rfl hH17 (fun w m => More.of hΦ 2 m rfl) rfl rfl rfl (Z125 (⟨a0.parent, a0.uncles, a0.coinbase, a0.state, a0.txRoot, a0.receiptRoot, a0.bloom, a0.difficulty, a0.number, a0.limit, a0.used, a0.time, .slice A1 a0.extra.length c2, a0.mix, a0.nonce, a0.tail, a0.baseFee, a0.withdrawals, a0.blobUsed, a0.blobExcess, a0.beacon, a0.requests⟩ : HdrC)) ((Z100 _).trans Zv)) rfl ?_)))))
     obtain ⟨x586, hx585, hq416⟩ := Z102 hq416
     refine Z12 Tryd.call58 rfl (Z117 w0 (More w0 Φ B400) ((ob405, blk (cs403 ++ r407) 25) :: (some b9, blk [.bool false, .slice none 0 0, .slice none 0 0] 25) :: (B400 ++ N)) (fun w m => More.of hΦ 2 m rfl) a0.withdrawals x586 hx585) rfl rfl ?_
     rintro L590 M591 ⟨B587, cs588, h589, e592, e593⟩
     rw [e592, e593]
     clear e592 e593 L590 M591
     refine Z20 (M' := ((ob405, blk (cs403 ++ r407) 25) :: (some b9, blk [.bool false, .slice none 0 0, .slice none 0 0] 25) :: ((B587 ++ B400) ++ N))) (fun w m => by have h := Z110 (A := B587) m 0 2 rfl rfl; exact h) ?_
     have gq25 : ∀ w, More w0 Φ (B587 ++ B400) w → More w0 Φ B400 w := fun w q => More.mono (fun w m => (m).appR) q
     replace hH17 := hH17.mono gq25
     replace h6 := HdrRd.mono gq25 _ _ h6
     replace v3 := v3.mono gq25
     replace h404 := h404.mono (ItRd.mono gq25)
     replace h589 := ItRd.mono (Ψ := (More w0 Φ (B587 ++ B400))) (fun w q => More.flat q) _ _ h589
     have h603 := h589
     obtain ⟨A594, c595, A597, c598, cs600, e602, v596, v599, h601⟩ := ItRd.opn h589
     subst e602
     have m604 := v596.mx
     have m605 := v599.mx
     have m606 := v596.mx
     have m607 := v599.mx
     refine OW.ofN (NV.bsA rfl rfl (by intro x hx; simp at hx; subst hx; exact rfl) rfl rfl rfl (by decide) (by decide) rfl) rfl (fun b608 => ?_)
     have h611 : Reps (ItRd (More w0 Φ (B587 ++ B400))) (([.bool (x586.list), .slice A594 x586.data.length c595, .slice A597 x586.items.length c598] : List Value)) [x586] := Reps.one h603
     refine Z20 (M' := (((some b608), blk ((([.bool (x586.list), .slice A594 x586.data.length c595, .slice A597 x586.items.length c598] : List Value)) ++ []) 25) :: (ob405, blk (cs403 ++ r407) 25) :: (some b9, blk [.bool false, .slice none 0 0, .slice none 0 0] 25) :: ((B587 ++ B400) ++ N))) (fun w m => m) ?_
     have o609 : OwnS (some b608) ([x586] : List (It)).length 1 3 (([.bool (x586.list), .slice A594 x586.data.length c595, .slice A597 x586.items.length c598] : List Value)) [] := ⟨by simp [ItRd], by simp [ItRd], (fun h => nomatch h), by simp⟩
     have mx_o609 := o609.mx
     refine Z7 (sl (some b608) 0 ([x586] : List (It)).length 1) (rfl) (OW.rot1 ?_)
     obtain ⟨g612, hq416⟩ := Z115 hq416
     have h617 := h404.app h611
     refine OW.appendOwn (s := 3) rfl rfl rfl rfl rfl rfl o408 (fun w m => m.rd0 (List.Mem.tail _ Zh) (fun e => o609.nilc (by decide) e)) o609.n (h611.cell1 ItRd.one) (o609.zeroO (by decide)) (by decide) (by decide) (by first | omega | (simp only [i25, List.length_nil]; omega)) rfl rfl ((l402 ++ ([x586] : List (It))).length) (cs403 ++ (([.bool (x586.list), .slice A594 x586.data.length c595, .slice A597 x586.items.length c598] : List Value))) (List.length_append ..).symm rfl (fun ob613 r614 c615 o616 => ?_)
     have m618 := o616.mx
     refine Z0 (Z5 rfl) rfl (Z6 ?_)
     exact QW.join ⟨(l402 ++ ([x586] : List (It))), (B587 ++ B400), (cs403 ++ (([.bool (x586.list), .slice A594 x586.data.length c595, .slice A597 x586.items.length c598] : List Value))), ob613, c615, r614, (Zi hq416).symm, (fun w m => (m).appR), h617, o616, rfl, rfl⟩ ⟨rfl, rfl, rfl, trivial⟩ (fun w m => m.pick [0, 2] 3 rfl rfl)
    ·replace hq416 := if_f hq416 h584
     refine Z14 rfl (decide_eq_false h584) (CW.skip ?_)
     exact QW.join ⟨l402, B400, cs403, ob405, c406, r407, (Zi hq416).symm, (fun w m => m), h404, o408, rfl, rfl⟩ ⟨rfl, rfl, rfl, trivial⟩ (fun w m => m.pick [0, 1] 2 rfl rfl)
  ·skip
   by_cases h619 : (1 : Int) ≤ a0.tail
   ·replace hq399 := if_t hq399 h619
    refine Z13 rfl (decide_eq_true h619) (Z2 (Z0 (Z3 rfl) rfl (Z0 (Z30 rfl rfl rfl rfl) rfl (Z7 (ptr (some b8) 486) rfl (Z0 (RV.loadAH rfl hH17 (fun w m => More.of hΦ 5 m rfl) rfl rfl rfl (Z146 (⟨a0.parent, a0.uncles, a0.coinbase, a0.state, a0.txRoot, a0.receiptRoot, a0.bloom, a0.difficulty, a0.number, a0.limit, a0.used, a0.time, .slice A1 a0.extra.length c2, a0.mix, a0.nonce, a0.tail, a0.baseFee, a0.withdrawals, a0.blobUsed, a0.blobExcess, a0.beacon, a0.requests⟩ : HdrC)) ((Z103 _).trans Zv)) rfl ?_)))))
    obtain ⟨x621, hx620, hq399⟩ := Z102 hq399
    refine Z12 Tryd.call60 rfl (Z148 w0 (More w0 Φ (B366 ++ (B343 ++ (B320 ++ (B297 ++ (B274 ++ (B239 ++ (B216 ++ (B193 ++ (B170 ++ (B135 ++ (B112 ++ (B89 ++ (B66 ++ (B43 ++ (B20 ++ ((some b8, blk (⟨a0.parent, a0.uncles, a0.coinbase, a0.state, a0.txRoot, a0.receiptRoot, a0.bloom, a0.difficulty, a0.number, a0.limit, a0.used, a0.time, .slice A1 a0.extra.length c2, a0.mix, a0.nonce, a0.tail, a0.baseFee, a0.withdrawals, a0.blobUsed, a0.blobExcess, a0.beacon, a0.requests⟩ : HdrC).C 38) :: []))))))))))))))))) ((ob392, blk ((((([.bool (x19.list), .slice A27 x19.data.length c28, .slice A30 x19.items.length c31] : List Value) ++ ([.bool (x42.list), .slice A50 x42.data.length c51, .slice A53 x42.items.length c54] : List Value) ++ ([.bool (x65.list), .slice A73 x65.data.length c74, .slice A76 x65.items.length c77] : List Value) ++ ([.bool (x88.list), .slice A96 x88.data.length c97, .slice A99 x88.items.length c100] : List Value) ++ ([.bool (x111.list), .slice A119 x111.data.length c120, .slice A122 x111.items.length c123] : List Value) ++ ([.bool (x134.list), .slice A142 x134.data.length c143, .slice A145 x134.items.length c146] : List Value)) ++ (([.bool (x169.list), .slice A177 x169.data.length c178, .slice A180 x169.items.length c181] : List Value) ++ ([.bool (x192.list), .slice A200 x192.data.length c201, .slice A203 x192.items.length c204] : List Value) ++ ([.bool (x215.list), .slice A223 x215.data.length c224, .slice A226 x215.items.length c227] : List Value) ++ ([.bool (x238.list), .slice A246 x238.data.length c247, .slice A249 x238.items.length c250] : List Value))) ++ (([.bool (x273.list), .slice A281 x273.data.length c282, .slice A284 x273.items.length c285] : List Value) ++ ([.bool (x296.list), .slice A304 x296.data.length c305, .slice A307 x296.items.length c308] : List Value) ++ ([.bool (x319.list), .slice A327 x319.data.length c328, .slice A330 x319.items.length c331] : List Value) ++ ([.bool (x342.list), .slice A350 x342.data.length c351, .slice A353 x342.items.length c354] : List Value) ++ ([.bool (x365.list), .slice A373 x365.data.length c374, .slice A376 x365.items.length c377] : List Value))) ++ r393) 25) :: ((some b387), blk ((([.bool (x273.list), .slice A281 x273.data.length c282, .slice A284 x273.items.length c285] : List Value) ++ ([.bool (x296.list), .slice A304 x296.data.length c305, .slice A307 x296.items.length c308] : List Value) ++ ([.bool (x319.list), .slice A327 x319.data.length c328, .slice A330 x319.items.length c331] : List Value) ++ ([.bool (x342.list), .slice A350 x342.data.length c351, .slice A353 x342.items.length c354] : List Value) ++ ([.bool (x365.list), .slice A373 x365.data.length c374, .slice A376 x365.items.length c377] : List Value)) ++ []) 25) :: ((some b260), blk ((([.bool (x169.list), .slice A177 x169.data.length c178, .slice A180 x169.items.length c181] : List Value) ++ ([.bool (x192.list), .slice A200 x192.data.length c201, .slice A203 x192.items.length c204] : List Value) ++ ([.bool (x215.list), .slice A223 x215.data.length c224, .slice A226 x215.items.length c227] : List Value) ++ ([.bool (x238.list), .slice A246 x238.data.length c247, .slice A249 x238.items.length c250] : List Value)) ++ []) 25) :: ((some b156), blk ((([.bool (x19.list), .slice A27 x19.data.length c28, .slice A30 x19.items.length c31] : List Value) ++ ([.bool (x42.list), .slice A50 x42.data.length c51, .slice A53 x42.items.length c54] : List Value) ++ ([.bool (x65.list), .slice A73 x65.data.length c74, .slice A76 x65.items.length c77] : List Value) ++ ([.bool (x88.list), .slice A96 x88.data.length c97, .slice A99 x88.items.length c100] : List Value) ++ ([.bool (x111.list), .slice A119 x111.data.length c120, .slice A122 x111.items.length c123] : List Value) ++ ([.bool (x134.list), .slice A142 x134.data.length c143, .slice A145 x134.items.length c146] : List Value)) ++ []) 25) :: (some b9, blk [.bool false, .slice none 0 0, .slice none 0 0] 25) :: ((B366 ++ (B343 ++ (B320 ++ (B297 ++ (B274 ++ (B239 ++ (B216 ++ (B193 ++ (B170 ++ (B135 ++ (B112 ++ (B89 ++ (B66 ++ (B43 ++ (B20 ++ ((some b8, blk (⟨a0.parent, a0.uncles, a0.coinbase, a0.state, a0.txRoot, a0.receiptRoot, a0.bloom, a0.difficulty, a0.number, a0.limit, a0.used, a0.time, .slice A1 a0.extra.length c2, a0.mix, a0.nonce, a0.tail, a0.baseFee, a0.withdrawals, a0.blobUsed, a0.blobExcess, a0.beacon, a0.requests⟩ : HdrC).C 38) :: [])))))))))))))))) ++ N)) (fun w m => More.of hΦ 5 m rfl) a0.baseFee x621 hx620) rfl rfl ?_
    rintro L625 M626 ⟨B622, cs623, h624, e627, e628⟩
    rw [e627, e628]
    clear e627 e628 L625 M626
    refine Z20 (M' := ((ob392, blk ((((([.bool (x19.list), .slice A27 x19.data.length c28, .slice A30 x19.items.length c31] : List Value) ++ ([.bool (x42.list), .slice A50 x42.data.length c51, .slice A53 x42.items.length c54] : List Value) ++ ([.bool (x65.list), .slice A73 x65.data.length c74, .slice A76 x65.items.length c77] : List Value) ++ ([.bool (x88.list), .slice A96 x88.data.length c97, .slice A99 x88.items.length c100] : List Value) ++ ([.bool (x111.list), .slice A119 x111.data.length c120, .slice A122 x111.items.length c123] : List Value) ++ ([.bool (x134.list), .slice A142 x134.data.length c143, .slice A145 x134.items.length c146] : List Value)) ++ (([.bool (x169.list), .slice A177 x169.data.length c178, .slice A180 x169.items.length c181] : List Value) ++ ([.bool (x192.list), .slice A200 x192.data.length c201, .slice A203 x192.items.length c204] : List Value) ++ ([.bool (x215.list), .slice A223 x215.data.length c224, .slice A226 x215.items.length c227] : List Value) ++ ([.bool (x238.list), .slice A246 x238.data.length c247, .slice A249 x238.items.length c250] : List Value))) ++ (([.bool (x273.list), .slice A281 x273.data.length c282, .slice A284 x273.items.length c285] : List Value) ++ ([.bool (x296.list), .slice A304 x296.data.length c305, .slice A307 x296.items.length c308] : List Value) ++ ([.bool (x319.list), .slice A327 x319.data.length c328, .slice A330 x319.items.length c331] : List Value) ++ ([.bool (x342.list), .slice A350 x342.data.length c351, .slice A353 x342.items.length c354] : List Value) ++ ([.bool (x365.list), .slice A373 x365.data.length c374, .slice A376 x365.items.length c377] : List Value))) ++ r393) 25) :: ((some b387), blk ((([.bool (x273.list), .slice A281 x273.data.length c282, .slice A284 x273.items.length c285] : List Value) ++ ([.bool (x296.list), .slice A304 x296.data.length c305, .slice A307 x296.items.length c308] : List Value) ++ ([.bool (x319.list), .slice A327 x319.data.length c328, .slice A330 x319.items.length c331] : List Value) ++ ([.bool (x342.list), .slice A350 x342.data.length c351, .slice A353 x342.items.length c354] : List Value) ++ ([.bool (x365.list), .slice A373 x365.data.length c374, .slice A376 x365.items.length c377] : List Value)) ++ []) 25) :: ((some b260), blk ((([.bool (x169.list), .slice A177 x169.data.length c178, .slice A180 x169.items.length c181] : List Value) ++ ([.bool (x192.list), .slice A200 x192.data.length c201, .slice A203 x192.items.length c204] : List Value) ++ ([.bool (x215.list), .slice A223 x215.data.length c224, .slice A226 x215.items.length c227] : List Value) ++ ([.bool (x238.list), .slice A246 x238.data.length c247, .slice A249 x238.items.length c250] : List Value)) ++ []) 25) :: ((some b156), blk ((([.bool (x19.list), .slice A27 x19.data.length c28, .slice A30 x19.items.length c31] : List Value) ++ ([.bool (x42.list), .slice A50 x42.data.length c51, .slice A53 x42.items.length c54] : List Value) ++ ([.bool (x65.list), .slice A73 x65.data.length c74, .slice A76 x65.items.length c77] : List Value) ++ ([.bool (x88.list), .slice A96 x88.data.length c97, .slice A99 x88.items.length c100] : List Value) ++ ([.bool (x111.list), .slice A119 x111.data.length c120, .slice A122 x111.items.length c123] : List Value) ++ ([.bool (x134.list), .slice A142 x134.data.length c143, .slice A145 x134.items.length c146] : List Value)) ++ []) 25) :: (some b9, blk [.bool false, .slice none 0 0, .slice none 0 0] 25) :: ((B622 ++ (B366 ++ (B343 ++ (B320 ++ (B297 ++ (B274 ++ (B239 ++ (B216 ++ (B193 ++ (B170 ++ (B135 ++ (B112 ++ (B89 ++ (B66 ++ (B43 ++ (B20 ++ ((some b8, blk (⟨a0.parent, a0.uncles, a0.coinbase, a0.state, a0.txRoot, a0.receiptRoot, a0.bloom, a0.difficulty, a0.number, a0.limit, a0.used, a0.time, .slice A1 a0.extra.length c2, a0.mix, a0.nonce, a0.tail, a0.baseFee, a0.withdrawals, a0.blobUsed, a0.blobExcess, a0.beacon, a0.requests⟩ : HdrC).C 38) :: []))))))))))))))))) ++ N))) (fun w m => by have h := Z110 (A := B622) m 0 5 rfl rfl; exact h) ?_
    have gq26 : ∀ w, More w0 Φ (B622 ++ (B366 ++ (B343 ++ (B320 ++ (B297 ++ (B274 ++ (B239 ++ (B216 ++ (B193 ++ (B170 ++ (B135 ++ (B112 ++ (B89 ++ (B66 ++ (B43 ++ (B20 ++ ((some b8, blk (⟨a0.parent, a0.uncles, a0.coinbase, a0.state, a0.txRoot, a0.receiptRoot, a0.bloom, a0.difficulty, a0.number, a0.limit, a0.used, a0.time, .slice A1 a0.extra.length c2, a0.mix, a0.nonce, a0.tail, a0.baseFee, a0.withdrawals, a0.blobUsed, a0.blobExcess, a0.beacon, a0.requests⟩ : HdrC).C 38) :: []))))))))))))))))) w → More w0 Φ (B366 ++ (B343 ++ (B320 ++ (B297 ++ (B274 ++ (B239 ++ (B216 ++ (B193 ++ (B170 ++ (B135 ++ (B112 ++ (B89 ++ (B66 ++ (B43 ++ (B20 ++ ((some b8, blk (⟨a0.parent, a0.uncles, a0.coinbase, a0.state, a0.txRoot, a0.receiptRoot, a0.bloom, a0.difficulty, a0.number, a0.limit, a0.used, a0.time, .slice A1 a0.extra.length c2, a0.mix, a0.nonce, a0.tail, a0.baseFee, a0.withdrawals, a0.blobUsed, a0.blobExcess, a0.beacon, a0.requests⟩ : HdrC).C 38) :: [])))))))))))))))) w := fun w q => More.mono (fun w m => (m).appR) q
    replace h6 := HdrRd.mono gq26 _ _ h6
    replace v3 := v3.mono gq26
    replace hH17 := hH17.mono gq26
    replace h396 := h396.mono (ItRd.mono gq26)
    replace v16 := v16.mono gq26
    replace h36 := ItRd.mono gq26 _ _ h36
    replace v29 := v29.mono gq26
    replace v32 := v32.mono gq26
    replace h34 := h34.mono (ItRd.mono gq26)
    replace h59 := ItRd.mono gq26 _ _ h59
    replace v52 := v52.mono gq26
    replace v55 := v55.mono gq26
    replace h57 := h57.mono (ItRd.mono gq26)
    replace h82 := ItRd.mono gq26 _ _ h82
    replace v75 := v75.mono gq26
    replace v78 := v78.mono gq26
    replace h80 := h80.mono (ItRd.mono gq26)
    replace h105 := ItRd.mono gq26 _ _ h105
    replace v98 := v98.mono gq26
    replace v101 := v101.mono gq26
    replace h103 := h103.mono (ItRd.mono gq26)
    replace h128 := ItRd.mono gq26 _ _ h128
    replace v121 := v121.mono gq26
    replace v124 := v124.mono gq26
    replace h126 := h126.mono (ItRd.mono gq26)
    replace h151 := ItRd.mono gq26 _ _ h151
    replace v144 := v144.mono gq26
    replace v147 := v147.mono gq26
    replace h149 := h149.mono (ItRd.mono gq26)
    replace h159 := h159.mono (ItRd.mono gq26)
    replace h165 := h165.mono (ItRd.mono gq26)
    replace v167 := v167.mono gq26
    replace h186 := ItRd.mono gq26 _ _ h186
    replace v179 := v179.mono gq26
    replace v182 := v182.mono gq26
    replace h184 := h184.mono (ItRd.mono gq26)
    replace h209 := ItRd.mono gq26 _ _ h209
    replace v202 := v202.mono gq26
    replace v205 := v205.mono gq26
    replace h207 := h207.mono (ItRd.mono gq26)
    replace h232 := ItRd.mono gq26 _ _ h232
    replace v225 := v225.mono gq26
    replace v228 := v228.mono gq26
    replace h230 := h230.mono (ItRd.mono gq26)
    replace h255 := ItRd.mono gq26 _ _ h255
    replace v248 := v248.mono gq26
    replace v251 := v251.mono gq26
    replace h253 := h253.mono (ItRd.mono gq26)
    replace h263 := h263.mono (ItRd.mono gq26)
    replace h269 := h269.mono (ItRd.mono gq26)
    replace v271 := v271.mono gq26
    replace h290 := ItRd.mono gq26 _ _ h290
    replace v283 := v283.mono gq26
    replace v286 := v286.mono gq26
    replace h288 := h288.mono (ItRd.mono gq26)
    replace h313 := ItRd.mono gq26 _ _ h313
    replace v306 := v306.mono gq26
    replace v309 := v309.mono gq26
    replace h311 := h311.mono (ItRd.mono gq26)
    replace h336 := ItRd.mono gq26 _ _ h336
    replace v329 := v329.mono gq26
    replace v332 := v332.mono gq26
    replace h334 := h334.mono (ItRd.mono gq26)
    replace h359 := ItRd.mono gq26 _ _ h359
    replace v352 := v352.mono gq26
    replace v355 := v355.mono gq26
    replace h357 := h357.mono (ItRd.mono gq26)
    replace h382 := ItRd.mono gq26 _ _ h382
    replace v375 := v375.mono gq26
    replace v378 := v378.mono gq26
    replace h380 := h380.mono (ItRd.mono gq26)
    replace h390 := h390.mono (ItRd.mono gq26)
    replace h624 := ItRd.mono (Ψ := (More w0 Φ (B622 ++ (B366 ++ (B343 ++ (B320 ++ (B297 ++ (B274 ++ (B239 ++ (B216 ++ (B193 ++ (B170 ++ (B135 ++ (B112 ++ (B89 ++ (B66 ++ (B43 ++ (B20 ++ ((some b8, blk (⟨a0.parent, a0.uncles, a0.coinbase, a0.state, a0.txRoot, a0.receiptRoot, a0.bloom, a0.difficulty, a0.number, a0.limit, a0.used, a0.time, .slice A1 a0.extra.length c2, a0.mix, a0.nonce, a0.tail, a0.baseFee, a0.withdrawals, a0.blobUsed, a0.blobExcess, a0.beacon, a0.requests⟩ : HdrC).C 38) :: []))))))))))))))))))) (fun w q => More.flat q) _ _ h624
    have h638 := h624
    obtain ⟨A629, c630, A632, c633, cs635, e637, v631, v634, h636⟩ := ItRd.opn h624
    subst e637
    have m639 := v631.mx
    have m640 := v634.mx
    have m641 := v631.mx
    have m642 := v634.mx
    refine OW.ofN (NV.bsA rfl rfl (by intro x hx; simp at hx; subst hx; exact rfl) rfl rfl rfl (by decide) (by decide) rfl) rfl (fun b643 => ?_)
    have h646 : Reps (ItRd (More w0 Φ (B622 ++ (B366 ++ (B343 ++ (B320 ++ (B297 ++ (B274 ++ (B239 ++ (B216 ++ (B193 ++ (B170 ++ (B135 ++ (B112 ++ (B89 ++ (B66 ++ (B43 ++ (B20 ++ ((some b8, blk (⟨a0.parent, a0.uncles, a0.coinbase, a0.state, a0.txRoot, a0.receiptRoot, a0.bloom, a0.difficulty, a0.number, a0.limit, a0.used, a0.time, .slice A1 a0.extra.length c2, a0.mix, a0.nonce, a0.tail, a0.baseFee, a0.withdrawals, a0.blobUsed, a0.blobExcess, a0.beacon, a0.requests⟩ : HdrC).C 38) :: []))))))))))))))))))) (([.bool (x621.list), .slice A629 x621.data.length c630, .slice A632 x621.items.length c633] : List Value)) [x621] := Reps.one h638
    refine Z20 (M' := (((some b643), blk ((([.bool (x621.list), .slice A629 x621.data.length c630, .slice A632 x621.items.length c633] : List Value)) ++ []) 25) :: (ob392, blk ((((([.bool (x19.list), .slice A27 x19.data.length c28, .slice A30 x19.items.length c31] : List Value) ++ ([.bool (x42.list), .slice A50 x42.data.length c51, .slice A53 x42.items.length c54] : List Value) ++ ([.bool (x65.list), .slice A73 x65.data.length c74, .slice A76 x65.items.length c77] : List Value) ++ ([.bool (x88.list), .slice A96 x88.data.length c97, .slice A99 x88.items.length c100] : List Value) ++ ([.bool (x111.list), .slice A119 x111.data.length c120, .slice A122 x111.items.length c123] : List Value) ++ ([.bool (x134.list), .slice A142 x134.data.length c143, .slice A145 x134.items.length c146] : List Value)) ++ (([.bool (x169.list), .slice A177 x169.data.length c178, .slice A180 x169.items.length c181] : List Value) ++ ([.bool (x192.list), .slice A200 x192.data.length c201, .slice A203 x192.items.length c204] : List Value) ++ ([.bool (x215.list), .slice A223 x215.data.length c224, .slice A226 x215.items.length c227] : List Value) ++ ([.bool (x238.list), .slice A246 x238.data.length c247, .slice A249 x238.items.length c250] : List Value))) ++ (([.bool (x273.list), .slice A281 x273.data.length c282, .slice A284 x273.items.length c285] : List Value) ++ ([.bool (x296.list), .slice A304 x296.data.length c305, .slice A307 x296.items.length c308] : List Value) ++ ([.bool (x319.list), .slice A327 x319.data.length c328, .slice A330 x319.items.length c331] : List Value) ++ ([.bool (x342.list), .slice A350 x342.data.length c351, .slice A353 x342.items.length c354] : List Value) ++ ([.bool (x365.list), .slice A373 x365.data.length c374, .slice A376 x365.items.length c377] : List Value))) ++ r393) 25) :: ((some b387), blk ((([.bool (x273.list), .slice A281 x273.data.length c282, .slice A284 x273.items.length c285] : List Value) ++ ([.bool (x296.list), .slice A304 x296.data.length c305, .slice A307 x296.items.length c308] : List Value) ++ ([.bool (x319.list), .slice A327 x319.data.length c328, .slice A330 x319.items.length c331] : List Value) ++ ([.bool (x342.list), .slice A350 x342.data.length c351, .slice A353 x342.items.length c354] : List Value) ++ ([.bool (x365.list), .slice A373 x365.data.length c374, .slice A376 x365.items.length c377] : List Value)) ++ []) 25) :: ((some b260), blk ((([.bool (x169.list), .slice A177 x169.data.length c178, .slice A180 x169.items.length c181] : List Value) ++ ([.bool (x192.list), .slice A200 x192.data.length c201, .slice A203 x192.items.length c204] : List Value) ++ ([.bool (x215.list), .slice A223 x215.data.length c224, .slice A226 x215.items.length c227] : List Value) ++ ([.bool (x238.list), .slice A246 x238.data.length c247, .slice A249 x238.items.length c250] : List Value)) ++ []) 25) :: ((some b156), blk ((([.bool (x19.list), .slice A27 x19.data.length c28, .slice A30 x19.items.length c31] : List Value) ++ ([.bool (x42.list), .slice A50 x42.data.length c51, .slice A53 x42.items.length c54] : List Value) ++ ([.bool (x65.list), .slice A73 x65.data.length c74, .slice A76 x65.items.length c77] : List Value) ++ ([.bool (x88.list), .slice A96 x88.data.length c97, .slice A99 x88.items.length c100] : List Value) ++ ([.bool (x111.list), .slice A119 x111.data.length c120, .slice A122 x111.items.length c123] : List Value) ++ ([.bool (x134.list), .slice A142 x134.data.length c143, .slice A145 x134.items.length c146] : List Value)) ++ []) 25) :: (some b9, blk [.bool false, .slice none 0 0, .slice none 0 0] 25) :: ((B622 ++ (B366 ++ (B343 ++ (B320 ++ (B297 ++ (B274 ++ (B239 ++ (B216 ++ (B193 ++ (B170 ++ (B135 ++ (B112 ++ (B89 ++ (B66 ++ (B43 ++ (B20 ++ ((some b8, blk (⟨a0.parent, a0.uncles, a0.coinbase, a0.state, a0.txRoot, a0.receiptRoot, a0.bloom, a0.difficulty, a0.number, a0.limit, a0.used, a0.time, .slice A1 a0.extra.length c2, a0.mix, a0.nonce, a0.tail, a0.baseFee, a0.withdrawals, a0.blobUsed, a0.blobExcess, a0.beacon, a0.requests⟩ : HdrC).C 38) :: []))))))))))))))))) ++ N))) (fun w m => m) ?_
    have o644 : OwnS (some b643) ([x621] : List (It)).length 1 3 (([.bool (x621.list), .slice A629 x621.data.length c630, .slice A632 x621.items.length c633] : List Value)) [] := ⟨by simp [ItRd], by simp [ItRd], (fun h => nomatch h), by simp⟩
    have mx_o644 := o644.mx
    refine Z7 (sl (some b643) 0 ([x621] : List (It)).length 1) (rfl) (OW.rot1 ?_)
    obtain ⟨g647, hq399⟩ := Z115 hq399
    have h652 := h396.app h646
    refine OW.appendOwn (s := 3) rfl rfl rfl rfl rfl rfl o395 (fun w m => m.rd0 (List.Mem.tail _ Zh) (fun e => o644.nilc (by decide) e)) o644.n (h646.cell1 ItRd.one) (o644.zeroO (by decide)) (by decide) (by decide) (by first | omega | (simp only [i25, List.length_nil]; omega)) rfl rfl ((((([x19, x42, x65, x88, x111, x134] : List (It)) ++ ([x169, x192, x215, x238] : List (It))) ++ ([x273, x296, x319, x342, x365] : List (It))) ++ ([x621] : List (It))).length) ((((([.bool (x19.list), .slice A27 x19.data.length c28, .slice A30 x19.items.length c31] : List Value) ++ ([.bool (x42.list), .slice A50 x42.data.length c51, .slice A53 x42.items.length c54] : List Value) ++ ([.bool (x65.list), .slice A73 x65.data.length c74, .slice A76 x65.items.length c77] : List Value) ++ ([.bool (x88.list), .slice A96 x88.data.length c97, .slice A99 x88.items.length c100] : List Value) ++ ([.bool (x111.list), .slice A119 x111.data.length c120, .slice A122 x111.items.length c123] : List Value) ++ ([.bool (x134.list), .slice A142 x134.data.length c143, .slice A145 x134.items.length c146] : List Value)) ++ (([.bool (x169.list), .slice A177 x169.data.length c178, .slice A180 x169.items.length c181] : List Value) ++ ([.bool (x192.list), .slice A200 x192.data.length c201, .slice A203 x192.items.length c204] : List Value) ++ ([.bool (x215.list), .slice A223 x215.data.length c224, .slice A226 x215.items.length c227] : List Value) ++ ([.bool (x238.list), .slice A246 x238.data.length c247, .slice A249 x238.items.length c250] : List Value))) ++ (([.bool (x273.list), .slice A281 x273.data.length c282, .slice A284 x273.items.length c285] : List Value) ++ ([.bool (x296.list), .slice A304 x296.data.length c305, .slice A307 x296.items.length c308] : List Value) ++ ([.bool (x319.list), .slice A327 x319.data.length c328, .slice A330 x319.items.length c331] : List Value) ++ ([.bool (x342.list), .slice A350 x342.data.length c351, .slice A353 x342.items.length c354] : List Value) ++ ([.bool (x365.list), .slice A373 x365.data.length c374, .slice A376 x365.items.length c377] : List Value))) ++ (([.bool (x621.list), .slice A629 x621.data.length c630, .slice A632 x621.items.length c633] : List Value))) (List.length_append ..).symm rfl (fun ob648 r649 c650 o651 => ?_)
    have m653 := o651.mx
    refine Z0 (Z5 rfl) rfl (Z6 ?_)
    exact QW.join ⟨(((([x19, x42, x65, x88, x111, x134] : List (It)) ++ ([x169, x192, x215, x238] : List (It))) ++ ([x273, x296, x319, x342, x365] : List (It))) ++ ([x621] : List (It))), (B622 ++ (B366 ++ (B343 ++ (B320 ++ (B297 ++ (B274 ++ (B239 ++ (B216 ++ (B193 ++ (B170 ++ (B135 ++ (B112 ++ (B89 ++ (B66 ++ (B43 ++ (B20 ++ ((some b8, blk (⟨a0.parent, a0.uncles, a0.coinbase, a0.state, a0.txRoot, a0.receiptRoot, a0.bloom, a0.difficulty, a0.number, a0.limit, a0.used, a0.time, .slice A1 a0.extra.length c2, a0.mix, a0.nonce, a0.tail, a0.baseFee, a0.withdrawals, a0.blobUsed, a0.blobExcess, a0.beacon, a0.requests⟩ : HdrC).C 38) :: []))))))))))))))))), ((((([.bool (x19.list), .slice A27 x19.data.length c28, .slice A30 x19.items.length c31] : List Value) ++ ([.bool (x42.list), .slice A50 x42.data.length c51, .slice A53 x42.items.length c54] : List Value) ++ ([.bool (x65.list), .slice A73 x65.data.length c74, .slice A76 x65.items.length c77] : List Value) ++ ([.bool (x88.list), .slice A96 x88.data.length c97, .slice A99 x88.items.length c100] : List Value) ++ ([.bool (x111.list), .slice A119 x111.data.length c120, .slice A122 x111.items.length c123] : List Value) ++ ([.bool (x134.list), .slice A142 x134.data.length c143, .slice A145 x134.items.length c146] : List Value)) ++ (([.bool (x169.list), .slice A177 x169.data.length c178, .slice A180 x169.items.length c181] : List Value) ++ ([.bool (x192.list), .slice A200 x192.data.length c201, .slice A203 x192.items.length c204] : List Value) ++ ([.bool (x215.list), .slice A223 x215.data.length c224, .slice A226 x215.items.length c227] : List Value) ++ ([.bool (x238.list), .slice A246 x238.data.length c247, .slice A249 x238.items.length c250] : List Value))) ++ (([.bool (x273.list), .slice A281 x273.data.length c282, .slice A284 x273.items.length c285] : List Value) ++ ([.bool (x296.list), .slice A304 x296.data.length c305, .slice A307 x296.items.length c308] : List Value) ++ ([.bool (x319.list), .slice A327 x319.data.length c328, .slice A330 x319.items.length c331] : List Value) ++ ([.bool (x342.list), .slice A350 x342.data.length c351, .slice A353 x342.items.length c354] : List Value) ++ ([.bool (x365.list), .slice A373 x365.data.length c374, .slice A376 x365.items.length c377] : List Value))) ++ (([.bool (x621.list), .slice A629 x621.data.length c630, .slice A632 x621.items.length c633] : List Value))), ob648, c650, r649, (Zi hq399).symm, (fun w m => (m).appR), h652, o651, rfl, rfl⟩ ⟨rfl, rfl, rfl, trivial⟩ (fun w m => m.pick [0, 5] 6 rfl rfl)
   ·replace hq399 := if_f hq399 h619
    refine Z14 rfl (decide_eq_false h619) (CW.skip ?_)
    exact QW.join ⟨((([x19, x42, x65, x88, x111, x134] : List (It)) ++ ([x169, x192, x215, x238] : List (It))) ++ ([x273, x296, x319, x342, x365] : List (It))), (B366 ++ (B343 ++ (B320 ++ (B297 ++ (B274 ++ (B239 ++ (B216 ++ (B193 ++ (B170 ++ (B135 ++ (B112 ++ (B89 ++ (B66 ++ (B43 ++ (B20 ++ ((some b8, blk (⟨a0.parent, a0.uncles, a0.coinbase, a0.state, a0.txRoot, a0.receiptRoot, a0.bloom, a0.difficulty, a0.number, a0.limit, a0.used, a0.time, .slice A1 a0.extra.length c2, a0.mix, a0.nonce, a0.tail, a0.baseFee, a0.withdrawals, a0.blobUsed, a0.blobExcess, a0.beacon, a0.requests⟩ : HdrC).C 38) :: [])))))))))))))))), (((([.bool (x19.list), .slice A27 x19.data.length c28, .slice A30 x19.items.length c31] : List Value) ++ ([.bool (x42.list), .slice A50 x42.data.length c51, .slice A53 x42.items.length c54] : List Value) ++ ([.bool (x65.list), .slice A73 x65.data.length c74, .slice A76 x65.items.length c77] : List Value) ++ ([.bool (x88.list), .slice A96 x88.data.length c97, .slice A99 x88.items.length c100] : List Value) ++ ([.bool (x111.list), .slice A119 x111.data.length c120, .slice A122 x111.items.length c123] : List Value) ++ ([.bool (x134.list), .slice A142 x134.data.length c143, .slice A145 x134.items.length c146] : List Value)) ++ (([.bool (x169.list), .slice A177 x169.data.length c178, .slice A180 x169.items.length c181] : List Value) ++ ([.bool (x192.list), .slice A200 x192.data.length c201, .slice A203 x192.items.length c204] : List Value) ++ ([.bool (x215.list), .slice A223 x215.data.length c224, .slice A226 x215.items.length c227] : List Value) ++ ([.bool (x238.list), .slice A246 x238.data.length c247, .slice A249 x238.items.length c250] : List Value))) ++ (([.bool (x273.list), .slice A281 x273.data.length c282, .slice A284 x273.items.length c285] : List Value) ++ ([.bool (x296.list), .slice A304 x296.data.length c305, .slice A307 x296.items.length c308] : List Value) ++ ([.bool (x319.list), .slice A327 x319.data.length c328, .slice A330 x319.items.length c331] : List Value) ++ ([.bool (x342.list), .slice A350 x342.data.length c351, .slice A353 x342.items.length c354] : List Value) ++ ([.bool (x365.list), .slice A373 x365.data.length c374, .slice A376 x365.items.length c377] : List Value))), ob392, c394, r393, (Zi hq399).symm, (fun w m => m), h396, o395, rfl, rfl⟩ ⟨rfl, rfl, rfl, trivial⟩ (fun w m => m.pick [0, 4] 5 rfl rfl)
 ·replace hf := if_f hf h15
  refine Z13 rfl (congrArg (fun b => !b) (decide_eq_false h15)) (Z4 (Z2 (Z0 (Z112 (l := [.bool false, .slice none 0 0, .slice none 0 0]) (cs := [.bool false, .slice none 0 0, .slice none 0 0]) [] rfl rfl rfl rfl rfl rfl rfl) rfl (Z0 (Z3 rfl) rfl ?_))))
  refine Z28 (Z109 rfl rfl rfl (by intro u hu; simp at hu; rcases hu with rfl | rfl | rfl <;> rfl) rfl rfl rfl) ?_
  refine Z0 (Z5 rfl) rfl (Z6 (Z1 (CW.ret (Z8 ?_))))
  have er0 := Zi hf
  obtain ⟨e0, er1⟩ := Prod.mk.inj er0
  clear er0
  subst e0
  subst er1
  have v654 : View (More w0 Φ []) none ([] : List (BitVec 8)).length 0 1 (u8s []) := View.nil
  have v655 : View (More w0 Φ []) none ([] : List (It)).length 0 3 [] := View.nil
  refine Z108 (rs := [.cell 2 25, .tmp 3]) ([.agg [.bool false, .slice none 0 0, .slice none 0 0].toArray, .int .i64 ((x11 : Nat) : Int)]) ([]) rfl ?_ rfl ?_ ?_ _ (.inl rfl)
  ·exact ⟨⟨_, _, _, _, rfl, Zh, rfl, rfl, rfl, rfl⟩, rfl, trivial⟩
  ·exact ⟨[], [.bool false, .slice none 0 0, .slice none 0 0], (ItRd.mk v654 v655 (Reps.nil)), (by omega), rfl, rfl⟩
  ·exact (fun w m => m.pick [] 2 rfl rfl)
theorem Z175 (w0 : World) (Φ : Ctx) (N : List Ent) (hΦ : ∀ w, Mem w0 w N → Φ w) (cs0_ : List Value) (a0 : Hdr) (res0 : List (BitVec 8)) (res1 : Nat) (ha0 : HdrRd Φ cs0_ a0) (hf : waybillref19_Encode a0 = some (res0, res1)) : DoesG Tryd.prog 25 [.agg cs0_.toArray] w0 [] N (fun v G => ∃ B : List Ent, ∃ or0 : Option Nat, ∃ kr0 : Nat, ∃ rr0 : List Value, (OwnS or0 res0.length kr0 1 (u8s res0) rr0) ∧ (res1 ≤ 9223372036854775807) ∧ v = .tuple #[sl or0 0 res0.length kr0, .int .i64 ((res1 : Nat) : Int)] ∧ G = (or0, blk ((u8s res0) ++ rr0) 5) :: B) := by
 unfold waybillref19_Encode at hf
 replace ha0 := HdrRd.mono (Ψ := More w0 Φ []) (fun w q => q.1) _ _ ha0
 have h6 := ha0
 obtain ⟨A1, c2, e5, v3, b4⟩ := HdrRd.opn ha0
 subst e5
 have m7 := v3.mx
 refine DoesG.enter Tryd.func25 rfl Tryd.ntmps25 rfl (M := (([] ++ N))) rfl (Z4 (Z2 (OW.boxA rfl rfl (fun b8 => (Z0 (Z5 rfl) rfl (Z0 (Z5 rfl) rfl (Z6 (Z1 (Z4 (Z2 (Z0 (Z22 rfl Zh rfl rfl rfl rfl (HdrC.C_length _)) rfl ?_)))))))))))
 obtain ⟨⟨x10, x11⟩, hx9, hf⟩ := Z102 hf
 try dsimp only at hf
 refine Z12 Tryd.call23 rfl (waybillref19_Item_does w0 (More w0 Φ []) ((some b8, blk (⟨a0.parent, a0.uncles, a0.coinbase, a0.state, a0.txRoot, a0.receiptRoot, a0.bloom, a0.difficulty, a0.number, a0.limit, a0.used, a0.time, .slice A1 a0.extra.length c2, a0.mix, a0.nonce, a0.tail, a0.baseFee, a0.withdrawals, a0.blobUsed, a0.blobExcess, a0.beacon, a0.requests⟩ : HdrC).C 38) :: ([] ++ N)) (fun w m => More.of hΦ 1 m rfl) (⟨a0.parent, a0.uncles, a0.coinbase, a0.state, a0.txRoot, a0.receiptRoot, a0.bloom, a0.difficulty, a0.number, a0.limit, a0.used, a0.time, .slice A1 a0.extra.length c2, a0.mix, a0.nonce, a0.tail, a0.baseFee, a0.withdrawals, a0.blobUsed, a0.blobExcess, a0.beacon, a0.requests⟩ : HdrC).C a0 x10 x11 h6 hx9) rfl rfl ?_
 rintro L16 M17 ⟨B12, cs13, h14, b15, e18, e19⟩
 rw [e18, e19]
 clear e18 e19 L16 M17
 refine Z20 (M' := ((some b8, blk (⟨a0.parent, a0.uncles, a0.coinbase, a0.state, a0.txRoot, a0.receiptRoot, a0.bloom, a0.difficulty, a0.number, a0.limit, a0.used, a0.time, .slice A1 a0.extra.length c2, a0.mix, a0.nonce, a0.tail, a0.baseFee, a0.withdrawals, a0.blobUsed, a0.blobExcess, a0.beacon, a0.requests⟩ : HdrC).C 38) :: ((B12 ++ []) ++ N))) (fun w m => by have h := Z110 (A := B12) m 0 1 rfl rfl; exact h) ?_
 have gq1 : ∀ w, More w0 Φ (B12 ++ []) w → More w0 Φ [] w := fun w q => More.mono (fun w m => (m).appR) q
 replace h6 := HdrRd.mono gq1 _ _ h6
 replace v3 := v3.mono gq1
 replace h14 := ItRd.mono (Ψ := (More w0 Φ (B12 ++ []))) (fun w q => More.flat q) _ _ h14
 have h29 := h14
 obtain ⟨A20, c21, A23, c24, cs26, e28, v22, v25, h27⟩ := ItRd.opn h14
 subst e28
 have m30 := v22.mx
 have m31 := v25.mx
 have m32 := v22.mx
 have m33 := v25.mx
 refine Z0 (Z3 rfl) rfl (Z0 (Z17 rfl rfl) rfl (Z7 (.agg [.bool (x10.list), .slice A20 x10.data.length c21, .slice A23 x10.items.length c24].toArray) (rfl) (Z0 (Z17 rfl rfl) rfl (Z7 (.int .i64 ((x11 : Nat) : Int)) (rfl) (OW.alloc (l := [.bool false, .slice none 0 0, .slice none 0 0]) rfl rfl rfl (fun b34 => ?_))))))
 refine Z28 (Z109 rfl rfl rfl (by intro u hu; simp at hu; rcases hu with rfl | rfl | rfl <;> rfl) rfl rfl rfl) ?_
 refine Z0 (Z5 rfl) rfl (Z6 (Z1 (Z4 (Z4 (Z2 (Z0 (Z3 rfl) rfl (Z0 (RV.neq rfl rfl) rfl (Z7 (.bool (!decide (x11 = 0))) (congrArg (fun b => Value.bool (!b)) (decide_eq_decide.2 (by omega))) (Z6 (Z1 ?_))))))))))
 by_cases h35 : x11 = 0
 ·replace hf := if_t hf h35
  refine Z14 rfl (congrArg (fun b => !b) (decide_eq_true h35)) (CW.skip (Z1 (Z4 (Z2 (Z0 (Z22 rfl Zh rfl rfl rfl rfl rfl) rfl ?_)))))
  obtain ⟨⟨x37, x38⟩, hx36, hf⟩ := Z102 hf
  try dsimp only at hf
  refine Z12 Tryd.call62 rfl (waybillref07_Encode_does w0 (More w0 Φ (B12 ++ [])) ((some b34, blk [.bool (x10.list), .slice A20 x10.data.length c21, .slice A23 x10.items.length c24] 25) :: (some b8, blk (⟨a0.parent, a0.uncles, a0.coinbase, a0.state, a0.txRoot, a0.receiptRoot, a0.bloom, a0.difficulty, a0.number, a0.limit, a0.used, a0.time, .slice A1 a0.extra.length c2, a0.mix, a0.nonce, a0.tail, a0.baseFee, a0.withdrawals, a0.blobUsed, a0.blobExcess, a0.beacon, a0.requests⟩ : HdrC).C 38) :: ((B12 ++ []) ++ N)) (fun w m => More.of hΦ 2 m rfl) [.bool (x10.list), .slice A20 x10.data.length c21, .slice A23 x10.items.length c24] x10 x37 x38 h29 hx36) rfl rfl ?_
  rintro L45 M46 ⟨B39, ob40, c41, r42, o43, b44, e47, e48⟩
  rw [e47, e48]
  clear e47 e48 L45 M46
  refine Z20 (M' := ((ob40, blk ((u8s x37) ++ r42) 5) :: (some b34, blk [.bool (x10.list), .slice A20 x10.data.length c21, .slice A23 x10.items.length c24] 25) :: (some b8, blk (⟨a0.parent, a0.uncles, a0.coinbase, a0.state, a0.txRoot, a0.receiptRoot, a0.bloom, a0.difficulty, a0.number, a0.limit, a0.used, a0.time, .slice A1 a0.extra.length c2, a0.mix, a0.nonce, a0.tail, a0.baseFee, a0.withdrawals, a0.blobUsed, a0.blobExcess, a0.beacon, a0.requests⟩ : HdrC).C 38) :: ((B39 ++ (B12 ++ [])) ++ N))) (fun w m => by have h := Z110 (A := B39) m 1 2 rfl rfl; exact h) ?_
  have gq2 : ∀ w, More w0 Φ (B39 ++ (B12 ++ [])) w → More w0 Φ (B12 ++ []) w := fun w q => More.mono (fun w m => (m).appR) q
  replace h6 := HdrRd.mono gq2 _ _ h6
  replace v3 := v3.mono gq2
  replace h29 := ItRd.mono gq2 _ _ h29
  replace v22 := v22.mono gq2
  replace v25 := v25.mono gq2
  replace h27 := h27.mono (ItRd.mono gq2)
  have m49 := o43.mx
  refine Z0 (Z17 rfl rfl) rfl (Z7 (sl ob40 0 x37.length c41) (rfl) (Z0 (Z17 rfl rfl) rfl (Z7 (.int .i64 ((x38 : Nat) : Int)) (rfl) (Z0 (Z5 rfl) rfl (Z0 (Z5 rfl) rfl (Z6 (Z1 (CW.ret ?_))))))))
  have er0 := Zi hf
  obtain ⟨e0, er1⟩ := Prod.mk.inj er0
  clear er0
  subst e0
  subst er1
  refine Z108 (rs := [.tmp 2, .tmp 3]) ([sl ob40 0 x37.length c41, .int .i64 ((x38 : Nat) : Int)]) ((ob40, blk ((u8s x37) ++ r42) 5) :: (B39 ++ (B12 ++ []))) rfl ?_ rfl ?_ ?_ _ (.inl rfl)
  ·exact ⟨rfl, rfl, trivial⟩
  ·exact ⟨(B39 ++ (B12 ++ [])), ob40, c41, r42, o43, (by omega), rfl, rfl⟩
  ·exact (fun w m => m.pick [0] 3 rfl rfl)
 ·replace hf := if_f hf h35
  refine Z13 rfl (congrArg (fun b => !b) (decide_eq_false h35)) (Z4 (Z2 (Z0 (Z3 rfl) rfl (Z0 (Z5 rfl) rfl (Z0 (Z5 rfl) rfl (Z6 (Z1 (CW.ret (Z8 (QW.mem (M' := ((none, blk ((u8s ([] : List (BitVec 8))) ++ []) 5) :: (some b34, blk [.bool (x10.list), .slice A20 x10.data.length c21, .slice A23 x10.items.length c24] 25) :: (some b8, blk (⟨a0.parent, a0.uncles, a0.coinbase, a0.state, a0.txRoot, a0.receiptRoot, a0.bloom, a0.difficulty, a0.number, a0.limit, a0.used, a0.time, .slice A1 a0.extra.length c2, a0.mix, a0.nonce, a0.tail, a0.baseFee, a0.withdrawals, a0.blobUsed, a0.blobExcess, a0.beacon, a0.requests⟩ : HdrC).C 38) :: ((B12 ++ []) ++ N))) (fun w m => m.nil_ent _) ?_))))))))))
  have er0 := Zi hf
  obtain ⟨e0, er1⟩ := Prod.mk.inj er0
  clear er0
  subst e0
  subst er1
  refine Z108 (rs := [.tmp 2, .tmp 3]) ([sl none 0 ([] : List (BitVec 8)).length 0, .int .i64 ((x11 : Nat) : Int)]) ((none, blk ((u8s ([] : List (BitVec 8))) ++ []) 5) :: (B12 ++ [])) rfl ?_ rfl ?_ ?_ _ (.inl rfl)
  ·exact ⟨rfl, rfl, trivial⟩
  ·exact ⟨(B12 ++ []), none, 0, [], OwnS.nil, (by omega), rfl, rfl⟩
  ·exact (fun w m => m.pick [0] 3 rfl rfl)
end Go.Fw.Tryd
