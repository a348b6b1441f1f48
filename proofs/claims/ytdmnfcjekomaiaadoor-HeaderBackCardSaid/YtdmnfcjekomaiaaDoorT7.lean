/- Part of a proof: rules that its law uses. -/
import Derived.ChangeArms
import Derived.Test.YtdmnfcjekomaiaaDoorT6
set_option linter.unusedVariables false
set_option linter.unusedSimpArgs false
set_option linter.unusedSectionVars false
set_option maxRecDepth 100000
set_option maxHeartbeats 1000000
namespace Go.Fw.Tryd
open Go Go.Proofs Go.Fw
theorem waybilllaw19_HeaderBack_does (w0 : World) (Φ : Ctx) (N : List Ent) (hΦ : ∀ w, Mem w0 w N → Φ w) (cs0_ : List Value) (a0 : Hdr) (A1_ : Option Addr) (c1_ : Nat) (a1 : List (BitVec 8)) (res0 : Bool) (ha0 : HdrRd Φ cs0_ a0) (va1 : View Φ A1_ a1.length c1_ 1 (u8s a1)) (hg1 : View Φ (some ⟨1, 0, none⟩) 2 2 1 (u8s firstL)) (hg0 : View Φ (some ⟨0, 0, none⟩) 21 21 1 (i64s fieldsL)) (hf : waybilllaw19_HeaderBack a0 a1 = some res0) : DoesG Tryd.prog 5 [.agg cs0_.toArray, .slice A1_ a1.length c1_] w0 [] N (fun v G => v = .bool res0) := by
 unfold waybilllaw19_HeaderBack at hf
 replace va1 := va1.mono (Ψ := More w0 Φ []) (fun w q => q.1)
 replace hg1 := hg1.mono (Ψ := More w0 Φ []) (fun w q => q.1)
 replace hg0 := hg0.mono (Ψ := More w0 Φ []) (fun w q => q.1)
 replace ha0 := HdrRd.mono (Ψ := More w0 Φ []) (fun w q => q.1) _ _ ha0
 have h6 := ha0
 obtain ⟨A1, c2, e5, v3, b4⟩ := HdrRd.opn ha0
 subst e5
 have m7 := v3.mx
 have m8 := va1.mx
 refine DoesG.enter Tryd.func5 rfl Tryd.ntmps5 rfl (M := (([] ++ N))) rfl (Z4 (Z2 (OW.boxA rfl rfl (fun b9 => (Z0 (Z5 rfl) rfl (Z6 (Z1 (Z4 (Z2 (Z0 (Z117 (l := (⟨(Vector.replicate 32 0#8), (Vector.replicate 32 0#8), (Vector.replicate 20 0#8), (Vector.replicate 32 0#8), (Vector.replicate 32 0#8), (Vector.replicate 32 0#8), (Vector.replicate 256 0#8), (Vector.replicate 4 0#64), 0#64, 0#64, 0#64, 0#64, .slice none 0 0, (Vector.replicate 32 0#8), (Vector.replicate 8 0#8), (0 : Int), (Vector.replicate 4 0#64), (Vector.replicate 32 0#8), 0#64, 0#64, (Vector.replicate 32 0#8), (Vector.replicate 32 0#8)⟩ : HdrC).C) (cs := (⟨(Vector.replicate 32 0#8), (Vector.replicate 32 0#8), (Vector.replicate 20 0#8), (Vector.replicate 32 0#8), (Vector.replicate 32 0#8), (Vector.replicate 32 0#8), (Vector.replicate 256 0#8), (Vector.replicate 4 0#64), 0#64, 0#64, 0#64, 0#64, .slice none 0 0, (Vector.replicate 32 0#8), (Vector.replicate 8 0#8), (0 : Int), (Vector.replicate 4 0#64), (Vector.replicate 32 0#8), 0#64, 0#64, (Vector.replicate 32 0#8), (Vector.replicate 32 0#8)⟩ : HdrC).C) [] rfl rfl rfl (by kernel_rfl) rfl rfl rfl) rfl ?_))))))))))
 have v10 : View (More w0 Φ []) none ([] : List (BitVec 8)).length 0 1 (u8s []) := View.nil
 have h11 : HdrRd (More w0 Φ []) (⟨(Vector.replicate 32 0#8), (Vector.replicate 32 0#8), (Vector.replicate 20 0#8), (Vector.replicate 32 0#8), (Vector.replicate 32 0#8), (Vector.replicate 32 0#8), (Vector.replicate 256 0#8), (Vector.replicate 4 0#64), 0#64, 0#64, 0#64, 0#64, .slice none 0 0, (Vector.replicate 32 0#8), (Vector.replicate 8 0#8), (0 : Int), (Vector.replicate 4 0#64), (Vector.replicate 32 0#8), 0#64, 0#64, (Vector.replicate 32 0#8), (Vector.replicate 32 0#8)⟩ : HdrC).C (Hdr.mk (Vector.replicate 32 0#8) (Vector.replicate 32 0#8) (Vector.replicate 20 0#8) (Vector.replicate 32 0#8) (Vector.replicate 32 0#8) (Vector.replicate 32 0#8) (Vector.replicate 256 0#8) (Vector.replicate 4 0#64) (0#64) (0#64) (0#64) (0#64) ([] : List (BitVec 8)) (Vector.replicate 32 0#8) (Vector.replicate 8 0#8) (0 : Int) (Vector.replicate 4 0#64) (Vector.replicate 32 0#8) (0#64) (0#64) (Vector.replicate 32 0#8) (Vector.replicate 32 0#8)) := HdrRd.zero
 obtain ⟨x13, hx12, hf⟩ := Z105 hf
 refine Z12 Tryd.call20 rfl (Z150 w0 (More w0 Φ []) ((some b9, blk (⟨a0.parent, a0.uncles, a0.coinbase, a0.state, a0.txRoot, a0.receiptRoot, a0.bloom, a0.difficulty, a0.number, a0.limit, a0.used, a0.time, .slice A1 a0.extra.length c2, a0.mix, a0.nonce, a0.tail, a0.baseFee, a0.withdrawals, a0.blobUsed, a0.blobExcess, a0.beacon, a0.requests⟩ : HdrC).C 38) :: ([] ++ N)) (fun w m => More.of hΦ 1 m rfl) (⟨(Vector.replicate 32 0#8), (Vector.replicate 32 0#8), (Vector.replicate 20 0#8), (Vector.replicate 32 0#8), (Vector.replicate 32 0#8), (Vector.replicate 32 0#8), (Vector.replicate 256 0#8), (Vector.replicate 4 0#64), 0#64, 0#64, 0#64, 0#64, .slice none 0 0, (Vector.replicate 32 0#8), (Vector.replicate 8 0#8), (0 : Int), (Vector.replicate 4 0#64), (Vector.replicate 32 0#8), 0#64, 0#64, (Vector.replicate 32 0#8), (Vector.replicate 32 0#8)⟩ : HdrC).C (Hdr.mk (Vector.replicate 32 0#8) (Vector.replicate 32 0#8) (Vector.replicate 20 0#8) (Vector.replicate 32 0#8) (Vector.replicate 32 0#8) (Vector.replicate 32 0#8) (Vector.replicate 256 0#8) (Vector.replicate 4 0#64) (0#64) (0#64) (0#64) (0#64) ([] : List (BitVec 8)) (Vector.replicate 32 0#8) (Vector.replicate 8 0#8) (0 : Int) (Vector.replicate 4 0#64) (Vector.replicate 32 0#8) (0#64) (0#64) (Vector.replicate 32 0#8) (Vector.replicate 32 0#8)) x13 h11 hx12) rfl rfl ?_
 rintro _ G15 ⟨b14, rfl⟩
 refine Z20 (M' := ((some b9, blk (⟨a0.parent, a0.uncles, a0.coinbase, a0.state, a0.txRoot, a0.receiptRoot, a0.bloom, a0.difficulty, a0.number, a0.limit, a0.used, a0.time, .slice A1 a0.extra.length c2, a0.mix, a0.nonce, a0.tail, a0.baseFee, a0.withdrawals, a0.blobUsed, a0.blobExcess, a0.beacon, a0.requests⟩ : HdrC).C 38) :: ([] ++ N))) (fun w m => m.appR) (Z0 (Z5 rfl) rfl (Z6 (Z1 (Z4 (Z4 (Z2 (Z0 (Z3 rfl) rfl (Z0 (RV.neq rfl rfl) rfl (Z7 (.bool (!decide (x13 = 0))) (congrArg (fun b => Value.bool (!b)) (decide_eq_decide.2 (by omega))) (Z6 (Z1 ?_)))))))))))
 by_cases h17 : x13 = 0
 ·replace hf := if_t hf h17
  refine Z14 rfl (congrArg (fun b => !b) (decide_eq_true h17)) (CW.skip (Z1 (Z4 (Z2 (Z0 (Z22 rfl Zh rfl rfl rfl rfl (HdrC.C_length _)) rfl ?_)))))
  obtain ⟨x19, hx18, hf⟩ := Z105 hf
  refine Z12 Tryd.call19 rfl (Z126 w0 (More w0 Φ []) ((some b9, blk (⟨a0.parent, a0.uncles, a0.coinbase, a0.state, a0.txRoot, a0.receiptRoot, a0.bloom, a0.difficulty, a0.number, a0.limit, a0.used, a0.time, .slice A1 a0.extra.length c2, a0.mix, a0.nonce, a0.tail, a0.baseFee, a0.withdrawals, a0.blobUsed, a0.blobExcess, a0.beacon, a0.requests⟩ : HdrC).C 38) :: ([] ++ N)) (fun w m => More.of hΦ 1 m rfl) (⟨a0.parent, a0.uncles, a0.coinbase, a0.state, a0.txRoot, a0.receiptRoot, a0.bloom, a0.difficulty, a0.number, a0.limit, a0.used, a0.time, .slice A1 a0.extra.length c2, a0.mix, a0.nonce, a0.tail, a0.baseFee, a0.withdrawals, a0.blobUsed, a0.blobExcess, a0.beacon, a0.requests⟩ : HdrC).C a0 x19 h6 hx18) rfl rfl ?_
  rintro L23 M24 ⟨B20, cs21, h22, e25, e26⟩
  rw [e25, e26]
  clear e25 e26 L23 M24
  refine Z20 (M' := ((some b9, blk (⟨a0.parent, a0.uncles, a0.coinbase, a0.state, a0.txRoot, a0.receiptRoot, a0.bloom, a0.difficulty, a0.number, a0.limit, a0.used, a0.time, .slice A1 a0.extra.length c2, a0.mix, a0.nonce, a0.tail, a0.baseFee, a0.withdrawals, a0.blobUsed, a0.blobExcess, a0.beacon, a0.requests⟩ : HdrC).C 38) :: ((B20 ++ []) ++ N))) (fun w m => by have h := Z118 (A := B20) m 0 1 rfl rfl; exact h) ?_
  have gq1 : ∀ w, More w0 Φ (B20 ++ []) w → More w0 Φ [] w := fun w q => More.mono (fun w m => (m).appR) q
  replace h6 := HdrRd.mono gq1 _ _ h6
  replace v3 := v3.mono gq1
  replace va1 := va1.mono gq1
  replace hg1 := hg1.mono gq1
  replace hg0 := hg0.mono gq1
  replace h22 := HdrRd.mono (Ψ := (More w0 Φ (B20 ++ []))) (fun w q => More.flat q) _ _ h22
  have h32 := h22
  obtain ⟨A27, c28, e31, v29, b30⟩ := HdrRd.opn h22
  subst e31
  have m33 := v29.mx
  have m34 := v29.mx
  obtain ⟨x36, hx35, hf⟩ := Z105 hf
  refine Z12 Tryd.call20 rfl (Z150 w0 (More w0 Φ (B20 ++ [])) ((some b9, blk (⟨a0.parent, a0.uncles, a0.coinbase, a0.state, a0.txRoot, a0.receiptRoot, a0.bloom, a0.difficulty, a0.number, a0.limit, a0.used, a0.time, .slice A1 a0.extra.length c2, a0.mix, a0.nonce, a0.tail, a0.baseFee, a0.withdrawals, a0.blobUsed, a0.blobExcess, a0.beacon, a0.requests⟩ : HdrC).C 38) :: ((B20 ++ []) ++ N)) (fun w m => More.of hΦ 1 m rfl) (⟨x19.parent, x19.uncles, x19.coinbase, x19.state, x19.txRoot, x19.receiptRoot, x19.bloom, x19.difficulty, x19.number, x19.limit, x19.used, x19.time, .slice A27 x19.extra.length c28, x19.mix, x19.nonce, x19.tail, x19.baseFee, x19.withdrawals, x19.blobUsed, x19.blobExcess, x19.beacon, x19.requests⟩ : HdrC).C x19 x36 h32 hx35) rfl rfl ?_
  rintro _ G38 ⟨b37, rfl⟩
  refine Z20 (M' := ((some b9, blk (⟨a0.parent, a0.uncles, a0.coinbase, a0.state, a0.txRoot, a0.receiptRoot, a0.bloom, a0.difficulty, a0.number, a0.limit, a0.used, a0.time, .slice A1 a0.extra.length c2, a0.mix, a0.nonce, a0.tail, a0.baseFee, a0.withdrawals, a0.blobUsed, a0.blobExcess, a0.beacon, a0.requests⟩ : HdrC).C 38) :: ((B20 ++ []) ++ N))) (fun w m => m.appR) (Z0 (Z5 rfl) rfl (Z6 (Z1 (Z4 (Z2 (Z0 (Z22 rfl Zh rfl rfl rfl rfl (HdrC.C_length _)) rfl ?_))))))
  obtain ⟨x41, hx40, hf⟩ := Z105 hf
  refine Z12 Tryd.call19 rfl (Z126 w0 (More w0 Φ (B20 ++ [])) ((some b9, blk (⟨a0.parent, a0.uncles, a0.coinbase, a0.state, a0.txRoot, a0.receiptRoot, a0.bloom, a0.difficulty, a0.number, a0.limit, a0.used, a0.time, .slice A1 a0.extra.length c2, a0.mix, a0.nonce, a0.tail, a0.baseFee, a0.withdrawals, a0.blobUsed, a0.blobExcess, a0.beacon, a0.requests⟩ : HdrC).C 38) :: ((B20 ++ []) ++ N)) (fun w m => More.of hΦ 1 m rfl) (⟨a0.parent, a0.uncles, a0.coinbase, a0.state, a0.txRoot, a0.receiptRoot, a0.bloom, a0.difficulty, a0.number, a0.limit, a0.used, a0.time, .slice A1 a0.extra.length c2, a0.mix, a0.nonce, a0.tail, a0.baseFee, a0.withdrawals, a0.blobUsed, a0.blobExcess, a0.beacon, a0.requests⟩ : HdrC).C a0 x41 h6 hx40) rfl rfl ?_
  rintro L45 M46 ⟨B42, cs43, h44, e47, e48⟩
  rw [e47, e48]
  clear e47 e48 L45 M46
  refine Z20 (M' := ((some b9, blk (⟨a0.parent, a0.uncles, a0.coinbase, a0.state, a0.txRoot, a0.receiptRoot, a0.bloom, a0.difficulty, a0.number, a0.limit, a0.used, a0.time, .slice A1 a0.extra.length c2, a0.mix, a0.nonce, a0.tail, a0.baseFee, a0.withdrawals, a0.blobUsed, a0.blobExcess, a0.beacon, a0.requests⟩ : HdrC).C 38) :: ((B42 ++ (B20 ++ [])) ++ N))) (fun w m => by have h := Z118 (A := B42) m 0 1 rfl rfl; exact h) ?_
  have gq2 : ∀ w, More w0 Φ (B42 ++ (B20 ++ [])) w → More w0 Φ (B20 ++ []) w := fun w q => More.mono (fun w m => (m).appR) q
  replace h6 := HdrRd.mono gq2 _ _ h6
  replace v3 := v3.mono gq2
  replace va1 := va1.mono gq2
  replace h32 := HdrRd.mono gq2 _ _ h32
  replace v29 := v29.mono gq2
  replace hg1 := hg1.mono gq2
  replace hg0 := hg0.mono gq2
  replace h44 := HdrRd.mono (Ψ := (More w0 Φ (B42 ++ (B20 ++ [])))) (fun w q => More.flat q) _ _ h44
  have h54 := h44
  obtain ⟨A49, c50, e53, v51, b52⟩ := HdrRd.opn h44
  subst e53
  have m55 := v51.mx
  have m56 := v51.mx
  obtain ⟨⟨x58, x59⟩, hx57, hf⟩ := Z105 hf
  try dsimp only at hf
  refine Z12 Tryd.call24 rfl (header_Encode_does w0 (More w0 Φ (B42 ++ (B20 ++ []))) ((some b9, blk (⟨a0.parent, a0.uncles, a0.coinbase, a0.state, a0.txRoot, a0.receiptRoot, a0.bloom, a0.difficulty, a0.number, a0.limit, a0.used, a0.time, .slice A1 a0.extra.length c2, a0.mix, a0.nonce, a0.tail, a0.baseFee, a0.withdrawals, a0.blobUsed, a0.blobExcess, a0.beacon, a0.requests⟩ : HdrC).C 38) :: ((B42 ++ (B20 ++ [])) ++ N)) (fun w m => More.of hΦ 1 m rfl) (⟨x41.parent, x41.uncles, x41.coinbase, x41.state, x41.txRoot, x41.receiptRoot, x41.bloom, x41.difficulty, x41.number, x41.limit, x41.used, x41.time, .slice A49 x41.extra.length c50, x41.mix, x41.nonce, x41.tail, x41.baseFee, x41.withdrawals, x41.blobUsed, x41.blobExcess, x41.beacon, x41.requests⟩ : HdrC).C x41 x58 x59 h54 hx57) rfl rfl ?_
  rintro L66 M67 ⟨B60, ob61, c62, r63, o64, b65, e68, e69⟩
  rw [e68, e69]
  clear e68 e69 L66 M67
  refine Z20 (M' := ((ob61, blk ((u8s x58) ++ r63) 5) :: (some b9, blk (⟨a0.parent, a0.uncles, a0.coinbase, a0.state, a0.txRoot, a0.receiptRoot, a0.bloom, a0.difficulty, a0.number, a0.limit, a0.used, a0.time, .slice A1 a0.extra.length c2, a0.mix, a0.nonce, a0.tail, a0.baseFee, a0.withdrawals, a0.blobUsed, a0.blobExcess, a0.beacon, a0.requests⟩ : HdrC).C 38) :: ((B60 ++ (B42 ++ (B20 ++ []))) ++ N))) (fun w m => by have h := Z118 (A := B60) m 1 1 rfl rfl; exact h) ?_
  have gq3 : ∀ w, More w0 Φ (B60 ++ (B42 ++ (B20 ++ []))) w → More w0 Φ (B42 ++ (B20 ++ [])) w := fun w q => More.mono (fun w m => (m).appR) q
  replace h6 := HdrRd.mono gq3 _ _ h6
  replace v3 := v3.mono gq3
  replace va1 := va1.mono gq3
  replace h32 := HdrRd.mono gq3 _ _ h32
  replace v29 := v29.mono gq3
  replace h54 := HdrRd.mono gq3 _ _ h54
  replace v51 := v51.mono gq3
  replace hg1 := hg1.mono gq3
  replace hg0 := hg0.mono gq3
  have m70 := o64.mx
  refine Z0 (Z3 rfl) rfl (Z0 (Z17 rfl rfl) rfl (Z7 (sl ob61 0 x58.length c62) (rfl) (Z0 (Z17 rfl rfl) rfl (Z7 (.int .i64 ((x59 : Nat) : Int)) (rfl) (Z0 (Z5 rfl) rfl (Z0 (Z5 rfl) rfl (Z6 (Z1 (Z4 (Z2 ?_))))))))))
  refine Z0 (Z22 rfl (List.Mem.tail _ Zh) rfl rfl rfl rfl (HdrC.C_length _)) rfl ?_
  obtain ⟨x72, hx71, hf⟩ := Z105 hf
  refine Z12 Tryd.call19 rfl (Z126 w0 (More w0 Φ (B60 ++ (B42 ++ (B20 ++ [])))) ((ob61, blk ((u8s x58) ++ r63) 5) :: (some b9, blk (⟨a0.parent, a0.uncles, a0.coinbase, a0.state, a0.txRoot, a0.receiptRoot, a0.bloom, a0.difficulty, a0.number, a0.limit, a0.used, a0.time, .slice A1 a0.extra.length c2, a0.mix, a0.nonce, a0.tail, a0.baseFee, a0.withdrawals, a0.blobUsed, a0.blobExcess, a0.beacon, a0.requests⟩ : HdrC).C 38) :: ((B60 ++ (B42 ++ (B20 ++ []))) ++ N)) (fun w m => More.of hΦ 2 m rfl) (⟨a0.parent, a0.uncles, a0.coinbase, a0.state, a0.txRoot, a0.receiptRoot, a0.bloom, a0.difficulty, a0.number, a0.limit, a0.used, a0.time, .slice A1 a0.extra.length c2, a0.mix, a0.nonce, a0.tail, a0.baseFee, a0.withdrawals, a0.blobUsed, a0.blobExcess, a0.beacon, a0.requests⟩ : HdrC).C a0 x72 h6 hx71) rfl rfl ?_
  rintro L76 M77 ⟨B73, cs74, h75, e78, e79⟩
  rw [e78, e79]
  clear e78 e79 L76 M77
  refine Z20 (M' := ((ob61, blk ((u8s x58) ++ r63) 5) :: (some b9, blk (⟨a0.parent, a0.uncles, a0.coinbase, a0.state, a0.txRoot, a0.receiptRoot, a0.bloom, a0.difficulty, a0.number, a0.limit, a0.used, a0.time, .slice A1 a0.extra.length c2, a0.mix, a0.nonce, a0.tail, a0.baseFee, a0.withdrawals, a0.blobUsed, a0.blobExcess, a0.beacon, a0.requests⟩ : HdrC).C 38) :: ((B73 ++ (B60 ++ (B42 ++ (B20 ++ [])))) ++ N))) (fun w m => by have h := Z118 (A := B73) m 0 2 rfl rfl; exact h) ?_
  have gq4 : ∀ w, More w0 Φ (B73 ++ (B60 ++ (B42 ++ (B20 ++ [])))) w → More w0 Φ (B60 ++ (B42 ++ (B20 ++ []))) w := fun w q => More.mono (fun w m => (m).appR) q
  replace h6 := HdrRd.mono gq4 _ _ h6
  replace v3 := v3.mono gq4
  replace va1 := va1.mono gq4
  replace h32 := HdrRd.mono gq4 _ _ h32
  replace v29 := v29.mono gq4
  replace h54 := HdrRd.mono gq4 _ _ h54
  replace v51 := v51.mono gq4
  replace hg1 := hg1.mono gq4
  replace hg0 := hg0.mono gq4
  replace h75 := HdrRd.mono (Ψ := (More w0 Φ (B73 ++ (B60 ++ (B42 ++ (B20 ++ [])))))) (fun w q => More.flat q) _ _ h75
  have h85 := h75
  obtain ⟨A80, c81, e84, v82, b83⟩ := HdrRd.opn h75
  subst e84
  have m86 := v82.mx
  have m87 := v82.mx
  obtain ⟨⟨x89, x90⟩, hx88, hf⟩ := Z105 hf
  try dsimp only at hf
  refine Z12 Tryd.call22 rfl (header_Item_does w0 (More w0 Φ (B73 ++ (B60 ++ (B42 ++ (B20 ++ []))))) ((ob61, blk ((u8s x58) ++ r63) 5) :: (some b9, blk (⟨a0.parent, a0.uncles, a0.coinbase, a0.state, a0.txRoot, a0.receiptRoot, a0.bloom, a0.difficulty, a0.number, a0.limit, a0.used, a0.time, .slice A1 a0.extra.length c2, a0.mix, a0.nonce, a0.tail, a0.baseFee, a0.withdrawals, a0.blobUsed, a0.blobExcess, a0.beacon, a0.requests⟩ : HdrC).C 38) :: ((B73 ++ (B60 ++ (B42 ++ (B20 ++ [])))) ++ N)) (fun w m => More.of hΦ 2 m rfl) (⟨x72.parent, x72.uncles, x72.coinbase, x72.state, x72.txRoot, x72.receiptRoot, x72.bloom, x72.difficulty, x72.number, x72.limit, x72.used, x72.time, .slice A80 x72.extra.length c81, x72.mix, x72.nonce, x72.tail, x72.baseFee, x72.withdrawals, x72.blobUsed, x72.blobExcess, x72.beacon, x72.requests⟩ : HdrC).C x72 x89 x90 h85 hx88) rfl rfl ?_
  rintro L95 M96 ⟨B91, cs92, h93, b94, e97, e98⟩
  rw [e97, e98]
  clear e97 e98 L95 M96
  refine Z20 (M' := ((ob61, blk ((u8s x58) ++ r63) 5) :: (some b9, blk (⟨a0.parent, a0.uncles, a0.coinbase, a0.state, a0.txRoot, a0.receiptRoot, a0.bloom, a0.difficulty, a0.number, a0.limit, a0.used, a0.time, .slice A1 a0.extra.length c2, a0.mix, a0.nonce, a0.tail, a0.baseFee, a0.withdrawals, a0.blobUsed, a0.blobExcess, a0.beacon, a0.requests⟩ : HdrC).C 38) :: ((B91 ++ (B73 ++ (B60 ++ (B42 ++ (B20 ++ []))))) ++ N))) (fun w m => by have h := Z118 (A := B91) m 0 2 rfl rfl; exact h) ?_
  have gq5 : ∀ w, More w0 Φ (B91 ++ (B73 ++ (B60 ++ (B42 ++ (B20 ++ []))))) w → More w0 Φ (B73 ++ (B60 ++ (B42 ++ (B20 ++ [])))) w := fun w q => More.mono (fun w m => (m).appR) q
  replace h6 := HdrRd.mono gq5 _ _ h6
  replace v3 := v3.mono gq5
  replace va1 := va1.mono gq5
  replace h32 := HdrRd.mono gq5 _ _ h32
  replace v29 := v29.mono gq5
  replace h54 := HdrRd.mono gq5 _ _ h54
  replace v51 := v51.mono gq5
  replace h85 := HdrRd.mono gq5 _ _ h85
  replace v82 := v82.mono gq5
  replace hg1 := hg1.mono gq5
  replace hg0 := hg0.mono gq5
  replace h93 := ItRd.mono (Ψ := (More w0 Φ (B91 ++ (B73 ++ (B60 ++ (B42 ++ (B20 ++ []))))))) (fun w q => More.flat q) _ _ h93
  have h108 := h93
  obtain ⟨A99, c100, A102, c103, cs105, e107, v101, v104, h106⟩ := ItRd.opn h93
  subst e107
  have m109 := v101.mx
  have m110 := v104.mx
  have m111 := v101.mx
  have m112 := v104.mx
  refine Z0 (Z3 rfl) rfl (Z0 (Z17 rfl rfl) rfl (Z7 (.agg [.bool (x89.list), .slice A99 x89.data.length c100, .slice A102 x89.items.length c103].toArray) (rfl) (Z0 (Z17 rfl rfl) rfl (Z7 (.int .i64 ((x90 : Nat) : Int)) (rfl) (OW.alloc (l := [.bool false, .slice none 0 0, .slice none 0 0]) rfl rfl rfl (fun b113 => ?_))))))
  refine Z28 (Z107 rfl rfl rfl (by intro u hu; simp at hu; rcases hu with rfl | rfl | rfl <;> rfl) rfl rfl rfl) ?_
  refine Z0 (Z5 rfl) rfl (Z6 (Z1 (Z4 (Z2 (Z0 (Z22 rfl (List.Mem.tail _ (List.Mem.tail _ Zh)) rfl rfl rfl rfl (HdrC.C_length _)) rfl ?_)))))
  obtain ⟨x115, hx114, hf⟩ := Z105 hf
  refine Z12 Tryd.call19 rfl (Z126 w0 (More w0 Φ (B91 ++ (B73 ++ (B60 ++ (B42 ++ (B20 ++ [])))))) ((some b113, blk [.bool (x89.list), .slice A99 x89.data.length c100, .slice A102 x89.items.length c103] 25) :: (ob61, blk ((u8s x58) ++ r63) 5) :: (some b9, blk (⟨a0.parent, a0.uncles, a0.coinbase, a0.state, a0.txRoot, a0.receiptRoot, a0.bloom, a0.difficulty, a0.number, a0.limit, a0.used, a0.time, .slice A1 a0.extra.length c2, a0.mix, a0.nonce, a0.tail, a0.baseFee, a0.withdrawals, a0.blobUsed, a0.blobExcess, a0.beacon, a0.requests⟩ : HdrC).C 38) :: ((B91 ++ (B73 ++ (B60 ++ (B42 ++ (B20 ++ []))))) ++ N)) (fun w m => More.of hΦ 3 m rfl) (⟨a0.parent, a0.uncles, a0.coinbase, a0.state, a0.txRoot, a0.receiptRoot, a0.bloom, a0.difficulty, a0.number, a0.limit, a0.used, a0.time, .slice A1 a0.extra.length c2, a0.mix, a0.nonce, a0.tail, a0.baseFee, a0.withdrawals, a0.blobUsed, a0.blobExcess, a0.beacon, a0.requests⟩ : HdrC).C a0 x115 h6 hx114) rfl rfl ?_
  rintro L119 M120 ⟨B116, cs117, h118, e121, e122⟩
  rw [e121, e122]
  clear e121 e122 L119 M120
  refine Z20 (M' := ((some b113, blk [.bool (x89.list), .slice A99 x89.data.length c100, .slice A102 x89.items.length c103] 25) :: (ob61, blk ((u8s x58) ++ r63) 5) :: (some b9, blk (⟨a0.parent, a0.uncles, a0.coinbase, a0.state, a0.txRoot, a0.receiptRoot, a0.bloom, a0.difficulty, a0.number, a0.limit, a0.used, a0.time, .slice A1 a0.extra.length c2, a0.mix, a0.nonce, a0.tail, a0.baseFee, a0.withdrawals, a0.blobUsed, a0.blobExcess, a0.beacon, a0.requests⟩ : HdrC).C 38) :: ((B116 ++ (B91 ++ (B73 ++ (B60 ++ (B42 ++ (B20 ++ [])))))) ++ N))) (fun w m => by have h := Z118 (A := B116) m 0 3 rfl rfl; exact h) ?_
  have gq6 : ∀ w, More w0 Φ (B116 ++ (B91 ++ (B73 ++ (B60 ++ (B42 ++ (B20 ++ [])))))) w → More w0 Φ (B91 ++ (B73 ++ (B60 ++ (B42 ++ (B20 ++ []))))) w := fun w q => More.mono (fun w m => (m).appR) q
  replace h6 := HdrRd.mono gq6 _ _ h6
  replace v3 := v3.mono gq6
  replace va1 := va1.mono gq6
  replace h32 := HdrRd.mono gq6 _ _ h32
  replace v29 := v29.mono gq6
  replace h54 := HdrRd.mono gq6 _ _ h54
  replace v51 := v51.mono gq6
  replace h85 := HdrRd.mono gq6 _ _ h85
  replace v82 := v82.mono gq6
  replace h108 := ItRd.mono gq6 _ _ h108
  replace v101 := v101.mono gq6
  replace v104 := v104.mono gq6
  replace h106 := h106.mono (ItRd.mono gq6)
  replace hg1 := hg1.mono gq6
  replace hg0 := hg0.mono gq6
  replace h118 := HdrRd.mono (Ψ := (More w0 Φ (B116 ++ (B91 ++ (B73 ++ (B60 ++ (B42 ++ (B20 ++ [])))))))) (fun w q => More.flat q) _ _ h118
  have h128 := h118
  obtain ⟨A123, c124, e127, v125, b126⟩ := HdrRd.opn h118
  subst e127
  have m129 := v125.mx
  have m130 := v125.mx
  obtain ⟨⟨x132, x133⟩, hx131, hf⟩ := Z105 hf
  try dsimp only at hf
  refine Z12 Tryd.call26 rfl (header_Hash_does w0 (More w0 Φ (B116 ++ (B91 ++ (B73 ++ (B60 ++ (B42 ++ (B20 ++ []))))))) ((some b113, blk [.bool (x89.list), .slice A99 x89.data.length c100, .slice A102 x89.items.length c103] 25) :: (ob61, blk ((u8s x58) ++ r63) 5) :: (some b9, blk (⟨a0.parent, a0.uncles, a0.coinbase, a0.state, a0.txRoot, a0.receiptRoot, a0.bloom, a0.difficulty, a0.number, a0.limit, a0.used, a0.time, .slice A1 a0.extra.length c2, a0.mix, a0.nonce, a0.tail, a0.baseFee, a0.withdrawals, a0.blobUsed, a0.blobExcess, a0.beacon, a0.requests⟩ : HdrC).C 38) :: ((B116 ++ (B91 ++ (B73 ++ (B60 ++ (B42 ++ (B20 ++ [])))))) ++ N)) (fun w m => More.of hΦ 3 m rfl) (⟨x115.parent, x115.uncles, x115.coinbase, x115.state, x115.txRoot, x115.receiptRoot, x115.bloom, x115.difficulty, x115.number, x115.limit, x115.used, x115.time, .slice A123 x115.extra.length c124, x115.mix, x115.nonce, x115.tail, x115.baseFee, x115.withdrawals, x115.blobUsed, x115.blobExcess, x115.beacon, x115.requests⟩ : HdrC).C x115 x132 x133 h128 hg1 hx131) rfl rfl ?_
  rintro _ G135 ⟨b134, rfl⟩
  refine Z20 (M' := ((some b113, blk [.bool (x89.list), .slice A99 x89.data.length c100, .slice A102 x89.items.length c103] 25) :: (ob61, blk ((u8s x58) ++ r63) 5) :: (some b9, blk (⟨a0.parent, a0.uncles, a0.coinbase, a0.state, a0.txRoot, a0.receiptRoot, a0.bloom, a0.difficulty, a0.number, a0.limit, a0.used, a0.time, .slice A1 a0.extra.length c2, a0.mix, a0.nonce, a0.tail, a0.baseFee, a0.withdrawals, a0.blobUsed, a0.blobExcess, a0.beacon, a0.requests⟩ : HdrC).C 38) :: ((B116 ++ (B91 ++ (B73 ++ (B60 ++ (B42 ++ (B20 ++ [])))))) ++ N))) (fun w m => m.appR) (Z0 (Z3 rfl) rfl (Z0 (Z17 rfl rfl) rfl (Z7 (.agg (u8s x132.toList).toArray) (rfl) (Z0 (Z17 rfl rfl) rfl (Z7 (.int .i64 ((x133 : Nat) : Int)) (rfl) (OW.alloc (l := (u8s (Vector.replicate 32 0#8).toList)) rfl (by rw [Vector.toList_replicate, ← u8s_rep']; rfl) rfl (fun b137 => (Z28 (Z107 rfl rfl rfl (Z133 _) rfl ((Z100 _).trans Zv) ((Z100 _).trans Zv)) ?_))))))))
  refine Z0 (Z5 rfl) rfl (Z6 (Z1 (Z4 (Z4 ?_))))
  obtain ⟨q138, hq139, hf⟩ := Z105 hf
  refine Z130 (fun L' M' => ∃ p140 : Bool, q138 = p140 ∧ L' = [(1, .slice A1_ a1.length c1_), (2, ptr (some b9) 0), (6, .int .i64 ((x36 : Nat) : Int)), (7, sl ob61 0 x58.length c62), (9, ptr (some b113) 0), (11, ptr (some b137) 0), (60, .bool (p140))] ∧ M' = ((some b137, blk (u8s x132.toList) 28) :: (some b113, blk [.bool (x89.list), .slice A99 x89.data.length c100, .slice A102 x89.items.length c103] 25) :: (ob61, blk ((u8s x58) ++ r63) 5) :: (some b9, blk (⟨a0.parent, a0.uncles, a0.coinbase, a0.state, a0.txRoot, a0.receiptRoot, a0.bloom, a0.difficulty, a0.number, a0.limit, a0.used, a0.time, .slice A1 a0.extra.length c2, a0.mix, a0.nonce, a0.tail, a0.baseFee, a0.withdrawals, a0.blobUsed, a0.blobExcess, a0.beacon, a0.requests⟩ : HdrC).C 38) :: ((B116 ++ (B91 ++ (B73 ++ (B60 ++ (B42 ++ (B20 ++ [])))))) ++ N))) ?_ ?_
  ·rintro L142 M143 ⟨p140, e141, e144, e145⟩
   rw [e144, e145]
   clear e144 e145 L142 M143
   clear hq139
   rw [e141] at hf
   clear e141
   try dsimp only at hf
   have m146 := o64.mx
   refine Z1 ?_
   by_cases h147 : p140 = true
   ·replace hf := if_t hf h147
    refine Z13 rfl (h147) (Z4 (Z2 (Z0 (Z5 rfl) rfl (Z6 (Z1 (CW.ret (Z8 ?_)))))))
    have e0 := Zi hf
    subst e0
    refine Z110 (rs := [.tmp 4]) ([.bool false]) ((some b137, blk (u8s x132.toList) 28) :: (some b113, blk [.bool (x89.list), .slice A99 x89.data.length c100, .slice A102 x89.items.length c103] 25) :: (ob61, blk ((u8s x58) ++ r63) 5) :: (some b9, blk (⟨a0.parent, a0.uncles, a0.coinbase, a0.state, a0.txRoot, a0.receiptRoot, a0.bloom, a0.difficulty, a0.number, a0.limit, a0.used, a0.time, .slice A1 a0.extra.length c2, a0.mix, a0.nonce, a0.tail, a0.baseFee, a0.withdrawals, a0.blobUsed, a0.blobExcess, a0.beacon, a0.requests⟩ : HdrC).C 38) :: (B116 ++ (B91 ++ (B73 ++ (B60 ++ (B42 ++ (B20 ++ []))))))) rfl ?_ rfl ?_ ?_ _ (.inl rfl)
    ·exact ⟨rfl, trivial⟩
    ·exact rfl
    ·exact (fun w m => m)
   ·replace hf := if_f hf h147
    refine Z14 rfl (Bool.eq_false_iff.2 h147) (CW.skip (Z1 (Z4 (Z4 (Z2 (Z0 (Z3 rfl) rfl (Z0 (RV.eql rfl rfl) rfl (Z7 (.bool (decide (x36 = 0))) (congrArg Value.bool (decide_eq_decide.2 (by omega))) (Z6 (Z1 ?_))))))))))
    obtain ⟨q148, hq149, hf⟩ := Z105 hf
    refine Z130 (fun L' M' => ∃ B150 : List Ent, q148 = Lp.go () ∧ (∀ w, Mem w0 w B150 → Mem w0 w (B116 ++ (B91 ++ (B73 ++ (B60 ++ (B42 ++ (B20 ++ []))))))) ∧ L' = [(1, .slice A1_ a1.length c1_)] ∧ M' = ((B150 ++ N))) ?_ ?_
    ·rintro L153 M154 ⟨B150, e152, hB151, e155, e156⟩
     rw [e155, e156]
     clear e155 e156 L153 M154
     clear hq149
     rw [e152] at hf
     clear e152
     try dsimp only at hf
     have gq7 : ∀ w, More w0 Φ B150 w → More w0 Φ (B116 ++ (B91 ++ (B73 ++ (B60 ++ (B42 ++ (B20 ++ [])))))) w := fun w q => More.mono (fun w m => hB151 w (m)) q
     replace va1 := va1.mono gq7
     replace hg1 := hg1.mono gq7
     replace hg0 := hg0.mono gq7
     refine Z1 (Z4 (Z2 (Z0 (Z3 rfl) rfl ?_)))
     obtain ⟨⟨x158, x159⟩, hx157, hf⟩ := Z105 hf
     try dsimp only at hf
     refine Z12 Tryd.call10 rfl (header_Decode_does w0 (More w0 Φ B150) ((B150 ++ N)) (fun w m => More.of hΦ 0 m rfl) A1_ c1_ a1 x158 x159 va1 hg0 hx157) rfl rfl ?_
     rintro L164 M165 ⟨B160, cs161, h162, b163, e166, e167⟩
     rw [e166, e167]
     clear e166 e167 L164 M165
     refine Z20 (M' := (((B160 ++ B150) ++ N))) (fun w m => by have h := Z118 (A := B160) m 0 0 rfl rfl; exact h) ?_
     have gq8 : ∀ w, More w0 Φ (B160 ++ B150) w → More w0 Φ B150 w := fun w q => More.mono (fun w m => (m).appR) q
     replace va1 := va1.mono gq8
     replace hg1 := hg1.mono gq8
     replace hg0 := hg0.mono gq8
     replace h162 := HdrRd.mono (Ψ := (More w0 Φ (B160 ++ B150))) (fun w q => More.flat q) _ _ h162
     have h173 := h162
     obtain ⟨A168, c169, e172, v170, b171⟩ := HdrRd.opn h162
     subst e172
     have m174 := v170.mx
     have m175 := v170.mx
     refine Z0 (Z3 rfl) rfl (Z0 (Z17 rfl rfl) rfl (Z7 (.agg (⟨x158.parent, x158.uncles, x158.coinbase, x158.state, x158.txRoot, x158.receiptRoot, x158.bloom, x158.difficulty, x158.number, x158.limit, x158.used, x158.time, .slice A168 x158.extra.length c169, x158.mix, x158.nonce, x158.tail, x158.baseFee, x158.withdrawals, x158.blobUsed, x158.blobExcess, x158.beacon, x158.requests⟩ : HdrC).C.toArray) (rfl) (Z0 (Z17 rfl rfl) rfl (Z7 (.int .i64 ((x159 : Nat) : Int)) (rfl) (OW.alloc (l := (⟨(Vector.replicate 32 0#8), (Vector.replicate 32 0#8), (Vector.replicate 20 0#8), (Vector.replicate 32 0#8), (Vector.replicate 32 0#8), (Vector.replicate 32 0#8), (Vector.replicate 256 0#8), (Vector.replicate 4 0#64), 0#64, 0#64, 0#64, 0#64, .slice none 0 0, (Vector.replicate 32 0#8), (Vector.replicate 8 0#8), (0 : Int), (Vector.replicate 4 0#64), (Vector.replicate 32 0#8), 0#64, 0#64, (Vector.replicate 32 0#8), (Vector.replicate 32 0#8)⟩ : HdrC).C) rfl (by kernel_rfl) rfl (fun b176 => (Z28 (Z107 rfl rfl rfl (HdrC.C_one _ rfl) rfl (HdrC.C_length _) (HdrC.C_length _)) (Z0 (Z5 rfl) rfl ?_))))))))
     refine Z6 (Z1 (Z4 (Z4 (Z2 (Z0 (Z3 rfl) rfl (Z0 (RV.neq rfl rfl) rfl (Z7 (.bool (!decide (x159 = 0))) (congrArg (fun b => Value.bool (!b)) (decide_eq_decide.2 (by omega))) (Z6 (Z1 ?_)))))))))
     by_cases h177 : x159 = 0
     ·replace hf := if_t hf h177
      refine Z14 rfl (congrArg (fun b => !b) (decide_eq_true h177)) (CW.skip (Z1 (Z4 (Z2 (Z0 (Z22 rfl Zh rfl rfl rfl rfl (HdrC.C_length _)) rfl ?_)))))
      obtain ⟨x179, hx178, hf⟩ := Z105 hf
      refine Z12 Tryd.call19 rfl (Z126 w0 (More w0 Φ (B160 ++ B150)) ((some b176, blk (⟨x158.parent, x158.uncles, x158.coinbase, x158.state, x158.txRoot, x158.receiptRoot, x158.bloom, x158.difficulty, x158.number, x158.limit, x158.used, x158.time, .slice A168 x158.extra.length c169, x158.mix, x158.nonce, x158.tail, x158.baseFee, x158.withdrawals, x158.blobUsed, x158.blobExcess, x158.beacon, x158.requests⟩ : HdrC).C 38) :: ((B160 ++ B150) ++ N)) (fun w m => More.of hΦ 1 m rfl) (⟨x158.parent, x158.uncles, x158.coinbase, x158.state, x158.txRoot, x158.receiptRoot, x158.bloom, x158.difficulty, x158.number, x158.limit, x158.used, x158.time, .slice A168 x158.extra.length c169, x158.mix, x158.nonce, x158.tail, x158.baseFee, x158.withdrawals, x158.blobUsed, x158.blobExcess, x158.beacon, x158.requests⟩ : HdrC).C x158 x179 h173 hx178) rfl rfl ?_
      rintro L183 M184 ⟨B180, cs181, h182, e185, e186⟩
      rw [e185, e186]
      clear e185 e186 L183 M184
      refine Z20 (M' := ((some b176, blk (⟨x158.parent, x158.uncles, x158.coinbase, x158.state, x158.txRoot, x158.receiptRoot, x158.bloom, x158.difficulty, x158.number, x158.limit, x158.used, x158.time, .slice A168 x158.extra.length c169, x158.mix, x158.nonce, x158.tail, x158.baseFee, x158.withdrawals, x158.blobUsed, x158.blobExcess, x158.beacon, x158.requests⟩ : HdrC).C 38) :: ((B180 ++ (B160 ++ B150)) ++ N))) (fun w m => by have h := Z118 (A := B180) m 0 1 rfl rfl; exact h) ?_
      have gq9 : ∀ w, More w0 Φ (B180 ++ (B160 ++ B150)) w → More w0 Φ (B160 ++ B150) w := fun w q => More.mono (fun w m => (m).appR) q
      replace va1 := va1.mono gq9
      replace h173 := HdrRd.mono gq9 _ _ h173
      replace v170 := v170.mono gq9
      replace hg1 := hg1.mono gq9
      replace hg0 := hg0.mono gq9
      replace h182 := HdrRd.mono (Ψ := (More w0 Φ (B180 ++ (B160 ++ B150)))) (fun w q => More.flat q) _ _ h182
      have h192 := h182
      obtain ⟨A187, c188, e191, v189, b190⟩ := HdrRd.opn h182
      subst e191
      have m193 := v189.mx
      have m194 := v189.mx
      obtain ⟨⟨x196, x197⟩, hx195, hf⟩ := Z105 hf
      try dsimp only at hf
      refine Z12 Tryd.call24 rfl (header_Encode_does w0 (More w0 Φ (B180 ++ (B160 ++ B150))) ((some b176, blk (⟨x158.parent, x158.uncles, x158.coinbase, x158.state, x158.txRoot, x158.receiptRoot, x158.bloom, x158.difficulty, x158.number, x158.limit, x158.used, x158.time, .slice A168 x158.extra.length c169, x158.mix, x158.nonce, x158.tail, x158.baseFee, x158.withdrawals, x158.blobUsed, x158.blobExcess, x158.beacon, x158.requests⟩ : HdrC).C 38) :: ((B180 ++ (B160 ++ B150)) ++ N)) (fun w m => More.of hΦ 1 m rfl) (⟨x179.parent, x179.uncles, x179.coinbase, x179.state, x179.txRoot, x179.receiptRoot, x179.bloom, x179.difficulty, x179.number, x179.limit, x179.used, x179.time, .slice A187 x179.extra.length c188, x179.mix, x179.nonce, x179.tail, x179.baseFee, x179.withdrawals, x179.blobUsed, x179.blobExcess, x179.beacon, x179.requests⟩ : HdrC).C x179 x196 x197 h192 hx195) rfl rfl ?_
      rintro L204 M205 ⟨B198, ob199, c200, r201, o202, b203, e206, e207⟩
      rw [e206, e207]
      clear e206 e207 L204 M205
      refine Z20 (M' := ((ob199, blk ((u8s x196) ++ r201) 5) :: (some b176, blk (⟨x158.parent, x158.uncles, x158.coinbase, x158.state, x158.txRoot, x158.receiptRoot, x158.bloom, x158.difficulty, x158.number, x158.limit, x158.used, x158.time, .slice A168 x158.extra.length c169, x158.mix, x158.nonce, x158.tail, x158.baseFee, x158.withdrawals, x158.blobUsed, x158.blobExcess, x158.beacon, x158.requests⟩ : HdrC).C 38) :: ((B198 ++ (B180 ++ (B160 ++ B150))) ++ N))) (fun w m => by have h := Z118 (A := B198) m 1 1 rfl rfl; exact h) ?_
      have gq10 : ∀ w, More w0 Φ (B198 ++ (B180 ++ (B160 ++ B150))) w → More w0 Φ (B180 ++ (B160 ++ B150)) w := fun w q => More.mono (fun w m => (m).appR) q
      replace va1 := va1.mono gq10
      replace h173 := HdrRd.mono gq10 _ _ h173
      replace v170 := v170.mono gq10
      replace h192 := HdrRd.mono gq10 _ _ h192
      replace v189 := v189.mono gq10
      replace hg1 := hg1.mono gq10
      replace hg0 := hg0.mono gq10
      have m208 := o202.mx
      refine Z0 (Z3 rfl) rfl (Z0 (Z17 rfl rfl) rfl (Z7 (sl ob199 0 x196.length c200) (rfl) (Z0 (Z17 rfl rfl) rfl (Z7 (.int .i64 ((x197 : Nat) : Int)) (rfl) (Z0 (Z5 rfl) rfl (Z0 (Z5 rfl) rfl (Z6 (Z1 (Z4 ?_)))))))))
      obtain ⟨q209, hq210, hf⟩ := Z105 hf
      refine Z130 (fun L' M' => ∃ p213 : Bool, ∃ B211 : List Ent, q209 = p213 ∧ (∀ w, Mem w0 w B211 → Mem w0 w (B198 ++ (B180 ++ (B160 ++ B150)))) ∧ L' = [(4, .bool (p213))] ∧ M' = ((B211 ++ N))) ?_ ?_
      ·rintro L215 M216 ⟨p213, B211, e214, hB212, e217, e218⟩
       rw [e217, e218]
       clear e217 e218 L215 M216
       clear hq210
       rw [e214] at hf
       clear e214
       try dsimp only at hf
       have gq11 : ∀ w, More w0 Φ B211 w → More w0 Φ (B198 ++ (B180 ++ (B160 ++ B150))) w := fun w q => More.mono (fun w m => hB212 w (m)) q
       replace hg1 := hg1.mono gq11
       replace hg0 := hg0.mono gq11
       refine Z1 (CW.ret ?_)
       have e0 := Zi hf
       subst e0
       refine Z110 (rs := [.tmp 4]) ([.bool (p213)]) (B211) rfl ?_ rfl ?_ ?_ _ (.inl rfl)
       ·exact ⟨rfl, trivial⟩
       ·exact rfl
       ·exact (fun w m => m)
      ·skip
       refine Z2 (Z0 (Z3 rfl) rfl (Z0 (RV.eql rfl rfl) rfl (Z7 (.bool (decide (x197 = 0))) (congrArg Value.bool (decide_eq_decide.2 (by omega))) (Z0 (Z3 rfl) rfl ?_))))
       by_cases h219 : x197 = 0
       ·replace hq210 := if_t hq210 h219
        refine Z7 (.bool true) (congrArg Value.bool (decide_eq_true h219)) (Z24 rfl (Z0 (Z22 rfl (List.Mem.tail _ Zh) rfl rfl rfl rfl (HdrC.C_length _)) rfl (Z24 rfl ?_)))
        obtain ⟨x221, hx220, hq210⟩ := Z105 hq210
        refine Z12 Tryd.call19 rfl (Z126 w0 (More w0 Φ (B198 ++ (B180 ++ (B160 ++ B150)))) ((ob199, blk ((u8s x196) ++ r201) 5) :: (some b176, blk (⟨x158.parent, x158.uncles, x158.coinbase, x158.state, x158.txRoot, x158.receiptRoot, x158.bloom, x158.difficulty, x158.number, x158.limit, x158.used, x158.time, .slice A168 x158.extra.length c169, x158.mix, x158.nonce, x158.tail, x158.baseFee, x158.withdrawals, x158.blobUsed, x158.blobExcess, x158.beacon, x158.requests⟩ : HdrC).C 38) :: ((B198 ++ (B180 ++ (B160 ++ B150))) ++ N)) (fun w m => More.of hΦ 2 m rfl) (⟨x158.parent, x158.uncles, x158.coinbase, x158.state, x158.txRoot, x158.receiptRoot, x158.bloom, x158.difficulty, x158.number, x158.limit, x158.used, x158.time, .slice A168 x158.extra.length c169, x158.mix, x158.nonce, x158.tail, x158.baseFee, x158.withdrawals, x158.blobUsed, x158.blobExcess, x158.beacon, x158.requests⟩ : HdrC).C x158 x221 h173 hx220) rfl rfl ?_
        rintro L225 M226 ⟨B222, cs223, h224, e227, e228⟩
        rw [e227, e228]
        clear e227 e228 L225 M226
        refine Z20 (M' := ((ob199, blk ((u8s x196) ++ r201) 5) :: (some b176, blk (⟨x158.parent, x158.uncles, x158.coinbase, x158.state, x158.txRoot, x158.receiptRoot, x158.bloom, x158.difficulty, x158.number, x158.limit, x158.used, x158.time, .slice A168 x158.extra.length c169, x158.mix, x158.nonce, x158.tail, x158.baseFee, x158.withdrawals, x158.blobUsed, x158.blobExcess, x158.beacon, x158.requests⟩ : HdrC).C 38) :: ((B222 ++ (B198 ++ (B180 ++ (B160 ++ B150)))) ++ N))) (fun w m => by have h := Z118 (A := B222) m 0 2 rfl rfl; exact h) ?_
        have gq12 : ∀ w, More w0 Φ (B222 ++ (B198 ++ (B180 ++ (B160 ++ B150)))) w → More w0 Φ (B198 ++ (B180 ++ (B160 ++ B150))) w := fun w q => More.mono (fun w m => (m).appR) q
        replace va1 := va1.mono gq12
        replace h173 := HdrRd.mono gq12 _ _ h173
        replace v170 := v170.mono gq12
        replace h192 := HdrRd.mono gq12 _ _ h192
        replace v189 := v189.mono gq12
        replace hg1 := hg1.mono gq12
        replace hg0 := hg0.mono gq12
        replace h224 := HdrRd.mono (Ψ := (More w0 Φ (B222 ++ (B198 ++ (B180 ++ (B160 ++ B150)))))) (fun w q => More.flat q) _ _ h224
        have h234 := h224
        obtain ⟨A229, c230, e233, v231, b232⟩ := HdrRd.opn h224
        subst e233
        have m235 := v231.mx
        have m236 := v231.mx
        refine Z24 rfl ?_
        obtain ⟨x238, hx237, hq210⟩ := Z105 hq210
        refine Z12 Tryd.call20 rfl (Z150 w0 (More w0 Φ (B222 ++ (B198 ++ (B180 ++ (B160 ++ B150))))) ((ob199, blk ((u8s x196) ++ r201) 5) :: (some b176, blk (⟨x158.parent, x158.uncles, x158.coinbase, x158.state, x158.txRoot, x158.receiptRoot, x158.bloom, x158.difficulty, x158.number, x158.limit, x158.used, x158.time, .slice A168 x158.extra.length c169, x158.mix, x158.nonce, x158.tail, x158.baseFee, x158.withdrawals, x158.blobUsed, x158.blobExcess, x158.beacon, x158.requests⟩ : HdrC).C 38) :: ((B222 ++ (B198 ++ (B180 ++ (B160 ++ B150)))) ++ N)) (fun w m => More.of hΦ 2 m rfl) (⟨x221.parent, x221.uncles, x221.coinbase, x221.state, x221.txRoot, x221.receiptRoot, x221.bloom, x221.difficulty, x221.number, x221.limit, x221.used, x221.time, .slice A229 x221.extra.length c230, x221.mix, x221.nonce, x221.tail, x221.baseFee, x221.withdrawals, x221.blobUsed, x221.blobExcess, x221.beacon, x221.requests⟩ : HdrC).C x221 x238 h234 hx237) rfl rfl ?_
        rintro _ G240 ⟨b239, rfl⟩
        refine Z20 (M' := ((ob199, blk ((u8s x196) ++ r201) 5) :: (some b176, blk (⟨x158.parent, x158.uncles, x158.coinbase, x158.state, x158.txRoot, x158.receiptRoot, x158.bloom, x158.difficulty, x158.number, x158.limit, x158.used, x158.time, .slice A168 x158.extra.length c169, x158.mix, x158.nonce, x158.tail, x158.baseFee, x158.withdrawals, x158.blobUsed, x158.blobExcess, x158.beacon, x158.requests⟩ : HdrC).C 38) :: ((B222 ++ (B198 ++ (B180 ++ (B160 ++ B150)))) ++ N))) (fun w m => m.appR) (Z24 rfl (Z0 (RV.eql rfl rfl) rfl (Z7 (.bool (decide (x238 = 0))) (congrArg Value.bool (decide_eq_decide.2 (by omega))) (Z0 (Z108 rfl rfl rfl) rfl (Z0 (Z3 rfl) rfl ?_)))))
        by_cases h242 : x238 = 0
        ·replace hq210 := if_t hq210 h242
         refine Z7 (.bool true) (congrArg Value.bool (decide_eq_true h242)) (Z24 rfl (Z0 (Z3 rfl) rfl (Z24 rfl (Z0 (Z3 rfl) rfl (Z24 rfl (Z20 (M' := (some b176, blk (⟨x158.parent, x158.uncles, x158.coinbase, x158.state, x158.txRoot, x158.receiptRoot, x158.bloom, x158.difficulty, x158.number, x158.limit, x158.used, x158.time, .slice A168 x158.extra.length c169, x158.mix, x158.nonce, x158.tail, x158.baseFee, x158.withdrawals, x158.blobUsed, x158.blobExcess, x158.beacon, x158.requests⟩ : HdrC).C 38) :: (((ob199, blk ((u8s x196) ++ r201) 5) :: (B222 ++ (B198 ++ (B180 ++ (B160 ++ B150))))) ++ N)) (fun w m => m.pick [1, 0] 2 rfl rfl) ?_))))))
         have gq13 : ∀ w, More w0 Φ ((ob199, blk ((u8s x196) ++ r201) 5) :: (B222 ++ (B198 ++ (B180 ++ (B160 ++ B150))))) w → More w0 Φ (B222 ++ (B198 ++ (B180 ++ (B160 ++ B150)))) w := fun w q => More.mono (fun w m => (m).tail) q
         replace va1 := va1.mono gq13
         replace h173 := HdrRd.mono gq13 _ _ h173
         replace v170 := v170.mono gq13
         replace h192 := HdrRd.mono gq13 _ _ h192
         replace v189 := v189.mono gq13
         replace h234 := HdrRd.mono gq13 _ _ h234
         replace v231 := v231.mono gq13
         replace hg1 := hg1.mono gq13
         replace hg0 := hg0.mono gq13
         have v243 : View (More w0 Φ ((ob199, blk ((u8s x196) ++ r201) 5) :: (B222 ++ (B198 ++ (B180 ++ (B160 ++ B150)))))) ((ob199).map fun k => ⟨k, 0, none⟩) x196.length c200 1 (u8s x196) := o202.view (by decide) (fun w q => q.2.sublist (List.singleton_sublist.2 (List.mem_cons_self ..)))
         obtain ⟨x245, hx244, hq210⟩ := Z105 hq210
         refine Z12 Tryd.call14 rfl (waybilllaw19_equal_does w0 (More w0 Φ ((ob199, blk ((u8s x196) ++ r201) 5) :: (B222 ++ (B198 ++ (B180 ++ (B160 ++ B150)))))) ((some b176, blk (⟨x158.parent, x158.uncles, x158.coinbase, x158.state, x158.txRoot, x158.receiptRoot, x158.bloom, x158.difficulty, x158.number, x158.limit, x158.used, x158.time, .slice A168 x158.extra.length c169, x158.mix, x158.nonce, x158.tail, x158.baseFee, x158.withdrawals, x158.blobUsed, x158.blobExcess, x158.beacon, x158.requests⟩ : HdrC).C 38) :: (((ob199, blk ((u8s x196) ++ r201) 5) :: (B222 ++ (B198 ++ (B180 ++ (B160 ++ B150))))) ++ N)) (fun w m => More.of hΦ 1 m rfl) ((ob199).map fun k => ⟨k, 0, none⟩) c200 x196 A1_ c1_ a1 x245 v243 va1 hx244) rfl rfl ?_
         rintro _ G246 rfl
         refine Z20 (M' := ((some b176, blk (⟨x158.parent, x158.uncles, x158.coinbase, x158.state, x158.txRoot, x158.receiptRoot, x158.bloom, x158.difficulty, x158.number, x158.limit, x158.used, x158.time, .slice A168 x158.extra.length c169, x158.mix, x158.nonce, x158.tail, x158.baseFee, x158.withdrawals, x158.blobUsed, x158.blobExcess, x158.beacon, x158.requests⟩ : HdrC).C 38) :: (((ob199, blk ((u8s x196) ++ r201) 5) :: (B222 ++ (B198 ++ (B180 ++ (B160 ++ B150))))) ++ N))) (fun w m => m.appR) (Z0 (Z108 rfl rfl rfl) rfl (Z0 (Z5 rfl) rfl (Z6 ?_)))
         exact QW.join ⟨(x245), ((ob199, blk ((u8s x196) ++ r201) 5) :: (B222 ++ (B198 ++ (B180 ++ (B160 ++ B150))))), (Zi hq210).symm, (fun w m => ((m).tail).appR), rfl, rfl⟩ ⟨rfl, trivial⟩ (fun w m => m.pick [] 1 rfl rfl)
        ·replace hq210 := if_f hq210 h242
         refine Z7 (.bool false) (congrArg Value.bool (decide_eq_false h242)) (Z23 rfl rfl rfl (Z23 rfl rfl rfl (Z23 rfl rfl rfl (Z0 (Z112 rfl rfl rfl) rfl (Z0 (Z5 rfl) rfl (Z6 ?_))))))
         exact QW.join ⟨false, (B222 ++ (B198 ++ (B180 ++ (B160 ++ B150)))), (Zi hq210).symm, (fun w m => (m).appR), rfl, rfl⟩ ⟨rfl, trivial⟩ (fun w m => m.pick [] 2 rfl rfl)
       ·replace hq210 := if_f hq210 h219
        refine Z7 (.bool false) (congrArg Value.bool (decide_eq_false h219)) (Z23 rfl rfl rfl (Z23 rfl rfl rfl (Z23 rfl rfl rfl (Z23 rfl rfl rfl (Z0 (Z112 rfl rfl rfl) rfl (Z0 (Z3 rfl) rfl (Z23 rfl rfl rfl ?_)))))))
        refine Z23 rfl rfl rfl (Z23 rfl rfl rfl (Z0 (Z112 rfl rfl rfl) rfl (Z0 (Z5 rfl) rfl (Z6 ?_))))
        exact QW.join ⟨false, (B198 ++ (B180 ++ (B160 ++ B150))), (Zi hq210).symm, (fun w m => m), rfl, rfl⟩ ⟨rfl, trivial⟩ (fun w m => m.pick [] 2 rfl rfl)
     ·replace hf := if_f hf h177
      refine Z13 rfl (congrArg (fun b => !b) (decide_eq_false h177)) (Z4 (Z2 (Z0 (Z22 rfl Zh rfl rfl rfl rfl (HdrC.C_length _)) rfl (Z0 (Z117 (l := (⟨(Vector.replicate 32 0#8), (Vector.replicate 32 0#8), (Vector.replicate 20 0#8), (Vector.replicate 32 0#8), (Vector.replicate 32 0#8), (Vector.replicate 32 0#8), (Vector.replicate 256 0#8), (Vector.replicate 4 0#64), 0#64, 0#64, 0#64, 0#64, .slice none 0 0, (Vector.replicate 32 0#8), (Vector.replicate 8 0#8), (0 : Int), (Vector.replicate 4 0#64), (Vector.replicate 32 0#8), 0#64, 0#64, (Vector.replicate 32 0#8), (Vector.replicate 32 0#8)⟩ : HdrC).C) (cs := (⟨(Vector.replicate 32 0#8), (Vector.replicate 32 0#8), (Vector.replicate 20 0#8), (Vector.replicate 32 0#8), (Vector.replicate 32 0#8), (Vector.replicate 32 0#8), (Vector.replicate 256 0#8), (Vector.replicate 4 0#64), 0#64, 0#64, 0#64, 0#64, .slice none 0 0, (Vector.replicate 32 0#8), (Vector.replicate 8 0#8), (0 : Int), (Vector.replicate 4 0#64), (Vector.replicate 32 0#8), 0#64, 0#64, (Vector.replicate 32 0#8), (Vector.replicate 32 0#8)⟩ : HdrC).C) [] rfl rfl rfl (by kernel_rfl) rfl rfl rfl) rfl ?_))))
      have v248 : View (More w0 Φ (B160 ++ B150)) none ([] : List (BitVec 8)).length 0 1 (u8s []) := View.nil
      have h249 : HdrRd (More w0 Φ (B160 ++ B150)) (⟨(Vector.replicate 32 0#8), (Vector.replicate 32 0#8), (Vector.replicate 20 0#8), (Vector.replicate 32 0#8), (Vector.replicate 32 0#8), (Vector.replicate 32 0#8), (Vector.replicate 256 0#8), (Vector.replicate 4 0#64), 0#64, 0#64, 0#64, 0#64, .slice none 0 0, (Vector.replicate 32 0#8), (Vector.replicate 8 0#8), (0 : Int), (Vector.replicate 4 0#64), (Vector.replicate 32 0#8), 0#64, 0#64, (Vector.replicate 32 0#8), (Vector.replicate 32 0#8)⟩ : HdrC).C (Hdr.mk (Vector.replicate 32 0#8) (Vector.replicate 32 0#8) (Vector.replicate 20 0#8) (Vector.replicate 32 0#8) (Vector.replicate 32 0#8) (Vector.replicate 32 0#8) (Vector.replicate 256 0#8) (Vector.replicate 4 0#64) (0#64) (0#64) (0#64) (0#64) ([] : List (BitVec 8)) (Vector.replicate 32 0#8) (Vector.replicate 8 0#8) (0 : Int) (Vector.replicate 4 0#64) (Vector.replicate 32 0#8) (0#64) (0#64) (Vector.replicate 32 0#8) (Vector.replicate 32 0#8)) := HdrRd.zero
      obtain ⟨x251, hx250, hf⟩ := Z105 hf
      refine Z12 Tryd.call13 rfl (Z144 w0 (More w0 Φ (B160 ++ B150)) ((some b176, blk (⟨x158.parent, x158.uncles, x158.coinbase, x158.state, x158.txRoot, x158.receiptRoot, x158.bloom, x158.difficulty, x158.number, x158.limit, x158.used, x158.time, .slice A168 x158.extra.length c169, x158.mix, x158.nonce, x158.tail, x158.baseFee, x158.withdrawals, x158.blobUsed, x158.blobExcess, x158.beacon, x158.requests⟩ : HdrC).C 38) :: ((B160 ++ B150) ++ N)) (fun w m => More.of hΦ 1 m rfl) (⟨x158.parent, x158.uncles, x158.coinbase, x158.state, x158.txRoot, x158.receiptRoot, x158.bloom, x158.difficulty, x158.number, x158.limit, x158.used, x158.time, .slice A168 x158.extra.length c169, x158.mix, x158.nonce, x158.tail, x158.baseFee, x158.withdrawals, x158.blobUsed, x158.blobExcess, x158.beacon, x158.requests⟩ : HdrC).C x158 (⟨(Vector.replicate 32 0#8), (Vector.replicate 32 0#8), (Vector.replicate 20 0#8), (Vector.replicate 32 0#8), (Vector.replicate 32 0#8), (Vector.replicate 32 0#8), (Vector.replicate 256 0#8), (Vector.replicate 4 0#64), 0#64, 0#64, 0#64, 0#64, .slice none 0 0, (Vector.replicate 32 0#8), (Vector.replicate 8 0#8), (0 : Int), (Vector.replicate 4 0#64), (Vector.replicate 32 0#8), 0#64, 0#64, (Vector.replicate 32 0#8), (Vector.replicate 32 0#8)⟩ : HdrC).C (Hdr.mk (Vector.replicate 32 0#8) (Vector.replicate 32 0#8) (Vector.replicate 20 0#8) (Vector.replicate 32 0#8) (Vector.replicate 32 0#8) (Vector.replicate 32 0#8) (Vector.replicate 256 0#8) (Vector.replicate 4 0#64) (0#64) (0#64) (0#64) (0#64) ([] : List (BitVec 8)) (Vector.replicate 32 0#8) (Vector.replicate 8 0#8) (0 : Int) (Vector.replicate 4 0#64) (Vector.replicate 32 0#8) (0#64) (0#64) (Vector.replicate 32 0#8) (Vector.replicate 32 0#8)) x251 h173 h249 hx250) rfl rfl ?_
      rintro _ G252 rfl
      refine Z20 (M' := ((some b176, blk (⟨x158.parent, x158.uncles, x158.coinbase, x158.state, x158.txRoot, x158.receiptRoot, x158.bloom, x158.difficulty, x158.number, x158.limit, x158.used, x158.time, .slice A168 x158.extra.length c169, x158.mix, x158.nonce, x158.tail, x158.baseFee, x158.withdrawals, x158.blobUsed, x158.blobExcess, x158.beacon, x158.requests⟩ : HdrC).C 38) :: ((B160 ++ B150) ++ N))) (fun w m => m.appR) (Z0 (Z5 rfl) rfl (Z6 (Z1 (CW.ret (Z8 ?_)))))
      have e0 := Zi hf
      subst e0
      refine Z110 (rs := [.tmp 4]) ([.bool (x251)]) ((some b176, blk (⟨x158.parent, x158.uncles, x158.coinbase, x158.state, x158.txRoot, x158.receiptRoot, x158.bloom, x158.difficulty, x158.number, x158.limit, x158.used, x158.time, .slice A168 x158.extra.length c169, x158.mix, x158.nonce, x158.tail, x158.baseFee, x158.withdrawals, x158.blobUsed, x158.blobExcess, x158.beacon, x158.requests⟩ : HdrC).C 38) :: (B160 ++ B150)) rfl ?_ rfl ?_ ?_ _ (.inl rfl)
      ·exact ⟨rfl, trivial⟩
      ·exact rfl
      ·exact (fun w m => m)
    ·skip
     by_cases h254 : x36 = 0
     ·replace hq149 := if_t hq149 h254
      refine Z13 rfl (decide_eq_true h254) (Z4 (Z2 (Z0 (Z3 rfl) rfl (Z20 (M' := (some b137, blk (u8s x132.toList) 28) :: (some b113, blk [.bool (x89.list), .slice A99 x89.data.length c100, .slice A102 x89.items.length c103] 25) :: (some b9, blk (⟨a0.parent, a0.uncles, a0.coinbase, a0.state, a0.txRoot, a0.receiptRoot, a0.bloom, a0.difficulty, a0.number, a0.limit, a0.used, a0.time, .slice A1 a0.extra.length c2, a0.mix, a0.nonce, a0.tail, a0.baseFee, a0.withdrawals, a0.blobUsed, a0.blobExcess, a0.beacon, a0.requests⟩ : HdrC).C 38) :: (((ob61, blk ((u8s x58) ++ r63) 5) :: (B116 ++ (B91 ++ (B73 ++ (B60 ++ (B42 ++ (B20 ++ []))))))) ++ N)) (fun w m => m.pick [0, 1, 3, 2] 4 rfl rfl) ?_))))
      have gq14 : ∀ w, More w0 Φ ((ob61, blk ((u8s x58) ++ r63) 5) :: (B116 ++ (B91 ++ (B73 ++ (B60 ++ (B42 ++ (B20 ++ []))))))) w → More w0 Φ (B116 ++ (B91 ++ (B73 ++ (B60 ++ (B42 ++ (B20 ++ [])))))) w := fun w q => More.mono (fun w m => (m).tail) q
      replace va1 := va1.mono gq14
      replace h108 := ItRd.mono gq14 _ _ h108
      replace v101 := v101.mono gq14
      replace v104 := v104.mono gq14
      replace h106 := h106.mono (ItRd.mono gq14)
      replace h6 := HdrRd.mono gq14 _ _ h6
      replace v3 := v3.mono gq14
      replace hg1 := hg1.mono gq14
      replace hg0 := hg0.mono gq14
      have v255 : View (More w0 Φ ((ob61, blk ((u8s x58) ++ r63) 5) :: (B116 ++ (B91 ++ (B73 ++ (B60 ++ (B42 ++ (B20 ++ [])))))))) ((ob61).map fun k => ⟨k, 0, none⟩) x58.length c62 1 (u8s x58) := o64.view (by decide) (fun w q => q.2.sublist (List.singleton_sublist.2 (List.mem_cons_self ..)))
      obtain ⟨⟨x257, x258⟩, hx256, hq149⟩ := Z105 hq149
      try dsimp only at hq149
      refine Z12 Tryd.call10 rfl (header_Decode_does w0 (More w0 Φ ((ob61, blk ((u8s x58) ++ r63) 5) :: (B116 ++ (B91 ++ (B73 ++ (B60 ++ (B42 ++ (B20 ++ [])))))))) ((some b137, blk (u8s x132.toList) 28) :: (some b113, blk [.bool (x89.list), .slice A99 x89.data.length c100, .slice A102 x89.items.length c103] 25) :: (some b9, blk (⟨a0.parent, a0.uncles, a0.coinbase, a0.state, a0.txRoot, a0.receiptRoot, a0.bloom, a0.difficulty, a0.number, a0.limit, a0.used, a0.time, .slice A1 a0.extra.length c2, a0.mix, a0.nonce, a0.tail, a0.baseFee, a0.withdrawals, a0.blobUsed, a0.blobExcess, a0.beacon, a0.requests⟩ : HdrC).C 38) :: (((ob61, blk ((u8s x58) ++ r63) 5) :: (B116 ++ (B91 ++ (B73 ++ (B60 ++ (B42 ++ (B20 ++ []))))))) ++ N)) (fun w m => More.of hΦ 3 m rfl) ((ob61).map fun k => ⟨k, 0, none⟩) c62 x58 x257 x258 v255 hg0 hx256) rfl rfl ?_
      rintro L263 M264 ⟨B259, cs260, h261, b262, e265, e266⟩
      rw [e265, e266]
      clear e265 e266 L263 M264
      refine Z20 (M' := ((some b137, blk (u8s x132.toList) 28) :: (some b113, blk [.bool (x89.list), .slice A99 x89.data.length c100, .slice A102 x89.items.length c103] 25) :: (some b9, blk (⟨a0.parent, a0.uncles, a0.coinbase, a0.state, a0.txRoot, a0.receiptRoot, a0.bloom, a0.difficulty, a0.number, a0.limit, a0.used, a0.time, .slice A1 a0.extra.length c2, a0.mix, a0.nonce, a0.tail, a0.baseFee, a0.withdrawals, a0.blobUsed, a0.blobExcess, a0.beacon, a0.requests⟩ : HdrC).C 38) :: ((B259 ++ ((ob61, blk ((u8s x58) ++ r63) 5) :: (B116 ++ (B91 ++ (B73 ++ (B60 ++ (B42 ++ (B20 ++ [])))))))) ++ N))) (fun w m => by have h := Z118 (A := B259) m 0 3 rfl rfl; exact h) ?_
      have gq15 : ∀ w, More w0 Φ (B259 ++ ((ob61, blk ((u8s x58) ++ r63) 5) :: (B116 ++ (B91 ++ (B73 ++ (B60 ++ (B42 ++ (B20 ++ [])))))))) w → More w0 Φ ((ob61, blk ((u8s x58) ++ r63) 5) :: (B116 ++ (B91 ++ (B73 ++ (B60 ++ (B42 ++ (B20 ++ []))))))) w := fun w q => More.mono (fun w m => (m).appR) q
      replace va1 := va1.mono gq15
      replace v255 := v255.mono gq15
      replace h108 := ItRd.mono gq15 _ _ h108
      replace v101 := v101.mono gq15
      replace v104 := v104.mono gq15
      replace h106 := h106.mono (ItRd.mono gq15)
      replace h6 := HdrRd.mono gq15 _ _ h6
      replace v3 := v3.mono gq15
      replace hg1 := hg1.mono gq15
      replace hg0 := hg0.mono gq15
      replace h261 := HdrRd.mono (Ψ := (More w0 Φ (B259 ++ ((ob61, blk ((u8s x58) ++ r63) 5) :: (B116 ++ (B91 ++ (B73 ++ (B60 ++ (B42 ++ (B20 ++ [])))))))))) (fun w q => More.flat q) _ _ h261
      have h272 := h261
      obtain ⟨A267, c268, e271, v269, b270⟩ := HdrRd.opn h261
      subst e271
      have m273 := v269.mx
      have m274 := v269.mx
      refine Z0 (Z3 rfl) rfl (Z0 (Z17 rfl rfl) rfl (Z7 (.agg (⟨x257.parent, x257.uncles, x257.coinbase, x257.state, x257.txRoot, x257.receiptRoot, x257.bloom, x257.difficulty, x257.number, x257.limit, x257.used, x257.time, .slice A267 x257.extra.length c268, x257.mix, x257.nonce, x257.tail, x257.baseFee, x257.withdrawals, x257.blobUsed, x257.blobExcess, x257.beacon, x257.requests⟩ : HdrC).C.toArray) (rfl) (Z0 (Z17 rfl rfl) rfl (Z7 (.int .i64 ((x258 : Nat) : Int)) (rfl) (OW.alloc (l := (⟨(Vector.replicate 32 0#8), (Vector.replicate 32 0#8), (Vector.replicate 20 0#8), (Vector.replicate 32 0#8), (Vector.replicate 32 0#8), (Vector.replicate 32 0#8), (Vector.replicate 256 0#8), (Vector.replicate 4 0#64), 0#64, 0#64, 0#64, 0#64, .slice none 0 0, (Vector.replicate 32 0#8), (Vector.replicate 8 0#8), (0 : Int), (Vector.replicate 4 0#64), (Vector.replicate 32 0#8), 0#64, 0#64, (Vector.replicate 32 0#8), (Vector.replicate 32 0#8)⟩ : HdrC).C) rfl (by kernel_rfl) rfl (fun b275 => (Z28 (Z107 rfl rfl rfl (HdrC.C_one _ rfl) rfl (HdrC.C_length _) (HdrC.C_length _)) (Z0 (Z5 rfl) rfl ?_))))))))
      refine Z6 (Z1 (Z4 (Z2 (Z0 (Z22 rfl (List.Mem.tail _ (List.Mem.tail _ Zh)) rfl rfl rfl rfl rfl) rfl ?_))))
      obtain ⟨⟨x277, x278⟩, hx276, hq149⟩ := Z105 hq149
      try dsimp only at hq149
      refine Z12 Tryd.call16 rfl (header_Parse_does w0 (More w0 Φ (B259 ++ ((ob61, blk ((u8s x58) ++ r63) 5) :: (B116 ++ (B91 ++ (B73 ++ (B60 ++ (B42 ++ (B20 ++ []))))))))) ((some b275, blk (⟨x257.parent, x257.uncles, x257.coinbase, x257.state, x257.txRoot, x257.receiptRoot, x257.bloom, x257.difficulty, x257.number, x257.limit, x257.used, x257.time, .slice A267 x257.extra.length c268, x257.mix, x257.nonce, x257.tail, x257.baseFee, x257.withdrawals, x257.blobUsed, x257.blobExcess, x257.beacon, x257.requests⟩ : HdrC).C 38) :: (some b137, blk (u8s x132.toList) 28) :: (some b113, blk [.bool (x89.list), .slice A99 x89.data.length c100, .slice A102 x89.items.length c103] 25) :: (some b9, blk (⟨a0.parent, a0.uncles, a0.coinbase, a0.state, a0.txRoot, a0.receiptRoot, a0.bloom, a0.difficulty, a0.number, a0.limit, a0.used, a0.time, .slice A1 a0.extra.length c2, a0.mix, a0.nonce, a0.tail, a0.baseFee, a0.withdrawals, a0.blobUsed, a0.blobExcess, a0.beacon, a0.requests⟩ : HdrC).C 38) :: ((B259 ++ ((ob61, blk ((u8s x58) ++ r63) 5) :: (B116 ++ (B91 ++ (B73 ++ (B60 ++ (B42 ++ (B20 ++ [])))))))) ++ N)) (fun w m => More.of hΦ 4 m rfl) [.bool (x89.list), .slice A99 x89.data.length c100, .slice A102 x89.items.length c103] x89 x277 x278 h108 hg0 hx276) rfl rfl ?_
      rintro L283 M284 ⟨B279, cs280, h281, b282, e285, e286⟩
      rw [e285, e286]
      clear e285 e286 L283 M284
      refine Z20 (M' := ((some b275, blk (⟨x257.parent, x257.uncles, x257.coinbase, x257.state, x257.txRoot, x257.receiptRoot, x257.bloom, x257.difficulty, x257.number, x257.limit, x257.used, x257.time, .slice A267 x257.extra.length c268, x257.mix, x257.nonce, x257.tail, x257.baseFee, x257.withdrawals, x257.blobUsed, x257.blobExcess, x257.beacon, x257.requests⟩ : HdrC).C 38) :: (some b137, blk (u8s x132.toList) 28) :: (some b113, blk [.bool (x89.list), .slice A99 x89.data.length c100, .slice A102 x89.items.length c103] 25) :: (some b9, blk (⟨a0.parent, a0.uncles, a0.coinbase, a0.state, a0.txRoot, a0.receiptRoot, a0.bloom, a0.difficulty, a0.number, a0.limit, a0.used, a0.time, .slice A1 a0.extra.length c2, a0.mix, a0.nonce, a0.tail, a0.baseFee, a0.withdrawals, a0.blobUsed, a0.blobExcess, a0.beacon, a0.requests⟩ : HdrC).C 38) :: ((B279 ++ (B259 ++ ((ob61, blk ((u8s x58) ++ r63) 5) :: (B116 ++ (B91 ++ (B73 ++ (B60 ++ (B42 ++ (B20 ++ []))))))))) ++ N))) (fun w m => by have h := Z118 (A := B279) m 0 4 rfl rfl; exact h) ?_
      have gq16 : ∀ w, More w0 Φ (B279 ++ (B259 ++ ((ob61, blk ((u8s x58) ++ r63) 5) :: (B116 ++ (B91 ++ (B73 ++ (B60 ++ (B42 ++ (B20 ++ []))))))))) w → More w0 Φ (B259 ++ ((ob61, blk ((u8s x58) ++ r63) 5) :: (B116 ++ (B91 ++ (B73 ++ (B60 ++ (B42 ++ (B20 ++ [])))))))) w := fun w q => More.mono (fun w m => (m).appR) q
      replace va1 := va1.mono gq16
      replace v255 := v255.mono gq16
      replace h272 := HdrRd.mono gq16 _ _ h272
      replace v269 := v269.mono gq16
      replace h108 := ItRd.mono gq16 _ _ h108
      replace v101 := v101.mono gq16
      replace v104 := v104.mono gq16
      replace h106 := h106.mono (ItRd.mono gq16)
      replace h6 := HdrRd.mono gq16 _ _ h6
      replace v3 := v3.mono gq16
      replace hg1 := hg1.mono gq16
      replace hg0 := hg0.mono gq16
      replace h281 := HdrRd.mono (Ψ := (More w0 Φ (B279 ++ (B259 ++ ((ob61, blk ((u8s x58) ++ r63) 5) :: (B116 ++ (B91 ++ (B73 ++ (B60 ++ (B42 ++ (B20 ++ []))))))))))) (fun w q => More.flat q) _ _ h281
      have h292 := h281
      obtain ⟨A287, c288, e291, v289, b290⟩ := HdrRd.opn h281
      subst e291
      have m293 := v289.mx
      have m294 := v289.mx
      refine Z0 (Z3 rfl) rfl (Z0 (Z17 rfl rfl) rfl (Z7 (.agg (⟨x277.parent, x277.uncles, x277.coinbase, x277.state, x277.txRoot, x277.receiptRoot, x277.bloom, x277.difficulty, x277.number, x277.limit, x277.used, x277.time, .slice A287 x277.extra.length c288, x277.mix, x277.nonce, x277.tail, x277.baseFee, x277.withdrawals, x277.blobUsed, x277.blobExcess, x277.beacon, x277.requests⟩ : HdrC).C.toArray) (rfl) (Z0 (Z17 rfl rfl) rfl (Z7 (.int .i64 ((x278 : Nat) : Int)) (rfl) (OW.alloc (l := (⟨(Vector.replicate 32 0#8), (Vector.replicate 32 0#8), (Vector.replicate 20 0#8), (Vector.replicate 32 0#8), (Vector.replicate 32 0#8), (Vector.replicate 32 0#8), (Vector.replicate 256 0#8), (Vector.replicate 4 0#64), 0#64, 0#64, 0#64, 0#64, .slice none 0 0, (Vector.replicate 32 0#8), (Vector.replicate 8 0#8), (0 : Int), (Vector.replicate 4 0#64), (Vector.replicate 32 0#8), 0#64, 0#64, (Vector.replicate 32 0#8), (Vector.replicate 32 0#8)⟩ : HdrC).C) rfl (by kernel_rfl) rfl (fun b295 => (Z28 (Z107 rfl rfl rfl (HdrC.C_one _ rfl) rfl (HdrC.C_length _) (HdrC.C_length _)) (Z0 (Z5 rfl) rfl ?_))))))))
      refine Z6 (Z1 (Z4 (Z2 (Z0 (Z22 rfl (List.Mem.tail _ (List.Mem.tail _ (List.Mem.tail _ Zh))) rfl rfl rfl rfl rfl) rfl ?_))))
      obtain ⟨⟨x297, x298⟩, hx296, hq149⟩ := Z105 hq149
      try dsimp only at hq149
      refine Z12 Tryd.call29 rfl (rlp_Encode_does w0 (More w0 Φ (B279 ++ (B259 ++ ((ob61, blk ((u8s x58) ++ r63) 5) :: (B116 ++ (B91 ++ (B73 ++ (B60 ++ (B42 ++ (B20 ++ [])))))))))) ((some b295, blk (⟨x277.parent, x277.uncles, x277.coinbase, x277.state, x277.txRoot, x277.receiptRoot, x277.bloom, x277.difficulty, x277.number, x277.limit, x277.used, x277.time, .slice A287 x277.extra.length c288, x277.mix, x277.nonce, x277.tail, x277.baseFee, x277.withdrawals, x277.blobUsed, x277.blobExcess, x277.beacon, x277.requests⟩ : HdrC).C 38) :: (some b275, blk (⟨x257.parent, x257.uncles, x257.coinbase, x257.state, x257.txRoot, x257.receiptRoot, x257.bloom, x257.difficulty, x257.number, x257.limit, x257.used, x257.time, .slice A267 x257.extra.length c268, x257.mix, x257.nonce, x257.tail, x257.baseFee, x257.withdrawals, x257.blobUsed, x257.blobExcess, x257.beacon, x257.requests⟩ : HdrC).C 38) :: (some b137, blk (u8s x132.toList) 28) :: (some b113, blk [.bool (x89.list), .slice A99 x89.data.length c100, .slice A102 x89.items.length c103] 25) :: (some b9, blk (⟨a0.parent, a0.uncles, a0.coinbase, a0.state, a0.txRoot, a0.receiptRoot, a0.bloom, a0.difficulty, a0.number, a0.limit, a0.used, a0.time, .slice A1 a0.extra.length c2, a0.mix, a0.nonce, a0.tail, a0.baseFee, a0.withdrawals, a0.blobUsed, a0.blobExcess, a0.beacon, a0.requests⟩ : HdrC).C 38) :: ((B279 ++ (B259 ++ ((ob61, blk ((u8s x58) ++ r63) 5) :: (B116 ++ (B91 ++ (B73 ++ (B60 ++ (B42 ++ (B20 ++ []))))))))) ++ N)) (fun w m => More.of hΦ 5 m rfl) [.bool (x89.list), .slice A99 x89.data.length c100, .slice A102 x89.items.length c103] x89 x297 x298 h108 hx296) rfl rfl ?_
      rintro L305 M306 ⟨B299, ob300, c301, r302, o303, b304, e307, e308⟩
      rw [e307, e308]
      clear e307 e308 L305 M306
      refine Z20 (M' := ((ob300, blk ((u8s x297) ++ r302) 5) :: (some b295, blk (⟨x277.parent, x277.uncles, x277.coinbase, x277.state, x277.txRoot, x277.receiptRoot, x277.bloom, x277.difficulty, x277.number, x277.limit, x277.used, x277.time, .slice A287 x277.extra.length c288, x277.mix, x277.nonce, x277.tail, x277.baseFee, x277.withdrawals, x277.blobUsed, x277.blobExcess, x277.beacon, x277.requests⟩ : HdrC).C 38) :: (some b275, blk (⟨x257.parent, x257.uncles, x257.coinbase, x257.state, x257.txRoot, x257.receiptRoot, x257.bloom, x257.difficulty, x257.number, x257.limit, x257.used, x257.time, .slice A267 x257.extra.length c268, x257.mix, x257.nonce, x257.tail, x257.baseFee, x257.withdrawals, x257.blobUsed, x257.blobExcess, x257.beacon, x257.requests⟩ : HdrC).C 38) :: (some b137, blk (u8s x132.toList) 28) :: (some b113, blk [.bool (x89.list), .slice A99 x89.data.length c100, .slice A102 x89.items.length c103] 25) :: (some b9, blk (⟨a0.parent, a0.uncles, a0.coinbase, a0.state, a0.txRoot, a0.receiptRoot, a0.bloom, a0.difficulty, a0.number, a0.limit, a0.used, a0.time, .slice A1 a0.extra.length c2, a0.mix, a0.nonce, a0.tail, a0.baseFee, a0.withdrawals, a0.blobUsed, a0.blobExcess, a0.beacon, a0.requests⟩ : HdrC).C 38) :: ((B299 ++ (B279 ++ (B259 ++ ((ob61, blk ((u8s x58) ++ r63) 5) :: (B116 ++ (B91 ++ (B73 ++ (B60 ++ (B42 ++ (B20 ++ [])))))))))) ++ N))) (fun w m => by have h := Z118 (A := B299) m 1 5 rfl rfl; exact h) ?_
      have gq17 : ∀ w, More w0 Φ (B299 ++ (B279 ++ (B259 ++ ((ob61, blk ((u8s x58) ++ r63) 5) :: (B116 ++ (B91 ++ (B73 ++ (B60 ++ (B42 ++ (B20 ++ [])))))))))) w → More w0 Φ (B279 ++ (B259 ++ ((ob61, blk ((u8s x58) ++ r63) 5) :: (B116 ++ (B91 ++ (B73 ++ (B60 ++ (B42 ++ (B20 ++ []))))))))) w := fun w q => More.mono (fun w m => (m).appR) q
      replace va1 := va1.mono gq17
      replace v255 := v255.mono gq17
      replace h272 := HdrRd.mono gq17 _ _ h272
      replace v269 := v269.mono gq17
      replace h108 := ItRd.mono gq17 _ _ h108
      replace v101 := v101.mono gq17
      replace v104 := v104.mono gq17
      replace h106 := h106.mono (ItRd.mono gq17)
      replace h292 := HdrRd.mono gq17 _ _ h292
      replace v289 := v289.mono gq17
      replace h6 := HdrRd.mono gq17 _ _ h6
      replace v3 := v3.mono gq17
      replace hg1 := hg1.mono gq17
      replace hg0 := hg0.mono gq17
      have m309 := o303.mx
      refine Z0 (Z3 rfl) rfl (Z0 (Z17 rfl rfl) rfl (Z7 (sl ob300 0 x297.length c301) (rfl) (Z0 (Z17 rfl rfl) rfl (Z7 (.int .i64 ((x298 : Nat) : Int)) (rfl) (Z0 (Z5 rfl) rfl (Z0 (Z5 rfl) rfl (Z6 (Z1 (Z4 (Z4 ?_))))))))))
      obtain ⟨q310, hq311, hq149⟩ := Z105 hq149
      refine Z130 (fun L' M' => ∃ p314 : Bool, ∃ B312 : List Ent, q310 = p314 ∧ (∀ w, Mem w0 w B312 → Mem w0 w (B299 ++ (B279 ++ (B259 ++ ((ob61, blk ((u8s x58) ++ r63) 5) :: (B116 ++ (B91 ++ (B73 ++ (B60 ++ (B42 ++ (B20 ++ []))))))))))) ∧ L' = [(1, .slice A1_ a1.length c1_), (2, ptr (some b9) 0), (7, .slice ((ob61).map fun k => ⟨k, 0, none⟩) x58.length c62), (9, ptr (some b113) 0), (11, ptr (some b137) 0), (105, .bool (p314))] ∧ M' = ((some b137, blk (u8s x132.toList) 28) :: (some b113, blk [.bool (x89.list), .slice A99 x89.data.length c100, .slice A102 x89.items.length c103] 25) :: (some b9, blk (⟨a0.parent, a0.uncles, a0.coinbase, a0.state, a0.txRoot, a0.receiptRoot, a0.bloom, a0.difficulty, a0.number, a0.limit, a0.used, a0.time, .slice A1 a0.extra.length c2, a0.mix, a0.nonce, a0.tail, a0.baseFee, a0.withdrawals, a0.blobUsed, a0.blobExcess, a0.beacon, a0.requests⟩ : HdrC).C 38) :: (B312 ++ N))) ?_ ?_
      ·rintro L316 M317 ⟨p314, B312, e315, hB313, e318, e319⟩
       rw [e318, e319]
       clear e318 e319 L316 M317
       clear hq311
       rw [e315] at hq149
       clear e315
       try dsimp only at hq149
       have gq18 : ∀ w, More w0 Φ B312 w → More w0 Φ (B299 ++ (B279 ++ (B259 ++ ((ob61, blk ((u8s x58) ++ r63) 5) :: (B116 ++ (B91 ++ (B73 ++ (B60 ++ (B42 ++ (B20 ++ [])))))))))) w := fun w q => More.mono (fun w m => hB313 w (m)) q
       replace va1 := va1.mono gq18
       replace v255 := v255.mono gq18
       replace h108 := ItRd.mono gq18 _ _ h108
       replace v101 := v101.mono gq18
       replace v104 := v104.mono gq18
       replace h106 := h106.mono (ItRd.mono gq18)
       replace h6 := HdrRd.mono gq18 _ _ h6
       replace v3 := v3.mono gq18
       replace hg1 := hg1.mono gq18
       replace hg0 := hg0.mono gq18
       refine Z1 ?_
       by_cases h320 : p314 = true
       ·replace hq149 := if_t hq149 h320
        refine Z13 rfl (h320) (Z4 (Z2 (Z0 (Z5 rfl) rfl (Z6 (Z1 (CW.ret (Z8 (Z8 ?_))))))))
        have hc := Zi hq149
        subst hc
        try dsimp only at hf
        refine Z8 ?_
        have e0 := Zi hf
        subst e0
        refine Z110 (rs := [.tmp 4]) ([.bool false]) ((some b137, blk (u8s x132.toList) 28) :: (some b113, blk [.bool (x89.list), .slice A99 x89.data.length c100, .slice A102 x89.items.length c103] 25) :: (some b9, blk (⟨a0.parent, a0.uncles, a0.coinbase, a0.state, a0.txRoot, a0.receiptRoot, a0.bloom, a0.difficulty, a0.number, a0.limit, a0.used, a0.time, .slice A1 a0.extra.length c2, a0.mix, a0.nonce, a0.tail, a0.baseFee, a0.withdrawals, a0.blobUsed, a0.blobExcess, a0.beacon, a0.requests⟩ : HdrC).C 38) :: B312) rfl ?_ rfl ?_ ?_ _ (.inl rfl)
        ·exact ⟨rfl, trivial⟩
        ·exact rfl
        ·exact (fun w m => m)
       ·replace hq149 := if_f hq149 h320
        refine Z14 rfl (Bool.eq_false_iff.2 h320) (CW.skip (Z1 (Z4 ?_)))
        obtain ⟨q321, hq322, hq149⟩ := Z105 hq149
        refine Z130 (fun L' M' => ∃ p325 : Bool, ∃ B323 : List Ent, q321 = p325 ∧ (∀ w, Mem w0 w B323 → Mem w0 w B312) ∧ L' = [(1, .slice A1_ a1.length c1_), (129, .bool (p325))] ∧ M' = ((B323 ++ N))) ?_ ?_
        ·rintro L327 M328 ⟨p325, B323, e326, hB324, e329, e330⟩
         rw [e329, e330]
         clear e329 e330 L327 M328
         clear hq322
         rw [e326] at hq149
         clear e326
         try dsimp only at hq149
         have gq19 : ∀ w, More w0 Φ B323 w → More w0 Φ B312 w := fun w q => More.mono (fun w m => hB324 w (m)) q
         replace va1 := va1.mono gq19
         replace hg1 := hg1.mono gq19
         replace hg0 := hg0.mono gq19
         refine Z1 ?_
         by_cases h331 : p325 = true
         ·replace hq149 := if_t hq149 h331
          refine Z13 rfl (h331) (Z4 (Z2 (Z0 (Z5 rfl) rfl (Z6 (Z1 (CW.ret (Z8 ?_)))))))
          have hc := Zi hq149
          subst hc
          try dsimp only at hf
          refine Z8 ?_
          have e0 := Zi hf
          subst e0
          refine Z110 (rs := [.tmp 4]) ([.bool false]) (B323) rfl ?_ rfl ?_ ?_ _ (.inl rfl)
          ·exact ⟨rfl, trivial⟩
          ·exact rfl
          ·exact (fun w m => m)
         ·replace hq149 := if_f hq149 h331
          refine Z14 rfl (Bool.eq_false_iff.2 h331) (CW.skip ?_)
          exact QW.join ⟨B323, (Zi hq149).symm, (fun w m => ((((hB313 w (hB324 w (m))).appR).appR).appR).tail), rfl, rfl⟩ ⟨rfl, trivial⟩ (fun w m => m.pick [] 0 rfl rfl)
        ·skip
         refine Z151 24 mixed (by kernel_rfl) rfl (Z18 0 rfl (by kernel_rfl) rfl (Z30 rfl rfl rfl rfl) rfl (Z18 1 rfl (by kernel_rfl) rfl (Z29 rfl (List.Mem.tail _ Zh) rfl rfl rfl rfl) rfl (Z18 2 rfl (by kernel_rfl) rfl (RV.not rfl) rfl (Z18 3 rfl (by kernel_rfl) rfl (Z3 rfl) rfl ?_))))
         by_cases h332 : x89.list = true
         ·replace hq322 := if_t hq322 h332
          refine UW.slot (.bool false) (congrArg Value.bool (congrArg (fun b => !b) (h332))) (Z18 4 rfl (by kernel_rfl) rfl (Z30 rfl rfl rfl rfl) rfl (Z18 5 rfl (by kernel_rfl) rfl (Z29 rfl (List.Mem.tail _ Zh) rfl rfl rfl rfl) rfl (Z18 6 rfl (by kernel_rfl) rfl (RV.len rfl rfl) rfl (Z18 7 rfl (by kernel_rfl) rfl (Z30 rfl rfl rfl rfl) rfl (UW.slot (ptr (some b9) 485) rfl (Z18 8 rfl (by kernel_rfl) rfl (Z29 rfl (List.Mem.tail _ (List.Mem.tail _ Zh)) rfl rfl rfl (HdrC.C_tail (⟨a0.parent, a0.uncles, a0.coinbase, a0.state, a0.txRoot, a0.receiptRoot, a0.bloom, a0.difficulty, a0.number, a0.limit, a0.used, a0.time, .slice A1 a0.extra.length c2, a0.mix, a0.nonce, a0.tail, a0.baseFee, a0.withdrawals, a0.blobUsed, a0.blobExcess, a0.beacon, a0.requests⟩ : HdrC))) rfl ?_))))))
          obtain ⟨x334, hx333, hq322⟩ := Z105 hq322
          refine Z25 9 rfl (by kernel_rfl) rfl Tryd.call30 rfl (fun N' hN' => waybilllaw19_fields_does w0 (More w0 Φ B312) N' (fun w m => More.of hΦ 3 (hN' w m) rfl) a0.tail x334 (by omega) hx333) rfl ?_
          rintro _ G336 ⟨b335, rfl⟩
          refine UW.mem (M' := ((some b137, blk (u8s x132.toList) 28) :: (some b113, blk [.bool (x89.list), .slice A99 x89.data.length c100, .slice A102 x89.items.length c103] 25) :: (some b9, blk (⟨a0.parent, a0.uncles, a0.coinbase, a0.state, a0.txRoot, a0.receiptRoot, a0.bloom, a0.difficulty, a0.number, a0.limit, a0.used, a0.time, .slice A1 a0.extra.length c2, a0.mix, a0.nonce, a0.tail, a0.baseFee, a0.withdrawals, a0.blobUsed, a0.blobExcess, a0.beacon, a0.requests⟩ : HdrC).C 38) :: (B312 ++ N))) (fun w m => m.appR) (Z18 10 rfl (by kernel_rfl) rfl (RV.neq rfl rfl) rfl (UW.slot (.bool (!decide (x89.items.length = x334))) (congrArg (fun b => Value.bool (!b)) (decide_eq_decide.2 (by omega))) (Z18 11 rfl (by kernel_rfl) rfl (Z112 rfl rfl rfl) rfl (Z18 12 rfl (by kernel_rfl) rfl (Z3 rfl) rfl ?_))))
          by_cases h338 : x89.items.length = x334
          ·replace hq322 := if_t hq322 h338
           refine UW.slot (.bool false) (congrArg Value.bool (congrArg (fun b => !b) (decide_eq_true h338))) (Z18 13 rfl (by kernel_rfl) rfl (Z22 rfl Zh rfl rfl rfl rfl ((Z100 _).trans Zv)) rfl (Z18 14 rfl (by kernel_rfl) rfl (Z3 rfl) rfl (UW.new 15 rfl (by kernel_rfl) rfl (NV.bs1 rfl rfl rfl rfl rfl rfl) rfl (fun b339 => ?_))))
           have h342 : Reps (BsRd (More w0 Φ B312)) (([.slice ((ob61).map fun k => ⟨k, 0, none⟩) x58.length c62] : List Value)) [x58] := Reps.one (BsRd.mk v255)
           refine UW.mem (M' := (((some b339), blk ((([.slice ((ob61).map fun k => ⟨k, 0, none⟩) x58.length c62] : List Value)) ++ []) 22) :: (some b137, blk (u8s x132.toList) 28) :: (some b113, blk [.bool (x89.list), .slice A99 x89.data.length c100, .slice A102 x89.items.length c103] 25) :: (some b9, blk (⟨a0.parent, a0.uncles, a0.coinbase, a0.state, a0.txRoot, a0.receiptRoot, a0.bloom, a0.difficulty, a0.number, a0.limit, a0.used, a0.time, .slice A1 a0.extra.length c2, a0.mix, a0.nonce, a0.tail, a0.baseFee, a0.withdrawals, a0.blobUsed, a0.blobExcess, a0.beacon, a0.requests⟩ : HdrC).C 38) :: (B312 ++ N))) (fun w m => m) ?_
           have o340 : OwnS (some b339) ([x58] : List (List (BitVec 8))).length 1 1 (([.slice ((ob61).map fun k => ⟨k, 0, none⟩) x58.length c62] : List Value)) [] := ⟨by simp [BsRd], by simp [BsRd], (fun h => nomatch h), by simp⟩
           have mx_o340 := o340.mx
           refine UW.slot (sl (some b339) 0 ([x58] : List (List (BitVec 8))).length 1) (rfl) (UW.mem (M' := (some b137, blk (u8s x132.toList) 28) :: (some b113, blk [.bool (x89.list), .slice A99 x89.data.length c100, .slice A102 x89.items.length c103] 25) :: (some b9, blk (⟨a0.parent, a0.uncles, a0.coinbase, a0.state, a0.txRoot, a0.receiptRoot, a0.bloom, a0.difficulty, a0.number, a0.limit, a0.used, a0.time, .slice A1 a0.extra.length c2, a0.mix, a0.nonce, a0.tail, a0.baseFee, a0.withdrawals, a0.blobUsed, a0.blobExcess, a0.beacon, a0.requests⟩ : HdrC).C 38) :: ((((some b339), blk ((([.slice ((ob61).map fun k => ⟨k, 0, none⟩) x58.length c62] : List Value)) ++ []) 22) :: B312) ++ N)) (fun w m => m.pick [1, 2, 3, 0] 4 rfl rfl) ?_)
           have gq20 : ∀ w, More w0 Φ (((some b339), blk ((([.slice ((ob61).map fun k => ⟨k, 0, none⟩) x58.length c62] : List Value)) ++ []) 22) :: B312) w → More w0 Φ B312 w := fun w q => More.mono (fun w m => (m).tail) q
           replace va1 := va1.mono gq20
           replace v255 := v255.mono gq20
           replace v104 := v104.mono gq20
           replace h106 := h106.mono (ItRd.mono gq20)
           replace h342 := h342.mono (BsRd.mono gq20)
           replace h108 := ItRd.mono gq20 _ _ h108
           replace v101 := v101.mono gq20
           replace h6 := HdrRd.mono gq20 _ _ h6
           replace v3 := v3.mono gq20
           replace hg1 := hg1.mono gq20
           replace hg0 := hg0.mono gq20
           have v343 : View (More w0 Φ (((some b339), blk ((([.slice ((ob61).map fun k => ⟨k, 0, none⟩) x58.length c62] : List Value)) ++ []) 22) :: B312)) (((some b339)).map fun k => ⟨k, 0, none⟩) ([x58] : List (List (BitVec 8))).length 1 1 (([.slice ((ob61).map fun k => ⟨k, 0, none⟩) x58.length c62] : List Value)) := o340.view (by decide) (fun w q => q.2.sublist (List.singleton_sublist.2 (List.mem_cons_self ..)))
           obtain ⟨x345, hx344, hq322⟩ := Z105 hq322
           refine Z25 16 rfl (by kernel_rfl) rfl Tryd.call31 rfl (fun N' hN' => keccak_Sum_does w0 (More w0 Φ (((some b339), blk ((([.slice ((ob61).map fun k => ⟨k, 0, none⟩) x58.length c62] : List Value)) ++ []) 22) :: B312)) N' (fun w m => More.of hΦ 3 (hN' w m) rfl) (((some b339)).map fun k => ⟨k, 0, none⟩) 1 (([.slice ((ob61).map fun k => ⟨k, 0, none⟩) x58.length c62] : List Value)) ([x58] : List (List (BitVec 8))) x345 v343 h342 hg1 hx344) rfl ?_
           rintro _ G346 rfl
           refine UW.mem (M' := ((some b137, blk (u8s x132.toList) 28) :: (some b113, blk [.bool (x89.list), .slice A99 x89.data.length c100, .slice A102 x89.items.length c103] 25) :: (some b9, blk (⟨a0.parent, a0.uncles, a0.coinbase, a0.state, a0.txRoot, a0.receiptRoot, a0.bloom, a0.difficulty, a0.number, a0.limit, a0.used, a0.time, .slice A1 a0.extra.length c2, a0.mix, a0.nonce, a0.tail, a0.baseFee, a0.withdrawals, a0.blobUsed, a0.blobExcess, a0.beacon, a0.requests⟩ : HdrC).C 38) :: ((((some b339), blk ((([.slice ((ob61).map fun k => ⟨k, 0, none⟩) x58.length c62] : List Value)) ++ []) 22) :: B312) ++ N))) (fun w m => m.appR) (Z18 17 rfl (by kernel_rfl) rfl (RV.neA8 rfl rfl rfl rfl rfl rfl (Zv) (Zv)) rfl (UW.slot (.bool (!decide (x132 = x345))) (congrArg (fun b => Value.bool (!b)) (decide_eq_decide.2 Vector.toList_inj)) (Z18 18 rfl (by kernel_rfl) rfl (Z112 rfl rfl rfl) rfl (Z18 19 rfl (by kernel_rfl) rfl (Z3 rfl) rfl ?_))))
           by_cases h348 : x132 = x345
           ·replace hq322 := if_t hq322 h348
            refine UW.slot (.bool false) (congrArg Value.bool (congrArg (fun b => !b) (decide_eq_true h348))) (Z18 20 rfl (by kernel_rfl) rfl (Z3 rfl) rfl (Z18 21 rfl (by kernel_rfl) rfl (RV.len rfl rfl) rfl (Z18 22 rfl (by kernel_rfl) rfl (RV.lss rfl rfl) rfl (UW.slot (.bool (decide (x58.length < 496))) (congrArg Value.bool (decide_eq_decide.2 (by omega))) (Z18 23 rfl (by kernel_rfl) rfl (Z112 rfl rfl rfl) rfl (UW.nil (by kernel_rfl) (Z6 ?_)))))))
            exact QW.join ⟨(decide (x58.length < 496)), (((some b339), blk ((([.slice ((ob61).map fun k => ⟨k, 0, none⟩) x58.length c62] : List Value)) ++ []) 22) :: B312), (Zi hq322).symm, (fun w m => (m).tail), rfl, rfl⟩ ⟨rfl, rfl, trivial⟩ (fun w m => m.pick [] 3 rfl rfl)
           ·replace hq322 := if_f hq322 h348
            refine UW.slot (.bool true) (congrArg Value.bool (congrArg (fun b => !b) (decide_eq_false h348))) (UW.skip 20 rfl (by kernel_rfl) rfl rfl (UW.skip 21 rfl (by kernel_rfl) rfl rfl (UW.skip 22 rfl (by kernel_rfl) rfl rfl (Z18 23 rfl (by kernel_rfl) rfl (Z108 rfl rfl rfl) rfl (UW.nil (by kernel_rfl) (Z6 ?_))))))
            exact QW.join ⟨true, (((some b339), blk ((([.slice ((ob61).map fun k => ⟨k, 0, none⟩) x58.length c62] : List Value)) ++ []) 22) :: B312), (Zi hq322).symm, (fun w m => (m).tail), rfl, rfl⟩ ⟨rfl, rfl, trivial⟩ (fun w m => m.pick [] 3 rfl rfl)
          ·replace hq322 := if_f hq322 h338
           refine UW.slot (.bool true) (congrArg Value.bool (congrArg (fun b => !b) (decide_eq_false h338))) (UW.skip 13 rfl (by kernel_rfl) rfl rfl (UW.skip 14 rfl (by kernel_rfl) rfl rfl (UW.skip 15 rfl (by kernel_rfl) rfl rfl (UW.skip 16 rfl (by kernel_rfl) rfl rfl (UW.skip 17 rfl (by kernel_rfl) rfl rfl (Z18 18 rfl (by kernel_rfl) rfl (Z108 rfl rfl rfl) rfl (Z18 19 rfl (by kernel_rfl) rfl (Z3 rfl) rfl ?_)))))))
           refine UW.skip 20 rfl (by kernel_rfl) rfl rfl (UW.skip 21 rfl (by kernel_rfl) rfl rfl (UW.skip 22 rfl (by kernel_rfl) rfl rfl (Z18 23 rfl (by kernel_rfl) rfl (Z108 rfl rfl rfl) rfl (UW.nil (by kernel_rfl) (Z6 ?_)))))
           exact QW.join ⟨true, B312, (Zi hq322).symm, (fun w m => m), rfl, rfl⟩ ⟨rfl, rfl, trivial⟩ (fun w m => m.pick [] 3 rfl rfl)
         ·replace hq322 := if_f hq322 h332
          refine UW.slot (.bool true) (congrArg Value.bool (congrArg (fun b => !b) (Bool.eq_false_iff.2 h332))) (UW.skip 4 rfl (by kernel_rfl) rfl rfl (UW.skip 5 rfl (by kernel_rfl) rfl rfl (UW.skip 6 rfl (by kernel_rfl) rfl rfl (UW.skip 7 rfl (by kernel_rfl) rfl rfl (UW.skip 8 rfl (by kernel_rfl) rfl rfl (UW.skip 9 rfl (by kernel_rfl) rfl rfl (UW.skip 10 rfl (by kernel_rfl) rfl rfl ?_)))))))
          refine Z18 11 rfl (by kernel_rfl) rfl (Z108 rfl rfl rfl) rfl (Z18 12 rfl (by kernel_rfl) rfl (Z3 rfl) rfl (UW.skip 13 rfl (by kernel_rfl) rfl rfl (UW.skip 14 rfl (by kernel_rfl) rfl rfl (UW.skip 15 rfl (by kernel_rfl) rfl rfl (UW.skip 16 rfl (by kernel_rfl) rfl rfl (UW.skip 17 rfl (by kernel_rfl) rfl rfl (Z18 18 rfl (by kernel_rfl) rfl (Z108 rfl rfl rfl) rfl ?_)))))))
          refine Z18 19 rfl (by kernel_rfl) rfl (Z3 rfl) rfl (UW.skip 20 rfl (by kernel_rfl) rfl rfl (UW.skip 21 rfl (by kernel_rfl) rfl rfl (UW.skip 22 rfl (by kernel_rfl) rfl rfl (Z18 23 rfl (by kernel_rfl) rfl (Z108 rfl rfl rfl) rfl (UW.nil (by kernel_rfl) (Z6 ?_))))))
          exact QW.join ⟨true, B312, (Zi hq322).symm, (fun w m => m), rfl, rfl⟩ ⟨rfl, rfl, trivial⟩ (fun w m => m.pick [] 3 rfl rfl)
      ·skip
       refine Z2 (Z0 (Z3 rfl) rfl (Z0 (RV.neq rfl rfl) rfl (Z7 (.bool (!decide (x258 = 0))) (congrArg (fun b => Value.bool (!b)) (decide_eq_decide.2 (by omega))) (Z0 (Z3 rfl) rfl ?_))))
       by_cases h349 : x258 = 0
       ·replace hq311 := if_t hq311 h349
        refine Z7 (.bool false) (congrArg Value.bool (congrArg (fun b => !b) (decide_eq_true h349))) (Z24 rfl (Z0 (Z3 rfl) rfl (Z24 rfl (Z0 (RV.neq rfl rfl) rfl (Z7 (.bool (!decide (x278 = 0))) (congrArg (fun b => Value.bool (!b)) (decide_eq_decide.2 (by omega))) (Z0 (Z112 rfl rfl rfl) rfl (Z0 (Z3 rfl) rfl ?_)))))))
        by_cases h350 : x278 = 0
        ·replace hq311 := if_t hq311 h350
         refine Z7 (.bool false) (congrArg Value.bool (congrArg (fun b => !b) (decide_eq_true h350))) (Z24 rfl (Z0 (Z3 rfl) rfl (Z24 rfl (Z0 (RV.neq rfl rfl) rfl (Z7 (.bool (!decide (x298 = 0))) (congrArg (fun b => Value.bool (!b)) (decide_eq_decide.2 (by omega))) (Z0 (Z112 rfl rfl rfl) rfl (Z0 (Z3 rfl) rfl ?_)))))))
         by_cases h351 : x298 = 0
         ·replace hq311 := if_t hq311 h351
          refine Z7 (.bool false) (congrArg Value.bool (congrArg (fun b => !b) (decide_eq_true h351))) (Z24 rfl (Z0 (Z22 rfl (List.Mem.tail _ (List.Mem.tail _ Zh)) rfl rfl rfl rfl (HdrC.C_length _)) rfl (Z24 rfl (Z0 (Z22 rfl (List.Mem.tail _ (List.Mem.tail _ (List.Mem.tail _ (List.Mem.tail _ (List.Mem.tail _ Zh))))) rfl rfl rfl rfl (HdrC.C_length _)) rfl (Z24 rfl ?_)))))
          obtain ⟨x353, hx352, hq311⟩ := Z105 hq311
          refine Z12 Tryd.call13 rfl (Z144 w0 (More w0 Φ (B299 ++ (B279 ++ (B259 ++ ((ob61, blk ((u8s x58) ++ r63) 5) :: (B116 ++ (B91 ++ (B73 ++ (B60 ++ (B42 ++ (B20 ++ []))))))))))) ((ob300, blk ((u8s x297) ++ r302) 5) :: (some b295, blk (⟨x277.parent, x277.uncles, x277.coinbase, x277.state, x277.txRoot, x277.receiptRoot, x277.bloom, x277.difficulty, x277.number, x277.limit, x277.used, x277.time, .slice A287 x277.extra.length c288, x277.mix, x277.nonce, x277.tail, x277.baseFee, x277.withdrawals, x277.blobUsed, x277.blobExcess, x277.beacon, x277.requests⟩ : HdrC).C 38) :: (some b275, blk (⟨x257.parent, x257.uncles, x257.coinbase, x257.state, x257.txRoot, x257.receiptRoot, x257.bloom, x257.difficulty, x257.number, x257.limit, x257.used, x257.time, .slice A267 x257.extra.length c268, x257.mix, x257.nonce, x257.tail, x257.baseFee, x257.withdrawals, x257.blobUsed, x257.blobExcess, x257.beacon, x257.requests⟩ : HdrC).C 38) :: (some b137, blk (u8s x132.toList) 28) :: (some b113, blk [.bool (x89.list), .slice A99 x89.data.length c100, .slice A102 x89.items.length c103] 25) :: (some b9, blk (⟨a0.parent, a0.uncles, a0.coinbase, a0.state, a0.txRoot, a0.receiptRoot, a0.bloom, a0.difficulty, a0.number, a0.limit, a0.used, a0.time, .slice A1 a0.extra.length c2, a0.mix, a0.nonce, a0.tail, a0.baseFee, a0.withdrawals, a0.blobUsed, a0.blobExcess, a0.beacon, a0.requests⟩ : HdrC).C 38) :: ((B299 ++ (B279 ++ (B259 ++ ((ob61, blk ((u8s x58) ++ r63) 5) :: (B116 ++ (B91 ++ (B73 ++ (B60 ++ (B42 ++ (B20 ++ [])))))))))) ++ N)) (fun w m => More.of hΦ 6 m rfl) (⟨x257.parent, x257.uncles, x257.coinbase, x257.state, x257.txRoot, x257.receiptRoot, x257.bloom, x257.difficulty, x257.number, x257.limit, x257.used, x257.time, .slice A267 x257.extra.length c268, x257.mix, x257.nonce, x257.tail, x257.baseFee, x257.withdrawals, x257.blobUsed, x257.blobExcess, x257.beacon, x257.requests⟩ : HdrC).C x257 (⟨a0.parent, a0.uncles, a0.coinbase, a0.state, a0.txRoot, a0.receiptRoot, a0.bloom, a0.difficulty, a0.number, a0.limit, a0.used, a0.time, .slice A1 a0.extra.length c2, a0.mix, a0.nonce, a0.tail, a0.baseFee, a0.withdrawals, a0.blobUsed, a0.blobExcess, a0.beacon, a0.requests⟩ : HdrC).C a0 x353 h272 h6 hx352) rfl rfl ?_
          rintro _ G354 rfl
          refine Z20 (M' := ((ob300, blk ((u8s x297) ++ r302) 5) :: (some b295, blk (⟨x277.parent, x277.uncles, x277.coinbase, x277.state, x277.txRoot, x277.receiptRoot, x277.bloom, x277.difficulty, x277.number, x277.limit, x277.used, x277.time, .slice A287 x277.extra.length c288, x277.mix, x277.nonce, x277.tail, x277.baseFee, x277.withdrawals, x277.blobUsed, x277.blobExcess, x277.beacon, x277.requests⟩ : HdrC).C 38) :: (some b275, blk (⟨x257.parent, x257.uncles, x257.coinbase, x257.state, x257.txRoot, x257.receiptRoot, x257.bloom, x257.difficulty, x257.number, x257.limit, x257.used, x257.time, .slice A267 x257.extra.length c268, x257.mix, x257.nonce, x257.tail, x257.baseFee, x257.withdrawals, x257.blobUsed, x257.blobExcess, x257.beacon, x257.requests⟩ : HdrC).C 38) :: (some b137, blk (u8s x132.toList) 28) :: (some b113, blk [.bool (x89.list), .slice A99 x89.data.length c100, .slice A102 x89.items.length c103] 25) :: (some b9, blk (⟨a0.parent, a0.uncles, a0.coinbase, a0.state, a0.txRoot, a0.receiptRoot, a0.bloom, a0.difficulty, a0.number, a0.limit, a0.used, a0.time, .slice A1 a0.extra.length c2, a0.mix, a0.nonce, a0.tail, a0.baseFee, a0.withdrawals, a0.blobUsed, a0.blobExcess, a0.beacon, a0.requests⟩ : HdrC).C 38) :: ((B299 ++ (B279 ++ (B259 ++ ((ob61, blk ((u8s x58) ++ r63) 5) :: (B116 ++ (B91 ++ (B73 ++ (B60 ++ (B42 ++ (B20 ++ [])))))))))) ++ N))) (fun w m => m.appR) (Z24 rfl (Z0 (RV.not rfl) rfl (Z0 (Z112 rfl rfl rfl) rfl (Z0 (Z3 rfl) rfl ?_))))
          by_cases h356 : x353 = true
          ·replace hq311 := if_t hq311 h356
           refine Z7 (.bool false) (congrArg Value.bool (congrArg (fun b => !b) (h356))) (Z24 rfl (Z0 (Z22 rfl (List.Mem.tail _ Zh) rfl rfl rfl rfl (HdrC.C_length _)) rfl (Z24 rfl (Z0 (Z22 rfl (List.Mem.tail _ (List.Mem.tail _ (List.Mem.tail _ (List.Mem.tail _ (List.Mem.tail _ Zh))))) rfl rfl rfl rfl (HdrC.C_length _)) rfl (Z24 rfl ?_)))))
           obtain ⟨x358, hx357, hq311⟩ := Z105 hq311
           refine Z12 Tryd.call13 rfl (Z144 w0 (More w0 Φ (B299 ++ (B279 ++ (B259 ++ ((ob61, blk ((u8s x58) ++ r63) 5) :: (B116 ++ (B91 ++ (B73 ++ (B60 ++ (B42 ++ (B20 ++ []))))))))))) ((ob300, blk ((u8s x297) ++ r302) 5) :: (some b295, blk (⟨x277.parent, x277.uncles, x277.coinbase, x277.state, x277.txRoot, x277.receiptRoot, x277.bloom, x277.difficulty, x277.number, x277.limit, x277.used, x277.time, .slice A287 x277.extra.length c288, x277.mix, x277.nonce, x277.tail, x277.baseFee, x277.withdrawals, x277.blobUsed, x277.blobExcess, x277.beacon, x277.requests⟩ : HdrC).C 38) :: (some b275, blk (⟨x257.parent, x257.uncles, x257.coinbase, x257.state, x257.txRoot, x257.receiptRoot, x257.bloom, x257.difficulty, x257.number, x257.limit, x257.used, x257.time, .slice A267 x257.extra.length c268, x257.mix, x257.nonce, x257.tail, x257.baseFee, x257.withdrawals, x257.blobUsed, x257.blobExcess, x257.beacon, x257.requests⟩ : HdrC).C 38) :: (some b137, blk (u8s x132.toList) 28) :: (some b113, blk [.bool (x89.list), .slice A99 x89.data.length c100, .slice A102 x89.items.length c103] 25) :: (some b9, blk (⟨a0.parent, a0.uncles, a0.coinbase, a0.state, a0.txRoot, a0.receiptRoot, a0.bloom, a0.difficulty, a0.number, a0.limit, a0.used, a0.time, .slice A1 a0.extra.length c2, a0.mix, a0.nonce, a0.tail, a0.baseFee, a0.withdrawals, a0.blobUsed, a0.blobExcess, a0.beacon, a0.requests⟩ : HdrC).C 38) :: ((B299 ++ (B279 ++ (B259 ++ ((ob61, blk ((u8s x58) ++ r63) 5) :: (B116 ++ (B91 ++ (B73 ++ (B60 ++ (B42 ++ (B20 ++ [])))))))))) ++ N)) (fun w m => More.of hΦ 6 m rfl) (⟨x277.parent, x277.uncles, x277.coinbase, x277.state, x277.txRoot, x277.receiptRoot, x277.bloom, x277.difficulty, x277.number, x277.limit, x277.used, x277.time, .slice A287 x277.extra.length c288, x277.mix, x277.nonce, x277.tail, x277.baseFee, x277.withdrawals, x277.blobUsed, x277.blobExcess, x277.beacon, x277.requests⟩ : HdrC).C x277 (⟨a0.parent, a0.uncles, a0.coinbase, a0.state, a0.txRoot, a0.receiptRoot, a0.bloom, a0.difficulty, a0.number, a0.limit, a0.used, a0.time, .slice A1 a0.extra.length c2, a0.mix, a0.nonce, a0.tail, a0.baseFee, a0.withdrawals, a0.blobUsed, a0.blobExcess, a0.beacon, a0.requests⟩ : HdrC).C a0 x358 h292 h6 hx357) rfl rfl ?_
           rintro _ G359 rfl
           refine Z20 (M' := ((ob300, blk ((u8s x297) ++ r302) 5) :: (some b295, blk (⟨x277.parent, x277.uncles, x277.coinbase, x277.state, x277.txRoot, x277.receiptRoot, x277.bloom, x277.difficulty, x277.number, x277.limit, x277.used, x277.time, .slice A287 x277.extra.length c288, x277.mix, x277.nonce, x277.tail, x277.baseFee, x277.withdrawals, x277.blobUsed, x277.blobExcess, x277.beacon, x277.requests⟩ : HdrC).C 38) :: (some b275, blk (⟨x257.parent, x257.uncles, x257.coinbase, x257.state, x257.txRoot, x257.receiptRoot, x257.bloom, x257.difficulty, x257.number, x257.limit, x257.used, x257.time, .slice A267 x257.extra.length c268, x257.mix, x257.nonce, x257.tail, x257.baseFee, x257.withdrawals, x257.blobUsed, x257.blobExcess, x257.beacon, x257.requests⟩ : HdrC).C 38) :: (some b137, blk (u8s x132.toList) 28) :: (some b113, blk [.bool (x89.list), .slice A99 x89.data.length c100, .slice A102 x89.items.length c103] 25) :: (some b9, blk (⟨a0.parent, a0.uncles, a0.coinbase, a0.state, a0.txRoot, a0.receiptRoot, a0.bloom, a0.difficulty, a0.number, a0.limit, a0.used, a0.time, .slice A1 a0.extra.length c2, a0.mix, a0.nonce, a0.tail, a0.baseFee, a0.withdrawals, a0.blobUsed, a0.blobExcess, a0.beacon, a0.requests⟩ : HdrC).C 38) :: ((B299 ++ (B279 ++ (B259 ++ ((ob61, blk ((u8s x58) ++ r63) 5) :: (B116 ++ (B91 ++ (B73 ++ (B60 ++ (B42 ++ (B20 ++ [])))))))))) ++ N))) (fun w m => m.appR) (Z24 rfl (Z0 (RV.not rfl) rfl (Z0 (Z112 rfl rfl rfl) rfl (Z0 (Z3 rfl) rfl ?_))))
           by_cases h361 : x358 = true
           ·replace hq311 := if_t hq311 h361
            refine Z7 (.bool false) (congrArg Value.bool (congrArg (fun b => !b) (h361))) (Z24 rfl (Z0 (Z3 rfl) rfl (Z24 rfl (Z0 (Z3 rfl) rfl (Z24 rfl (Z20 (M' := (some b295, blk (⟨x277.parent, x277.uncles, x277.coinbase, x277.state, x277.txRoot, x277.receiptRoot, x277.bloom, x277.difficulty, x277.number, x277.limit, x277.used, x277.time, .slice A287 x277.extra.length c288, x277.mix, x277.nonce, x277.tail, x277.baseFee, x277.withdrawals, x277.blobUsed, x277.blobExcess, x277.beacon, x277.requests⟩ : HdrC).C 38) :: (some b275, blk (⟨x257.parent, x257.uncles, x257.coinbase, x257.state, x257.txRoot, x257.receiptRoot, x257.bloom, x257.difficulty, x257.number, x257.limit, x257.used, x257.time, .slice A267 x257.extra.length c268, x257.mix, x257.nonce, x257.tail, x257.baseFee, x257.withdrawals, x257.blobUsed, x257.blobExcess, x257.beacon, x257.requests⟩ : HdrC).C 38) :: (some b137, blk (u8s x132.toList) 28) :: (some b113, blk [.bool (x89.list), .slice A99 x89.data.length c100, .slice A102 x89.items.length c103] 25) :: (some b9, blk (⟨a0.parent, a0.uncles, a0.coinbase, a0.state, a0.txRoot, a0.receiptRoot, a0.bloom, a0.difficulty, a0.number, a0.limit, a0.used, a0.time, .slice A1 a0.extra.length c2, a0.mix, a0.nonce, a0.tail, a0.baseFee, a0.withdrawals, a0.blobUsed, a0.blobExcess, a0.beacon, a0.requests⟩ : HdrC).C 38) :: (((ob300, blk ((u8s x297) ++ r302) 5) :: (B299 ++ (B279 ++ (B259 ++ ((ob61, blk ((u8s x58) ++ r63) 5) :: (B116 ++ (B91 ++ (B73 ++ (B60 ++ (B42 ++ (B20 ++ []))))))))))) ++ N)) (fun w m => m.pick [1, 2, 3, 4, 5, 0] 6 rfl rfl) ?_))))))
            have gq21 : ∀ w, More w0 Φ ((ob300, blk ((u8s x297) ++ r302) 5) :: (B299 ++ (B279 ++ (B259 ++ ((ob61, blk ((u8s x58) ++ r63) 5) :: (B116 ++ (B91 ++ (B73 ++ (B60 ++ (B42 ++ (B20 ++ []))))))))))) w → More w0 Φ (B299 ++ (B279 ++ (B259 ++ ((ob61, blk ((u8s x58) ++ r63) 5) :: (B116 ++ (B91 ++ (B73 ++ (B60 ++ (B42 ++ (B20 ++ [])))))))))) w := fun w q => More.mono (fun w m => (m).tail) q
            replace va1 := va1.mono gq21
            replace v255 := v255.mono gq21
            replace h272 := HdrRd.mono gq21 _ _ h272
            replace v269 := v269.mono gq21
            replace h108 := ItRd.mono gq21 _ _ h108
            replace v101 := v101.mono gq21
            replace v104 := v104.mono gq21
            replace h106 := h106.mono (ItRd.mono gq21)
            replace h292 := HdrRd.mono gq21 _ _ h292
            replace v289 := v289.mono gq21
            replace h6 := HdrRd.mono gq21 _ _ h6
            replace v3 := v3.mono gq21
            replace hg1 := hg1.mono gq21
            replace hg0 := hg0.mono gq21
            have v362 : View (More w0 Φ ((ob300, blk ((u8s x297) ++ r302) 5) :: (B299 ++ (B279 ++ (B259 ++ ((ob61, blk ((u8s x58) ++ r63) 5) :: (B116 ++ (B91 ++ (B73 ++ (B60 ++ (B42 ++ (B20 ++ [])))))))))))) ((ob300).map fun k => ⟨k, 0, none⟩) x297.length c301 1 (u8s x297) := o303.view (by decide) (fun w q => q.2.sublist (List.singleton_sublist.2 (List.mem_cons_self ..)))
            obtain ⟨x364, hx363, hq311⟩ := Z105 hq311
            refine Z12 Tryd.call14 rfl (waybilllaw19_equal_does w0 (More w0 Φ ((ob300, blk ((u8s x297) ++ r302) 5) :: (B299 ++ (B279 ++ (B259 ++ ((ob61, blk ((u8s x58) ++ r63) 5) :: (B116 ++ (B91 ++ (B73 ++ (B60 ++ (B42 ++ (B20 ++ [])))))))))))) ((some b295, blk (⟨x277.parent, x277.uncles, x277.coinbase, x277.state, x277.txRoot, x277.receiptRoot, x277.bloom, x277.difficulty, x277.number, x277.limit, x277.used, x277.time, .slice A287 x277.extra.length c288, x277.mix, x277.nonce, x277.tail, x277.baseFee, x277.withdrawals, x277.blobUsed, x277.blobExcess, x277.beacon, x277.requests⟩ : HdrC).C 38) :: (some b275, blk (⟨x257.parent, x257.uncles, x257.coinbase, x257.state, x257.txRoot, x257.receiptRoot, x257.bloom, x257.difficulty, x257.number, x257.limit, x257.used, x257.time, .slice A267 x257.extra.length c268, x257.mix, x257.nonce, x257.tail, x257.baseFee, x257.withdrawals, x257.blobUsed, x257.blobExcess, x257.beacon, x257.requests⟩ : HdrC).C 38) :: (some b137, blk (u8s x132.toList) 28) :: (some b113, blk [.bool (x89.list), .slice A99 x89.data.length c100, .slice A102 x89.items.length c103] 25) :: (some b9, blk (⟨a0.parent, a0.uncles, a0.coinbase, a0.state, a0.txRoot, a0.receiptRoot, a0.bloom, a0.difficulty, a0.number, a0.limit, a0.used, a0.time, .slice A1 a0.extra.length c2, a0.mix, a0.nonce, a0.tail, a0.baseFee, a0.withdrawals, a0.blobUsed, a0.blobExcess, a0.beacon, a0.requests⟩ : HdrC).C 38) :: (((ob300, blk ((u8s x297) ++ r302) 5) :: (B299 ++ (B279 ++ (B259 ++ ((ob61, blk ((u8s x58) ++ r63) 5) :: (B116 ++ (B91 ++ (B73 ++ (B60 ++ (B42 ++ (B20 ++ []))))))))))) ++ N)) (fun w m => More.of hΦ 5 m rfl) ((ob300).map fun k => ⟨k, 0, none⟩) c301 x297 ((ob61).map fun k => ⟨k, 0, none⟩) c62 x58 x364 v362 v255 hx363) rfl rfl ?_
            rintro _ G365 rfl
            refine Z20 (M' := ((some b295, blk (⟨x277.parent, x277.uncles, x277.coinbase, x277.state, x277.txRoot, x277.receiptRoot, x277.bloom, x277.difficulty, x277.number, x277.limit, x277.used, x277.time, .slice A287 x277.extra.length c288, x277.mix, x277.nonce, x277.tail, x277.baseFee, x277.withdrawals, x277.blobUsed, x277.blobExcess, x277.beacon, x277.requests⟩ : HdrC).C 38) :: (some b275, blk (⟨x257.parent, x257.uncles, x257.coinbase, x257.state, x257.txRoot, x257.receiptRoot, x257.bloom, x257.difficulty, x257.number, x257.limit, x257.used, x257.time, .slice A267 x257.extra.length c268, x257.mix, x257.nonce, x257.tail, x257.baseFee, x257.withdrawals, x257.blobUsed, x257.blobExcess, x257.beacon, x257.requests⟩ : HdrC).C 38) :: (some b137, blk (u8s x132.toList) 28) :: (some b113, blk [.bool (x89.list), .slice A99 x89.data.length c100, .slice A102 x89.items.length c103] 25) :: (some b9, blk (⟨a0.parent, a0.uncles, a0.coinbase, a0.state, a0.txRoot, a0.receiptRoot, a0.bloom, a0.difficulty, a0.number, a0.limit, a0.used, a0.time, .slice A1 a0.extra.length c2, a0.mix, a0.nonce, a0.tail, a0.baseFee, a0.withdrawals, a0.blobUsed, a0.blobExcess, a0.beacon, a0.requests⟩ : HdrC).C 38) :: (((ob300, blk ((u8s x297) ++ r302) 5) :: (B299 ++ (B279 ++ (B259 ++ ((ob61, blk ((u8s x58) ++ r63) 5) :: (B116 ++ (B91 ++ (B73 ++ (B60 ++ (B42 ++ (B20 ++ []))))))))))) ++ N))) (fun w m => m.appR) (Z24 rfl (Z0 (RV.not rfl) rfl (Z0 (Z112 rfl rfl rfl) rfl (Z6 ?_))))
            exact QW.join ⟨(!x364), ((ob300, blk ((u8s x297) ++ r302) 5) :: (B299 ++ (B279 ++ (B259 ++ ((ob61, blk ((u8s x58) ++ r63) 5) :: (B116 ++ (B91 ++ (B73 ++ (B60 ++ (B42 ++ (B20 ++ []))))))))))), (Zi hq311).symm, (fun w m => (m).tail), rfl, rfl⟩ ⟨rfl, rfl, rfl, rfl, rfl, rfl, trivial⟩ (fun w m => m.pick [2, 3, 4] 5 rfl rfl)
           ·replace hq311 := if_f hq311 h361
            refine Z7 (.bool true) (congrArg Value.bool (congrArg (fun b => !b) (Bool.eq_false_iff.2 h361))) (Z23 rfl rfl rfl (Z23 rfl rfl rfl (Z23 rfl rfl rfl (Z23 rfl rfl rfl (Z0 (Z108 rfl rfl rfl) rfl (Z6 ?_))))))
            exact QW.join ⟨true, (B299 ++ (B279 ++ (B259 ++ ((ob61, blk ((u8s x58) ++ r63) 5) :: (B116 ++ (B91 ++ (B73 ++ (B60 ++ (B42 ++ (B20 ++ [])))))))))), (Zi hq311).symm, (fun w m => m), rfl, rfl⟩ ⟨rfl, rfl, rfl, rfl, rfl, rfl, trivial⟩ (fun w m => m.pick [3, 4, 5] 6 rfl rfl)
          ·replace hq311 := if_f hq311 h356
           refine Z7 (.bool true) (congrArg Value.bool (congrArg (fun b => !b) (Bool.eq_false_iff.2 h356))) (Z23 rfl rfl rfl (Z23 rfl rfl rfl (Z23 rfl rfl rfl (Z23 rfl rfl rfl (Z0 (Z108 rfl rfl rfl) rfl (Z0 (Z3 rfl) rfl (Z23 rfl rfl rfl ?_)))))))
           refine Z23 rfl rfl rfl (Z23 rfl rfl rfl (Z23 rfl rfl rfl (Z0 (Z108 rfl rfl rfl) rfl (Z6 ?_))))
           exact QW.join ⟨true, (B299 ++ (B279 ++ (B259 ++ ((ob61, blk ((u8s x58) ++ r63) 5) :: (B116 ++ (B91 ++ (B73 ++ (B60 ++ (B42 ++ (B20 ++ [])))))))))), (Zi hq311).symm, (fun w m => m), rfl, rfl⟩ ⟨rfl, rfl, rfl, rfl, rfl, rfl, trivial⟩ (fun w m => m.pick [3, 4, 5] 6 rfl rfl)
         ·replace hq311 := if_f hq311 h351
          refine Z7 (.bool true) (congrArg Value.bool (congrArg (fun b => !b) (decide_eq_false h351))) (Z23 rfl rfl rfl (Z23 rfl rfl rfl (Z23 rfl rfl rfl (Z23 rfl rfl rfl (Z0 (Z108 rfl rfl rfl) rfl (Z0 (Z3 rfl) rfl (Z23 rfl rfl rfl ?_)))))))
          refine Z23 rfl rfl rfl (Z23 rfl rfl rfl (Z23 rfl rfl rfl (Z0 (Z108 rfl rfl rfl) rfl (Z0 (Z3 rfl) rfl (Z23 rfl rfl rfl (Z23 rfl rfl rfl (Z23 rfl rfl rfl ?_)))))))
          refine Z23 rfl rfl rfl (Z0 (Z108 rfl rfl rfl) rfl (Z6 ?_))
          exact QW.join ⟨true, (B299 ++ (B279 ++ (B259 ++ ((ob61, blk ((u8s x58) ++ r63) 5) :: (B116 ++ (B91 ++ (B73 ++ (B60 ++ (B42 ++ (B20 ++ [])))))))))), (Zi hq311).symm, (fun w m => m), rfl, rfl⟩ ⟨rfl, rfl, rfl, rfl, rfl, rfl, trivial⟩ (fun w m => m.pick [3, 4, 5] 6 rfl rfl)
        ·replace hq311 := if_f hq311 h350
         refine Z7 (.bool true) (congrArg Value.bool (congrArg (fun b => !b) (decide_eq_false h350))) (Z23 rfl rfl rfl (Z23 rfl rfl rfl (Z0 (Z108 rfl rfl rfl) rfl (Z0 (Z3 rfl) rfl (Z23 rfl rfl rfl (Z23 rfl rfl rfl (Z23 rfl rfl rfl ?_)))))))
         refine Z23 rfl rfl rfl (Z0 (Z108 rfl rfl rfl) rfl (Z0 (Z3 rfl) rfl (Z23 rfl rfl rfl (Z23 rfl rfl rfl (Z23 rfl rfl rfl (Z23 rfl rfl rfl (Z0 (Z108 rfl rfl rfl) rfl ?_)))))))
         refine Z0 (Z3 rfl) rfl (Z23 rfl rfl rfl (Z23 rfl rfl rfl (Z23 rfl rfl rfl (Z23 rfl rfl rfl (Z0 (Z108 rfl rfl rfl) rfl (Z6 ?_))))))
         exact QW.join ⟨true, (B299 ++ (B279 ++ (B259 ++ ((ob61, blk ((u8s x58) ++ r63) 5) :: (B116 ++ (B91 ++ (B73 ++ (B60 ++ (B42 ++ (B20 ++ [])))))))))), (Zi hq311).symm, (fun w m => m), rfl, rfl⟩ ⟨rfl, rfl, rfl, rfl, rfl, rfl, trivial⟩ (fun w m => m.pick [3, 4, 5] 6 rfl rfl)
       ·replace hq311 := if_f hq311 h349
        refine Z7 (.bool true) (congrArg Value.bool (congrArg (fun b => !b) (decide_eq_false h349))) (Z23 rfl rfl rfl (Z23 rfl rfl rfl (Z0 (Z108 rfl rfl rfl) rfl (Z0 (Z3 rfl) rfl (Z23 rfl rfl rfl (Z23 rfl rfl rfl (Z0 (Z108 rfl rfl rfl) rfl ?_)))))))
        refine Z0 (Z3 rfl) rfl (Z23 rfl rfl rfl (Z23 rfl rfl rfl (Z23 rfl rfl rfl (Z23 rfl rfl rfl (Z0 (Z108 rfl rfl rfl) rfl (Z0 (Z3 rfl) rfl (Z23 rfl rfl rfl ?_)))))))
        refine Z23 rfl rfl rfl (Z23 rfl rfl rfl (Z23 rfl rfl rfl (Z0 (Z108 rfl rfl rfl) rfl (Z0 (Z3 rfl) rfl (Z23 rfl rfl rfl (Z23 rfl rfl rfl (Z23 rfl rfl rfl ?_)))))))
        refine Z23 rfl rfl rfl (Z0 (Z108 rfl rfl rfl) rfl (Z6 ?_))
        exact QW.join ⟨true, (B299 ++ (B279 ++ (B259 ++ ((ob61, blk ((u8s x58) ++ r63) 5) :: (B116 ++ (B91 ++ (B73 ++ (B60 ++ (B42 ++ (B20 ++ [])))))))))), (Zi hq311).symm, (fun w m => m), rfl, rfl⟩ ⟨rfl, rfl, rfl, rfl, rfl, rfl, trivial⟩ (fun w m => m.pick [3, 4, 5] 6 rfl rfl)
     ·replace hq149 := if_f hq149 h254
      refine Z14 rfl (decide_eq_false h254) (CW.skip ?_)
      exact QW.join ⟨(B116 ++ (B91 ++ (B73 ++ (B60 ++ (B42 ++ (B20 ++ [])))))), (Zi hq149).symm, (fun w m => m), rfl, rfl⟩ ⟨rfl, trivial⟩ (fun w m => m.pick [] 4 rfl rfl)
  ·skip
   refine Z2 (Z0 (Z3 rfl) rfl (Z0 (Z3 rfl) rfl (Z0 (RV.neq rfl rfl) rfl (Z7 (.bool (!decide (x36 = x59))) (congrArg (fun b => Value.bool (!b)) (decide_eq_decide.2 (by omega))) (Z0 (Z3 rfl) rfl ?_)))))
   by_cases h367 : x36 = x59
   ·replace hq139 := if_t hq139 h367
    refine Z7 (.bool false) (congrArg Value.bool (congrArg (fun b => !b) (decide_eq_true h367))) (Z24 rfl (Z0 (Z3 rfl) rfl (Z24 rfl (Z0 (Z3 rfl) rfl (Z24 rfl (Z0 (RV.neq rfl rfl) rfl (Z7 (.bool (!decide (x36 = x90))) (congrArg (fun b => Value.bool (!b)) (decide_eq_decide.2 (by omega))) ?_)))))))
    refine Z0 (Z112 rfl rfl rfl) rfl (Z0 (Z3 rfl) rfl ?_)
    by_cases h368 : x36 = x90
    ·replace hq139 := if_t hq139 h368
     refine Z7 (.bool false) (congrArg Value.bool (congrArg (fun b => !b) (decide_eq_true h368))) (Z24 rfl (Z0 (Z3 rfl) rfl (Z24 rfl (Z0 (Z3 rfl) rfl (Z24 rfl (Z0 (RV.neq rfl rfl) rfl (Z7 (.bool (!decide (x36 = x133))) (congrArg (fun b => Value.bool (!b)) (decide_eq_decide.2 (by omega))) ?_)))))))
     refine Z0 (Z112 rfl rfl rfl) rfl (Z6 ?_)
     exact QW.join ⟨(!decide (x36 = x133)), (Zi hq139).symm, rfl, rfl⟩ ⟨rfl, rfl, rfl, rfl, rfl, rfl, rfl, trivial⟩ (fun w m => m.pick [0, 1, 2, 3] 4 rfl rfl)
    ·replace hq139 := if_f hq139 h368
     refine Z7 (.bool true) (congrArg Value.bool (congrArg (fun b => !b) (decide_eq_false h368))) (Z23 rfl rfl rfl (Z23 rfl rfl rfl (Z23 rfl rfl rfl (Z0 (Z108 rfl rfl rfl) rfl (Z6 ?_)))))
     exact QW.join ⟨true, (Zi hq139).symm, rfl, rfl⟩ ⟨rfl, rfl, rfl, rfl, rfl, rfl, rfl, trivial⟩ (fun w m => m.pick [0, 1, 2, 3] 4 rfl rfl)
   ·replace hq139 := if_f hq139 h367
    refine Z7 (.bool true) (congrArg Value.bool (congrArg (fun b => !b) (decide_eq_false h367))) (Z23 rfl rfl rfl (Z23 rfl rfl rfl (Z23 rfl rfl rfl (Z0 (Z108 rfl rfl rfl) rfl (Z0 (Z3 rfl) rfl (Z23 rfl rfl rfl (Z23 rfl rfl rfl ?_)))))))
    refine Z23 rfl rfl rfl (Z0 (Z108 rfl rfl rfl) rfl (Z6 ?_))
    exact QW.join ⟨true, (Zi hq139).symm, rfl, rfl⟩ ⟨rfl, rfl, rfl, rfl, rfl, rfl, rfl, trivial⟩ (fun w m => m.pick [0, 1, 2, 3] 4 rfl rfl)
 ·replace hf := if_f hf h17
  refine Z13 rfl (congrArg (fun b => !b) (decide_eq_false h17)) (Z4 (Z2 (Z0 (Z5 rfl) rfl (Z6 (Z1 (CW.ret (Z8 ?_)))))))
  have e0 := Zi hf
  subst e0
  refine Z110 (rs := [.tmp 4]) ([.bool false]) ((some b9, blk (⟨a0.parent, a0.uncles, a0.coinbase, a0.state, a0.txRoot, a0.receiptRoot, a0.bloom, a0.difficulty, a0.number, a0.limit, a0.used, a0.time, .slice A1 a0.extra.length c2, a0.mix, a0.nonce, a0.tail, a0.baseFee, a0.withdrawals, a0.blobUsed, a0.blobExcess, a0.beacon, a0.requests⟩ : HdrC).C 38) :: []) rfl ?_ rfl ?_ ?_ _ (.inl rfl)
  ·exact ⟨rfl, trivial⟩
  ·exact rfl
  ·exact (fun w m => m)
end Go.Fw.Tryd
namespace Go.Fw
open Go Go.RowKit
theorem View.of_rd {W : World} {A : Option Addr} {cap len s : Nat} {cells : List Value} (rd : Rd W A cells) (hn : cells.length = len * s) (hle : len ≤ cap) (hmx : cap ≤ 140737488355328) : View (fun w => Mem W w []) A len cap s cells :=
 ⟨fun w q => rd.old q, rd.1, hn, hle, by omega⟩
theorem View.of8 {W : World} {A : Option Addr} {cap : Nat} {xs : List (BitVec 8)} (rd : Rd W A (u8s xs)) (hle : xs.length ≤ cap) (hmx : cap ≤ 140737488351232) : View (fun w => Mem W w []) A xs.length cap 1 (u8s xs) :=
 View.of_rd rd (by rw [Z100, Nat.mul_one]) hle (by omega)
end Go.Fw
namespace Go.Fw
open Go
theorem bulk_len {H : Type} (ub : DataW H → Nat) (uba : List (DataW H) → Nat) (h0 : uba [] = 0) (h1 : ∀ d r, uba (d :: r) = ub d + uba r) (h2 : ∀ el sp, ub (.slice el sp) = uba el + uba sp + 1) (hp : ∀ d : DataW H, 1 ≤ ub d)
    {d : DataW H} {el sp : List (DataW H)} (he : Els d el sp) : el.length ≤ ub d := by
 have hlen : ∀ l : List (DataW H), l.length ≤ uba l := fun l => by
  induction l with
  | nil => simp
  | cons x r ih => rw [h1]; have := hp x; simp; omega
 rcases he with ⟨_, rfl, _⟩ | rfl
 ·simp
 ·rw [h2]; have := hlen el; omega
end Go.Fw
namespace Go.Fw
open Go Go.RowKit Go.Deep Go.WideShapes
section
variable {H : Type} {enc : TypeId × Value → H} {P : Program} {W : World} {t e e2 : TypeId} {v : Value}
theorem reads_bs (ht : P.underlying e = some (.slice e2)) (he : P.underlying e2 = some (.int .u8)) (hs : P.cellsOf e2 = 1) (hb : P.bytesOf e2 = 1) {n : Nat} {u : Value} {r : DataW H × List MemPlace} (h : reads enc P W n e [u] = some r) (hz : Fits P e r.1) :
    ∃ (A : Option Addr) (cap : Nat) (x : List (BitVec 8)), u = .slice A x.length cap ∧ View (fun w => Mem W w []) A x.length cap 1 (u8s x) ∧ x.length ≤ 140737488351232 ∧ ∃ el sp, Els r.1 el sp ∧ el.length = x.length := by
 obtain ⟨A, cap, xs, el, sp, h1, h2, h3, h4, h5, h6, h7, h8, h9, h10⟩ := cells_of_slice (α := BitVec 8) (fun x => [U8 x]) (fun _ _ => True) 1 hs (by omega) (fun n cs r _ hr => by
  obtain ⟨x, rfl⟩ := reads_u8 he hr; exact ⟨x, rfl, trivial⟩) ht h
 rw [flat1] at h6
 have hw := (hz.slice ht h7).1
 rw [hb, h9] at hw
 have hc : cap ≤ 140737488351232 := by simpa [reachBytes] using hw
 exact ⟨A, cap, xs, h1, View.of8 h6 h2 hc, by omega, el, sp, h7, h8⟩
end
end Go.Fw
namespace Go.Fw
open Go
structure BulkFn {H : Type} (ub : DataW H → Nat) (uba : List (DataW H) → Nat) : Prop where
 h0 : uba [] = 0
 h1 : ∀ d r, uba (d :: r) = ub d + uba r
 hs : ∀ el sp, ub (.slice el sp) = uba el + uba sp + 1
 ha : ∀ l, ub (.agg l) = uba l + 1
 hp : ∀ d : DataW H, 1 ≤ ub d
namespace BulkFn
variable {H : Type} {ub : DataW H → Nat} {uba : List (DataW H) → Nat} (B : BulkFn ub uba)
include B
theorem mem {d : DataW H} : ∀ {l : List (DataW H)}, d ∈ l → ub d ≤ uba l
 | x :: l, h => by
  rw [B.h1]
  rcases List.mem_cons.1 h with rfl | h
  ·omega
  ·have := mem h; omega
theorem len {d : DataW H} {el sp : List (DataW H)} (h : Els d el sp) : el.length ≤ ub d := bulk_len ub uba B.h0 B.h1 B.hs B.hp h
end BulkFn
end Go.Fw
namespace Go.Fw
open Go Go.RowKit Go.Deep Go.WideShapes
section
variable {H : Type} {enc : TypeId × Value → H} {P : Program} {W : World}
structure HdrTypes (P : Program) (tR tN tH tA tM tE tQ tU tS t8 : TypeId) where
 fs : Array Field
 f0 : Field
 f1 : Field
 f2 : Field
 f3 : Field
 f4 : Field
 f5 : Field
 f6 : Field
 f7 : Field
 f8 : Field
 f9 : Field
 f10 : Field
 f11 : Field
 f12 : Field
 f13 : Field
 f14 : Field
 f15 : Field
 f16 : Field
 f17 : Field
 f18 : Field
 f19 : Field
 f20 : Field
 f21 : Field
 hR : P.underlying tR = some (.struct fs)
 h0 : fs[0]? = some f0
 o0 : f0.offset = 0
 y0 : f0.type = tH
 h1 : fs[1]? = some f1
 o1 : f1.offset = 32
 y1 : f1.type = tH
 h2 : fs[2]? = some f2
 o2 : f2.offset = 64
 y2 : f2.type = tA
 h3 : fs[3]? = some f3
 o3 : f3.offset = 84
 y3 : f3.type = tH
 h4 : fs[4]? = some f4
 o4 : f4.offset = 116
 y4 : f4.type = tH
 h5 : fs[5]? = some f5
 o5 : f5.offset = 148
 y5 : f5.type = tH
 h6 : fs[6]? = some f6
 o6 : f6.offset = 180
 y6 : f6.type = tM
 h7 : fs[7]? = some f7
 o7 : f7.offset = 436
 y7 : f7.type = tQ
 h8 : fs[8]? = some f8
 o8 : f8.offset = 440
 y8 : f8.type = tU
 h9 : fs[9]? = some f9
 o9 : f9.offset = 441
 y9 : f9.type = tU
 h10 : fs[10]? = some f10
 o10 : f10.offset = 442
 y10 : f10.type = tU
 h11 : fs[11]? = some f11
 o11 : f11.offset = 443
 y11 : f11.type = tU
 h12 : fs[12]? = some f12
 o12 : f12.offset = 444
 y12 : f12.type = tS
 h13 : fs[13]? = some f13
 o13 : f13.offset = 445
 y13 : f13.type = tH
 h14 : fs[14]? = some f14
 o14 : f14.offset = 477
 y14 : f14.type = tE
 h15 : fs[15]? = some f15
 o15 : f15.offset = 485
 y15 : f15.type = tN
 h16 : fs[16]? = some f16
 o16 : f16.offset = 486
 y16 : f16.type = tQ
 h17 : fs[17]? = some f17
 o17 : f17.offset = 490
 y17 : f17.type = tH
 h18 : fs[18]? = some f18
 o18 : f18.offset = 522
 y18 : f18.type = tU
 h19 : fs[19]? = some f19
 o19 : f19.offset = 523
 y19 : f19.type = tU
 h20 : fs[20]? = some f20
 o20 : f20.offset = 524
 y20 : f20.type = tH
 h21 : fs[21]? = some f21
 o21 : f21.offset = 556
 y21 : f21.type = tH
 uN : P.underlying tN = some (.int .i64)
 uH : P.underlying tH = some (.array 32 t8)
 uA : P.underlying tA = some (.array 20 t8)
 uM : P.underlying tM = some (.array 256 t8)
 uE : P.underlying tE = some (.array 8 t8)
 uQ : P.underlying tQ = some (.array 4 tU)
 uU : P.underlying tU = some (.int .u64)
 uS : P.underlying tS = some (.slice t8)
 u8 : P.underlying t8 = some (.int .u8)
 cN : P.cellsOf tN = 1
 cH : P.cellsOf tH = 32
 cA : P.cellsOf tA = 20
 cM : P.cellsOf tM = 256
 cE : P.cellsOf tE = 8
 cQ : P.cellsOf tQ = 4
 cU : P.cellsOf tU = 1
 cS : P.cellsOf tS = 1
 c8 : P.cellsOf t8 = 1
 b8 : P.bytesOf t8 = 1
 cR : P.cellsOf tR = 588
theorem Z131 (cs : List Value) (o n : Nat) : cs.drop o = (cs.drop o).take n ++ cs.drop (o + n) := by
 rw [← List.drop_drop, List.take_append_drop]
theorem reads_hdr {tR tN tH tA tM tE tQ tU tS t8 : TypeId} (R : HdrTypes P tR tN tH tA tM tE tQ tU tS t8) {fuel : Nat} {cs : List Value} {d : DataW H} {ps : List MemPlace} (hl : cs.length = 588) (hr : reads enc P W fuel tR cs = some (d, ps)) (hz : Fits P tR d) :
    ∃ x : Hdr, HdrRd (fun w => Mem W w []) cs x ∧ x.extra.length ≤ 140737488351232 ∧ ∃ ds dl el sp, d = .agg ds ∧ dl ∈ ds ∧ Els dl el sp ∧ el.length = x.extra.length := by
 obtain ⟨xs, m, hn, hx, hcl, hxl, hf⟩ := DataW.trod_struct R.hR hr
 have g0 := hf 0 R.f0 R.h0
 rw [R.o0, R.y0, R.cH] at g0
 have hs0 : 0 < R.fs.size := (Array.getElem?_eq_some_iff.1 R.h0).1
 obtain ⟨x0, e0⟩ : ∃ x, xs[0]? = some x := ⟨_, List.getElem?_eq_getElem (by omega)⟩
 rw [e0] at g0
 have g1 := hf 1 R.f1 R.h1
 rw [R.o1, R.y1, R.cH] at g1
 have hs1 : 1 < R.fs.size := (Array.getElem?_eq_some_iff.1 R.h1).1
 obtain ⟨x1, e1⟩ : ∃ x, xs[1]? = some x := ⟨_, List.getElem?_eq_getElem (by omega)⟩
 rw [e1] at g1
 have g2 := hf 2 R.f2 R.h2
 rw [R.o2, R.y2, R.cA] at g2
 have hs2 : 2 < R.fs.size := (Array.getElem?_eq_some_iff.1 R.h2).1
 obtain ⟨x2, e2⟩ : ∃ x, xs[2]? = some x := ⟨_, List.getElem?_eq_getElem (by omega)⟩
 rw [e2] at g2
 have g3 := hf 3 R.f3 R.h3
 rw [R.o3, R.y3, R.cH] at g3
 have hs3 : 3 < R.fs.size := (Array.getElem?_eq_some_iff.1 R.h3).1
 obtain ⟨x3, e3⟩ : ∃ x, xs[3]? = some x := ⟨_, List.getElem?_eq_getElem (by omega)⟩
 rw [e3] at g3
 have g4 := hf 4 R.f4 R.h4
 rw [R.o4, R.y4, R.cH] at g4
 have hs4 : 4 < R.fs.size := (Array.getElem?_eq_some_iff.1 R.h4).1
 obtain ⟨x4, e4⟩ : ∃ x, xs[4]? = some x := ⟨_, List.getElem?_eq_getElem (by omega)⟩
 rw [e4] at g4
 have g5 := hf 5 R.f5 R.h5
 rw [R.o5, R.y5, R.cH] at g5
 have hs5 : 5 < R.fs.size := (Array.getElem?_eq_some_iff.1 R.h5).1
 obtain ⟨x5, e5⟩ : ∃ x, xs[5]? = some x := ⟨_, List.getElem?_eq_getElem (by omega)⟩
 rw [e5] at g5
 have g6 := hf 6 R.f6 R.h6
 rw [R.o6, R.y6, R.cM] at g6
 have hs6 : 6 < R.fs.size := (Array.getElem?_eq_some_iff.1 R.h6).1
 obtain ⟨x6, e6⟩ : ∃ x, xs[6]? = some x := ⟨_, List.getElem?_eq_getElem (by omega)⟩
 rw [e6] at g6
 have g7 := hf 7 R.f7 R.h7
 rw [R.o7, R.y7, R.cQ] at g7
 have hs7 : 7 < R.fs.size := (Array.getElem?_eq_some_iff.1 R.h7).1
 obtain ⟨x7, e7⟩ : ∃ x, xs[7]? = some x := ⟨_, List.getElem?_eq_getElem (by omega)⟩
 rw [e7] at g7
 have g8 := hf 8 R.f8 R.h8
 rw [R.o8, R.y8, R.cU] at g8
 have hs8 : 8 < R.fs.size := (Array.getElem?_eq_some_iff.1 R.h8).1
 obtain ⟨x8, e8⟩ : ∃ x, xs[8]? = some x := ⟨_, List.getElem?_eq_getElem (by omega)⟩
 rw [e8] at g8
 have g9 := hf 9 R.f9 R.h9
 rw [R.o9, R.y9, R.cU] at g9
 have hs9 : 9 < R.fs.size := (Array.getElem?_eq_some_iff.1 R.h9).1
 obtain ⟨x9, e9⟩ : ∃ x, xs[9]? = some x := ⟨_, List.getElem?_eq_getElem (by omega)⟩
 rw [e9] at g9
 have g10 := hf 10 R.f10 R.h10
 rw [R.o10, R.y10, R.cU] at g10
 have hs10 : 10 < R.fs.size := (Array.getElem?_eq_some_iff.1 R.h10).1
 obtain ⟨x10, e10⟩ : ∃ x, xs[10]? = some x := ⟨_, List.getElem?_eq_getElem (by omega)⟩
 rw [e10] at g10
 have g11 := hf 11 R.f11 R.h11
 rw [R.o11, R.y11, R.cU] at g11
 have hs11 : 11 < R.fs.size := (Array.getElem?_eq_some_iff.1 R.h11).1
 obtain ⟨x11, e11⟩ : ∃ x, xs[11]? = some x := ⟨_, List.getElem?_eq_getElem (by omega)⟩
 rw [e11] at g11
 have g12 := hf 12 R.f12 R.h12
 rw [R.o12, R.y12, R.cS] at g12
 have hs12 : 12 < R.fs.size := (Array.getElem?_eq_some_iff.1 R.h12).1
 obtain ⟨x12, e12⟩ : ∃ x, xs[12]? = some x := ⟨_, List.getElem?_eq_getElem (by omega)⟩
 rw [e12] at g12
 have g13 := hf 13 R.f13 R.h13
 rw [R.o13, R.y13, R.cH] at g13
 have hs13 : 13 < R.fs.size := (Array.getElem?_eq_some_iff.1 R.h13).1
 obtain ⟨x13, e13⟩ : ∃ x, xs[13]? = some x := ⟨_, List.getElem?_eq_getElem (by omega)⟩
 rw [e13] at g13
 have g14 := hf 14 R.f14 R.h14
 rw [R.o14, R.y14, R.cE] at g14
 have hs14 : 14 < R.fs.size := (Array.getElem?_eq_some_iff.1 R.h14).1
 obtain ⟨x14, e14⟩ : ∃ x, xs[14]? = some x := ⟨_, List.getElem?_eq_getElem (by omega)⟩
 rw [e14] at g14
 have g15 := hf 15 R.f15 R.h15
 rw [R.o15, R.y15, R.cN] at g15
 have hs15 : 15 < R.fs.size := (Array.getElem?_eq_some_iff.1 R.h15).1
 obtain ⟨x15, e15⟩ : ∃ x, xs[15]? = some x := ⟨_, List.getElem?_eq_getElem (by omega)⟩
 rw [e15] at g15
 have g16 := hf 16 R.f16 R.h16
 rw [R.o16, R.y16, R.cQ] at g16
 have hs16 : 16 < R.fs.size := (Array.getElem?_eq_some_iff.1 R.h16).1
 obtain ⟨x16, e16⟩ : ∃ x, xs[16]? = some x := ⟨_, List.getElem?_eq_getElem (by omega)⟩
 rw [e16] at g16
 have g17 := hf 17 R.f17 R.h17
 rw [R.o17, R.y17, R.cH] at g17
 have hs17 : 17 < R.fs.size := (Array.getElem?_eq_some_iff.1 R.h17).1
 obtain ⟨x17, e17⟩ : ∃ x, xs[17]? = some x := ⟨_, List.getElem?_eq_getElem (by omega)⟩
 rw [e17] at g17
 have g18 := hf 18 R.f18 R.h18
 rw [R.o18, R.y18, R.cU] at g18
 have hs18 : 18 < R.fs.size := (Array.getElem?_eq_some_iff.1 R.h18).1
 obtain ⟨x18, e18⟩ : ∃ x, xs[18]? = some x := ⟨_, List.getElem?_eq_getElem (by omega)⟩
 rw [e18] at g18
 have g19 := hf 19 R.f19 R.h19
 rw [R.o19, R.y19, R.cU] at g19
 have hs19 : 19 < R.fs.size := (Array.getElem?_eq_some_iff.1 R.h19).1
 obtain ⟨x19, e19⟩ : ∃ x, xs[19]? = some x := ⟨_, List.getElem?_eq_getElem (by omega)⟩
 rw [e19] at g19
 have g20 := hf 20 R.f20 R.h20
 rw [R.o20, R.y20, R.cH] at g20
 have hs20 : 20 < R.fs.size := (Array.getElem?_eq_some_iff.1 R.h20).1
 obtain ⟨x20, e20⟩ : ∃ x, xs[20]? = some x := ⟨_, List.getElem?_eq_getElem (by omega)⟩
 rw [e20] at g20
 have g21 := hf 21 R.f21 R.h21
 rw [R.o21, R.y21, R.cH] at g21
 have hs21 : 21 < R.fs.size := (Array.getElem?_eq_some_iff.1 R.h21).1
 obtain ⟨x21, e21⟩ : ∃ x, xs[21]? = some x := ⟨_, List.getElem?_eq_getElem (by omega)⟩
 rw [e21] at g21
 have hd2 : d = .agg (xs.map (·.1)) := congrArg Prod.fst hx
 subst hd2
 have hz12 : Fits P tS x12.1 := by have := Fits.struct R.hR hz R.h12 (d := x12.1) (by simp [e12]); rwa [R.y12] at this
 obtain ⟨l0, a0, q0⟩ := Z141 R.uH R.u8 R.c8 R.cH g0
 obtain ⟨v0, rfl⟩ : ∃ v : Vector (BitVec 8) 32, l0 = v.toList := ⟨⟨l0.toArray, by simpa using q0⟩, rfl⟩
 obtain ⟨l1, a1, q1⟩ := Z141 R.uH R.u8 R.c8 R.cH g1
 obtain ⟨v1, rfl⟩ : ∃ v : Vector (BitVec 8) 32, l1 = v.toList := ⟨⟨l1.toArray, by simpa using q1⟩, rfl⟩
 obtain ⟨l2, a2, q2⟩ := Z141 R.uA R.u8 R.c8 R.cA g2
 obtain ⟨v2, rfl⟩ : ∃ v : Vector (BitVec 8) 20, l2 = v.toList := ⟨⟨l2.toArray, by simpa using q2⟩, rfl⟩
 obtain ⟨l3, a3, q3⟩ := Z141 R.uH R.u8 R.c8 R.cH g3
 obtain ⟨v3, rfl⟩ : ∃ v : Vector (BitVec 8) 32, l3 = v.toList := ⟨⟨l3.toArray, by simpa using q3⟩, rfl⟩
 obtain ⟨l4, a4, q4⟩ := Z141 R.uH R.u8 R.c8 R.cH g4
 obtain ⟨v4, rfl⟩ : ∃ v : Vector (BitVec 8) 32, l4 = v.toList := ⟨⟨l4.toArray, by simpa using q4⟩, rfl⟩
 obtain ⟨l5, a5, q5⟩ := Z141 R.uH R.u8 R.c8 R.cH g5
 obtain ⟨v5, rfl⟩ : ∃ v : Vector (BitVec 8) 32, l5 = v.toList := ⟨⟨l5.toArray, by simpa using q5⟩, rfl⟩
 obtain ⟨l6, a6, q6⟩ := Z141 R.uM R.u8 R.c8 R.cM g6
 obtain ⟨v6, rfl⟩ : ∃ v : Vector (BitVec 8) 256, l6 = v.toList := ⟨⟨l6.toArray, by simpa using q6⟩, rfl⟩
 obtain ⟨l7, a7, q7⟩ := reads_arr64 R.uQ R.uU R.cU R.cQ g7
 obtain ⟨v7, rfl⟩ : ∃ v : Vector (BitVec 64) 4, l7 = v.toList := ⟨⟨l7.toArray, by simpa using q7⟩, rfl⟩
 obtain ⟨v8, a8⟩ := reads_u64 R.uU g8
 obtain ⟨v9, a9⟩ := reads_u64 R.uU g9
 obtain ⟨v10, a10⟩ := reads_u64 R.uU g10
 obtain ⟨v11, a11⟩ := reads_u64 R.uU g11
 obtain ⟨u12, a12⟩ : ∃ u, (cs.drop 444).take 1 = [u] := List.length_eq_one_iff.1 (by rw [List.length_take, List.length_drop]; omega)
 rw [a12] at g12
 obtain ⟨A, cap, v12, rfl, hv12, hm12, el, sp, hel, hlen⟩ := reads_bs R.uS R.u8 R.c8 R.b8 g12 hz12
 obtain ⟨l13, a13, q13⟩ := Z141 R.uH R.u8 R.c8 R.cH g13
 obtain ⟨v13, rfl⟩ : ∃ v : Vector (BitVec 8) 32, l13 = v.toList := ⟨⟨l13.toArray, by simpa using q13⟩, rfl⟩
 obtain ⟨l14, a14, q14⟩ := Z141 R.uE R.u8 R.c8 R.cE g14
 obtain ⟨v14, rfl⟩ : ∃ v : Vector (BitVec 8) 8, l14 = v.toList := ⟨⟨l14.toArray, by simpa using q14⟩, rfl⟩
 obtain ⟨v15, a15, w15⟩ := reads_int R.uN g15
 obtain ⟨l16, a16, q16⟩ := reads_arr64 R.uQ R.uU R.cU R.cQ g16
 obtain ⟨v16, rfl⟩ : ∃ v : Vector (BitVec 64) 4, l16 = v.toList := ⟨⟨l16.toArray, by simpa using q16⟩, rfl⟩
 obtain ⟨l17, a17, q17⟩ := Z141 R.uH R.u8 R.c8 R.cH g17
 obtain ⟨v17, rfl⟩ : ∃ v : Vector (BitVec 8) 32, l17 = v.toList := ⟨⟨l17.toArray, by simpa using q17⟩, rfl⟩
 obtain ⟨v18, a18⟩ := reads_u64 R.uU g18
 obtain ⟨v19, a19⟩ := reads_u64 R.uU g19
 obtain ⟨l20, a20, q20⟩ := Z141 R.uH R.u8 R.c8 R.cH g20
 obtain ⟨v20, rfl⟩ : ∃ v : Vector (BitVec 8) 32, l20 = v.toList := ⟨⟨l20.toArray, by simpa using q20⟩, rfl⟩
 obtain ⟨l21, a21, q21⟩ := Z141 R.uH R.u8 R.c8 R.cH g21
 obtain ⟨v21, rfl⟩ : ∃ v : Vector (BitVec 8) 32, l21 = v.toList := ⟨⟨l21.toArray, by simpa using q21⟩, rfl⟩
 have hb : -9223372036854775808 ≤ v15 ∧ v15 ≤ 9223372036854775807 := wf_i64_in w15
 refine ⟨⟨v0, v1, v2, v3, v4, v5, v6, v7, v8, v9, v10, v11, v12, v13, v14, v15, v16, v17, v18, v19, v20, v21⟩, ?_, hm12, _, x12.1, el, sp, rfl, List.mem_map.2 ⟨x12, List.mem_of_getElem? e12, rfl⟩, hel, hlen⟩
 refine ⟨A, cap, ?_, hv12, hb⟩
 have h0 : cs = cs.drop 0 := rfl
 have h7 : cs.drop 588 = [] := List.drop_of_length_le (by omega)
 rw [h0, Z131 cs 0 32, Z131 cs 32 32, Z131 cs 64 20, Z131 cs 84 32, Z131 cs 116 32, Z131 cs 148 32, Z131 cs 180 256, Z131 cs 436 4, Z131 cs 440 1, Z131 cs 441 1, Z131 cs 442 1, Z131 cs 443 1, Z131 cs 444 1, Z131 cs 445 32, Z131 cs 477 8, Z131 cs 485 1, Z131 cs 486 4, Z131 cs 490 32, Z131 cs 522 1, Z131 cs 523 1, Z131 cs 524 32, Z131 cs 556 32, a0, a1, a2, a3, a4, a5, a6, a7, a8, a9, a10, a11, a12, a13, a14, a15, a16, a17, a18, a19, a20, a21, h7, List.append_nil]
 rfl
theorem arg_hdr {tR tN tH tA tM tE tQ tU tS t8 : TypeId} (R : HdrTypes P tR tN tH tA tM tE tQ tU tS t8) {b0 : Nat} {v : Value} (hval : Value.okWide P W .any b0 tR v) {d : DataW H} {ps : List MemPlace} (h : DataW.Trod enc P W 0 (fun _ => true) true tR v d ps) (hz : Fits P tR d) :
    ∃ (cs : List Value) (x : Hdr), v = .agg cs.toArray ∧ HdrRd (fun w => Mem W w []) cs x ∧ x.extra.length ≤ 140737488351232 := by
 obtain ⟨xs0, rfl⟩ := okWide_st R.hR hval
 obtain ⟨fuel, hf⟩ := h
 have hr : reads enc P W fuel tR xs0.toList = some (d, ps) := by simpa [Value.cells] using hf
 obtain ⟨xs, m, hn, hx, hcl, hxl, hf2⟩ := DataW.trod_struct R.hR hr
 rw [R.cR] at hcl
 obtain ⟨x, h1, h2, _⟩ := reads_hdr R hcl hr hz
 exact ⟨xs0.toList, x, rfl, h1, h2⟩
end
end Go.Fw
namespace Go.Fw
def val4 (v : Vector (BitVec 64) 4) : Nat := v[0].toNat + 2 ^ 64 * v[1].toNat + 2 ^ 128 * v[2].toNat + 2 ^ 192 * v[3].toNat
def lim (n : Nat) : Vector (BitVec 64) 4 := #v[BitVec.ofNat 64 n, BitVec.ofNat 64 (n / 2 ^ 64), BitVec.ofNat 64 (n / 2 ^ 128), BitVec.ofNat 64 (n / 2 ^ 192)]
theorem vec4_ext {a b : Vector (BitVec 64) 4} (h0 : a[0] = b[0]) (h1 : a[1] = b[1]) (h2 : a[2] = b[2]) (h3 : a[3] = b[3]) : a = b := by
 apply Vector.ext
 intro i hi
 match i, hi with
 | 0, _ => exact h0
 | 1, _ => exact h1
 | 2, _ => exact h2
 | 3, _ => exact h3
theorem val4_lt (v : Vector (BitVec 64) 4) : val4 v < 2 ^ 256 := by
 have h0 := v[0].isLt; have h1 := v[1].isLt; have h2 := v[2].isLt; have h3 := v[3].isLt
 unfold val4
 omega
theorem val4_lim (n : Nat) (h : n < 2 ^ 256) : val4 (lim n) = n := by
 simp only [val4, lim, Vector.getElem_mk, List.getElem_toArray, List.getElem_cons_zero, List.getElem_cons_succ, BitVec.toNat_ofNat]
 omega
theorem lim_val4 (v : Vector (BitVec 64) 4) : lim (val4 v) = v := by
 have h0 := v[0].isLt; have h1 := v[1].isLt; have h2 := v[2].isLt; have h3 := v[3].isLt
 apply vec4_ext <;> (apply BitVec.eq_of_toNat_eq; simp only [lim, Vector.getElem_mk, List.getElem_toArray, List.getElem_cons_zero, List.getElem_cons_succ, BitVec.toNat_ofNat, val4]; omega)
theorem val4_inj {a b : Vector (BitVec 64) 4} (h : val4 a = val4 b) : a = b := by rw [← lim_val4 a, ← lim_val4 b, h]
theorem from_eq (x : BitVec 64) : u256_From x = some (lim x.toNat) := by
 unfold u256_From
 congr 1
 have := x.isLt
 apply vec4_ext <;> (apply BitVec.eq_of_toNat_eq; simp [lim]; try omega)
def cmpN (a b : Nat) : Int := if a < b then -1 else if a = b then 0 else 1
theorem sub64c_eq (x y b : BitVec 64) (hb : b.toNat ≤ 1) : sub64c x y b = some (x - y - b, if x.toNat < y.toNat + b.toNat then 1#64 else 0#64) := by
 unfold sub64c; rw [if_pos hb]
theorem brw (p : Prop) [Decidable p] : (if p then 1#64 else 0#64).toNat = if p then 1 else 0 := by split <;> rfl
theorem u256_Sub_brw (x y : Vector (BitVec 64) 4) : ∃ d, u256_Sub x y = some (d, if val4 x < val4 y then 1#64 else 0#64) := by
 have g : ∀ (v : Vector (BitVec 64) 4) (i : Nat) (h : i < 4), v[i]? = some v[i] := fun v i h => Vector.getElem?_eq_getElem h
 have hb : ∀ (p : Prop) [Decidable p], (if p then 1#64 else 0#64).toNat ≤ 1 := fun p _ => by rw [brw]; split <;> omega
 have x0 := x[0].isLt; have x1 := x[1].isLt; have x2 := x[2].isLt; have x3 := x[3].isLt
 have y0 := y[0].isLt; have y1 := y[1].isLt; have y2 := y[2].isLt; have y3 := y[3].isLt
 unfold u256_Sub
 simp only [u256_Sub.l1, g x 0 (by omega), g x 1 (by omega), g x 2 (by omega), g x 3 (by omega), g y 0 (by omega), g y 1 (by omega), g y 2 (by omega), g y 3 (by omega), Zb, Nat.zero_add, Nat.reduceAdd, Nat.reduceLT, if_true, if_false, Nat.lt_irrefl, Nat.reduceSub]
 rw [sub64c_eq _ _ _ (by simp)]
 simp only [Zb]
 rw [sub64c_eq _ _ _ (hb _)]
 simp only [Zb]
 rw [sub64c_eq _ _ _ (hb _)]
 simp only [Zb]
 rw [sub64c_eq _ _ _ (hb _)]
 simp only [Zb, brw]
 have key : (x[3].toNat < y[3].toNat + if x[2].toNat < y[2].toNat + (if x[1].toNat < y[1].toNat + (if x[0].toNat < y[0].toNat + (0#64).toNat then 1 else 0) then 1 else 0) then 1 else 0) ↔ val4 x < val4 y := by
  unfold val4
  have h0 : (0#64).toNat = 0 := rfl
  rw [h0]
  split <;> split <;> split <;> omega
 simp only [key]
 exact ⟨_, rfl⟩
theorem cmp_eq (x y : Vector (BitVec 64) 4) : u256_Cmp x y = some (cmpN (val4 x) (val4 y)) := by
 unfold u256_Cmp cmpN
 by_cases h : x = y
 ·subst h; simp
 ·rw [if_neg h]
  obtain ⟨d, hd⟩ := u256_Sub_brw x y
  rw [hd]
  have hne : ¬ val4 x = val4 y := fun e => h (val4_inj e)
  by_cases hl : val4 x < val4 y
  ·simp [hl]
  ·simp [hl, hne]
end Go.Fw
namespace Go.Fw
def be : Nat → Nat → List (BitVec 8)
 | 0, _ => []
 | k + 1, n => BitVec.ofNat 8 (n / 256 ^ k) :: be k n
theorem be_length : ∀ (k n : Nat), (be k n).length = k
 | 0, _ => rfl
 | k + 1, n => by simp [be, be_length k n]
theorem be_drop (n : Nat) : ∀ (d j : Nat), (be (j + d) n).drop d = be j n
 | 0, j => by simp
 | d + 1, j => by
  rw [show j + (d + 1) = (j + d) + 1 by omega]
  show ((BitVec.ofNat 8 (n / 256 ^ (j + d))) :: be (j + d) n).drop (d + 1) = be j n
  rw [List.drop_succ_cons]; exact be_drop n d j
theorem be_get (n : Nat) : ∀ (k i : Nat), i < k → (be k n)[i]? = some (BitVec.ofNat 8 (n / 256 ^ (k - 1 - i)))
 | 0, i, h => by omega
 | k + 1, 0, h => by simp [be]
 | k + 1, i + 1, h => by
  simp only [be, List.getElem?_cons_succ]
  rw [be_get n k i (by omega)]
  rw [show k + 1 - 1 - (i + 1) = k - 1 - i by omega]
def bl (n : Nat) : Nat := if n = 0 then 0 else n.log2 + 1
theorem bl_eq {n k : Nat} (h1 : 2 ^ k ≤ n) (h2 : n < 2 ^ (k + 1)) : bl n = k + 1 := by
 have hp : 0 < 2 ^ k := Nat.two_pow_pos k
 unfold bl
 rw [if_neg (by omega)]
 have := (Nat.log2_lt (n := n) (k := k + 1) (by omega)).2 h2
 have := (Nat.le_log2 (n := n) (k := k) (by omega)).2 h1
 omega
theorem bl_spec {n : Nat} (h : n ≠ 0) : ∃ k, bl n = k + 1 ∧ 2 ^ k ≤ n ∧ n < 2 ^ (k + 1) := ⟨n.log2, by unfold bl; rw [if_neg h], Nat.log2_self_le h, Nat.lt_log2_self⟩
theorem bl_le {n k : Nat} (h : n < 2 ^ k) : bl n ≤ k := by
 unfold bl
 split
 ·omega
 ·have := (Nat.log2_lt (n := n) (k := k) (by omega)).2 h; omega
theorem lenB_bl (x : BitVec 8) : lenB x = bl x.toNat := by
 unfold lenB bl
 by_cases h : x = 0#8
 ·subst h; rfl
 ·rw [if_neg h, if_neg (show ¬ x.toNat = 0 from fun e => h (BitVec.eq_of_toNat_eq e))]
theorem bl_shift {n s : Nat} (h : 2 ^ s ≤ n) : bl (n / 2 ^ s) + s = bl n := by
 have hp : 0 < 2 ^ s := Nat.two_pow_pos s
 have hq : n / 2 ^ s ≠ 0 := by
  have := Nat.div_pos h hp; omega
 obtain ⟨k, h1, h2, h3⟩ := bl_spec hq
 rw [h1, bl_eq (k := k + s)]
 ·omega
 ·rw [Nat.pow_add]; exact (Nat.le_div_iff_mul_le hp).1 h2
 ·rw [show k + s + 1 = (k + 1) + s by omega, Nat.pow_add]; exact (Nat.div_lt_iff_lt_mul hp).1 h3
theorem len64_eq (x : BitVec 64) : math_bits_Len64 x = some (bl x.toNat) := by
 have hx := x.isLt
 have fin : ∀ (w : BitVec 64) (n : Nat), w.toNat < 256 → n + bl w.toNat = bl x.toNat → n ≤ 64 →
     (if (n + (BitVec.ofNat 8 (lenB (w.setWidth 8))).toNat) ≤ 9223372036854775807 then (some (n + (BitVec.ofNat 8 (lenB (w.setWidth 8))).toNat)) else none) = some (bl x.toNat) := by
  intro w n hw hn h64
  have h1 : (w.setWidth 8).toNat = w.toNat := by rw [BitVec.toNat_setWidth]; omega
  have h2 := lenB_le (w.setWidth 8)
  have h3 : (BitVec.ofNat 8 (lenB (w.setWidth 8))).toNat = bl w.toNat := by rw [BitVec.toNat_ofNat, lenB_bl, h1]; rw [lenB_bl, h1] at h2; omega
  rw [h3, if_pos (by rw [lenB_bl, h1] at h2; omega), hn]
 have s32 : (x >>> 32).toNat = x.toNat / 2 ^ 32 := by rw [BitVec.toNat_ushiftRight, Nat.shiftRight_eq_div_pow]
 have step8 : ∀ (w : BitVec 64) (n : Nat), w.toNat < 65536 → n + bl w.toNat = bl x.toNat → n ≤ 48 →
     ((((if 256 ≤ w.toNat then (if (n + 8) ≤ 9223372036854775807 then (some (((w >>> 8), (n + 8)))) else none) else (some ((w, n)))) : Option ((BitVec 64) × (Nat))).bind fun (w23, n24) => (if (n24 + (BitVec.ofNat 8 (lenB (w23.setWidth 8))).toNat) ≤ 9223372036854775807 then (some (n24 + (BitVec.ofNat 8 (lenB (w23.setWidth 8))).toNat)) else none))) = some (bl x.toNat) := by
  intro w n hw hn h48
  have s8 : (w >>> 8).toNat = w.toNat / 2 ^ 8 := by rw [BitVec.toNat_ushiftRight, Nat.shiftRight_eq_div_pow]
  by_cases h : 256 ≤ w.toNat
  ·rw [if_pos h, if_pos (by omega)]
   have := bl_shift (n := w.toNat) (s := 8) (by omega)
   rw [← s8] at this
   exact fin _ _ (by omega) (by omega) (by omega)
  ·rw [if_neg h]
   exact fin _ _ (by omega) hn (by omega)
 have step16 : ∀ (w : BitVec 64) (n : Nat), w.toNat < 4294967296 → n + bl w.toNat = bl x.toNat → n ≤ 32 →
     (((if 65536 ≤ w.toNat then (if (n + 16) ≤ 9223372036854775807 then (some (((w >>> 16), (n + 16)))) else none) else (some ((w, n)))) : Option ((BitVec 64) × (Nat))).bind fun (w13, n14) => (((if 256 ≤ w13.toNat then (if (n14 + 8) ≤ 9223372036854775807 then (some (((w13 >>> 8), (n14 + 8)))) else none) else (some ((w13, n14)))) : Option ((BitVec 64) × (Nat))).bind fun (w23, n24) => (if (n24 + (BitVec.ofNat 8 (lenB (w23.setWidth 8))).toNat) ≤ 9223372036854775807 then (some (n24 + (BitVec.ofNat 8 (lenB (w23.setWidth 8))).toNat)) else none))) = some (bl x.toNat) := by
  intro w n hw hn h32
  have s16 : (w >>> 16).toNat = w.toNat / 2 ^ 16 := by rw [BitVec.toNat_ushiftRight, Nat.shiftRight_eq_div_pow]
  by_cases h : 65536 ≤ w.toNat
  ·rw [if_pos h, if_pos (by omega)]
   have := bl_shift (n := w.toNat) (s := 16) (by omega)
   rw [← s16] at this
   exact step8 _ _ (by omega) (by omega) (by omega)
  ·rw [if_neg h]
   exact step8 _ _ (by omega) hn (by omega)
 unfold math_bits_Len64
 by_cases h : 4294967296 ≤ x.toNat
 ·rw [if_pos h]
  have := bl_shift (n := x.toNat) (s := 32) (by omega)
  rw [← s32] at this
  exact step16 _ _ (by omega) (by omega) (by omega)
 ·rw [if_neg h]
  exact step16 _ _ (by omega) (by omega) (by omega)
theorem vget (v : Vector (BitVec 64) 4) (i : Nat) (h : i < 4) : v[i]? = some v[i] := Vector.getElem?_eq_getElem h
theorem bl_top {a b s : Nat} (hb : b < 2 ^ s) (ha : a ≠ 0) : bl (b + 2 ^ s * a) = s + bl a := by
 obtain ⟨k, h1, h2, h3⟩ := bl_spec ha
 have hp : 0 < 2 ^ s := Nat.two_pow_pos s
 rw [h1, bl_eq (k := s + k)]
 ·omega
 ·rw [Nat.pow_add]; have := Nat.mul_le_mul_left (2 ^ s) h2; omega
 ·rw [show s + k + 1 = s + (k + 1) by omega, Nat.pow_add]
  have h4 : 2 ^ s * (a + 1) ≤ 2 ^ s * 2 ^ (k + 1) := Nat.mul_le_mul_left _ h3
  rw [Nat.mul_add] at h4; omega
theorem ulen_eq (v : Vector (BitVec 64) 4) : u256_Len v = some ((bl (val4 v) : Nat) : Int) := by
 have x0 := v[0].isLt; have x1 := v[1].isLt; have x2 := v[2].isLt; have x3 := v[3].isLt
 have hz : ∀ (x : BitVec 64), x = 0#64 ↔ x.toNat = 0 := fun x => ⟨fun h => by subst h; rfl, fun h => BitVec.eq_of_toNat_eq h⟩
 have b0 := bl_le x0; have b1 := bl_le x1; have b2 := bl_le x2; have b3 := bl_le x3
 unfold u256_Len
 simp only [u256_Len.l1, Int.reduceLE, if_true, Int.reduceSub, Int.reduceToNat, Int.toNat_zero, Int.reduceNeg, and_self, Nat.reduceLT, vget v 0 (by omega), vget v 1 (by omega), vget v 2 (by omega), vget v 3 (by omega), Zb, if_false, Nat.zero_lt_succ, Nat.lt_add_one, Int.reduceMul, len64_eq]
 by_cases h3 : v[3] = 0#64
 ·have e3 := (hz _).1 h3
  by_cases h2 : v[2] = 0#64
  ·have e2 := (hz _).1 h2
   by_cases h1 : v[1] = 0#64
   ·have e1 := (hz _).1 h1
    by_cases h0 : v[0] = 0#64
    ·have e0 := (hz _).1 h0
     simp [h0, h1, h2, h3, val4, bl]
    ·have hv : val4 v = v[0].toNat := by unfold val4; omega
     rw [hv]
     simp only [h3, h2, h1, h0, if_true, if_false]
     rw [if_pos (by omega)]
     simp
   ·have hv : val4 v = v[0].toNat + 2 ^ 64 * v[1].toNat := by unfold val4; omega
    rw [hv, bl_top x0 (fun e => h1 ((hz _).2 e))]
    simp only [h3, h2, h1, if_true, if_false]
    rw [if_pos (by omega)]
    simp
  ·have hv : val4 v = (v[0].toNat + 2 ^ 64 * v[1].toNat) + 2 ^ 128 * v[2].toNat := by unfold val4; omega
   rw [hv, bl_top (by omega) (fun e => h2 ((hz _).2 e))]
   simp only [h3, h2, if_true, if_false]
   rw [if_pos (by omega)]
   simp
 ·have hv : val4 v = (v[0].toNat + 2 ^ 64 * v[1].toNat + 2 ^ 128 * v[2].toNat) + 2 ^ 192 * v[3].toNat := by unfold val4; omega
  rw [hv, bl_top (by omega) (fun e => h3 ((hz _).2 e))]
  simp only [h3, if_true, if_false]
  rw [if_pos (by omega)]
  simp
end Go.Fw
namespace Go.Fw
theorem limb (v : Vector (BitVec 64) 4) (q : Nat) (h : q < 4) : val4 v / 2 ^ (64 * q) % 2 ^ 64 = v[q].toNat := by
 have x0 := v[0].isLt; have x1 := v[1].isLt; have x2 := v[2].isLt; have x3 := v[3].isLt
 unfold val4
 match q, h with
 | 0, _ => simp only [Nat.mul_zero, Nat.pow_zero, Nat.div_one]; omega
 | 1, _ => simp only [Nat.mul_one]; omega
 | 2, _ => simp only [Nat.reduceMul]; omega
 | 3, _ => simp only [Nat.reduceMul]; omega
theorem byte_r (m x r : Nat) (h : r < 8) (e : m % 2 ^ 64 = x) : m / 256 ^ r % 256 = x / 256 ^ r % 256 := by
 subst e
 match r, h with
 | 0, _ => simp only [Nat.pow_zero]; omega
 | 1, _ => simp only [Nat.pow_one]; omega
 | 2, _ => simp only [Nat.reducePow]; omega
 | 3, _ => simp only [Nat.reducePow]; omega
 | 4, _ => simp only [Nat.reducePow]; omega
 | 5, _ => simp only [Nat.reducePow]; omega
 | 6, _ => simp only [Nat.reducePow]; omega
 | 7, _ => simp only [Nat.reducePow]; omega
theorem pow256 (r : Nat) : 256 ^ r = 2 ^ (8 * r) := by rw [show (256 : Nat) = 2 ^ 8 by rfl, ← Nat.pow_mul]
theorem put_byte (v : Vector (BitVec 64) 4) (n : Nat) (h : n / 8 < 4) : ((v[n / 8] >>> (8 * (n % 8))).setWidth 8) = BitVec.ofNat 8 (val4 v / 256 ^ n) := by
 apply BitVec.eq_of_toNat_eq
 rw [BitVec.toNat_setWidth, BitVec.toNat_ushiftRight, Nat.shiftRight_eq_div_pow, BitVec.toNat_ofNat, ← pow256]
 have h1 := byte_r (val4 v / 2 ^ (64 * (n / 8))) _ (n % 8) (by omega) (limb v (n / 8) h)
 rw [Nat.div_div_eq_div_mul] at h1
 have e : 2 ^ (64 * (n / 8)) * 256 ^ (n % 8) = 256 ^ n := by
  rw [pow256, pow256, ← Nat.pow_add]
  congr 1
  omega
 rw [e] at h1
 omega
def fillB (v : Vector (BitVec 64) 4) : Nat → Nat → Vector (BitVec 8) 32 → Vector (BitVec 8) 32
 | _, 0, w => w
 | n, d + 1, w => fillB v (n + 1) d (w.setIfInBounds (31 - n) (BitVec.ofNat 8 (val4 v / 256 ^ n)))
theorem put_loop (v : Vector (BitVec 64) 4) : ∀ (d n k : Nat) (w : Vector (BitVec 8) 32), n + d = 32 → d < k → u256_Put.l1 v k n w = some (fillB v n d w)
 | 0, n, k, w, h, hk => by
  obtain ⟨k, rfl⟩ : ∃ m, k = m + 1 := ⟨k - 1, by omega⟩
  simp only [u256_Put.l1]
  rw [if_neg (by omega)]; rfl
 | d + 1, n, k, w, h, hk => by
  obtain ⟨k, rfl⟩ : ∃ m, k = m + 1 := ⟨k - 1, by omega⟩
  simp only [u256_Put.l1]
  rw [if_pos (by omega), if_pos (by omega), if_pos (by omega), vget v (n / 8) (by omega)]
  simp only [Zb]
  rw [if_pos (by omega), put_byte v n (by omega)]
  exact put_loop v d (n + 1) k _ (by omega) (by omega)
theorem rput_loop (v : Vector (BitVec 64) 4) : ∀ (d n k : Nat) (w : Vector (BitVec 8) 32), n + d = 32 → d < k → waybillref01_Put.l1 v k n w = some (fillB v n d w)
 | 0, n, k, w, h, hk => by
  obtain ⟨k, rfl⟩ : ∃ m, k = m + 1 := ⟨k - 1, by omega⟩
  simp only [waybillref01_Put.l1]
  rw [if_neg (by omega)]; rfl
 | d + 1, n, k, w, h, hk => by
  obtain ⟨k, rfl⟩ : ∃ m, k = m + 1 := ⟨k - 1, by omega⟩
  simp only [waybillref01_Put.l1]
  have e : (BitVec.ofNat 64 (8 * (n % 8))).toNat = 8 * (n % 8) := by rw [BitVec.toNat_ofNat]; omega
  rw [if_pos (by omega), if_pos (by omega), if_pos (by omega), vget v (n / 8) (by omega), e]
  simp only [Zb]
  rw [if_pos (by omega), put_byte v n (by omega)]
  exact rput_loop v d (n + 1) k _ (by omega) (by omega)
theorem fillB_get (v : Vector (BitVec 64) 4) : ∀ (d n : Nat) (w : Vector (BitVec 8) 32), n + d = 32 → ∀ i (hi : i < 32), (fillB v n d w)[i] = if i ≤ 31 - n ∧ 0 < d then BitVec.ofNat 8 (val4 v / 256 ^ (31 - i)) else w[i]
 | 0, n, w, h, i, hi => by simp [fillB]
 | d + 1, n, w, h, i, hi => by
  unfold fillB
  rw [fillB_get v d (n + 1) _ (by omega) i hi]
  rw [Vector.getElem_setIfInBounds]
  by_cases h1 : i = 31 - n
  ·subst h1
   rw [if_neg (by omega), if_pos (by omega), if_pos (by omega), show 31 - (31 - n) = n by omega]
  ·by_cases h2 : i ≤ 31 - (n + 1) ∧ 0 < d
   ·rw [if_pos h2, if_pos (by omega)]
   ·rw [if_neg h2, if_neg (by omega), if_neg (by omega)]
theorem fillB_be (v : Vector (BitVec 64) 4) (w : Vector (BitVec 8) 32) : (fillB v 0 32 w).toList = be 32 (val4 v) := by
 apply List.ext_getElem?
 intro i
 rcases Nat.lt_or_ge i 32 with h | h
 ·rw [be_get _ 32 i h, vat' h, fillB_get v 32 0 w (by omega) i h, if_pos (by omega)]
 ·rw [List.getElem?_eq_none (by simp; omega), List.getElem?_eq_none (by rw [be_length]; omega)]
theorem put_eq (v : Vector (BitVec 64) 4) : ∃ w, u256_Put v = some w ∧ waybillref01_Put v = some w ∧ w.toList = be 32 (val4 v) := by
 refine ⟨fillB v 0 32 (Vector.replicate 32 0#8), ?_, ?_, fillB_be v _⟩
 ·unfold u256_Put; rw [put_loop v 32 0 _ _ (by omega) (by omega)]; rfl
 ·unfold waybillref01_Put; rw [rput_loop v 32 0 _ _ (by omega) (by omega)]; rfl
def nb (n : Nat) : Nat := (bl n + 7) / 8
def bytesN (n : Nat) : List (BitVec 8) := be (nb n) n
theorem nb_le {n : Nat} (h : n < 2 ^ 256) : nb n ≤ 32 := by have := bl_le h; unfold nb; omega
theorem be_drop' {n k j : Nat} (h : j ≤ k) : (be k n).drop (k - j) = be j n := by
 have := be_drop n (k - j) j
 rwa [show j + (k - j) = k by omega] at this
theorem bytes_eq (v : Vector (BitVec 64) 4) : u256_Bytes v = some (bytesN (val4 v)) := by
 obtain ⟨w, h1, _, h3⟩ := put_eq v
 unfold u256_Bytes
 have hb : bl (val4 v) ≤ 256 := bl_le (k := 256) (val4_lt v)
 have h32 := nb_le (val4_lt v)
 have hnb : (bl (val4 v) + 7) / 8 = nb (val4 v) := rfl
 have e : (((bl (val4 v) : Nat) : Int) + 7).toNat / 8 = nb (val4 v) := by omega
 rw [h1, Zb, ulen_eq, Zb, if_pos (by omega), if_pos (by omega), e, if_pos (by omega), show ((32 : Int) - ((nb (val4 v) : Nat) : Int)).toNat = 32 - nb (val4 v) by omega, if_pos (by omega), h3, be_drop' h32]
 rfl
theorem byte_top {n : Nat} (h : n ≠ 0) : BitVec.ofNat 8 (n / 256 ^ (nb n - 1)) ≠ 0#8 := by
 obtain ⟨j, h1, h2, h3⟩ := bl_spec h
 have hnb : nb n = j / 8 + 1 := by unfold nb; omega
 rw [hnb, Nat.add_sub_cancel, pow256]
 have hp : 0 < 2 ^ (8 * (j / 8)) := Nat.two_pow_pos _
 have ha : 0 < n / 2 ^ (8 * (j / 8)) := Nat.div_pos (Nat.le_trans (Nat.pow_le_pow_right (by omega) (by omega)) h2) hp
 have hb : n / 2 ^ (8 * (j / 8)) < 256 := by
  rw [Nat.div_lt_iff_lt_mul hp]
  refine Nat.lt_of_lt_of_le h3 ?_
  rw [show (256 : Nat) = 2 ^ 8 by rfl, ← Nat.pow_add]
  exact Nat.pow_le_pow_right (by omega) (by omega)
 intro e
 have := congrArg BitVec.toNat e
 rw [BitVec.toNat_ofNat] at this
 simp at this
 omega
end Go.Fw
namespace Go.Fw
def beV (l : List (BitVec 8)) : Nat := l.foldl (fun n x => n * 256 + x.toNat) 0
theorem beV_snoc (l : List (BitVec 8)) (x : BitVec 8) : beV (l ++ [x]) = beV l * 256 + x.toNat := by simp [beV]
theorem lim_get (n j : Nat) (h : j < 4) : (lim n)[j] = BitVec.ofNat 64 (n / 2 ^ (64 * j)) := by
 match j, h with
 | 0, _ => simp [lim]
 | 1, _ => simp [lim]
 | 2, _ => simp [lim]
 | 3, _ => simp [lim]
theorem or_low (A B : BitVec 64) (k a : Nat) (hA : A.toNat = 2 ^ k * a) (hB : B.toNat < 2 ^ k) : A ||| B = A + B := by
 apply BitVec.eq_of_toNat_eq
 have h1 : (A ||| B).toNat = A.toNat + B.toNat := by rw [BitVec.toNat_or, hA, ← Nat.two_pow_add_eq_or_of_lt hB]
 have h2 := (A ||| B).isLt
 rw [BitVec.toNat_add, h1, Nat.mod_eq_of_lt (by omega)]
theorem shl_toNat (x : BitVec 8) (r : Nat) (h : r < 8) : ((x.setWidth 64) <<< (8 * r)).toNat = x.toNat * 2 ^ (8 * r) := by
 have hx := x.isLt
 rw [BitVec.toNat_shiftLeft, BitVec.toNat_setWidth, Nat.shiftLeft_eq, Nat.mod_eq_of_lt (a := x.toNat) (by omega), Nat.mod_eq_of_lt]
 have h1 : 2 ^ (8 * r) ≤ 2 ^ 56 := Nat.pow_le_pow_right (by omega) (by omega)
 have h2 : x.toNat * 2 ^ (8 * r) ≤ 255 * 2 ^ 56 := Nat.mul_le_mul (by omega) h1
 omega
theorem set_byte (m p : Nat) (x : BitVec 8) (hp : p / 8 < 4) :
    (lim (m * 256 ^ (p + 1))).setIfInBounds (p / 8) ((lim (m * 256 ^ (p + 1)))[p / 8] + (x.setWidth 64) <<< (8 * (p % 8))) = lim ((m * 256 + x.toNat) * 256 ^ p) := by
 have hx := x.isLt
 have hr : p % 8 < 8 := Nat.mod_lt _ (by omega)
 have e0 : (m * 256 + x.toNat) * 256 ^ p = m * 256 ^ (p + 1) + x.toNat * 256 ^ p := by rw [Nat.add_mul, Nat.pow_succ]; rw [Nat.mul_assoc, Nat.mul_comm 256]
 have e1 : 256 ^ p = 2 ^ (64 * (p / 8)) * 2 ^ (8 * (p % 8)) := by rw [pow256, ← Nat.pow_add]; congr 1; omega
 apply Vector.ext
 intro j hj
 rw [Vector.getElem_setIfInBounds]
 by_cases hjq : p / 8 = j
 ·subst hjq
  rw [if_pos rfl, lim_get _ _ hp, lim_get _ _ hp]
  apply BitVec.eq_of_toNat_eq
  rw [BitVec.toNat_add, shl_toNat x _ hr, BitVec.toNat_ofNat, BitVec.toNat_ofNat, e0, e1]
  have hpos : 0 < 2 ^ (64 * (p / 8)) := Nat.two_pow_pos _
  rw [show x.toNat * (2 ^ (64 * (p / 8)) * 2 ^ (8 * (p % 8))) = 2 ^ (64 * (p / 8)) * (x.toNat * 2 ^ (8 * (p % 8))) by rw [← Nat.mul_assoc, Nat.mul_comm x.toNat, Nat.mul_assoc], Nat.add_mul_div_left _ _ hpos]
  rw [Nat.add_mod, Nat.mod_mod, ← Nat.add_mod]
 ·rw [if_neg hjq, lim_get _ _ hj, lim_get _ _ hj]
  apply BitVec.eq_of_toNat_eq
  rw [BitVec.toNat_ofNat, BitVec.toNat_ofNat, e0]
  rcases Nat.lt_or_gt_of_ne hjq with h | h
  ·-- the limb lies above
   have hy : x.toNat * 256 ^ p < 256 ^ (p + 1) := by
    rw [Nat.pow_succ, Nat.mul_comm]; exact Nat.mul_lt_mul_of_pos_left hx (Nat.pow_pos (by omega))
   have hc : 2 ^ (64 * j) = 256 ^ (p + 1) * 2 ^ (64 * j - 8 * (p + 1)) := by rw [pow256, ← Nat.pow_add]; congr 1; omega
   rw [hc, ← Nat.div_div_eq_div_mul, ← Nat.div_div_eq_div_mul]
   rw [Nat.mul_comm m, Nat.mul_add_div (Nat.pow_pos (by omega)), Nat.div_eq_of_lt hy, Nat.mul_div_cancel_left _ (Nat.pow_pos (by omega))]
   rfl
  ·-- the limb lies below
   have hc : x.toNat * 256 ^ p = 2 ^ (64 * j) * (2 ^ 64 * (x.toNat * 2 ^ (8 * p - 64 * j - 64))) := by
    rw [show 2 ^ (64 * j) * (2 ^ 64 * (x.toNat * 2 ^ (8 * p - 64 * j - 64))) = x.toNat * (2 ^ (64 * j) * (2 ^ 64 * 2 ^ (8 * p - 64 * j - 64))) by
     rw [Nat.mul_left_comm (2 ^ 64), Nat.mul_left_comm (2 ^ (64 * j))]]
    rw [pow256, ← Nat.pow_add, ← Nat.pow_add]
    congr 2; omega
   rw [hc, Nat.add_mul_div_left _ _ (Nat.two_pow_pos _), Nat.add_mul_mod_self_left]
theorem lim_mult (m p : Nat) (hp : p / 8 < 4) : ∃ a, ((lim (m * 256 ^ (p + 1)))[p / 8]).toNat = 2 ^ (8 * (p % 8 + 1)) * a := by
 rw [lim_get _ _ hp, BitVec.toNat_ofNat]
 have e1 : 256 ^ (p + 1) = 2 ^ (64 * (p / 8)) * 2 ^ (8 * (p % 8 + 1)) := by rw [pow256, ← Nat.pow_add]; congr 1; omega
 rw [e1, Nat.mul_left_comm, Nat.mul_div_cancel_left _ (Nat.two_pow_pos _)]
 have e2 : (2 : Nat) ^ 64 = 2 ^ (8 * (p % 8 + 1)) * 2 ^ (64 - 8 * (p % 8 + 1)) := by rw [← Nat.pow_add]; congr 1; omega
 rw [e2, Nat.mul_comm m, Nat.mul_mod_mul_left]
 exact ⟨_, rfl⟩
theorem lim0 : lim 0 = Vector.replicate 4 0#64 := by
 apply vec4_ext <;> simp [lim]
theorem take_at {l : List (BitVec 8)} {i : Nat} (h : i < l.length) : ∃ x, l[i]? = some x ∧ l.take (i + 1) = l.take i ++ [x] := by
 refine ⟨l[i], List.getElem?_eq_getElem h, ?_⟩
 rw [List.take_add_one, List.getElem?_eq_getElem h]; rfl
theorem get_loop (l : List (BitVec 8)) (hl : l.length ≤ 32) : ∀ (d i k : Nat), i + d = l.length → d < k → u256_Get.l1 l k i (lim (beV (l.take i) * 256 ^ d)) = some (lim (beV l))
 | 0, i, k, h, hk => by
  obtain ⟨k, rfl⟩ : ∃ m, k = m + 1 := ⟨k - 1, by omega⟩
  rw [u256_Get.l1, if_neg (by omega), List.take_of_length_le (by omega), Nat.pow_zero, Nat.mul_one]
 | d + 1, i, k, h, hk => by
  obtain ⟨k, rfl⟩ : ∃ m, k = m + 1 := ⟨k - 1, by omega⟩
  obtain ⟨x, hx, ht⟩ := take_at (l := l) (i := i) (by omega)
  have hp : l.length - 1 - i = d := by omega
  have hd : d / 8 < 4 := by omega
  have hr : d % 8 < 8 := Nat.mod_lt _ (by omega)
  rw [u256_Get.l1, if_pos (by omega), if_pos (by omega), if_pos (by omega), hp, if_pos hd, vget _ _ hd, Zb, hx, Zb]
  obtain ⟨a, ha⟩ := lim_mult (beV (l.take i)) d hd
  have hxl := x.isLt
  rw [or_low _ _ _ a ha (by
   rw [shl_toNat x _ hr, Nat.mul_add, Nat.pow_add, Nat.mul_comm]
   exact Nat.mul_lt_mul_of_pos_left (by omega) (Nat.two_pow_pos _)), set_byte _ _ _ hd, ← beV_snoc, ← ht]
  exact get_loop l hl d (i + 1) k (by omega) (by omega)
theorem rget_loop (l : List (BitVec 8)) (hl : l.length ≤ 32) : ∀ (d i k : Nat), i + d = l.length → d < k → waybillref01_Get.l1 l k i (lim (beV (l.take i) * 256 ^ d)) = some (lim (beV l))
 | 0, i, k, h, hk => by
  obtain ⟨k, rfl⟩ : ∃ m, k = m + 1 := ⟨k - 1, by omega⟩
  rw [waybillref01_Get.l1, if_neg (by omega), List.take_of_length_le (by omega), Nat.pow_zero, Nat.mul_one]
 | d + 1, i, k, h, hk => by
  obtain ⟨k, rfl⟩ : ∃ m, k = m + 1 := ⟨k - 1, by omega⟩
  obtain ⟨x, hx, ht⟩ := take_at (l := l) (i := i) (by omega)
  have hp : l.length - 1 - i = d := by omega
  have hd : d / 8 < 4 := by omega
  have hr : d % 8 < 8 := Nat.mod_lt _ (by omega)
  have e : (BitVec.ofNat 64 (8 * (d % 8))).toNat = 8 * (d % 8) := by rw [BitVec.toNat_ofNat]; omega
  rw [waybillref01_Get.l1, if_pos (by omega), if_pos (by omega), if_pos (by omega), hp, if_pos hd, vget _ _ hd, Zb, hx, Zb, e, set_byte _ _ _ hd, ← beV_snoc, ← ht]
  exact rget_loop l hl d (i + 1) k (by omega) (by omega)
theorem get_eq (l : List (BitVec 8)) (hl : l.length ≤ 32) : u256_Get l = some (lim (beV l), 0) := by
 have h := get_loop l hl l.length 0 (l.length - 0 + 2) (by omega) (by omega)
 rw [List.take_zero, show beV [] = 0 by rfl, Nat.zero_mul, lim0] at h
 unfold u256_Get
 rw [if_neg (by omega), h, Zb]
theorem rget_eq (l : List (BitVec 8)) (hl : l.length ≤ 32) : waybillref01_Get l = some (lim (beV l), 0) := by
 have h := rget_loop l hl l.length 0 (l.length - 0 + 2) (by omega) (by omega)
 rw [List.take_zero, show beV [] = 0 by rfl, Nat.zero_mul, lim0] at h
 unfold waybillref01_Get
 rw [if_neg (by omega), h, Zb]
theorem beV_from (l : List (BitVec 8)) : ∀ n, l.foldl (fun n x => n * 256 + x.toNat) n = n * 256 ^ l.length + beV l := by
 induction l with
 | nil => intro n; simp [beV]
 | cons x r ih =>
  intro n
  unfold beV
  rw [List.foldl_cons, List.foldl_cons, ih, ih (0 * 256 + x.toNat), List.length_cons, Nat.pow_succ, Nat.add_mul, Nat.add_mul, Nat.zero_mul]
  have e : n * 256 * 256 ^ r.length = n * (256 ^ r.length * 256) := by rw [Nat.mul_assoc, Nat.mul_comm 256]
  omega
theorem beV_append (a b : List (BitVec 8)) : beV (a ++ b) = beV a * 256 ^ b.length + beV b := by
 rw [beV, List.foldl_append, beV_from]; rfl
theorem beV_lt (l : List (BitVec 8)) : beV l < 256 ^ l.length := by
 induction l with
 | nil => simp [beV]
 | cons x r ih =>
  have hx := x.isLt
  have h := beV_append [x] r
  rw [List.singleton_append] at h
  rw [h, List.length_cons, Nat.pow_succ, Nat.mul_comm (256 ^ r.length)]
  have h1 : beV [x] = x.toNat := by simp [beV]
  rw [h1]
  have h2 : x.toNat * 256 ^ r.length + 256 ^ r.length ≤ 256 * 256 ^ r.length := by
   rw [← Nat.succ_mul]; exact Nat.mul_le_mul_right _ (by omega)
  omega
end Go.Fw
namespace Go.Fw
def small (s : List (BitVec 8)) (h : Nat) : Bool := match s[h]? with
 | some x => decide (x.toNat < 128)
 | none => false
def finS (s : List (BitVec 8)) (list : Bool) (h n : Nat) : Nat × Bool × Nat × Nat :=
 if s.length - h < n then (70, false, 0, 0) else if list = false ∧ n = 1 ∧ small s h = true then (71, false, 0, 0) else (0, list, h, n)
def cutS (s : List (BitVec 8)) : Nat × Bool × Nat × Nat := match s[0]? with
 | none => (70, false, 0, 0)
 | some c => if c.toNat < 128 then (0, false, 0, 1) else
  if 55 < c.toNat % 64 then
   (if s.length - 1 < c.toNat % 64 - 55 then (70, false, 0, 0) else
    if s[1]? = some 0#8 ∨ beV ((s.drop 1).take (c.toNat % 64 - 55)) ≤ 55 then (72, false, 0, 0) else
     if s.length - 1 - (c.toNat % 64 - 55) < beV ((s.drop 1).take (c.toNat % 64 - 55)) then (70, false, 0, 0) else
      finS s (decide (192 ≤ c.toNat)) (1 + (c.toNat % 64 - 55)) (beV ((s.drop 1).take (c.toNat % 64 - 55))))
  else finS s (decide (192 ≤ c.toNat)) 1 (c.toNat % 64)
theorem pow8 : 256 ^ 8 = 2 ^ 64 := by decide
theorem beV_small {l : List (BitVec 8)} {k : Nat} (h : l.length ≤ k) (hk : k ≤ 8) : beV l < 2 ^ 64 := by
 have h1 := beV_lt l
 have h2 : 256 ^ l.length ≤ 256 ^ 8 := Nat.pow_le_pow_right (by omega) (by omega)
 have := pow8
 omega
theorem val4_lim' {n : Nat} (h : n < 2 ^ 64) : val4 (lim n) = n := val4_lim n (Nat.lt_trans h (by decide))
theorem lim0_toNat {n : Nat} (h : n < 2 ^ 64) : ((lim n)[0]).toNat = n := by
 rw [lim_get n 0 (by omega), BitVec.toNat_ofNat, Nat.mul_zero, Nat.pow_zero, Nat.div_one, Nat.mod_eq_of_lt h]
theorem cmpN_le (a b : Nat) : cmpN a b ≤ 0 ↔ a ≤ b := by unfold cmpN; split <;> (try split) <;> omega
theorem cmpN_gt (a b : Nat) : 0 < cmpN a b ↔ b < a := by unfold cmpN; split <;> (try split) <;> omega
theorem cmp_of {v n : Nat} (hv : v < 2 ^ 64) (hn : n < 2 ^ 64) : u256_Cmp (lim v) (lim (BitVec.ofNat 64 n).toNat) = some (cmpN v n) := by
 rw [cmp_eq, val4_lim' hv, BitVec.toNat_ofNat, Nat.mod_eq_of_lt hn, val4_lim' hn]
def cutR (s : List (BitVec 8)) : Option (Bool × List (BitVec 8) × List (BitVec 8) × Nat) :=
 match cutS s with
 | (e, l, h, n) => if e = 0 then some (l, (s.drop h).take n, s.drop (h + n), 0) else some (false, [], [], e)
theorem get0 {s : List (BitVec 8)} {i : Nat} (h : i < s.length) : s[i]? = some (s[i]) := List.getElem?_eq_getElem h
theorem cut_fin (s : List (BitVec 8)) (c : BitVec 8) (hc : ¬ c.toNat < 128) (h n : Nat) (hh : h ≤ s.length) :
    (if (s.drop h).length < n then (some (false, ([] : List (BitVec 8)), ([] : List (BitVec 8)), 70)) else (((if 192 ≤ c.toNat then (some (false)) else (if n = 1 then ((s.drop h)[0]?).bind fun x56 => (some ((decide (x56.toNat < 128)))) else (some (false)))) : Option ((Bool))).bind fun p42 => (if p42 = true then (some (false, ([] : List (BitVec 8)), ([] : List (BitVec 8)), 71)) else (if n ≤ (s.drop h).length then (some ((decide (192 ≤ c.toNat)), ((s.drop h).take n), ((s.drop h).drop n), 0)) else none)))) =
    (match finS s (decide (192 ≤ c.toNat)) h n with
     | (e, l, h, n) => if e = 0 then some (l, (s.drop h).take n, s.drop (h + n), 0) else some (false, [], [], e)) := by
 unfold finS
 rw [List.length_drop]
 by_cases h1 : s.length - h < n
 ·rw [if_pos h1, if_pos h1]; rfl
 rw [if_neg h1, if_neg h1]
 by_cases h2 : 192 ≤ c.toNat
 ·rw [if_pos h2, Zb, if_neg (by simp), if_pos (by omega), if_neg (by simp [h2])]
  simp [h2, List.drop_drop]
 ·rw [if_neg h2]
  by_cases h3 : n = 1
  ·subst h3
   have hlt : h < s.length := by omega
   rw [if_pos rfl, List.getElem?_drop, Nat.add_zero, get0 hlt, Zb, Zb]
   by_cases h4 : (s[h]).toNat < 128
   ·rw [if_pos (by simpa using h4), if_pos ⟨by simp [h2], rfl, by simp [small, get0 hlt, h4]⟩]; rfl
   ·rw [if_neg (by simpa using h4), if_pos (by omega), if_neg (by simp [small, get0 hlt, h4])]
    simp [h2, List.drop_drop]
  ·rw [if_neg h3, Zb, if_neg (by simp), if_pos (by omega), if_neg (by simp [h3])]
   simp [h2, List.drop_drop]
theorem cut_eq (s : List (BitVec 8)) (hs : s.length ≤ 140737488355328) : rlp_cut s = cutR s := by
 unfold rlp_cut cutR cutS
 by_cases h0 : s.length = 0
 ·rw [if_pos h0, List.getElem?_eq_none (by omega)]; rfl
 rw [if_neg h0, get0 (by omega : 0 < s.length), Zb]
 generalize hc : s[0] = c
 have hcl := c.isLt
 simp only []
 by_cases h1 : c.toNat < 128
 ·rw [if_pos h1, if_pos h1, if_pos (by omega)]; simp
 rw [if_neg h1, if_neg h1]
 have hn0 : (if 192 ≤ c.toNat then (some ((c - 192#8).toNat)) else (some ((c - 128#8).toNat))) = some (c.toNat % 64) := by
  by_cases h2 : 192 ≤ c.toNat
  ·rw [if_pos h2, BitVec.toNat_sub]; congr 1; simp; omega
  ·rw [if_neg h2, BitVec.toNat_sub]; congr 1; simp; omega
 rw [hn0, Zb, if_pos (by omega)]
 by_cases h3 : 55 < c.toNat % 64
 ·rw [if_pos h3, if_pos h3]
  generalize hk : c.toNat % 64 - 55 = k
  have hk8 : k ≤ 8 := by omega
  rw [List.length_drop]
  by_cases h4 : s.length - 1 < k
  ·rw [if_pos h4, if_pos h4]; rfl
  rw [if_neg h4, if_neg h4, if_pos (by omega)]
  have hlen : ((s.drop 1).take k).length = k := by rw [List.length_take, List.length_drop]; omega
  have hv := beV_small (l := (s.drop 1).take k) (k := k) (by omega) hk8
  rw [get_eq _ (by omega), Zb]
  generalize hV : beV ((s.drop 1).take k) = v at hv
  have h1k : (s.drop 1)[0]? = some s[1] := by rw [List.getElem?_drop]; exact get0 (by omega)
  rw [h1k, Zb, get0 (by omega : 1 < s.length)]
  by_cases h5 : s[1] = 0#8
  ·rw [if_pos h5, Zb, if_pos rfl, if_pos (show some s[1] = some 0#8 ∨ v ≤ 55 from .inl (by rw [h5]))]; rfl
  rw [if_neg h5, show (55#64 : BitVec 64) = BitVec.ofNat 64 55 by rfl, from_eq, Zb, cmp_of hv (by decide), Zb, Zb]
  by_cases h6 : v ≤ 55
  ·rw [if_pos (by simpa using (cmpN_le v 55).2 h6), if_pos (show some s[1] = some 0#8 ∨ v ≤ 55 from .inr h6)]; rfl
  rw [if_neg (by simpa using fun h => h6 ((cmpN_le v 55).1 h)), if_neg (show ¬ (some s[1] = some 0#8 ∨ v ≤ 55) by rintro (h | h); exact h5 (by simpa using h); exact h6 h)]
  rw [from_eq, Zb, List.length_drop, List.length_drop, cmp_of hv (by omega), Zb]
  by_cases h7 : s.length - 1 - k < v
  ·rw [if_pos ((cmpN_gt _ _).2 h7), if_pos h7]; rfl
  rw [if_neg (fun h => h7 ((cmpN_gt _ _).1 h)), if_neg h7, lim0_toNat hv, if_pos (by omega), Zb]
  simp only []
  rw [List.drop_drop]
  exact cut_fin s c h1 (1 + k) v (by omega)
 ·rw [if_neg h3, if_neg h3, Zb]
  exact cut_fin s c h1 1 _ (by omega)
end Go.Fw
namespace Go.Fw
theorem cutS_in {s : List (BitVec 8)} {l : Bool} {h n : Nat} (e : cutS s = (0, l, h, n)) : h + n ≤ s.length ∧ 0 < h + n := by
 have fin : ∀ l' h' n', finS s l' h' n' = (0, l, h, n) → 0 < h' → h' ≤ s.length → h + n ≤ s.length ∧ 0 < h + n := by
  intro l' h' n' e hp hle
  unfold finS at e
  split at e
  ·cases e
  split at e
  ·cases e
  ·cases e; omega
 unfold cutS at e
 split at e
 ·cases e
 ·rename_i c hc
  have hlt := (List.getElem?_eq_some_iff.1 hc).1
  split at e
  ·cases e; omega
  split at e
  ·split at e
   ·cases e
   split at e
   ·cases e
   split at e
   ·cases e
   ·exact fin _ _ _ e (by omega) (by omega)
  ·exact fin _ _ _ e (by omega) (by omega)
end Go.Fw
namespace Go.Fw
theorem drop_cons_at {α : Type} {l : List α} {i : Nat} (h : i < l.length) : l.drop i = l[i] :: l.drop (i + 1) := List.drop_eq_getElem_cons h
end Go.Fw
namespace Go.Fw
def headB (c n : Nat) : List (BitVec 8) := if n ≤ 55 then [BitVec.ofNat 8 (c + n)] else BitVec.ofNat 8 (c + 55 + nb n) :: bytesN n
theorem Z134 (n : Nat) : (bytesN n).length = nb n := be_length _ _
theorem nb_8 {n : Nat} (h : n < 2 ^ 64) : nb n ≤ 8 := by have := bl_le (k := 64) h; unfold nb; omega
theorem headB_length {c n : Nat} (h : n < 2 ^ 64) : (headB c n).length ≤ 9 ∧ 0 < (headB c n).length := by
 unfold headB
 split
 ·simp
 ·rw [List.length_cons, Z134]; have := nb_8 h; omega
theorem ofNat_toNat64 {n : Nat} (h : n < 2 ^ 64) : (BitVec.ofNat 64 n).toNat = n := by rw [BitVec.toNat_ofNat, Nat.mod_eq_of_lt h]
theorem head_spec (c n : Nat) (hn : n ≤ 9223372036854775807) : rlp_head (BitVec.ofNat 8 c) n = some (headB c n) := by
 unfold rlp_head headB
 by_cases h : n ≤ 55
 ·rw [if_pos h, if_pos h, BitVec.ofNat_add]
 ·have h64 : n < 2 ^ 64 := by omega
  have h8 := nb_8 h64
  rw [if_neg h, if_neg h, from_eq, Zb, bytes_eq, Zb, val4_lim' (BitVec.isLt _), ofNat_toNat64 h64, Z134, if_pos (by simp only [List.length_cons, List.length_nil]; omega)]
  congr 1
  rw [List.singleton_append, BitVec.ofNat_add, BitVec.ofNat_add]
end Go.Fw
namespace Go.Fw
mutual
def It.wt : It → Nat
 | .mk _ d its => d.length + its.length + 1 + Its.wt its
def Its.wt : List It → Nat
 | [] => 0
 | x :: xs => It.wt x + Its.wt xs
end
theorem It.wt_eq (x : It) : x.wt = x.data.length + x.items.length + 1 + Its.wt x.items := by cases x; simp [It.wt, It.data, It.items]
theorem It.sz_eq (x : It) : x.sz = 1 + Its.sz x.items := by cases x; simp [It.sz, It.items]
theorem Its.wt_mem : ∀ {l : List It} {x : It}, x ∈ l → It.wt x ≤ Its.wt l
 | y :: l, x, hx => by
  simp only [Its.wt]
  rcases List.mem_cons.1 hx with rfl | hx
  ·omega
  ·have := Its.wt_mem hx; omega
theorem Its.sz_mem : ∀ {l : List It} {x : It}, x ∈ l → It.sz x ≤ Its.sz l
 | y :: l, x, hx => by
  simp only [Its.sz]
  rcases List.mem_cons.1 hx with rfl | hx
  ·omega
  ·have := Its.sz_mem hx; omega
end Go.Fw
namespace Go.Fw
theorem Its.len_wt : ∀ l : List It, l.length ≤ Its.wt l
 | [] => by simp
 | x :: l => by
  have := Its.len_wt l
  have := It.wt_eq x
  simp only [Its.wt, List.length_cons]; omega
theorem Its.wt_items {l : List It} {x : It} (h : x ∈ l) : Its.wt x.items ≤ Its.wt l := by
 have := Its.wt_mem h
 have := It.wt_eq x
 omega
theorem Its.sz_items {l : List It} {x : It} (h : x ∈ l) : Its.sz x.items < Its.sz l := by
 have := Its.sz_mem h
 have := It.sz_eq x
 omega
theorem twin_loop (a : List It) (rc : List It → Option (List It)) (ha : a.length ≤ 2147483647) (hrc : ∀ x ∈ a, rc x.items = some x.items) : ∀ (d i k : Nat) (l : List It), i + d = a.length → d < k → l = a.take i → rlp_twin.l1 a rc k l i = some a
 | 0, i, k, l, h, hk, hl => by
  obtain ⟨k, rfl⟩ : ∃ m, k = m + 1 := ⟨k - 1, by omega⟩
  rw [rlp_twin.l1, if_neg (by omega), hl, List.take_of_length_le (by omega)]
 | d + 1, i, k, l, h, hk, hl => by
  obtain ⟨k, rfl⟩ : ∃ m, k = m + 1 := ⟨k - 1, by omega⟩
  have h1 : i < a.length := by omega
  have h5 : l.length = i := by rw [hl, List.length_take]; omega
  rw [rlp_twin.l1, if_pos h1, List.getElem?_eq_getElem h1, Zb, rlp_clone, Zb, hrc _ (List.getElem_mem h1), Zb, if_pos (by simp only [List.length_cons, List.length_nil]; omega), ← It.eta]
  exact twin_loop a rc ha hrc d (i + 1) k _ (by omega) (by omega) (by rw [List.take_add_one, List.getElem?_eq_getElem h1, hl]; rfl)
theorem twin_r : ∀ (k : Nat) (a : List It), Its.sz a < k → Its.wt a ≤ 2147483647 → rlp_twin.r k a = some a
 | 0, a, h, _ => by omega
 | k + 1, a, h, hw => by
  rw [rlp_twin.r, twin_loop a _ (by have := Its.len_wt a; omega) (fun x hx => twin_r k x.items (by have := Its.sz_items hx; omega) (by have := Its.wt_items hx; omega)) a.length 0 _ _ (by omega) (by omega) (by simp), Zb]
theorem twin_eq {a : List It} (h : Its.wt a ≤ 2147483647) : rlp_twin a = some a := twin_r _ a (by omega) h
theorem number_eq (v : Vector (BitVec 64) 4) : rlp_Number v = some (.mk false (bytesN (val4 v)) []) := by unfold rlp_Number; rw [bytes_eq, Zb]
theorem small_eq (x : BitVec 64) : rlp_Small x = some (.mk false (bytesN (val4 (lim x.toNat))) []) := by unfold rlp_Small; rw [from_eq, Zb, number_eq, Zb]
theorem text_eq (x : List (BitVec 8)) : rlp_Text x = some (.mk false x []) := by unfold rlp_Text; rw [rlp_clone, Zb]
end Go.Fw
namespace Go.Fw
theorem beV_cons (x : BitVec 8) (r : List (BitVec 8)) : beV (x :: r) = x.toNat * 256 ^ r.length + beV r := by
 have h := beV_append [x] r
 rw [List.singleton_append] at h
 rw [h]; simp [beV]
theorem beV_be (n : Nat) : ∀ k, beV (be k n) = n % 256 ^ k
 | 0 => by simp [be, beV, Nat.mod_one]
 | k + 1 => by
  rw [be, beV_cons, be_length, beV_be n k, BitVec.toNat_ofNat]
  have h : n % 256 ^ (k + 1) = n % 256 ^ k + 256 ^ k * (n / 256 ^ k % 256) := Nat.mod_pow_succ
  rw [h, Nat.mul_comm, Nat.add_comm]
theorem nb_bd {n : Nat} : n < 256 ^ nb n := by
 by_cases h0 : n = 0
 ·subst h0; exact Nat.pow_pos (by omega)
 obtain ⟨j, h1, h2, h3⟩ := bl_spec h0
 rw [pow256]
 refine Nat.lt_of_lt_of_le h3 (Nat.pow_le_pow_right (by omega) ?_)
 unfold nb; omega
theorem beV_bytesN (n : Nat) : beV (bytesN n) = n := by
 unfold bytesN; rw [beV_be, Nat.mod_eq_of_lt nb_bd]
theorem be_high (a b j : Nat) : ∀ k, k ≤ j → be k (a * 256 ^ j + b) = be k b
 | 0, _ => rfl
 | k + 1, h => by
  rw [be, be, be_high a b j k (by omega)]
  congr 1
  have e : a * 256 ^ j = 256 ^ k * (256 * (a * 256 ^ (j - k - 1))) := by
   have e2 : 256 ^ j = 256 ^ k * (256 * 256 ^ (j - k - 1)) := by rw [← Nat.pow_succ', ← Nat.pow_add]; congr 1; omega
   rw [e2]
   simp only [Nat.mul_comm, Nat.mul_left_comm, Nat.mul_assoc]
  rw [e, Nat.mul_add_div (Nat.pow_pos (by omega))]
  apply BitVec.eq_of_toNat_eq
  rw [BitVec.toNat_ofNat, BitVec.toNat_ofNat]
  omega
theorem be_beV : ∀ l : List (BitVec 8), be l.length (beV l) = l
 | [] => rfl
 | x :: r => by
  rw [List.length_cons, be, beV_cons, be_high _ _ _ _ (Nat.le_refl _), be_beV r]
  congr 1
  have h := beV_lt r
  have hx := x.isLt
  rw [Nat.mul_comm, Nat.mul_add_div (Nat.pow_pos (by omega)), Nat.div_eq_of_lt h]
  apply BitVec.eq_of_toNat_eq
  rw [BitVec.toNat_ofNat]
  omega
theorem nb_beV {x : BitVec 8} {r : List (BitVec 8)} (hx : x ≠ 0#8) : nb (beV (x :: r)) = r.length + 1 := by
 have h1 := beV_lt (x :: r)
 have h0 : 0 < x.toNat := Nat.pos_of_ne_zero (fun e => hx (BitVec.eq_of_toNat_eq (by simpa using e)))
 have h2 : 256 ^ r.length ≤ beV (x :: r) := by rw [beV_cons]; have := Nat.mul_le_mul_right (256 ^ r.length) h0; omega
 have hp : 0 < 256 ^ r.length := Nat.pow_pos (by omega)
 obtain ⟨j, e1, e2, e3⟩ := bl_spec (n := beV (x :: r)) (by omega)
 rw [List.length_cons] at h1
 rw [pow256] at h1 h2
 have h3 : 8 * r.length < j + 1 := (Nat.pow_lt_pow_iff_right (by omega : 1 < 2)).1 (by omega)
 have h4 : j < 8 * (r.length + 1) := (Nat.pow_lt_pow_iff_right (by omega : 1 < 2)).1 (by omega)
 unfold nb; omega
theorem bytesN_beV {l : List (BitVec 8)} (h : l[0]? ≠ some 0#8) : bytesN (beV l) = l := by
 cases l with
 | nil => rfl
 | cons x r =>
  have hx : x ≠ 0#8 := fun e => h (by simp [e])
  unfold bytesN
  rw [nb_beV hx, ← List.length_cons (a := x), be_beV]
theorem bytesN_top {n : Nat} (h : n ≠ 0) : (bytesN n)[0]? ≠ some 0#8 := by
 have h1 : 0 < nb n := by obtain ⟨j, e, _, _⟩ := bl_spec h; unfold nb; omega
 unfold bytesN
 rw [be_get _ _ _ h1, Nat.sub_zero]
 exact fun e => byte_top h (by simpa using e)
theorem finS_ok {s : List (BitVec 8)} {l : Bool} {h n : Nat} (h1 : h + n ≤ s.length) (h2 : l = false → n = 1 → small s h = false) : finS s l h n = (0, l, h, n) := by
 unfold finS
 rw [if_neg (by omega), if_neg]
 rintro ⟨a, b, c⟩
 rw [h2 a b] at c
 cases c
theorem nat8 {n : Nat} (h : n < 256) : (BitVec.ofNat 8 n).toNat = n := by rw [BitVec.toNat_ofNat]; omega
theorem cut_head {c : Nat} (hc : c = 128 ∨ c = 192) (d r : List (BitVec 8)) (hd : d.length ≤ 16777216) (hs : c = 128 → d.length = 1 → small d 0 = false) :
    cutS (headB c d.length ++ d ++ r) = (0, decide (c = 192), (headB c d.length).length, d.length) := by
 have hsm : small (headB c d.length ++ d ++ r) (headB c d.length).length = false ∨ d.length ≠ 1 ∨ c = 192 := by
  rcases hc with rfl | rfl
  ·by_cases h1 : d.length = 1
   ·refine .inl ?_
    have := hs rfl h1
    unfold small at this ⊢
    rw [List.append_assoc, List.getElem?_append_right (Nat.le_refl _), Nat.sub_self, List.getElem?_append_left (by omega)]
    exact this
   ·exact .inr (.inl h1)
  ·exact .inr (.inr rfl)
 have hlen : (headB c d.length ++ d ++ r).length = (headB c d.length).length + d.length + r.length := by simp [Nat.add_assoc]
 have hfin : finS (headB c d.length ++ d ++ r) (decide (c = 192)) (headB c d.length).length d.length = (0, decide (c = 192), (headB c d.length).length, d.length) := by
  refine finS_ok (by omega) (fun e1 e2 => ?_)
  rcases hsm with h | h | h
  ·exact h
  ·exact absurd e2 h
  ·simp [h] at e1
 have h8 := nb_8 (n := d.length) (by omega)
 unfold cutS
 by_cases h55 : d.length ≤ 55
 ·have e0 : headB c d.length = [BitVec.ofNat 8 (c + d.length)] := by unfold headB; rw [if_pos h55]
  rw [e0] at hfin hlen ⊢
  have hb : (BitVec.ofNat 8 (c + d.length)).toNat = c + d.length := nat8 (by omega)
  have h64 : (c + d.length) % 64 = d.length := by omega
  have hdec : decide (192 ≤ c + d.length) = decide (c = 192) := decide_eq_decide.2 (by omega)
  show (if (BitVec.ofNat 8 (c + d.length)).toNat < 128 then _ else _) = _
  rw [if_neg (by omega), if_neg (by omega), hb, h64, hdec]
  exact hfin
 ·have e0 : headB c d.length = BitVec.ofNat 8 (c + 55 + nb d.length) :: bytesN d.length := by unfold headB; rw [if_neg h55]
  have hbl := Z134 d.length
  have h1 : 0 < nb d.length := by obtain ⟨j, e, _, _⟩ := bl_spec (n := d.length) (by omega); unfold nb; omega
  rw [e0] at hfin hlen ⊢
  rw [List.length_cons, hbl] at hfin hlen ⊢
  have hb : (BitVec.ofNat 8 (c + 55 + nb d.length)).toNat = c + 55 + nb d.length := nat8 (by omega)
  have h64 : (c + 55 + nb d.length) % 64 - 55 = nb d.length := by omega
  have hdec : decide (192 ≤ c + 55 + nb d.length) = decide (c = 192) := decide_eq_decide.2 (by omega)
  have hk : (((BitVec.ofNat 8 (c + 55 + nb d.length) :: bytesN d.length ++ d ++ r).drop 1).take (nb d.length)) = bytesN d.length := by
   rw [List.cons_append, List.cons_append, List.drop_succ_cons, List.drop_zero, List.append_assoc, List.take_append_of_le_length (by omega), List.take_of_length_le (by omega)]
  have h1' : (BitVec.ofNat 8 (c + 55 + nb d.length) :: bytesN d.length ++ d ++ r)[1]? = (bytesN d.length)[0]? := by
   rw [List.cons_append, List.cons_append, List.getElem?_cons_succ, List.append_assoc, List.getElem?_append_left (by omega)]
  show (if (BitVec.ofNat 8 (c + 55 + nb d.length)).toNat < 128 then _ else _) = _
  rw [if_neg (by omega), if_pos (by omega), hb, h64, hdec, hk, h1', beV_bytesN, if_neg (by omega), if_neg, if_neg (by omega), Nat.add_comm 1]
  ·exact hfin
  ·rintro (h | h)
   ·exact bytesN_top (by omega) h
   ·omega
theorem cut_back {s : List (BitVec 8)} {l : Bool} {h n : Nat} (hs : s.length ≤ 16777216) (e : cutS s = (0, l, h, n)) : (h = 0 ∧ n = 1 ∧ l = false ∧ small s 0 = true) ∨ (s.take h = headB (if l then 192 else 128) n ∧ (l = false → n = 1 → small s h = false)) := by
 have fin : ∀ l' h' n', finS s l' h' n' = (0, l, h, n) → l = l' ∧ h = h' ∧ n = n' ∧ h' + n' ≤ s.length + 0 * h' ∨ s.length < h' := by
  intro l' h' n' e
  unfold finS at e
  split at e
  ·cases e
  split at e
  ·cases e
  ·cases e
   by_cases hh : s.length < h
   ·exact .inr hh
   ·exact .inl ⟨rfl, rfl, rfl, by omega⟩
 have fin2 : ∀ l' h' n', finS s l' h' n' = (0, l, h, n) → l' = false → n' = 1 → small s h' = false := by
  intro l' h' n' e a b
  unfold finS at e
  split at e
  ·cases e
  split at e
  ·cases e
  ·rename_i hn
   have : ¬ small s h' = true := fun hc => hn ⟨a, b, hc⟩
   simpa using this
 unfold cutS at e
 split at e
 ·cases e
 ·rename_i c hc
  have hlt := (List.getElem?_eq_some_iff.1 hc).1
  have hcl := c.isLt
  split at e
  ·rename_i h1
   cases e
   exact .inl ⟨rfl, rfl, rfl, by unfold small; rw [hc]; simpa using h1⟩
  rename_i h1
  right
  have hd : ∀ b : Bool, b = decide (192 ≤ c.toNat) → (if b then 192 else 128) = c.toNat - c.toNat % 64 := by
   rintro b rfl
   by_cases h2 : 192 ≤ c.toNat
   ·simp [h2]; omega
   ·simp [h2]; omega
  split at e
  ·rename_i h2
   split at e
   ·cases e
   split at e
   ·cases e
   split at e
   ·cases e
   ·rename_i h3 h4 h5
    rcases fin _ _ _ e with ⟨rfl, rfl, rfl, _⟩ | hh
    ·refine ⟨?_, fin2 _ _ _ e⟩
     generalize hk : c.toNat % 64 - 55 = k at h3 h4 h5 e ⊢
     have h6 : ¬ s[1]? = some 0#8 := fun e => h4 (.inl e)
     have h7 : ¬ beV ((s.drop 1).take k) ≤ 55 := fun e => h4 (.inr e)
     have hl : ((s.drop 1).take k).length = k := by rw [List.length_take, List.length_drop]; omega
     have h8 : ((s.drop 1).take k)[0]? ≠ some 0#8 := by
      rw [List.getElem?_take, if_pos (by omega), List.getElem?_drop]; exact h6
     have h9 := bytesN_beV h8
     have h10 : nb (beV ((s.drop 1).take k)) = k := by rw [← Z134, h9, hl]
     unfold headB
     rw [if_neg h7, h9, h10, hd _ rfl, show c.toNat - c.toNat % 64 + 55 + k = c.toNat by omega, BitVec.ofNat_toNat, BitVec.setWidth_eq]
     obtain ⟨t, rfl⟩ : ∃ t, s = c :: t := by
      cases s with
      | nil => simp at hlt
      | cons a t => simp at hc; exact ⟨t, by rw [hc]⟩
     rw [Nat.add_comm 1, List.take_succ_cons, List.drop_succ_cons, List.drop_zero]
    ·omega
  ·rename_i h2
   rcases fin _ _ _ e with ⟨rfl, rfl, rfl, _⟩ | hh
   ·refine ⟨?_, fin2 _ _ _ e⟩
    unfold headB
    rw [if_pos (by omega), hd _ rfl, show c.toNat - c.toNat % 64 + c.toNat % 64 = c.toNat by omega, BitVec.ofNat_toNat, BitVec.setWidth_eq]
    obtain ⟨t, rfl⟩ : ∃ t, s = c :: t := by
     cases s with
     | nil => simp at hlt
     | cons a t => simp at hc; exact ⟨t, by rw [hc]⟩
    rfl
   ·omega
end Go.Fw
namespace Go.Fw
def oneB (d : List (BitVec 8)) : Bool := decide (d.length = 1) && small d 0
mutual
def It.enc : It → List (BitVec 8)
 | .mk l d its => if l = true then headB 192 (Its.enc its).length ++ Its.enc its else if oneB d = true then d else headB 128 d.length ++ d
def Its.enc : List It → List (BitVec 8)
 | [] => []
 | x :: xs => It.enc x ++ Its.enc xs
end
mutual
def It.good : It → Prop
 | .mk l d its => (l = true → d = []) ∧ (l = false → its = []) ∧ Its.good its
def Its.good : List It → Prop
 | [] => True
 | x :: xs => It.good x ∧ Its.good xs
end
mutual
def It.w9 : It → Nat
 | .mk _ d its => 9 + d.length + Its.w9 its
def Its.w9 : List It → Nat
 | [] => 0
 | x :: xs => It.w9 x + Its.w9 xs
end
mutual
def It.dep : It → Nat
 | .mk l _ its => if l = true then Its.dep its + 1 else 0
def Its.dep : List It → Nat
 | [] => 0
 | x :: xs => max (It.dep x) (Its.dep xs)
end
theorem It.enc_eq (x : It) : x.enc = if x.list = true then headB 192 (Its.enc x.items).length ++ Its.enc x.items else if oneB x.data = true then x.data else headB 128 x.data.length ++ x.data := by
 cases x; rw [It.enc]; rfl
theorem It.good_eq (x : It) : x.good ↔ (x.list = true → x.data = []) ∧ (x.list = false → x.items = []) ∧ Its.good x.items := by cases x; rw [It.good]; rfl
theorem It.w9_eq (x : It) : x.w9 = 9 + x.data.length + Its.w9 x.items := by cases x; rw [It.w9]; rfl
theorem It.dep_eq (x : It) : x.dep = if x.list = true then Its.dep x.items + 1 else 0 := by cases x; rw [It.dep]; rfl
theorem Its.good_mem : ∀ {l : List It}, Its.good l → ∀ x ∈ l, It.good x
 | [], _, x, hx => by cases hx
 | y :: l, h, x, hx => by
  simp only [Its.good] at h
  rcases List.mem_cons.1 hx with rfl | hx
  ·exact h.1
  ·exact Its.good_mem h.2 x hx
theorem Its.w9_mem : ∀ {l : List It} {x : It}, x ∈ l → It.w9 x ≤ Its.w9 l
 | y :: l, x, hx => by
  simp only [Its.w9]
  rcases List.mem_cons.1 hx with rfl | hx
  ·omega
  ·have := Its.w9_mem hx; omega
theorem Its.dep_mem : ∀ {l : List It} {x : It}, x ∈ l → It.dep x ≤ Its.dep l
 | y :: l, x, hx => by
  simp only [Its.dep]
  rcases List.mem_cons.1 hx with rfl | hx
  ·omega
  ·have := Its.dep_mem hx; omega
theorem Its.dep_drop {l : List It} {i : Nat} (h : i < l.length) : Its.dep (l.drop i) = max (It.dep l[i]) (Its.dep (l.drop (i + 1))) := by rw [drop_cons_at h, Its.dep]
theorem Its.enc_drop {l : List It} {i : Nat} (h : i < l.length) : Its.enc (l.drop i) = It.enc l[i] ++ Its.enc (l.drop (i + 1)) := by rw [drop_cons_at h, Its.enc]
mutual
theorem It.wt_w9 : ∀ x : It, x.wt + 1 ≤ x.w9
 | .mk l d its => by
  have := Its.wt_w9 its
  simp only [It.wt, It.w9]; omega
theorem Its.wt_w9 : ∀ l : List It, Its.wt l + l.length ≤ Its.w9 l
 | [] => by simp [Its.wt, Its.w9]
 | x :: l => by
  have := It.wt_w9 x
  have := Its.wt_w9 l
  simp only [Its.wt, Its.w9, List.length_cons]; omega
end
theorem oneB_len {d : List (BitVec 8)} (h : oneB d = true) : d.length = 1 ∧ small d 0 = true := by
 unfold oneB at h
 simpa using h
mutual
theorem It.enc_le : ∀ x : It, x.w9 ≤ 1099511627776 → x.enc.length ≤ x.w9 ∧ 0 < x.enc.length
 | .mk l d its, h => by
  simp only [It.w9] at h ⊢
  have h1 := Its.enc_le its (by omega)
  have h2 := headB_length (c := 192) (n := (Its.enc its).length) (by omega)
  have h3 := headB_length (c := 128) (n := d.length) (by omega)
  rw [It.enc]
  split
  ·rw [List.length_append]; omega
  split
  ·rename_i h4; have := (oneB_len h4).1; omega
  ·rw [List.length_append]; omega
theorem Its.enc_le : ∀ l : List It, Its.w9 l ≤ 1099511627776 → (Its.enc l).length ≤ Its.w9 l
 | [], h => by simp [Its.enc]
 | x :: l, h => by
  simp only [Its.w9] at h ⊢
  have := It.enc_le x (by omega)
  have := Its.enc_le l (by omega)
  rw [Its.enc, List.length_append]; omega
end
theorem odd_good {x : It} (h : x.good) : rlp_odd x = some false := by
 have h := (It.good_eq x).1 h
 unfold rlp_odd
 by_cases hl : x.list = true
 ·rw [if_pos hl, h.1 hl, if_neg (by simp), if_pos hl]; rfl
 ·rw [if_neg hl, if_neg hl, h.2.1 (by simpa using hl)]; rfl
theorem sound_loop (x : It) (rc : It → Option (Nat × Bool)) (hrc : ∀ y ∈ x.items, rc y = some (y.dep, true)) : ∀ (d i k m : Nat), i + d = x.items.length → d < k → rlp_sound.l1 x rc k m i = some (Lp.go (max m (Its.dep (x.items.drop i))))
 | 0, i, k, m, h, hk => by
  obtain ⟨k, rfl⟩ : ∃ m, k = m + 1 := ⟨k - 1, by omega⟩
  rw [rlp_sound.l1, if_neg (by omega), List.drop_of_length_le (by omega), Its.dep, Nat.max_zero]
 | d + 1, i, k, m, h, hk => by
  obtain ⟨k, rfl⟩ : ∃ m, k = m + 1 := ⟨k - 1, by omega⟩
  have h1 : i < x.items.length := by omega
  rw [rlp_sound.l1, if_pos h1, get0' h1, Zb, hrc _ (List.getElem_mem h1), Zb]
  try dsimp only
  rw [if_pos rfl, sound_loop x rc hrc d (i + 1) k _ (by omega) (by omega), Its.dep_drop h1, Nat.max_assoc]
where
 get0' {α : Type} {s : List α} {i : Nat} (h : i < s.length) : s[i]? = some s[i] := List.getElem?_eq_getElem h
theorem sound_r : ∀ (k : Nat) (x : It), x.sz < k → x.good → x.dep ≤ 4611686018427387904 → rlp_sound.r k x = some (x.dep, true)
 | 0, x, h, _, _ => by omega
 | k + 1, x, h, hg, hd => by
  have hg' := (It.good_eq x).1 hg
  have hs := It.sz_eq x
  rw [rlp_sound.r, odd_good hg, Zb, if_neg (by simp)]
  rw [It.dep_eq] at hd ⊢
  by_cases hl : x.list = true
  ·rw [if_pos hl] at hd
   rw [if_pos hl, if_pos hl, sound_loop x _ (fun y hy => sound_r k y (by have := Its.sz_mem hy; omega) (Its.good_mem hg'.2.2 y hy) (by have := Its.dep_mem hy; omega)) x.items.length 0 _ 0 (by omega) (by omega), Zb]
   try dsimp only
   rw [List.drop_zero, Nat.zero_max, if_pos (by omega)]
  ·rw [if_neg hl, if_neg hl]
theorem sound_eq {x : It} (hg : x.good) (hd : x.dep ≤ 4611686018427387904) : rlp_sound x = some (x.dep, true) := sound_r _ x (by omega) hg hd
theorem size_loop (x : It) (rc : It → Option Nat) (hw : (Its.enc x.items).length ≤ 1099511627776) (hrc : ∀ y ∈ x.items, rc y = some y.enc.length) : ∀ (d i k m : Nat), i + d = x.items.length → d < k → m + (Its.enc (x.items.drop i)).length = (Its.enc x.items).length → rlp_size.l1 x rc k m i = some (Its.enc x.items).length
 | 0, i, k, m, h, hk, hm => by
  obtain ⟨k, rfl⟩ : ∃ m, k = m + 1 := ⟨k - 1, by omega⟩
  rw [List.drop_of_length_le (by omega), Its.enc, List.length_nil] at hm
  rw [rlp_size.l1, if_neg (by omega)]
  congr 1
 | d + 1, i, k, m, h, hk, hm => by
  obtain ⟨k, rfl⟩ : ∃ m, k = m + 1 := ⟨k - 1, by omega⟩
  have h1 : i < x.items.length := by omega
  rw [Its.enc_drop h1, List.length_append] at hm
  rw [rlp_size.l1, if_pos h1, List.getElem?_eq_getElem h1, Zb, hrc _ (List.getElem_mem h1), Zb, if_pos (by omega)]
  exact size_loop x rc hw hrc d (i + 1) k _ (by omega) (by omega) (by omega)
theorem oneB_get {d : List (BitVec 8)} (h : d.length = 1) : ∃ x, d[0]? = some x ∧ oneB d = decide (x.toNat < 128) := by
 refine ⟨d[0], List.getElem?_eq_getElem (by omega), ?_⟩
 unfold oneB small
 rw [List.getElem?_eq_getElem (by omega)]
 simp [h]
theorem oneB_no {d : List (BitVec 8)} (h : d.length ≠ 1) : oneB d = false := by unfold oneB; simp [h]
theorem size_r : ∀ (k : Nat) (x : It), x.sz < k → x.w9 ≤ 1099511627776 → rlp_size.r k x = some x.enc.length
 | 0, x, h, _ => by omega
 | k + 1, x, h, hw => by
  have hs := It.sz_eq x
  have hw' := It.w9_eq x
  have hle := Its.enc_le x.items (by omega)
  rw [rlp_size.r, It.enc_eq]
  by_cases hl : x.list = true
  ·have hh := headB_length (c := 192) (n := (Its.enc x.items).length) (by omega)
   rw [if_pos hl, if_pos hl, size_loop x _ (by omega) (fun y hy => size_r k y (by have := Its.sz_mem hy; omega) (by have := Its.w9_mem hy; omega)) x.items.length 0 _ 0 (by omega) (by omega) (by rw [List.drop_zero]; omega), Zb, show (192#8 : BitVec 8) = BitVec.ofNat 8 192 by rfl, head_spec 192 _ (by omega), Zb, if_pos (by omega), List.length_append]
  ·rw [if_neg hl, if_neg hl]
   by_cases h1 : x.data.length = 1
   ·obtain ⟨c, e1, e2⟩ := oneB_get h1
    rw [if_pos h1, e1, Zb, Zb, ← e2]
    by_cases ho : oneB x.data = true
    ·rw [if_pos ho, if_pos ho, h1]
    ·rw [if_neg ho, if_neg ho, show (128#8 : BitVec 8) = BitVec.ofNat 8 128 by rfl, head_spec 128 _ (by omega), Zb, List.length_append]
   ·rw [if_neg h1, Zb, if_neg (by simp), oneB_no h1, if_neg (by simp), show (128#8 : BitVec 8) = BitVec.ofNat 8 128 by rfl, head_spec 128 _ (by omega), Zb, List.length_append]
theorem size_eq {x : It} (hw : x.w9 ≤ 1099511627776) : rlp_size x = some x.enc.length := size_r _ x (by omega) hw
theorem lay_loop (x : It) (rc : List (BitVec 8) → It → Option (List (BitVec 8))) (hrc : ∀ a, a.length ≤ 1099511627776 → ∀ y ∈ x.items, rc a y = some (a ++ y.enc)) (hw : (Its.enc x.items).length ≤ 1099511627776) : ∀ (d i k : Nat) (l : List (BitVec 8)), i + d = x.items.length → d < k → l ++ Its.enc (x.items.drop i) = Its.enc x.items → rlp_lay.l1 x rc k l i = some (Its.enc x.items)
 | 0, i, k, l, h, hk, hl => by
  obtain ⟨k, rfl⟩ : ∃ m, k = m + 1 := ⟨k - 1, by omega⟩
  rw [List.drop_of_length_le (by omega), Its.enc, List.append_nil] at hl
  rw [rlp_lay.l1, if_neg (by omega), hl]
 | d + 1, i, k, l, h, hk, hl => by
  obtain ⟨k, rfl⟩ : ∃ m, k = m + 1 := ⟨k - 1, by omega⟩
  have h1 : i < x.items.length := by omega
  have h2 := congrArg List.length hl
  rw [List.length_append] at h2
  rw [Its.enc_drop h1] at hl
  rw [rlp_lay.l1, if_pos h1, List.getElem?_eq_getElem h1, Zb, hrc l (by omega) _ (List.getElem_mem h1), Zb]
  exact lay_loop x rc hrc hw d (i + 1) k _ (by omega) (by omega) (by rw [List.append_assoc]; exact hl)
theorem lay_r : ∀ (k : Nat) (a : List (BitVec 8)) (x : It), x.sz < k → x.w9 ≤ 1099511627776 → a.length ≤ 1099511627776 → rlp_lay.r k a x = some (a ++ x.enc)
 | 0, a, x, h, _, _ => by omega
 | k + 1, a, x, h, hw, ha => by
  have hs := It.sz_eq x
  have hw' := It.w9_eq x
  have hle := Its.enc_le x.items (by omega)
  rw [rlp_lay.r, It.enc_eq]
  have hh2 := headB_length (c := 128) (n := x.data.length) (by omega)
  by_cases hl : x.list = true
  ·have hh := headB_length (c := 192) (n := (Its.enc x.items).length) (by omega)
   rw [if_pos hl, if_pos hl, lay_loop x _ (fun a ha y hy => lay_r k a y (by have := Its.sz_mem hy; omega) (by have := Its.w9_mem hy; omega) ha) (by omega) x.items.length 0 _ [] (by omega) (by omega) (by rw [List.drop_zero]; rfl), Zb, show (192#8 : BitVec 8) = BitVec.ofNat 8 192 by rfl, head_spec 192 _ (by omega), Zb, if_pos (by omega), if_pos (by rw [List.length_append]; omega), List.append_assoc]
  ·rw [if_neg hl, if_neg hl]
   by_cases h1 : x.data.length = 1
   ·obtain ⟨c, e1, e2⟩ := oneB_get h1
    rw [if_pos h1, e1, Zb, Zb]
    by_cases ho : oneB x.data = true
    ·have hc : ¬ 128 ≤ c.toNat := by rw [ho] at e2; have := of_decide_eq_true e2.symm; omega
     rw [if_neg (by simpa using hc), Zb, if_pos (by omega), if_pos ho]
    ·have hc : 128 ≤ c.toNat := by
       by_cases hc : c.toNat < 128
       ·exact absurd (by rw [e2]; simpa using hc) ho
       ·omega
     rw [if_pos (by simpa using hc), if_neg ho, show (128#8 : BitVec 8) = BitVec.ofNat 8 128 by rfl, head_spec 128 _ (by omega), Zb, if_pos (by omega), Zb, if_pos (by rw [List.length_append]; omega), List.append_assoc]
   ·rw [if_neg h1, Zb, if_pos rfl, oneB_no h1, if_neg (by simp), show (128#8 : BitVec 8) = BitVec.ofNat 8 128 by rfl, head_spec 128 _ (by omega), Zb, if_pos (by omega), Zb, if_pos (by rw [List.length_append]; omega), List.append_assoc]
theorem lay_eq {x : It} (hw : x.w9 ≤ 1099511627776) : rlp_lay [] x = some x.enc := by
 have := lay_r (x.sz + 1) [] x (by omega) hw (by simp)
 simpa [rlp_lay] using this
theorem encode_eq {x : It} (hg : x.good) (hd : x.dep ≤ 1024) (hw : x.w9 ≤ 16777216) : rlp_Encode x = some (x.enc, 0) := by
 have h1 := It.enc_le x (by omega)
 unfold rlp_Encode rlp_Check
 rw [sound_eq hg (by omega), Zb]
 try dsimp only
 rw [if_pos rfl, if_neg (by omega), size_eq (by omega), Zb, if_neg (by omega), Zb, if_pos rfl, lay_eq (by omega), Zb]
end Go.Fw
namespace Go.Fw
theorem kind_eq (x : It) (b : Bool) : ∃ e, rlp_kind x b = some e ∧ waybillref07_wanted x b = some e := by
 unfold rlp_kind waybillref07_wanted
 have h : ∃ o, rlp_odd x = some o ∧ waybillref07_odd x = some o := by
  unfold rlp_odd waybillref07_odd
  by_cases hl : x.list = true
  ·by_cases hd : 0 < x.data.length
   ·exact ⟨true, by simp [hl, hd], by simp [hl, hd]⟩
   ·exact ⟨false, by simp [hl, hd], by simp [hl, hd]⟩
  ·exact ⟨decide (0 < x.items.length), by simp [hl], by simp [hl]⟩
 obtain ⟨o, h1, h2⟩ := h
 rw [h1, h2, Zb]
 cases o with
 | true => exact ⟨78, rfl, rfl⟩
 | false =>
  by_cases hb : x.list = b
  ·exact ⟨0, by simp [hb], by simp [hb]⟩
  ·exact ⟨75, by simp [hb], by simp [hb]⟩
theorem gettext_all (x : It) : ∃ b e, rlp_GetText x = some (b, e) ∧ waybillref07_GetText x = some (b, e) := by
 unfold rlp_GetText waybillref07_GetText
 obtain ⟨e, h1, h2⟩ := kind_eq x false
 rw [h1, h2, Zb]
 by_cases he : e = 0
 ·rw [if_pos he, rlp_clone]
  exact ⟨_, _, rfl, by subst he; rfl⟩
 ·rw [if_neg he]
  refine ⟨_, _, rfl, ?_⟩
  rw [Zb, if_neg he]
theorem strict_eq (l : List (BitVec 8)) (hl : l.length ≤ 32) : u256_Strict l = some (if l[0]? = some 0#8 then (Vector.replicate 4 0#64, 13) else (lim (beV l), 0)) := by
 unfold u256_Strict
 rw [get_eq l hl, Zb]
 dsimp only
 rw [if_pos rfl]
 by_cases h0 : 0 < l.length
 ·rw [if_pos h0, List.getElem?_eq_getElem h0, Zb, Zb]
  by_cases h1 : l[0] = 0#8
  ·rw [if_pos (decide_eq_true h1), if_pos (by rw [h1])]
  ·rw [if_neg (by simpa using h1), if_neg (fun e => h1 (by simpa using e))]
 ·rw [if_neg h0, Zb, if_neg (by simp), if_neg (by rw [List.getElem?_eq_none (by omega)]; simp)]
theorem number_all (x : It) (n : Int) (hn : n ≤ 32) : ∃ v e, rlp_number x n = some (v, e) ∧ waybillref07_narrow x n = some (v, e) := by
 unfold rlp_number waybillref07_narrow
 obtain ⟨e, h1, h2⟩ := kind_eq x false
 rw [h1, h2, Zb, Zb]
 by_cases he : e = 0
 ·rw [if_pos he, if_pos he]
  by_cases h3 : n < ((x.data.length : Nat) : Int)
  ·rw [if_pos h3, if_pos h3]; exact ⟨_, _, rfl, rfl⟩
  ·rw [if_neg h3, if_neg h3, strict_eq _ (by omega), rget_eq _ (by omega), Zb]
   by_cases h0 : 0 < x.data.length
   ·rw [if_pos h0, List.getElem?_eq_getElem h0, Zb, Zb]
    by_cases h4 : x.data[0] = 0#8
    ·rw [if_pos (by rw [h4]), if_pos (decide_eq_true h4)]
     exact ⟨_, _, if_neg (by decide), rfl⟩
    ·rw [if_neg (fun e => h4 (by simpa using e)), if_neg (by simpa using h4)]
     exact ⟨_, _, if_pos rfl, rfl⟩
   ·rw [if_neg (by rw [List.getElem?_eq_none (by omega)]; simp), if_neg h0, Zb, if_neg (by simp)]
    exact ⟨_, _, if_pos rfl, rfl⟩
 ·rw [if_neg he, if_neg he]
  exact ⟨_, _, rfl, rfl⟩
theorem getfixed_all (x : It) (n : Int) : ∃ b e, rlp_GetFixed x n = some (b, e) ∧ waybillref07_GetFixed x n = some (b, e) := by
 unfold rlp_GetFixed waybillref07_GetFixed
 by_cases h0 : n < 0
 ·rw [if_pos h0, if_pos h0]; exact ⟨_, _, rfl, rfl⟩
 rw [if_neg h0, if_neg h0]
 obtain ⟨e, h1, h2⟩ := kind_eq x false
 rw [h1, h2, Zb, Zb]
 by_cases he : e = 0
 ·rw [if_pos he, if_pos he, rlp_clone, waybillref07_bytes]
  by_cases h3 : ((x.data.length : Nat) : Int) = n
  ·rw [if_pos h3]; exact ⟨_, _, rfl, rfl⟩
  ·rw [if_neg h3]; exact ⟨_, _, rfl, rfl⟩
 ·rw [if_neg he, if_neg he]
  exact ⟨_, _, rfl, rfl⟩
end Go.Fw
namespace Go.Fw
mutual
def parse : Nat → Nat → List (BitVec 8) → Nat × It × List (BitVec 8)
 | 0, _, _ => (1, It.zero, [])
 | k + 1, d, s => match cutS s with
  | (e, l, h, n) => if e = 0 then (if l = true then (if d = 1024 then (74, It.zero, []) else (match plist k (d + 1) ((s.drop h).take n) [] with
      | (e2, its) => if e2 = 0 then (0, It.mk true [] its, s.drop (h + n)) else (e2, It.zero, [])))
   else (0, It.mk false ((s.drop h).take n) [], s.drop (h + n))) else (e, It.zero, [])
def plist : Nat → Nat → List (BitVec 8) → List It → Nat × List It
 | 0, _, _, _ => (1, [])
 | k + 1, d, s, acc => if s.length = 0 then (0, acc) else (match parse k d s with
  | (e, x, r) => if e = 0 then plist k d r (acc ++ [x]) else (e, []))
end
theorem parse_err {k d : Nat} {s : List (BitVec 8)} {e : Nat} {l : Bool} {h n : Nat} (hc : cutS s = (e, l, h, n)) (he : e ≠ 0) : parse (k + 1) d s = (e, It.zero, []) := by rw [parse, hc]; dsimp only; rw [if_neg he]
theorem parse_text {k d : Nat} {s : List (BitVec 8)} {h n : Nat} (hc : cutS s = (0, false, h, n)) : parse (k + 1) d s = (0, It.mk false ((s.drop h).take n) [], s.drop (h + n)) := by rw [parse, hc]; rfl
theorem parse_list {k d : Nat} {s : List (BitVec 8)} {h n : Nat} (hc : cutS s = (0, true, h, n)) : parse (k + 1) d s = if d = 1024 then (74, It.zero, []) else (match plist k (d + 1) ((s.drop h).take n) [] with
        | (e2, its) => if e2 = 0 then (0, It.mk true [] its, s.drop (h + n)) else (e2, It.zero, [])) := by rw [parse, hc]; rfl
theorem plist_nil {k d : Nat} {acc : List It} : plist (k + 1) d [] acc = (0, acc) := by rw [plist]; rfl
theorem plist_cons {k d : Nat} {s : List (BitVec 8)} {acc : List It} (h : ¬ s.length = 0) : plist (k + 1) d s acc = match parse k d s with
    | (e, x, r) => if e = 0 then plist k d r (acc ++ [x]) else (e, []) := by rw [plist, if_neg h]
theorem cutS_list {s : List (BitVec 8)} {h n : Nat} (e : cutS s = (0, true, h, n)) : 0 < h := by
 have fin : ∀ l' h' n', finS s l' h' n' = (0, true, h, n) → 0 < h' → 0 < h := by
  intro l' h' n' e hp
  unfold finS at e
  split at e
  ·simp at e
  split at e
  ·simp at e
  ·simp only [Prod.mk.injEq] at e; omega
 unfold cutS at e
 split at e
 ·simp at e
 split at e
 ·simp at e
 split at e
 ·split at e
  ·simp at e
  split at e
  ·simp at e
  split at e
  ·simp at e
  ·exact fin _ _ _ e (by omega)
 ·exact fin _ _ _ e (by omega)
def DecA (k : Nat) : Prop := ∀ (s : List (BitVec 8)) (st : List (List It × List (BitVec 8))), 2 * s.length + 1 ≤ k → s.length ≤ 16777216 → st.length ≤ 1024 →
 ((parse k st.length s).1 = 0 → (parse k st.length s).2.2.length < s.length ∧ ∃ t, t + 4 * (parse k st.length s).2.2.length + 2 ≤ 4 * s.length ∧ ∀ m it, dec (t + m) 1 s it st = dec m 2 (parse k st.length s).2.2 (parse k st.length s).2.1 st) ∧
 ((parse k st.length s).1 ≠ 0 → ∃ t, t ≤ 4 * s.length + 1 ∧ ∀ m it, dec (t + m) 1 s it st = some (It.zero, (parse k st.length s).1))
def DecB (k : Nat) : Prop := ∀ (s : List (BitVec 8)) (acc : List It) (bh : List (BitVec 8)) (st : List (List It × List (BitVec 8))), 2 * s.length + 2 ≤ k → s.length + acc.length ≤ 16777216 → st.length + 1 ≤ 1024 →
 ((plist k (st.length + 1) s acc).1 = 0 → ∃ t, t ≤ 4 * s.length + 1 ∧ ∀ m it, dec (t + m) 3 s it ((acc, bh) :: st) = dec m 2 bh (It.mk true [] (plist k (st.length + 1) s acc).2) st) ∧
 ((plist k (st.length + 1) s acc).1 ≠ 0 → ∃ t, t ≤ 4 * s.length + 2 ∧ ∀ m it, dec (t + m) 3 s it ((acc, bh) :: st) = some (It.zero, (plist k (st.length + 1) s acc).1))
theorem dec_all : ∀ k, DecA k ∧ DecB k := by
 intro k
 induction k with
 | zero => exact ⟨fun s st h => by omega, fun s acc bh st h => by omega⟩
 | succ k ih =>
  obtain ⟨ihA, ihB⟩ := ih
  refine ⟨?_, ?_⟩
  ·intro s st hk hs hst
   have hcut := cut_eq s (by omega)
   unfold cutR at hcut
   generalize hc : cutS s = r at hcut
   obtain ⟨e, l, h, n⟩ := r
   dsimp only at hcut
   by_cases he : e = 0
   ·subst he
    rw [if_pos rfl] at hcut
    have hin := cutS_in hc
    cases l with
    | false =>
     rw [parse_text hc]
     refine ⟨fun _ => ⟨by simp only [List.length_drop]; omega, 1, by simp only [List.length_drop]; omega, fun m it => ?_⟩, fun h => absurd rfl h⟩
     rw [Nat.add_comm 1 m, dec_1, hcut, Zb]
     dsimp only
     rw [if_pos rfl, if_neg (by decide), text_eq, Zb]
    | true =>
     have hh := cutS_list hc
     have hl : ((s.drop h).take n).length = n := by rw [List.length_take, List.length_drop]; omega
     have hd : ∀ m it, dec (m + 1) 1 s it st = if st.length = 1024 then some (It.zero, 74) else dec m 3 ((s.drop h).take n) It.zero (([], s.drop (h + n)) :: st) := by
      intro m it
      rw [dec_1, hcut, Zb]
      dsimp only
      rw [if_pos rfl, if_pos rfl]
      split
      ·rfl
      ·rw [if_pos (by omega)]
     rw [parse_list hc]
     by_cases h1 : st.length = 1024
     ·rw [if_pos h1]
      refine ⟨fun h => by simp at h, fun _ => ⟨1, by omega, fun m it => ?_⟩⟩
      rw [Nat.add_comm 1 m, hd, if_pos h1]
     ·rw [if_neg h1]
      obtain ⟨b1, b2⟩ := ihB ((s.drop h).take n) [] (s.drop (h + n)) st (by omega) (by simp only [List.length_nil]; omega) (by omega)
      generalize plist k (st.length + 1) ((s.drop h).take n) [] = q at b1 b2 ⊢
      obtain ⟨e2, its⟩ := q
      dsimp only at b1 b2 ⊢
      by_cases h2 : e2 = 0
      ·rw [if_pos h2]
       obtain ⟨t, ht, b1⟩ := b1 h2
       refine ⟨fun _ => ⟨by simp only [List.length_drop]; omega, t + 1, by simp only [List.length_drop]; omega, fun m it => ?_⟩, fun h => absurd rfl h⟩
       rw [show t + 1 + m = (t + m) + 1 by omega, hd, if_neg h1, b1]
      ·rw [if_neg h2]
       obtain ⟨t, ht, b2⟩ := b2 h2
       refine ⟨fun h => absurd h h2, fun _ => ⟨t + 1, by omega, fun m it => ?_⟩⟩
       rw [show t + 1 + m = (t + m) + 1 by omega, hd, if_neg h1, b2]
   ·rw [parse_err hc he]
    refine ⟨fun h => absurd h he, fun _ => ⟨1, by omega, fun m it => ?_⟩⟩
    rw [if_neg he] at hcut
    rw [Nat.add_comm 1 m, dec_1, hcut, Zb]
    dsimp only
    rw [if_neg he]
  ·intro s acc bh st hk hs hst
   by_cases h0 : s.length = 0
   ·obtain rfl : s = [] := List.length_eq_zero_iff.1 h0
    rw [plist_nil]
    refine ⟨fun _ => ⟨1, by omega, fun m it => ?_⟩, fun h => absurd rfl h⟩
    rw [Nat.add_comm 1 m, dec_3, if_neg (by simp)]
   ·rw [plist_cons h0]
    obtain ⟨a1, a2⟩ := ihA s ((acc, bh) :: st) (by omega) (by omega) (by simpa using hst)
    rw [List.length_cons] at a1 a2
    generalize parse k (st.length + 1) s = q at a1 a2 ⊢
    obtain ⟨e, x, r⟩ := q
    dsimp only at a1 a2 ⊢
    by_cases he : e = 0
    ·rw [if_pos he]
     obtain ⟨hr, t, ht, a1⟩ := a1 he
     obtain ⟨b1, b2⟩ := ihB r (acc ++ [x]) bh st (by omega) (by simp only [List.length_append, List.length_singleton]; omega) hst
     have hstep : ∀ m it, dec (t + m + 2) 3 s it ((acc, bh) :: st) = dec m 3 r It.zero ((acc ++ [x], bh) :: st) := by
      intro m it
      rw [show t + m + 2 = (t + (m + 1)) + 1 by omega, dec_3, if_pos (by omega), a1, dec_2c, if_pos (by omega)]
     refine ⟨fun h => ?_, fun h => ?_⟩
     ·obtain ⟨t2, ht2, b1⟩ := b1 h
      exact ⟨t + t2 + 2, by omega, fun m it => by rw [show t + t2 + 2 + m = t + (t2 + m) + 2 by omega, hstep, b1]⟩
     ·obtain ⟨t2, ht2, b2⟩ := b2 h
      exact ⟨t + t2 + 2, by omega, fun m it => by rw [show t + t2 + 2 + m = t + (t2 + m) + 2 by omega, hstep, b2]⟩
    ·rw [if_neg he]
     obtain ⟨t, ht, a2⟩ := a2 he
     refine ⟨fun h => absurd h he, fun _ => ⟨t + 1, by omega, fun m it => ?_⟩⟩
     rw [show t + 1 + m = (t + m) + 1 by omega, dec_3, if_pos (by omega), a2]
def decodeR (b : List (BitVec 8)) : It × Nat := if 16777216 < b.length then (It.zero, 2) else (match parse (2 * b.length + 1) 0 b with
 | (e, x, r) => if e = 0 then (if 0 < r.length then (It.zero, 73) else (x, 0)) else (It.zero, e))
theorem decode_eq (b : List (BitVec 8)) : rlp_Decode b = some (decodeR b) := by
 unfold rlp_Decode decodeR
 by_cases h : 16777216 < b.length
 ·rw [if_pos h, if_pos h]
 ·rw [if_neg h, if_neg h]
  obtain ⟨a1, a2⟩ := (dec_all (2 * b.length + 1)).1 b [] (Nat.le_refl _) (by omega) (by simp)
  rw [List.length_nil] at a1 a2
  generalize parse (2 * b.length + 1) 0 b = q at a1 a2 ⊢
  obtain ⟨e, x, r⟩ := q
  dsimp only at a1 a2 ⊢
  by_cases he : e = 0
  ·rw [if_pos he]
   obtain ⟨hr, t, ht, a1⟩ := a1 he
   rw [show 4 * b.length + 8 = t + ((4 * b.length + 7 - t) + 1) by omega, a1, dec_2n]
   split <;> rfl
  ·rw [if_neg he]
   obtain ⟨t, ht, a2⟩ := a2 he
   rw [show 4 * b.length + 8 = t + (4 * b.length + 8 - t) by omega, a2]
end Go.Fw
namespace Go.Fw
theorem oneB_small {d : List (BitVec 8)} (ho : ¬ oneB d = true) (h : d.length = 1) : small d 0 = false := by
 by_cases hs : small d 0 = true
 ·exact absurd (by unfold oneB; simp [h, hs]) ho
 ·simpa using hs
theorem parse_enc_all : ∀ k, (∀ (d : Nat) (x : It) (r : List (BitVec 8)), 2 * x.enc.length + 1 ≤ k → x.good → x.dep + d ≤ 1024 → x.w9 ≤ 16777216 → parse k d (x.enc ++ r) = (0, x, r)) ∧
    (∀ (d : Nat) (l : List It) (acc : List It), 2 * (Its.enc l).length + 2 ≤ k → Its.good l → Its.dep l + d ≤ 1024 → Its.w9 l ≤ 16777216 → plist k d (Its.enc l) acc = (0, acc ++ l)) := by
 intro k
 induction k with
 | zero => exact ⟨fun d x r h => by omega, fun d l acc h => by omega⟩
 | succ k ih =>
  obtain ⟨ihA, ihB⟩ := ih
  refine ⟨?_, ?_⟩
  ·intro d x r hk hg hd hw
   have hw' := It.w9_eq x
   have hle := Its.enc_le x.items (by omega)
   obtain ⟨g1, g2, g3⟩ := (It.good_eq x).1 hg
   have hdep := It.dep_eq x
   rw [It.enc_eq] at hk ⊢
   by_cases hl : x.list = true
   ·rw [if_pos hl] at hk hdep ⊢
    have hc := cut_head (c := 192) (.inr rfl) (Its.enc x.items) r (by omega) (fun h => by omega)
    have hh := headB_length (c := 192) (n := (Its.enc x.items).length) (by omega)
    rw [List.length_append] at hk
    have hpay : ((headB 192 (Its.enc x.items).length ++ Its.enc x.items ++ r).drop (headB 192 (Its.enc x.items).length).length).take (Its.enc x.items).length = Its.enc x.items := by
     rw [List.append_assoc, List.drop_left' rfl, List.take_left' rfl]
    have hrest : (headB 192 (Its.enc x.items).length ++ Its.enc x.items ++ r).drop ((headB 192 (Its.enc x.items).length).length + (Its.enc x.items).length) = r := by
     rw [← List.length_append, List.drop_left' rfl]
    rw [parse_list hc, if_neg (by omega), hpay, hrest, ihB (d + 1) x.items [] (by omega) g3 (by omega) (by omega)]
    dsimp only
    rw [if_pos rfl, List.nil_append, It.eta x, hl, g1 hl]
    rfl
   ·rw [if_neg hl] at hk ⊢
    have hl' : x.list = false := by simpa using hl
    have hx : It.mk false x.data [] = x := by
     have := It.eta x
     rw [hl', g2 hl'] at this
     exact this.symm
    by_cases ho : oneB x.data = true
    ·rw [if_pos ho]
     obtain ⟨h1, h2⟩ := oneB_len ho
     obtain ⟨c, hc⟩ : ∃ c, x.data = [c] := List.length_eq_one_iff.1 h1
     have h3 : c.toNat < 128 := by rw [hc] at h2; simpa [small] using h2
     have hcut : cutS ([c] ++ r) = (0, false, 0, 1) := by
      unfold cutS
      show (if c.toNat < 128 then _ else _) = _
      rw [if_pos h3]
     rw [hc] at hx ⊢
     rw [parse_text hcut]
     show (0, It.mk false [c] [], r) = _
     rw [hx]
    ·rw [if_neg ho]
     have hc := cut_head (c := 128) (.inl rfl) x.data r (by omega) (fun _ h => oneB_small ho h)
     have hpay : ((headB 128 x.data.length ++ x.data ++ r).drop (headB 128 x.data.length).length).take x.data.length = x.data := by
      rw [List.append_assoc, List.drop_left' rfl, List.take_left' rfl]
     have hrest : (headB 128 x.data.length ++ x.data ++ r).drop ((headB 128 x.data.length).length + x.data.length) = r := by
      rw [← List.length_append, List.drop_left' rfl]
     rw [parse_text hc, hpay, hrest, hx]
  ·intro d l acc hk hg hd hw
   cases l with
   | nil => rw [Its.enc, plist_nil, List.append_nil]
   | cons x l =>
    rw [Its.enc, List.length_append] at hk
    rw [Its.good] at hg
    rw [Its.dep] at hd
    rw [Its.w9] at hw
    have hx := It.enc_le x (by omega)
    rw [Its.enc, plist_cons (by rw [List.length_append]; omega), ihA d x (Its.enc l) (by omega) hg.1 (by omega) (by omega)]
    dsimp only
    rw [if_pos rfl, ihB d l (acc ++ [x]) (by omega) hg.2 (by omega) (by omega), List.append_assoc]
    rfl
theorem parse_back_all : ∀ k, (∀ (d : Nat) (s r : List (BitVec 8)) (x : It), s.length ≤ 16777216 → d ≤ 1024 → parse k d s = (0, x, r) → x.good ∧ s = x.enc ++ r ∧ x.dep + d ≤ 1024 ∧ x.w9 ≤ 10 * x.enc.length) ∧
    (∀ (d : Nat) (s : List (BitVec 8)) (acc its : List It), s.length ≤ 16777216 → d ≤ 1024 → plist k d s acc = (0, its) → ∃ l, its = acc ++ l ∧ Its.good l ∧ s = Its.enc l ∧ Its.dep l + d ≤ 1024 ∧ Its.w9 l ≤ 10 * (Its.enc l).length) := by
 intro k
 induction k with
 | zero => exact ⟨fun d s r x _ _ h => by rw [parse] at h; simp at h, fun d s acc its _ _ h => by rw [plist] at h; simp at h⟩
 | succ k ih =>
  obtain ⟨ihA, ihB⟩ := ih
  refine ⟨?_, ?_⟩
  ·intro d s r x hs hd h
   generalize hc : cutS s = q
   obtain ⟨e, l, hh, n⟩ := q
   by_cases he : e = 0
   ·subst he
    have hin := cutS_in hc
    have hb := cut_back hs hc
    have hsplit : s = s.take hh ++ ((s.drop hh).take n ++ s.drop (hh + n)) := by
     rw [← List.drop_drop, List.take_append_drop, List.take_append_drop]
    have hlen : ((s.drop hh).take n).length = n := by rw [List.length_take, List.length_drop]; omega
    have hx1 : (s.take hh).length = hh := by rw [List.length_take]; omega
    cases l with
    | false =>
     rw [parse_text hc] at h
     simp only [Prod.mk.injEq, true_and] at h
     obtain ⟨rfl, rfl⟩ := h
     have henc : (It.mk false ((s.drop hh).take n) []).enc = s.take hh ++ (s.drop hh).take n := by
      rw [It.enc, if_neg (by decide)]
      rcases hb with ⟨rfl, rfl, _, h3⟩ | ⟨h3, h4⟩
      ·rw [if_pos (by unfold oneB; rw [decide_eq_true hlen, Bool.true_and]; unfold small at h3 ⊢; rw [List.drop_zero, List.getElem?_take, if_pos (by decide)]; exact h3), List.take_zero, List.nil_append]
      ·rw [if_neg ?_, h3, hlen]; · rfl
       intro ho
       obtain ⟨o1, o2⟩ := oneB_len ho
       have h5 := h4 rfl (by omega)
       unfold small at o2 h5
       rw [List.getElem?_take, if_pos (by omega), List.getElem?_drop, Nat.add_zero] at o2
       rw [h5] at o2
       cases o2
     refine ⟨(It.good_eq _).2 ⟨fun h => by simp [It.list] at h, fun _ => rfl, by simp [It.items, Its.good]⟩, ?_, by rw [It.dep]; simpa using hd, ?_⟩
     ·rw [henc, List.append_assoc]; exact hsplit
     ·rw [henc, It.w9, Its.w9, List.length_append, hx1, hlen]
      omega
    | true =>
     have hh0 := cutS_list hc
     rw [parse_list hc] at h
     by_cases h1 : d = 1024
     ·rw [if_pos h1] at h; simp at h
     ·rw [if_neg h1] at h
      generalize hp : plist k (d + 1) ((s.drop hh).take n) [] = q at h
      obtain ⟨e2, its⟩ := q
      dsimp only at h
      by_cases h2 : e2 = 0
      ·subst h2
       rw [if_pos rfl] at h
       simp only [Prod.mk.injEq, true_and] at h
       obtain ⟨rfl, rfl⟩ := h
       obtain ⟨l, e1, g1, g2, g3, g4⟩ := ihB (d + 1) _ _ _ (by omega) (by omega) hp
       rw [List.nil_append] at e1
       subst e1
       rcases hb with ⟨rfl, _⟩ | ⟨h3, _⟩
       ·omega
       have henc : (It.mk true [] its).enc = s.take hh ++ (s.drop hh).take n := by
        rw [It.enc, if_pos rfl, ← g2, h3, hlen]; rfl
       refine ⟨(It.good_eq _).2 ⟨fun _ => rfl, fun h => by simp [It.list] at h, by simpa [It.items] using g1⟩, ?_, by rw [It.dep, if_pos rfl]; omega, ?_⟩
       ·rw [henc, List.append_assoc]; exact hsplit
       ·rw [← g2, hlen] at g4
        rw [henc, It.w9, List.length_append, hx1, hlen, List.length_nil]
        omega
      ·rw [if_neg h2] at h
       simp only [Prod.mk.injEq] at h
       exact absurd h.1 h2
   ·rw [parse_err hc he] at h
    simp only [Prod.mk.injEq] at h
    exact absurd h.1 he
  ·intro d s acc its hs hd h
   by_cases h0 : s.length = 0
   ·obtain rfl : s = [] := List.length_eq_zero_iff.1 h0
    rw [plist_nil] at h
    simp only [Prod.mk.injEq, true_and] at h
    subst h
    exact ⟨[], by simp, trivial, by rw [Its.enc], by rw [Its.dep]; omega, by rw [Its.w9]; omega⟩
   ·rw [plist_cons h0] at h
    generalize hp : parse k d s = q at h
    obtain ⟨e, x, r⟩ := q
    dsimp only at h
    by_cases he : e = 0
    ·subst he
     rw [if_pos rfl] at h
     obtain ⟨a1, a2, a3, a4⟩ := ihA d s r x hs hd hp
     have hr : r.length ≤ 16777216 := by rw [a2, List.length_append] at hs; omega
     obtain ⟨l, e1, g1, g2, g3, g4⟩ := ihB d r _ _ hr hd h
     refine ⟨x :: l, by rw [e1, List.append_assoc]; rfl, ⟨a1, g1⟩, by rw [Its.enc, ← g2]; exact a2, by rw [Its.dep]; omega, ?_⟩
     rw [Its.w9, Its.enc, List.length_append]
     omega
    ·rw [if_neg he] at h
     simp only [Prod.mk.injEq] at h
     exact absurd h.1 he
theorem decode_enc {x : It} (hg : x.good) (hd : x.dep ≤ 1024) (hw : x.w9 ≤ 16777216) (r : List (BitVec 8)) (hr : (x.enc ++ r).length ≤ 16777216) : decodeR (x.enc ++ r) = if 0 < r.length then (It.zero, 73) else (x, 0) := by
 unfold decodeR
 rw [if_neg (by omega), (parse_enc_all _).1 0 x r (by rw [List.length_append]; omega) hg (by omega) hw]
 dsimp only
 rw [if_pos rfl]
theorem decode_back {b : List (BitVec 8)} {x : It} {e : Nat} (h : decodeR b = (x, e)) : (e ≠ 0 ∧ x = It.zero) ∨ (e = 0 ∧ x.good ∧ b = x.enc ∧ b.length ≤ 16777216 ∧ x.dep ≤ 1024 ∧ x.w9 ≤ 10 * b.length) := by
 unfold decodeR at h
 by_cases h0 : 16777216 < b.length
 ·rw [if_pos h0] at h
  simp only [Prod.mk.injEq] at h
  exact .inl ⟨by omega, h.1.symm⟩
 ·rw [if_neg h0] at h
  generalize hp : parse (2 * b.length + 1) 0 b = q at h
  obtain ⟨e1, x1, r⟩ := q
  dsimp only at h
  by_cases he : e1 = 0
  ·subst he
   rw [if_pos rfl] at h
   obtain ⟨a1, a2, a3, a4⟩ := (parse_back_all _).1 0 b r x1 (by omega) (by omega) hp
   by_cases hr : 0 < r.length
   ·rw [if_pos hr] at h
    simp only [Prod.mk.injEq] at h
    exact .inl ⟨by omega, h.1.symm⟩
   ·rw [if_neg hr] at h
    simp only [Prod.mk.injEq] at h
    obtain ⟨rfl, rfl⟩ := h
    obtain rfl : r = [] := List.length_eq_zero_iff.1 (by omega)
    rw [List.append_nil] at a2
    exact .inr ⟨rfl, a1, a2, by omega, a3, by rw [a2]; exact a4⟩
  ·rw [if_neg he] at h
   simp only [Prod.mk.injEq] at h
   exact .inl ⟨by omega, h.1.symm⟩
end Go.Fw
namespace Go.Fw
open Go
theorem kind_text (x : It) : ∃ e, rlp_kind x false = some e ∧ (e = 0 ↔ x.list = false ∧ x.items = []) := by
 obtain ⟨l, d, its⟩ := x
 cases l <;> cases its <;> cases d <;> exact ⟨_, rfl, by simp [It.list, It.data, It.items]⟩
theorem kind_list (x : It) : ∃ e, rlp_kind x true = some e ∧ (e = 0 ↔ x.list = true ∧ x.data = []) := by
 obtain ⟨l, d, its⟩ := x
 cases l <;> cases its <;> cases d <;> exact ⟨_, rfl, by simp [It.list, It.data, It.items]⟩
def Fd.itm : Fd → It
 | .text l => .mk false l []
 | .big v => .mk false (bytesN (val4 v)) []
 | .word x => .mk false (bytesN (val4 (lim x.toNat))) []
 | .ext l => .mk false l []
theorem Fd.item_eq (f : Fd) : f.item = some f.itm := by
 cases f with
 | text l => rfl
 | big v => exact number_eq v
 | word x => exact small_eq x
 | ext l => rfl
theorem itemsOf_eq (l : List Fd) : itemsOf l = some (l.map Fd.itm) := by
 induction l with
 | nil => rfl
 | cons f r ih => simp only [itemsOf, Fd.item_eq, ih, Zb, List.map_cons]
def FdFits : Slk → Fd → Prop
 | .text _ n, .text l => l.length = n
 | .big _, .big _ => True
 | .word _, .word _ => True
 | .ext _, .ext l => l.length ≤ 32
 | _, _ => False
theorem val4_word (x : BitVec 64) : val4 (lim x.toNat) = x.toNat := val4_lim _ (by have := x.isLt; omega)
theorem bytesN_ok (n : Nat) : (bytesN n)[0]? ≠ some 0#8 := by
 by_cases h : n = 0
 ·subst h
  have : (bytesN 0).length = 0 := by rw [Z134]; rfl
  rw [List.getElem?_eq_none (by omega)]; simp
 ·exact bytesN_top h
theorem nb_word (x : BitVec 64) : nb x.toNat ≤ 8 := by
 have := bl_le x.isLt
 unfold nb; omega
theorem number_itm (n m : Nat) (hn : n < 2 ^ 256) (hm : nb n ≤ m) (h32 : m ≤ 32) : rlp_number (.mk false (bytesN n) []) (m : Int) = some (lim n, 0) := by
 obtain ⟨e, h1, h2⟩ := kind_text (.mk false (bytesN n) [])
 have h3 := h2.2 ⟨rfl, rfl⟩
 subst h3
 have hl := Z134 n
 unfold rlp_number
 rw [h1, Zb, if_pos rfl]
 show (if (m : Int) < (((bytesN n).length : Nat) : Int) then _ else _) = _
 rw [if_neg (by omega)]
 show ((u256_Strict (bytesN n)).bind _) = _
 rw [strict_eq _ (by omega), Zb, if_neg (bytesN_ok n), beV_bytesN]
 rfl
theorem readS_itm {s : Slk} {f : Fd} (h : FdFits s f) : readS s f.itm = some (f, 0) := by
 cases s <;> cases f <;> first | exact h.elim | skip
 ·rename_i o n l
  simp only [FdFits] at h
  subst h
  obtain ⟨e, h1, h2⟩ := kind_text (.mk false l [])
  have h3 := h2.2 ⟨rfl, rfl⟩
  subst h3
  simp only [readS, Fd.itm, rlp_GetFixed]
  rw [if_neg (by omega), h1, Zb, if_pos rfl]
  show ((if ((l.length : Nat) : Int) = (l.length : Int) then (some l : Option (List (BitVec 8))).bind (fun x23 => some (x23, 0)) else some ([], 77)).bind fun p => some (Fd.text p.1, p.2)) = some (Fd.text l, 0)
  rw [if_pos rfl]
  rfl
 ·rename_i o v
  simp only [readS, Fd.itm, rlp_GetNumber]
  rw [show rlp_number (.mk false (bytesN (val4 v)) []) (32 : Int) = _ from number_itm _ 32 (val4_lt v) (nb_le (val4_lt v)) (by decide)]
  simp only [Zb, lim_val4]
 ·rename_i o x
  simp only [readS, Fd.itm, rlp_GetSmall]
  have hx := x.isLt
  rw [show rlp_number (.mk false (bytesN (val4 (lim x.toNat))) []) (8 : Int) = _ from number_itm _ 8 (val4_lt _) (by rw [val4_word]; exact nb_word x) (by decide), lim_val4]
  simp only [Zb]
  have : (lim x.toNat)[0] = x := by simp [lim]
  rw [this]
 ·rename_i o l
  simp only [FdFits] at h
  obtain ⟨e, h1, h2⟩ := kind_text (.mk false l [])
  have h3 := h2.2 ⟨rfl, rfl⟩
  subst h3
  simp only [readS, Fd.itm, rlp_GetText]
  rw [h1, Zb, if_pos rfl]
  show (Option.bind (some (l, 0)) _) = _
  rw [Zb, if_neg (fun q => by have := q.2; dsimp only at this; omega)]
theorem it_eta {x : It} (h1 : x.list = false) (h2 : x.items = []) : x = .mk false x.data [] := by
 cases x
 simp only [It.list, It.items] at h1 h2
 subst h1 h2
 rfl
theorem number_back {x : It} {m : Nat} {v : Vector (BitVec 64) 4} (h32 : m ≤ 32) (h : rlp_number x (m : Int) = some (v, 0)) : x = .mk false (bytesN (val4 v)) [] ∧ x.data.length ≤ m ∧ v = lim (beV x.data) := by
 obtain ⟨e, h1, h2⟩ := kind_text x
 unfold rlp_number at h
 rw [h1, Zb] at h
 by_cases h3 : e = 0
 ·obtain ⟨h4, h5⟩ := h2.1 h3
  rw [if_pos h3] at h
  by_cases h6 : (m : Int) < ((x.data.length : Nat) : Int)
  ·rw [if_pos h6] at h; cases h
  ·rw [if_neg h6, strict_eq _ (by omega), Zb] at h
   by_cases h7 : x.data[0]? = some 0#8
   ·rw [if_pos h7] at h; cases h
   ·rw [if_neg h7] at h
    obtain ⟨rfl, _⟩ := Prod.mk.inj (Zi h)
    refine ⟨?_, by omega, rfl⟩
    have hb := beV_lt x.data
    have h8 : 256 ^ x.data.length ≤ 256 ^ 32 := Nat.pow_le_pow_right (by decide) (by omega)
    rw [val4_lim _ (by have : (256 : Nat) ^ 32 = 2 ^ 256 := by decide
                       omega), bytesN_beV h7]
    exact it_eta h4 h5
 ·rw [if_neg h3] at h
  exact absurd (Prod.mk.inj (Zi h)).2 h3
theorem readS_back {s : Slk} {x : It} {f : Fd} (h : readS s x = some (f, 0)) : x = f.itm ∧ FdFits s f := by
 cases s
 ·rename_i o n
  simp only [readS] at h
  obtain ⟨⟨d, e⟩, hg, h⟩ := Option.bind_eq_some_iff.1 h
  obtain ⟨rfl, rfl⟩ := Prod.mk.inj (Zi h)
  obtain ⟨k, h1, h2⟩ := kind_text x
  unfold rlp_GetFixed at hg
  rw [if_neg (by omega), h1, Zb] at hg
  by_cases h3 : k = 0
  ·obtain ⟨h4, h5⟩ := h2.1 h3
   rw [if_pos h3] at hg
   by_cases h6 : ((x.data.length : Nat) : Int) = (n : Int)
   ·rw [if_pos h6] at hg
    obtain ⟨rfl, _⟩ := Prod.mk.inj (Zi hg)
    exact ⟨it_eta h4 h5, show x.data.length = n by omega⟩
   ·rw [if_neg h6] at hg; cases hg
  ·rw [if_neg h3] at hg
   exact absurd (Prod.mk.inj (Zi hg)).2 h3
 ·rename_i o
  simp only [readS, rlp_GetNumber] at h
  obtain ⟨⟨d, e⟩, hg, h⟩ := Option.bind_eq_some_iff.1 h
  obtain ⟨rfl, rfl⟩ := Prod.mk.inj (Zi h)
  obtain ⟨⟨d2, e2⟩, hg2, hg⟩ := Option.bind_eq_some_iff.1 hg
  obtain ⟨rfl, rfl⟩ := Prod.mk.inj (Zi hg)
  exact ⟨(number_back (by decide) hg2).1, trivial⟩
 ·rename_i o
  simp only [readS, rlp_GetSmall] at h
  obtain ⟨⟨d, e⟩, hg, h⟩ := Option.bind_eq_some_iff.1 h
  obtain ⟨rfl, rfl⟩ := Prod.mk.inj (Zi h)
  obtain ⟨⟨d2, e2⟩, hg2, hg⟩ := Option.bind_eq_some_iff.1 hg
  obtain ⟨rfl, rfl⟩ := Prod.mk.inj (Zi hg)
  obtain ⟨h1, h2, h3⟩ := number_back (by decide) hg2
  refine ⟨?_, trivial⟩
  have hb := beV_lt x.data
  have h8 : 256 ^ x.data.length ≤ 256 ^ 8 := Nat.pow_le_pow_right (by decide) (by omega)
  have h9 : (256 : Nat) ^ 8 = 2 ^ 64 := by decide
  have h10 : (d2[0]).toNat = beV x.data := by
   rw [h3]
   show (BitVec.ofNat 64 (beV x.data)).toNat = _
   rw [BitVec.toNat_ofNat, Nat.mod_eq_of_lt (by omega)]
  show x = .mk false (bytesN (val4 (lim d2[0].toNat))) []
  rw [h10, ← h3]; exact h1
 ·rename_i o
  simp only [readS] at h
  obtain ⟨⟨d, e⟩, hg, h⟩ := Option.bind_eq_some_iff.1 h
  obtain ⟨rfl, he⟩ := Prod.mk.inj (Zi h)
  dsimp only at he
  obtain ⟨k, h1, h2⟩ := kind_text x
  unfold rlp_GetText at hg
  rw [h1, Zb] at hg
  by_cases h3 : k = 0
  ·obtain ⟨h4, h5⟩ := h2.1 h3
   rw [if_pos h3] at hg
   obtain ⟨rfl, rfl⟩ := Prod.mk.inj (Zi hg)
   refine ⟨it_eta h4 h5, ?_⟩
   show x.data.length ≤ 32
   by_cases h6 : 32 < x.data.length
   ·rw [if_pos ⟨rfl, h6⟩] at he; cases he
   ·omega
  ·rw [if_neg h3] at hg
   obtain ⟨rfl, rfl⟩ := Prod.mk.inj (Zi hg)
   rw [if_neg (fun q => h3 q.1)] at he
   exact absurd he h3
theorem readS_some (s : Slk) (x : It) : ∃ f e, readS s x = some (f, e) := by
 cases s
 ·rename_i o n
  obtain ⟨b, e, h, _⟩ := getfixed_all x (n : Int)
  exact ⟨_, _, by rw [readS, h]; rfl⟩
 ·rename_i o
  obtain ⟨b, e, h, _⟩ := number_all x 32 (by decide)
  exact ⟨_, _, by rw [readS, rlp_GetNumber, h]; rfl⟩
 ·rename_i o
  obtain ⟨b, e, h, _⟩ := number_all x 8 (by decide)
  exact ⟨_, _, by rw [readS, rlp_GetSmall, h]; rfl⟩
 ·rename_i o
  obtain ⟨b, e, h, _⟩ := gettext_all x
  exact ⟨_, _, by rw [readS, h]; rfl⟩
end Go.Fw
namespace Go.Fw
open Go
theorem cpV_all {α : Type} {n : Nat} (v : Vector α n) {l : List α} (h : l.length = n) : (cpV v 0 l).toList = l := by
 rw [cpV_toList v (by omega), List.take_zero, List.nil_append, List.drop_eq_nil_of_le (by rw [Zv]; omega), List.append_nil]
theorem Hdr.fds_fit {h : Hdr} (he : h.extra.length ≤ 32) {i : Nat} {s : Slk} {f : Fd} (hs : slotL[i]? = some s) (hf : h.fds[i]? = some f) : FdFits s f := by
 have hi := (List.getElem?_eq_some_iff.1 hs).1
 change i < 21 at hi
 rcases i with _ | _ | _ | _ | _ | _ | _ | _ | _ | _ | _ | _ | _ | _ | _ | _ | _ | _ | _ | _ | _ | i
 all_goals first
  | (obtain rfl := Zi hs; obtain rfl := Zi hf; first | exact Zv | exact trivial | exact he)
  | omega
theorem Hdr.put_fds {h : Hdr} {i : Nat} {s : Slk} {f : Fd} (hs : slotL[i]? = some s) (hf : FdFits s f) : (h.put i f).fds = h.fds.set i f := by
 have hi := (List.getElem?_eq_some_iff.1 hs).1
 change i < 21 at hi
 rcases i with _ | _ | _ | _ | _ | _ | _ | _ | _ | _ | _ | _ | _ | _ | _ | _ | _ | _ | _ | _ | _ | i
 all_goals first
  | (obtain rfl := Zi hs; cases f <;> first | exact hf.elim | rfl | (simp only [Hdr.put, Hdr.fds, cpV_all _ hf, List.set_cons_succ, List.set_cons_zero]))
  | omega
theorem Hdr.ext {a b : Hdr} (h : a.fds = b.fds) (ht : a.tail = b.tail) : a = b := by
 obtain ⟨a0, a1, a2, a3, a4, a5, a6, a7, a8, a9, a10, a11, a12, a13, a14, a15, a16, a17, a18, a19, a20, a21⟩ := a
 obtain ⟨b0, b1, b2, b3, b4, b5, b6, b7, b8, b9, b10, b11, b12, b13, b14, b15, b16, b17, b18, b19, b20, b21⟩ := b
 simp only [Hdr.fds, List.cons.injEq, Fd.text.injEq, Fd.big.injEq, Fd.word.injEq, Fd.ext.injEq, Vector.toList_inj, and_true] at h
 simp only at ht
 obtain ⟨rfl, rfl, rfl, rfl, rfl, rfl, rfl, rfl, rfl, rfl, rfl, rfl, rfl, rfl, rfl, rfl, rfl, rfl, rfl, rfl, rfl⟩ := h
 subst ht
 rfl
def putAll : Nat → List Fd → Hdr → Hdr
 | _, [], h => h
 | i, f :: r, h => putAll (i + 1) r (h.put i f)
def FitsL : Nat → List Fd → Prop
 | _, [] => True
 | i, f :: r => (∃ s, slotL[i]? = some s ∧ FdFits s f) ∧ FitsL (i + 1) r
theorem putAll_tail : ∀ (l : List Fd) (i : Nat) (h : Hdr), (putAll i l h).tail = h.tail
 | [], _, _ => rfl
 | f :: r, i, h => by rw [putAll, putAll_tail r, Hdr.put_tail]
theorem putAll_fds : ∀ (l : List Fd) (i : Nat) (h : Hdr), FitsL i l → (putAll i l h).fds = h.fds.take i ++ l ++ h.fds.drop (i + l.length)
 | [], i, h, _ => by simp [putAll]
 | f :: r, i, h, ⟨⟨s, hs, hf⟩, hr⟩ => by
  have hi := (List.getElem?_eq_some_iff.1 hs).1
  change i < 21 at hi
  have hl := h.fds_length
  rw [putAll, putAll_fds r (i + 1) _ hr, Hdr.put_fds hs hf, List.drop_set, if_pos (by omega), List.length_cons, show i + 1 + r.length = i + (r.length + 1) by omega]
  congr 1
  rw [List.take_set, List.take_add_one, List.getElem?_eq_getElem (by omega), List.set_append_right _ _ (by rw [List.length_take]; omega)]
  simp [List.length_take, Nat.min_eq_left (show i ≤ h.fds.length by omega)]
theorem FitsL.of {h : Hdr} (he : h.extra.length ≤ 32) : ∀ (d i n : Nat), n = i + d → n ≤ 21 → FitsL i ((h.fds.take n).drop i)
 | 0, i, n, e, hn => by rw [List.drop_eq_nil_of_le (by rw [List.length_take]; omega)]; trivial
 | d + 1, i, n, e, hn => by
  have hl := h.fds_length
  have hi : i < (h.fds.take n).length := by rw [List.length_take]; omega
  rw [List.drop_eq_getElem_cons hi]
  refine ⟨?_, FitsL.of he d (i + 1) n (by omega) hn⟩
  have hs : i < slotL.length := show i < 21 by omega
  exact ⟨slotL[i], List.getElem?_eq_getElem hs, Hdr.fds_fit he (List.getElem?_eq_getElem hs) (by rw [List.getElem_take]; exact List.getElem?_eq_getElem (by omega))⟩
theorem parseL_go : ∀ (l : List Fd) (i : Nat) (h : Hdr), FitsL i l → parseL i (l.map Fd.itm) h = some (putAll i l h, 0)
 | [], i, h, _ => rfl
 | f :: r, i, h, ⟨⟨s, hs, hf⟩, hr⟩ => by
  rw [List.map_cons, parseL, hs]
  show ((readS s f.itm).bind _) = _
  rw [readS_itm hf, Zb, if_pos rfl, parseL_go r _ _ hr, putAll]
theorem parseL_some : ∀ (xs : List It) (i : Nat) (h : Hdr), ∃ h2 e, parseL i xs h = some (h2, e)
 | [], i, h => ⟨_, _, rfl⟩
 | x :: r, i, h => by
  rw [parseL]
  cases hs : slotL[i]? with
  | none => exact ⟨_, _, rfl⟩
  | some s =>
   obtain ⟨f, e, hr⟩ := readS_some s x
   simp only [hr, Zb]
   by_cases he : e = 0
   ·rw [if_pos he]; exact parseL_some r _ _
   ·rw [if_neg he]; exact ⟨_, _, rfl⟩
theorem parseL_back : ∀ (xs : List It) (i : Nat) (h h2 : Hdr), i + xs.length ≤ 21 → parseL i xs h = some (h2, 0) → ∃ l, xs = l.map Fd.itm ∧ FitsL i l ∧ h2 = putAll i l h
 | [], i, h, h2, _, e => ⟨[], rfl, trivial, ((Prod.mk.inj (Zi e)).1).symm⟩
 | x :: r, i, h, h2, hn, e => by
  simp only [List.length_cons] at hn
  have hi : i < slotL.length := show i < 21 by omega
  have hs : slotL[i]? = some slotL[i] := List.getElem?_eq_getElem hi
  rw [parseL, hs] at e
  obtain ⟨⟨f, k⟩, hr, e⟩ := Option.bind_eq_some_iff.1 e
  dsimp only at e
  by_cases hk : k = 0
  ·subst hk
   rw [if_pos rfl] at e
   obtain ⟨h3, h4⟩ := readS_back hr
   obtain ⟨l, q1, q2, q3⟩ := parseL_back r (i + 1) _ h2 (by omega) e
   exact ⟨f :: l, by rw [List.map_cons, ← h3, ← q1], ⟨⟨_, hs, h4⟩, q2⟩, by rw [putAll]; exact q3⟩
  ·rw [if_neg hk] at e
   exact absurd (Prod.mk.inj (Zi e)).2 hk
def cnt (t : Int) : Nat := if t = 0 then 15 else if t = 1 then 16 else if t = 2 then 17 else if t = 3 then 20 else 21
theorem count_eq (t : Int) : header_count t = some (cnt t) := by
 unfold header_count cnt
 by_cases h1 : t = 0
 ·rw [if_pos h1, if_pos h1]
 rw [if_neg h1, if_neg h1]
 by_cases h2 : t = 1
 ·rw [if_pos h2, if_pos h2]
 rw [if_neg h2, if_neg h2]
 by_cases h3 : t = 2
 ·rw [if_pos h3, if_pos h3]
 rw [if_neg h3, if_neg h3]
 by_cases h4 : t = 3
 ·rw [if_pos h4, if_pos h4]
 rw [if_neg h4, if_neg h4]
theorem cnt_le (t : Int) : 15 ≤ cnt t ∧ cnt t ≤ 21 := by
 unfold cnt
 (repeat' split) <;> omega
theorem tailOf_cnt {t : Int} (h0 : 0 ≤ t) (h4 : t ≤ 4) : header_tailOf ((cnt t : Nat) : Int) = some t := by
 rw [tailOf_eq]
 rcases (by omega : t = 0 ∨ t = 1 ∨ t = 2 ∨ t = 3 ∨ t = 4) with rfl | rfl | rfl | rfl | rfl <;> rfl
theorem cnt_tailOf {n : Nat} {t : Int} (h : header_tailOf (n : Int) = some t) (ht : ¬ t < 0) : cnt t = n ∧ 0 ≤ t ∧ t ≤ 4 := by
 rw [tailOf_eq] at h
 obtain rfl := Zi h
 by_cases h1 : (n : Int) = 15
 ·rw [if_pos h1]; exact ⟨by show 15 = n; omega, by omega, by omega⟩
 by_cases h2 : (n : Int) = 16
 ·rw [if_neg h1, if_pos h2]; exact ⟨by show 16 = n; omega, by omega, by omega⟩
 by_cases h3 : (n : Int) = 17
 ·rw [if_neg h1, if_neg h2, if_pos h3]; exact ⟨by show 17 = n; omega, by omega, by omega⟩
 by_cases h4 : (n : Int) = 20
 ·rw [if_neg h1, if_neg h2, if_neg h3, if_pos h4]; exact ⟨by show 20 = n; omega, by omega, by omega⟩
 by_cases h5 : (n : Int) = 21
 ·rw [if_neg h1, if_neg h2, if_neg h3, if_neg h4, if_pos h5]; exact ⟨by show 21 = n; omega, by omega, by omega⟩
 rw [if_neg h1, if_neg h2, if_neg h3, if_neg h4, if_neg h5] at ht
 exact absurd (by decide) ht
def Hdr.chk (h : Hdr) : Nat := if h.tail < 0 then 191 else if 4 < h.tail then 191 else if laterZero h (cnt h.tail) = true then (if 32 < h.extra.length then 192 else 0) else 191
theorem check_eq (h : Hdr) : header_Check h = some h.chk := by
 unfold header_Check Hdr.chk
 by_cases h1 : h.tail < 0
 ·rw [if_pos h1, if_pos h1]
 rw [if_neg h1, if_neg h1]
 by_cases h2 : 4 < h.tail
 ·rw [if_pos h2, if_pos h2]
 rw [if_neg h2, if_neg h2, count_eq, Zb]
 by_cases h3 : laterZero h (cnt h.tail) = true
 ·rw [if_pos h3, if_pos h3]
  by_cases h4 : 32 < h.extra.length
  ·rw [if_pos h4, if_pos h4]
  ·rw [if_neg h4, if_neg h4]
 ·rw [if_neg h3, if_neg h3]
theorem Hdr.chk_ok {h : Hdr} : h.chk = 0 ↔ 0 ≤ h.tail ∧ h.tail ≤ 4 ∧ laterZero h (cnt h.tail) = true ∧ h.extra.length ≤ 32 := by
 unfold Hdr.chk
 by_cases h1 : h.tail < 0
 ·rw [if_pos h1]; exact ⟨fun e => absurd e (by decide), fun q => by omega⟩
 rw [if_neg h1]
 by_cases h2 : 4 < h.tail
 ·rw [if_pos h2]; exact ⟨fun e => absurd e (by decide), fun q => by omega⟩
 rw [if_neg h2]
 by_cases h3 : laterZero h (cnt h.tail) = true
 ·rw [if_pos h3]
  by_cases h4 : 32 < h.extra.length
  ·rw [if_pos h4]; exact ⟨fun e => absurd e (by decide), fun q => by omega⟩
  ·rw [if_neg h4]; exact ⟨fun _ => ⟨by omega, by omega, h3, by omega⟩, fun _ => rfl⟩
 ·rw [if_neg h3]; exact ⟨fun e => absurd e (by decide), fun q => absurd q.2.2.1 h3⟩
def Hdr.its (h : Hdr) : List It := (h.fds.take (cnt h.tail)).map Fd.itm
theorem Hdr.its_length (h : Hdr) : h.its.length = cnt h.tail := by
 have := cnt_le h.tail
 rw [Hdr.its, List.length_map, List.length_take, Hdr.fds_length]; omega
theorem zero_fd {h : Hdr} {i : Nat} {f : Fd} (hf : h.fds[i]? = some f) (hz : f.isZero = true) : Hdr.zero.fds[i]? = some f := by
 have hi := (List.getElem?_eq_some_iff.1 hf).1
 rw [Hdr.fds_length] at hi
 have key : ∀ {n : Nat} (v : Vector (BitVec 8) n), (Fd.text v.toList).isZero = true → v = Vector.replicate n 0#8 := by
  intro n v hv
  simp only [Fd.isZero, List.all_eq_true, decide_eq_true_eq] at hv
  apply Vector.ext
  intro j hj
  rw [Vector.getElem_replicate]
  exact hv _ (Vector.mem_toList_iff.2 (Vector.getElem_mem hj))
 rcases i with _ | _ | _ | _ | _ | _ | _ | _ | _ | _ | _ | _ | _ | _ | _ | _ | _ | _ | _ | _ | _ | i
 all_goals first
  | (obtain rfl := Zi hf; rw [key _ hz]; rfl)
  | (obtain rfl := Zi hf
     simp only [Fd.isZero, decide_eq_true_eq] at hz
     first
      | (rw [hz]; rfl)
      | (rw [List.eq_nil_of_length_eq_zero hz]; rfl))
  | omega
theorem drop_zero_of {h : Hdr} {n : Nat} (hz : laterZero h n = true) : h.fds.drop n = Hdr.zero.fds.drop n := by
 unfold laterZero at hz
 rw [List.all_eq_true] at hz
 apply List.ext_getElem?
 intro i
 rw [List.getElem?_drop, List.getElem?_drop]
 cases hf : h.fds[n + i]? with
 | none =>
  rw [List.getElem?_eq_none_iff, Hdr.fds_length] at hf
  rw [List.getElem?_eq_none (by rw [Hdr.fds_length]; exact hf)]
 | some f =>
  exact (zero_fd hf (hz f (List.mem_of_getElem? (i := i) (by rw [List.getElem?_drop]; exact hf)))).symm
theorem zero_later (n : Nat) : ∀ f ∈ Hdr.zero.fds.drop n, f.isZero = true := by
 have e : ∀ f ∈ Hdr.zero.fds, f.isZero = true := by decide
 exact fun f hf => e f (List.mem_of_mem_drop hf)
theorem parse_its {h : Hdr} (hc : h.chk = 0) : parseL 0 h.its { Hdr.zero with tail := h.tail } = some (h, 0) := by
 obtain ⟨h1, h2, h3, h4⟩ := Hdr.chk_ok.1 hc
 have hn := cnt_le h.tail
 have hF := FitsL.of h4 (cnt h.tail) 0 (cnt h.tail) (by omega) hn.2
 rw [List.drop_zero] at hF
 rw [Hdr.its, parseL_go _ _ _ hF]
 congr 2
 apply Hdr.ext
 ·rw [putAll_fds _ _ _ hF, List.take_zero, List.nil_append, Nat.zero_add, List.length_take, Hdr.fds_length, Nat.min_eq_left hn.2]
  have := drop_zero_of h3
  show h.fds.take (cnt h.tail) ++ Hdr.zero.fds.drop (cnt h.tail) = h.fds
  rw [← this, List.take_append_drop]
 ·rw [putAll_tail]
theorem its_parse {xs : List It} {t : Int} {h : Hdr} (ht : header_tailOf ((xs.length : Nat) : Int) = some t) (h0 : ¬ t < 0) (hp : parseL 0 xs { Hdr.zero with tail := t } = some (h, 0)) : h.chk = 0 ∧ xs = h.its := by
 obtain ⟨c1, c2, c3⟩ := cnt_tailOf ht h0
 have hn := cnt_le t
 obtain ⟨l, rfl, hF, rfl⟩ := parseL_back xs 0 _ h (by omega) hp
 rw [List.length_map] at c1
 have ht2 : (putAll 0 l { Hdr.zero with tail := t }).tail = t := putAll_tail _ _ _
 have hfd := putAll_fds l 0 { Hdr.zero with tail := t } hF
 rw [List.take_zero, List.nil_append, Nat.zero_add] at hfd
 have h1 : (putAll 0 l { Hdr.zero with tail := t }).fds.take l.length = l := by rw [hfd, List.take_left]
 have h2 : (putAll 0 l { Hdr.zero with tail := t }).fds.drop l.length = Hdr.zero.fds.drop l.length := by rw [hfd, List.drop_left]; rfl
 refine ⟨Hdr.chk_ok.2 ⟨by rw [ht2]; exact c2, by rw [ht2]; exact c3, ?_, ?_⟩, ?_⟩
 ·rw [ht2, c1]
  unfold laterZero
  rw [h2, List.all_eq_true]
  exact zero_later _
 ·have key : ∀ (l : List Fd) (i : Nat), FitsL i l → ∀ j f, l[j]? = some f → ∀ s, slotL[i + j]? = some s → FdFits s f := by
    intro l
    induction l with
    | nil => intro i _ j f hj; simp at hj
    | cons g r ih =>
     intro i hF j f hj s hs
     rcases j with _ | j
     ·obtain rfl := Zi hj
      obtain ⟨⟨s2, q1, q2⟩, _⟩ := hF
      rw [Nat.add_zero, q1] at hs
      obtain rfl := Zi hs
      exact q2
     ·exact ih (i + 1) hF.2 j f (by simpa using hj) s (by rw [show i + 1 + j = i + (j + 1) by omega]; exact hs)
  have h12 : (putAll 0 l { Hdr.zero with tail := t }).fds[12]? = some (.ext (putAll 0 l { Hdr.zero with tail := t }).extra) := rfl
  rw [hfd, List.getElem?_append_left (by omega)] at h12
  exact key l 0 hF 12 _ h12 (.ext 444) rfl
 ·rw [Hdr.its, ht2, c1, h1]
end Go.Fw
namespace Go.Fw
theorem absorb_loop (a0 : Sponge) : ∀ (d i k : Nat) (w : Sponge), i + d = 136 → d < k → ∃ w', keccak_Sponge_absorb.l1 a0 k i w = some w' ∧ w'.kind = w.kind ∧ w'.long = w.long
 | 0, i, k, w, h, hk => by
  obtain ⟨k, rfl⟩ : ∃ m, k = m + 1 := ⟨k - 1, by omega⟩
  exact ⟨w, by rw [keccak_Sponge_absorb.l1, if_neg (by omega)], rfl, rfl⟩
 | d + 1, i, k, w, h, hk => by
  obtain ⟨k, rfl⟩ : ∃ m, k = m + 1 := ⟨k - 1, by omega⟩
  rw [keccak_Sponge_absorb.l1, if_pos (by omega), Vector.getElem?_eq_getElem (by omega), Zb, if_pos (by omega), Vector.getElem?_eq_getElem (by omega), Zb]
  obtain ⟨w', e1, e2, e3⟩ := absorb_loop a0 d (i + 1) k _ (by omega) (by omega)
  exact ⟨w', e1, e2, e3⟩
theorem absorb_total (s : Sponge) : ∃ s', keccak_Sponge_absorb s = some s' ∧ s'.kind = s.kind ∧ s'.long = s.long ∧ s'.held = 0 := by
 unfold keccak_Sponge_absorb
 obtain ⟨w, e1, e2, e3⟩ := absorb_loop s 136 0 (136 - 0 + 2) s (by omega) (by omega)
 rw [e1, Zb]
 exact ⟨_, rfl, e2, e3, rfl⟩
theorem write_loop : ∀ (n k : Nat) (l : List (BitVec 8)) (w : Sponge), l.length ≤ n → n < k → 0 ≤ w.held → w.held < 136 → ∃ w', keccak_Sponge_Write.l1 k l w = some w' ∧ 0 ≤ w'.held ∧ w'.held < 136 ∧ w'.kind = w.kind ∧ w'.long = w.long
 | n, 0, l, w, hn, hk, h0, h1 => by omega
 | n, k + 1, l, w, hn, hk, h0, h1 => by
  rw [keccak_Sponge_Write.l1]
  by_cases hl : 0 < l.length
  ·have hm : 0 < min l.length (136 - w.held.toNat) := by omega
   rw [if_pos hl, if_pos h0, if_pos (by omega), if_pos (Nat.min_le_left ..), if_pos (by constructor <;> (show _ ≤ _; dsimp only; omega))]
   by_cases hf : w.held + ((min l.length (136 - w.held.toNat) : Nat) : Int) = 136
   ·rw [if_pos hf]
    obtain ⟨s', e1, e2, e3, e4⟩ := absorb_total ({ ({ w with part := cpV w.part ((w.held).toNat) (l.take (min l.length (136 - ((w.held).toNat)))) } : Sponge) with held := (({ w with part := cpV w.part ((w.held).toNat) (l.take (min l.length (136 - ((w.held).toNat)))) } : Sponge).held + (((min l.length (136 - ((w.held).toNat))) : Nat) : Int)) } : Sponge)
    rw [e1, Zb, Zb]
    obtain ⟨w', f1, f2, f3, f4, f5⟩ := write_loop (n - 1) k (l.drop (min l.length (136 - w.held.toNat))) s' (by rw [List.length_drop]; omega) (by omega) (by omega) (by omega)
    exact ⟨w', f1, f2, f3, f4.trans e2, f5.trans e3⟩
   ·rw [if_neg hf, Zb]
    obtain ⟨w', f1, f2, f3, f4, f5⟩ := write_loop (n - 1) k (l.drop (min l.length (136 - w.held.toNat))) ({ ({ w with part := cpV w.part ((w.held).toNat) (l.take (min l.length (136 - ((w.held).toNat)))) } : Sponge) with held := (({ w with part := cpV w.part ((w.held).toNat) (l.take (min l.length (136 - ((w.held).toNat)))) } : Sponge).held + (((min l.length (136 - ((w.held).toNat))) : Nat) : Int)) } : Sponge) (by rw [List.length_drop]; omega) (by omega) (show 0 ≤ w.held + ((min l.length (136 - w.held.toNat) : Nat) : Int) by omega) (show w.held + ((min l.length (136 - w.held.toNat) : Nat) : Int) < 136 by omega)
    exact ⟨w', f1, f2, f3, f4, f5⟩
  ·rw [if_neg hl]
   exact ⟨w, rfl, h0, h1, rfl, rfl⟩
theorem write_total (s : Sponge) (l : List (BitVec 8)) (h0 : 0 ≤ s.held) (h1 : s.held < 136) (h2 : -9223372036854775808 ≤ s.long + ((l.length : Nat) : Int) ∧ s.long + ((l.length : Nat) : Int) ≤ 9223372036854775807) : ∃ s', keccak_Sponge_Write s l = some s' ∧ 0 ≤ s'.held ∧ s'.held < 136 ∧ s'.kind = s.kind ∧ s'.long = s.long + ((l.length : Nat) : Int) := by
 unfold keccak_Sponge_Write
 rw [if_pos h2]
 obtain ⟨w, e1, e2, e3, e4, e5⟩ := write_loop l.length (l.length - 0 + 2) l ({ s with long := (s.long + ((l.length : Nat) : Int)) } : Sponge) (Nat.le_refl _) (by omega) h0 h1
 rw [e1, Zb]
 exact ⟨w, rfl, e2, e3, e4, e5⟩
end Go.Fw
namespace Go.Fw
theorem ssum_loop (x : Sponge) : ∀ (d i k : Nat) (w : Vector (BitVec 8) 32), i + d = 32 → d < k → ∃ w', keccak_Sponge_Sum.l1 x k i w = some w'
 | 0, i, k, w, h, hk => by
  obtain ⟨k, rfl⟩ : ∃ m, k = m + 1 := ⟨k - 1, by omega⟩
  exact ⟨w, by rw [keccak_Sponge_Sum.l1, if_neg (by omega)]⟩
 | d + 1, i, k, w, h, hk => by
  obtain ⟨k, rfl⟩ : ∃ m, k = m + 1 := ⟨k - 1, by omega⟩
  rw [keccak_Sponge_Sum.l1, if_pos (by omega), if_pos (by omega), Vector.getElem?_eq_getElem (by omega), Zb]
  exact ssum_loop x d (i + 1) k _ (by omega) (by omega)
theorem ssum_total (s : Sponge) (h0 : 0 ≤ s.held) (h1 : s.held < 136) (hk : s.kind = 0 ∨ s.kind = 1) : ∃ r, keccak_Sponge_Sum s = some r := by
 unfold keccak_Sponge_Sum
 rw [if_pos h0, if_pos (by omega)]
 dsimp only
 have hf : ∃ f, firstL[s.kind.toNat]? = some f := by
  rcases hk with e | e <;> rw [e]
  ·exact ⟨1#8, rfl⟩
  ·exact ⟨6#8, rfl⟩
 obtain ⟨f, hf⟩ := hf
 rw [if_pos h0, if_pos (by omega), Vector.getElem?_eq_getElem (by omega), Zb, if_pos (by omega), hf, Zb]
 generalize hS : (Sponge.mk _ _ _ _ _ : Sponge) = S
 obtain ⟨s', e1, _⟩ := absorb_total S
 rw [e1, Zb]
 obtain ⟨w', e2⟩ := ssum_loop s' 32 0 (32 - 0 + 2) (Vector.replicate 32 0#8) (by omega) (by omega)
 rw [e2, Zb]
 exact ⟨_, rfl⟩
theorem sum_total (t : List (BitVec 8)) (ht : t.length ≤ 140737488355328) : ∃ h, keccak_Sum [t] = some h := by
 unfold keccak_Sum keccak_digest
 obtain ⟨w, e1, e2, e3, e4, e5⟩ := write_total ({ (⟨0, (Vector.replicate 25 0#64), (Vector.replicate 136 0#8), 0, 0⟩ : Sponge) with kind := (0 : Int) } : Sponge) t (by show (0 : Int) ≤ 0; omega) (by show (0 : Int) < 136; omega) (by show -9223372036854775808 ≤ (0 : Int) + _ ∧ (0 : Int) + _ ≤ _; omega)
 have hl : keccak_digest.l1 [t] ([t].length - 0 + 2) 0 ({ (⟨0, (Vector.replicate 25 0#64), (Vector.replicate 136 0#8), 0, 0⟩ : Sponge) with kind := (0 : Int) } : Sponge) = some w := by
  show keccak_digest.l1 [t] (2 + 1) 0 _ = some w
  rw [keccak_digest.l1, if_pos (by simp)]
  show (some t).bind _ = _
  rw [Zb, e1, Zb, keccak_digest.l1, if_neg (by simp)]
 rw [hl, Zb]
 obtain ⟨⟨h, w'⟩, e6⟩ := ssum_total w e2 e3 (.inl e4)
 rw [e6, Zb]
 exact ⟨h, rfl⟩
end Go.Fw
