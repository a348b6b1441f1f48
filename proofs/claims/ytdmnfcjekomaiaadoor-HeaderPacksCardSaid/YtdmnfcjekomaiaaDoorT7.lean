/- Part of a proof: rules that its law uses. -/
import Derived.Test.YtdmnfcjekomaiaaDoorT6
set_option linter.unusedVariables false
set_option linter.unusedSimpArgs false
set_option linter.unusedSectionVars false
set_option maxRecDepth 100000
set_option maxHeartbeats 1000000
namespace Go.Fw.Tryd
open Go Go.Proofs Go.Fw
theorem waybillref19_Same_does (w0 : World) (Φ : Ctx) (N : List Ent) (hΦ : ∀ w, Mem w0 w N → Φ w) (cs0_ : List Value) (a0 : Hdr) (cs1_ : List Value) (a1 : Hdr) (res0 : Bool) (ha0 : HdrRd Φ cs0_ a0) (ha1 : HdrRd Φ cs1_ a1) (hf : waybillref19_Same a0 a1 = some res0) : DoesG Tryd.prog 13 [.agg cs0_.toArray, .agg cs1_.toArray] w0 [] N (fun v G => v = .bool res0) := by
 unfold waybillref19_Same at hf
 replace ha0 := HdrRd.mono (Ψ := More w0 Φ []) (fun w q => q.1) _ _ ha0
 have h6 := ha0
 obtain ⟨A1, c2, e5, v3, b4⟩ := HdrRd.opn ha0
 subst e5
 have m7 := v3.mx
 replace ha1 := HdrRd.mono (Ψ := More w0 Φ []) (fun w q => q.1) _ _ ha1
 have h13 := ha1
 obtain ⟨A8, c9, e12, v10, b11⟩ := HdrRd.opn ha1
 subst e12
 have m14 := v10.mx
 refine DoesG.enter Tryd.func13 rfl Tryd.ntmps13 rfl (M := (([] ++ N))) rfl (Z4 (Z2 (OW.boxA rfl rfl (fun b15 => (OW.boxA rfl rfl (fun b16 => (Z0 (Z5 rfl) rfl (Z6 (Z1 (Z4 (Z4 (Z2 (Z0 (Z30 rfl rfl rfl rfl) rfl (Z7 (ptr (some b15) 444) rfl ?_))))))))))))))
 refine Z0 (Z29 rfl (List.Mem.tail _ Zh) rfl rfl rfl (Z138 (⟨a0.parent, a0.uncles, a0.coinbase, a0.state, a0.txRoot, a0.receiptRoot, a0.bloom, a0.difficulty, a0.number, a0.limit, a0.used, a0.time, .slice A1 a0.extra.length c2, a0.mix, a0.nonce, a0.tail, a0.baseFee, a0.withdrawals, a0.blobUsed, a0.blobExcess, a0.beacon, a0.requests⟩ : HdrC))) rfl (Z0 (RV.len rfl rfl) rfl (Z0 (Z30 rfl rfl rfl rfl) rfl (Z7 (ptr (some b16) 444) rfl (Z0 (Z29 rfl Zh rfl rfl rfl (Z138 (⟨a1.parent, a1.uncles, a1.coinbase, a1.state, a1.txRoot, a1.receiptRoot, a1.bloom, a1.difficulty, a1.number, a1.limit, a1.used, a1.time, .slice A8 a1.extra.length c9, a1.mix, a1.nonce, a1.tail, a1.baseFee, a1.withdrawals, a1.blobUsed, a1.blobExcess, a1.beacon, a1.requests⟩ : HdrC))) rfl (Z0 (RV.len rfl rfl) rfl (Z0 (RV.neq rfl rfl) rfl (Z7 (.bool (!decide (a0.extra.length = a1.extra.length))) (congrArg (fun b => Value.bool (!b)) (decide_eq_decide.2 (by omega))) ?_)))))))
 refine Z6 (Z1 ?_)
 by_cases h17 : a0.extra.length = a1.extra.length
 ·replace hf := if_t hf h17
  refine Z14 rfl (congrArg (fun b => !b) (decide_eq_true h17)) (CW.skip (Z1 (Z4 (Z4 (Z2 (Z0 (Z5 rfl) rfl (Z6 (Z1 ?_))))))))
  obtain ⟨q18, hq19, hf⟩ := Z102 hf
  refine Z120 (fun L' M' => q18 = Lp.go () ∧ L' = [(2, ptr (some b15) 0), (3, ptr (some b16) 0)] ∧ M' = ((some b16, blk (⟨a1.parent, a1.uncles, a1.coinbase, a1.state, a1.txRoot, a1.receiptRoot, a1.bloom, a1.difficulty, a1.number, a1.limit, a1.used, a1.time, .slice A8 a1.extra.length c9, a1.mix, a1.nonce, a1.tail, a1.baseFee, a1.withdrawals, a1.blobUsed, a1.blobExcess, a1.beacon, a1.requests⟩ : HdrC).C 38) :: (some b15, blk (⟨a0.parent, a0.uncles, a0.coinbase, a0.state, a0.txRoot, a0.receiptRoot, a0.bloom, a0.difficulty, a0.number, a0.limit, a0.used, a0.time, .slice A1 a0.extra.length c2, a0.mix, a0.nonce, a0.tail, a0.baseFee, a0.withdrawals, a0.blobUsed, a0.blobExcess, a0.beacon, a0.requests⟩ : HdrC).C 38) :: ([] ++ N))) ?_ ?_
  ·rintro L21 M22 ⟨e20, e23, e24⟩
   rw [e23, e24]
   clear e23 e24 L21 M22
   clear hq19
   rw [e20] at hf
   clear e20
   try dsimp only at hf
   refine Z1 (Z4 (Z4 ?_))
   obtain ⟨q25, hq26, hf⟩ := Z102 hf
   refine Z120 (fun L' M' => ∃ p27 : Bool, q25 = p27 ∧ L' = [(2, ptr (some b15) 0), (3, ptr (some b16) 0), (77, .bool (p27))] ∧ M' = ((some b16, blk (⟨a1.parent, a1.uncles, a1.coinbase, a1.state, a1.txRoot, a1.receiptRoot, a1.bloom, a1.difficulty, a1.number, a1.limit, a1.used, a1.time, .slice A8 a1.extra.length c9, a1.mix, a1.nonce, a1.tail, a1.baseFee, a1.withdrawals, a1.blobUsed, a1.blobExcess, a1.beacon, a1.requests⟩ : HdrC).C 38) :: (some b15, blk (⟨a0.parent, a0.uncles, a0.coinbase, a0.state, a0.txRoot, a0.receiptRoot, a0.bloom, a0.difficulty, a0.number, a0.limit, a0.used, a0.time, .slice A1 a0.extra.length c2, a0.mix, a0.nonce, a0.tail, a0.baseFee, a0.withdrawals, a0.blobUsed, a0.blobExcess, a0.beacon, a0.requests⟩ : HdrC).C 38) :: ([] ++ N))) ?_ ?_
   ·rintro L29 M30 ⟨p27, e28, e31, e32⟩
    rw [e31, e32]
    clear e31 e32 L29 M30
    clear hq26
    rw [e28] at hf
    clear e28
    try dsimp only at hf
    refine Z1 ?_
    by_cases h33 : p27 = true
    ·replace hf := if_t hf h33
     refine Z13 rfl (h33) (Z4 (Z2 (Z0 (Z5 rfl) rfl (Z6 (Z1 (CW.ret (Z8 ?_)))))))
     have e0 := Zi hf
     subst e0
     refine Z108 (rs := [.tmp 4]) ([.bool false]) ((some b16, blk (⟨a1.parent, a1.uncles, a1.coinbase, a1.state, a1.txRoot, a1.receiptRoot, a1.bloom, a1.difficulty, a1.number, a1.limit, a1.used, a1.time, .slice A8 a1.extra.length c9, a1.mix, a1.nonce, a1.tail, a1.baseFee, a1.withdrawals, a1.blobUsed, a1.blobExcess, a1.beacon, a1.requests⟩ : HdrC).C 38) :: (some b15, blk (⟨a0.parent, a0.uncles, a0.coinbase, a0.state, a0.txRoot, a0.receiptRoot, a0.bloom, a0.difficulty, a0.number, a0.limit, a0.used, a0.time, .slice A1 a0.extra.length c2, a0.mix, a0.nonce, a0.tail, a0.baseFee, a0.withdrawals, a0.blobUsed, a0.blobExcess, a0.beacon, a0.requests⟩ : HdrC).C 38) :: []) rfl ?_ rfl ?_ ?_ _ (.inl rfl)
     ·exact ⟨rfl, trivial⟩
     ·exact rfl
     ·exact (fun w m => m)
    ·replace hf := if_f hf h33
     refine Z14 rfl (Bool.eq_false_iff.2 h33) (CW.skip (Z1 (Z4 (Z4 ?_))))
     obtain ⟨q34, hq35, hf⟩ := Z102 hf
     refine Z120 (fun L' M' => ∃ p36 : Bool, q34 = p36 ∧ L' = [(2, ptr (some b15) 0), (3, ptr (some b16) 0), (131, .bool (p36))] ∧ M' = ((some b16, blk (⟨a1.parent, a1.uncles, a1.coinbase, a1.state, a1.txRoot, a1.receiptRoot, a1.bloom, a1.difficulty, a1.number, a1.limit, a1.used, a1.time, .slice A8 a1.extra.length c9, a1.mix, a1.nonce, a1.tail, a1.baseFee, a1.withdrawals, a1.blobUsed, a1.blobExcess, a1.beacon, a1.requests⟩ : HdrC).C 38) :: (some b15, blk (⟨a0.parent, a0.uncles, a0.coinbase, a0.state, a0.txRoot, a0.receiptRoot, a0.bloom, a0.difficulty, a0.number, a0.limit, a0.used, a0.time, .slice A1 a0.extra.length c2, a0.mix, a0.nonce, a0.tail, a0.baseFee, a0.withdrawals, a0.blobUsed, a0.blobExcess, a0.beacon, a0.requests⟩ : HdrC).C 38) :: ([] ++ N))) ?_ ?_
     ·rintro L38 M39 ⟨p36, e37, e40, e41⟩
      rw [e40, e41]
      clear e40 e41 L38 M39
      clear hq35
      rw [e37] at hf
      clear e37
      try dsimp only at hf
      refine Z1 ?_
      by_cases h42 : p36 = true
      ·replace hf := if_t hf h42
       refine Z13 rfl (h42) (Z4 (Z2 (Z0 (Z5 rfl) rfl (Z6 (Z1 (CW.ret (Z8 ?_)))))))
       have e0 := Zi hf
       subst e0
       refine Z108 (rs := [.tmp 4]) ([.bool false]) ((some b16, blk (⟨a1.parent, a1.uncles, a1.coinbase, a1.state, a1.txRoot, a1.receiptRoot, a1.bloom, a1.difficulty, a1.number, a1.limit, a1.used, a1.time, .slice A8 a1.extra.length c9, a1.mix, a1.nonce, a1.tail, a1.baseFee, a1.withdrawals, a1.blobUsed, a1.blobExcess, a1.beacon, a1.requests⟩ : HdrC).C 38) :: (some b15, blk (⟨a0.parent, a0.uncles, a0.coinbase, a0.state, a0.txRoot, a0.receiptRoot, a0.bloom, a0.difficulty, a0.number, a0.limit, a0.used, a0.time, .slice A1 a0.extra.length c2, a0.mix, a0.nonce, a0.tail, a0.baseFee, a0.withdrawals, a0.blobUsed, a0.blobExcess, a0.beacon, a0.requests⟩ : HdrC).C 38) :: []) rfl ?_ rfl ?_ ?_ _ (.inl rfl)
       ·exact ⟨rfl, trivial⟩
       ·exact rfl
       ·exact (fun w m => m)
      ·replace hf := if_f hf h42
       refine Z14 rfl (Bool.eq_false_iff.2 h42) (CW.skip (Z1 (Z4 ?_)))
       obtain ⟨q43, hq44, hf⟩ := Z102 hf
       refine Z120 (fun L' M' => ∃ p45 : Bool, q43 = p45 ∧ L' = [(4, .bool (p45))] ∧ M' = (([] ++ N))) ?_ ?_
       ·rintro L47 M48 ⟨p45, e46, e49, e50⟩
        rw [e49, e50]
        clear e49 e50 L47 M48
        clear hq44
        rw [e46] at hf
        clear e46
        try dsimp only at hf
        refine Z1 (CW.ret ?_)
        have e0 := Zi hf
        subst e0
        refine Z108 (rs := [.tmp 4]) ([.bool (p45)]) ([]) rfl ?_ rfl ?_ ?_ _ (.inl rfl)
        ·exact ⟨rfl, trivial⟩
        ·exact rfl
        ·exact (fun w m => m)
       ·skip
        refine Z2 (Z0 (Z30 rfl rfl rfl rfl) rfl (Z7 (ptr (some b15) 486) rfl (Z0 (Z113 rfl (List.Mem.tail _ Zh) rfl rfl rfl rfl (Z146 (⟨a0.parent, a0.uncles, a0.coinbase, a0.state, a0.txRoot, a0.receiptRoot, a0.bloom, a0.difficulty, a0.number, a0.limit, a0.used, a0.time, .slice A1 a0.extra.length c2, a0.mix, a0.nonce, a0.tail, a0.baseFee, a0.withdrawals, a0.blobUsed, a0.blobExcess, a0.beacon, a0.requests⟩ : HdrC)) ((Z103 _).trans Zv)) rfl (Z0 (Z30 rfl rfl rfl rfl) rfl (Z7 (ptr (some b16) 486) rfl (Z0 (Z113 rfl Zh rfl rfl rfl rfl (Z146 (⟨a1.parent, a1.uncles, a1.coinbase, a1.state, a1.txRoot, a1.receiptRoot, a1.bloom, a1.difficulty, a1.number, a1.limit, a1.used, a1.time, .slice A8 a1.extra.length c9, a1.mix, a1.nonce, a1.tail, a1.baseFee, a1.withdrawals, a1.blobUsed, a1.blobExcess, a1.beacon, a1.requests⟩ : HdrC)) ((Z103 _).trans Zv)) rfl (Z0 (RV.eqA64 rfl rfl rfl rfl rfl rfl (Zv) (Zv)) rfl ?_)))))))
        refine Z7 (.bool (decide (a0.baseFee = a1.baseFee))) (congrArg Value.bool (decide_eq_decide.2 Vector.toList_inj)) (Z0 (Z3 rfl) rfl ?_)
        by_cases h51 : a0.baseFee = a1.baseFee
        ·replace hq44 := if_t hq44 h51
         refine Z7 (.bool true) (congrArg Value.bool (decide_eq_true h51)) (Z24 rfl (Z0 (Z30 rfl rfl rfl rfl) rfl (Z7 (ptr (some b15) 490) rfl (Z24 rfl (Z0 (Z113 rfl (List.Mem.tail _ Zh) rfl rfl rfl rfl (Z125 (⟨a0.parent, a0.uncles, a0.coinbase, a0.state, a0.txRoot, a0.receiptRoot, a0.bloom, a0.difficulty, a0.number, a0.limit, a0.used, a0.time, .slice A1 a0.extra.length c2, a0.mix, a0.nonce, a0.tail, a0.baseFee, a0.withdrawals, a0.blobUsed, a0.blobExcess, a0.beacon, a0.requests⟩ : HdrC)) ((Z100 _).trans Zv)) rfl (Z24 rfl (Z0 (Z30 rfl rfl rfl rfl) rfl ?_)))))))
         refine Z7 (ptr (some b16) 490) rfl (Z24 rfl (Z0 (Z113 rfl Zh rfl rfl rfl rfl (Z125 (⟨a1.parent, a1.uncles, a1.coinbase, a1.state, a1.txRoot, a1.receiptRoot, a1.bloom, a1.difficulty, a1.number, a1.limit, a1.used, a1.time, .slice A8 a1.extra.length c9, a1.mix, a1.nonce, a1.tail, a1.baseFee, a1.withdrawals, a1.blobUsed, a1.blobExcess, a1.beacon, a1.requests⟩ : HdrC)) ((Z100 _).trans Zv)) rfl (Z24 rfl (Z0 (RV.eqA8 rfl rfl rfl rfl rfl rfl (Zv) (Zv)) rfl (Z7 (.bool (decide (a0.withdrawals = a1.withdrawals))) (congrArg Value.bool (decide_eq_decide.2 Vector.toList_inj)) (Z0 (Z105 rfl rfl rfl) rfl (Z0 (Z3 rfl) rfl ?_)))))))
         by_cases h52 : a0.withdrawals = a1.withdrawals
         ·replace hq44 := if_t hq44 h52
          refine Z7 (.bool true) (congrArg Value.bool (decide_eq_true h52)) (Z24 rfl (Z0 (Z30 rfl rfl rfl rfl) rfl (Z7 (ptr (some b15) 522) rfl (Z24 rfl (Z0 (Z29 rfl (List.Mem.tail _ Zh) rfl rfl rfl (Z167 (⟨a0.parent, a0.uncles, a0.coinbase, a0.state, a0.txRoot, a0.receiptRoot, a0.bloom, a0.difficulty, a0.number, a0.limit, a0.used, a0.time, .slice A1 a0.extra.length c2, a0.mix, a0.nonce, a0.tail, a0.baseFee, a0.withdrawals, a0.blobUsed, a0.blobExcess, a0.beacon, a0.requests⟩ : HdrC))) rfl (Z24 rfl (Z0 (Z30 rfl rfl rfl rfl) rfl ?_)))))))
          refine Z7 (ptr (some b16) 522) rfl (Z24 rfl (Z0 (Z29 rfl Zh rfl rfl rfl (Z167 (⟨a1.parent, a1.uncles, a1.coinbase, a1.state, a1.txRoot, a1.receiptRoot, a1.bloom, a1.difficulty, a1.number, a1.limit, a1.used, a1.time, .slice A8 a1.extra.length c9, a1.mix, a1.nonce, a1.tail, a1.baseFee, a1.withdrawals, a1.blobUsed, a1.blobExcess, a1.beacon, a1.requests⟩ : HdrC))) rfl (Z24 rfl (Z0 (RV.eql64 rfl (by first | rfl | exact lit64 _ rfl) rfl (by first | rfl | exact lit64 _ rfl)) rfl (Z0 (Z105 rfl rfl rfl) rfl (Z0 (Z3 rfl) rfl ?_))))))
          by_cases h53 : a0.blobUsed = a1.blobUsed
          ·replace hq44 := if_t hq44 h53
           refine Z7 (.bool true) (congrArg Value.bool (decide_eq_true h53)) (Z24 rfl (Z0 (Z30 rfl rfl rfl rfl) rfl (Z7 (ptr (some b15) 523) rfl (Z24 rfl (Z0 (Z29 rfl (List.Mem.tail _ Zh) rfl rfl rfl (Z152 (⟨a0.parent, a0.uncles, a0.coinbase, a0.state, a0.txRoot, a0.receiptRoot, a0.bloom, a0.difficulty, a0.number, a0.limit, a0.used, a0.time, .slice A1 a0.extra.length c2, a0.mix, a0.nonce, a0.tail, a0.baseFee, a0.withdrawals, a0.blobUsed, a0.blobExcess, a0.beacon, a0.requests⟩ : HdrC))) rfl (Z24 rfl (Z0 (Z30 rfl rfl rfl rfl) rfl ?_)))))))
           refine Z7 (ptr (some b16) 523) rfl (Z24 rfl (Z0 (Z29 rfl Zh rfl rfl rfl (Z152 (⟨a1.parent, a1.uncles, a1.coinbase, a1.state, a1.txRoot, a1.receiptRoot, a1.bloom, a1.difficulty, a1.number, a1.limit, a1.used, a1.time, .slice A8 a1.extra.length c9, a1.mix, a1.nonce, a1.tail, a1.baseFee, a1.withdrawals, a1.blobUsed, a1.blobExcess, a1.beacon, a1.requests⟩ : HdrC))) rfl (Z24 rfl (Z0 (RV.eql64 rfl (by first | rfl | exact lit64 _ rfl) rfl (by first | rfl | exact lit64 _ rfl)) rfl (Z0 (Z105 rfl rfl rfl) rfl (Z0 (Z3 rfl) rfl ?_))))))
           by_cases h54 : a0.blobExcess = a1.blobExcess
           ·replace hq44 := if_t hq44 h54
            refine Z7 (.bool true) (congrArg Value.bool (decide_eq_true h54)) (Z24 rfl (Z0 (Z30 rfl rfl rfl rfl) rfl (Z7 (ptr (some b15) 524) rfl (Z24 rfl (Z0 (Z113 rfl (List.Mem.tail _ Zh) rfl rfl rfl rfl (Z153 (⟨a0.parent, a0.uncles, a0.coinbase, a0.state, a0.txRoot, a0.receiptRoot, a0.bloom, a0.difficulty, a0.number, a0.limit, a0.used, a0.time, .slice A1 a0.extra.length c2, a0.mix, a0.nonce, a0.tail, a0.baseFee, a0.withdrawals, a0.blobUsed, a0.blobExcess, a0.beacon, a0.requests⟩ : HdrC)) ((Z100 _).trans Zv)) rfl (Z24 rfl (Z0 (Z30 rfl rfl rfl rfl) rfl ?_)))))))
            refine Z7 (ptr (some b16) 524) rfl (Z24 rfl (Z0 (Z113 rfl Zh rfl rfl rfl rfl (Z153 (⟨a1.parent, a1.uncles, a1.coinbase, a1.state, a1.txRoot, a1.receiptRoot, a1.bloom, a1.difficulty, a1.number, a1.limit, a1.used, a1.time, .slice A8 a1.extra.length c9, a1.mix, a1.nonce, a1.tail, a1.baseFee, a1.withdrawals, a1.blobUsed, a1.blobExcess, a1.beacon, a1.requests⟩ : HdrC)) ((Z100 _).trans Zv)) rfl (Z24 rfl (Z0 (RV.eqA8 rfl rfl rfl rfl rfl rfl (Zv) (Zv)) rfl (Z7 (.bool (decide (a0.beacon = a1.beacon))) (congrArg Value.bool (decide_eq_decide.2 Vector.toList_inj)) (Z0 (Z105 rfl rfl rfl) rfl (Z0 (Z3 rfl) rfl ?_)))))))
            by_cases h55 : a0.beacon = a1.beacon
            ·replace hq44 := if_t hq44 h55
             refine Z7 (.bool true) (congrArg Value.bool (decide_eq_true h55)) (Z24 rfl (Z0 (Z30 rfl rfl rfl rfl) rfl (Z7 (ptr (some b15) 556) rfl (Z24 rfl (Z0 (Z113 rfl (List.Mem.tail _ Zh) rfl rfl rfl rfl (Z123 (⟨a0.parent, a0.uncles, a0.coinbase, a0.state, a0.txRoot, a0.receiptRoot, a0.bloom, a0.difficulty, a0.number, a0.limit, a0.used, a0.time, .slice A1 a0.extra.length c2, a0.mix, a0.nonce, a0.tail, a0.baseFee, a0.withdrawals, a0.blobUsed, a0.blobExcess, a0.beacon, a0.requests⟩ : HdrC)) ((Z100 _).trans Zv)) rfl (Z24 rfl (Z0 (Z30 rfl rfl rfl rfl) rfl ?_)))))))
             refine Z7 (ptr (some b16) 556) rfl (Z24 rfl (Z0 (Z113 rfl Zh rfl rfl rfl rfl (Z123 (⟨a1.parent, a1.uncles, a1.coinbase, a1.state, a1.txRoot, a1.receiptRoot, a1.bloom, a1.difficulty, a1.number, a1.limit, a1.used, a1.time, .slice A8 a1.extra.length c9, a1.mix, a1.nonce, a1.tail, a1.baseFee, a1.withdrawals, a1.blobUsed, a1.blobExcess, a1.beacon, a1.requests⟩ : HdrC)) ((Z100 _).trans Zv)) rfl (Z24 rfl (Z0 (RV.eqA8 rfl rfl rfl rfl rfl rfl (Zv) (Zv)) rfl (Z7 (.bool (decide (a0.requests = a1.requests))) (congrArg Value.bool (decide_eq_decide.2 Vector.toList_inj)) (Z0 (Z105 rfl rfl rfl) rfl (Z0 (Z5 rfl) rfl ?_)))))))
             refine Z6 ?_
             exact QW.join ⟨(decide (a0.requests = a1.requests)), (Zi hq44).symm, rfl, rfl⟩ ⟨rfl, trivial⟩ (fun w m => m.pick [] 2 rfl rfl)
            ·replace hq44 := if_f hq44 h55
             refine Z7 (.bool false) (congrArg Value.bool (decide_eq_false h55)) (Z23 rfl rfl rfl (Z23 rfl rfl rfl (Z23 rfl rfl rfl (Z23 rfl rfl rfl (Z23 rfl rfl rfl (Z0 (Z106 rfl rfl rfl) rfl (Z0 (Z5 rfl) rfl ?_)))))))
             refine Z6 ?_
             exact QW.join ⟨false, (Zi hq44).symm, rfl, rfl⟩ ⟨rfl, trivial⟩ (fun w m => m.pick [] 2 rfl rfl)
           ·replace hq44 := if_f hq44 h54
            refine Z7 (.bool false) (congrArg Value.bool (decide_eq_false h54)) (Z23 rfl rfl rfl (Z23 rfl rfl rfl (Z23 rfl rfl rfl (Z23 rfl rfl rfl (Z23 rfl rfl rfl (Z0 (Z106 rfl rfl rfl) rfl (Z0 (Z3 rfl) rfl ?_)))))))
            refine Z23 rfl rfl rfl (Z23 rfl rfl rfl (Z23 rfl rfl rfl (Z23 rfl rfl rfl (Z23 rfl rfl rfl (Z0 (Z106 rfl rfl rfl) rfl (Z0 (Z5 rfl) rfl (Z6 ?_)))))))
            exact QW.join ⟨false, (Zi hq44).symm, rfl, rfl⟩ ⟨rfl, trivial⟩ (fun w m => m.pick [] 2 rfl rfl)
          ·replace hq44 := if_f hq44 h53
           refine Z7 (.bool false) (congrArg Value.bool (decide_eq_false h53)) (Z23 rfl rfl rfl (Z23 rfl rfl rfl (Z23 rfl rfl rfl (Z23 rfl rfl rfl (Z23 rfl rfl rfl (Z0 (Z106 rfl rfl rfl) rfl (Z0 (Z3 rfl) rfl ?_)))))))
           refine Z23 rfl rfl rfl (Z23 rfl rfl rfl (Z23 rfl rfl rfl (Z23 rfl rfl rfl (Z23 rfl rfl rfl (Z0 (Z106 rfl rfl rfl) rfl (Z0 (Z3 rfl) rfl (Z23 rfl rfl rfl ?_)))))))
           refine Z23 rfl rfl rfl (Z23 rfl rfl rfl (Z23 rfl rfl rfl (Z23 rfl rfl rfl (Z0 (Z106 rfl rfl rfl) rfl (Z0 (Z5 rfl) rfl (Z6 ?_))))))
           exact QW.join ⟨false, (Zi hq44).symm, rfl, rfl⟩ ⟨rfl, trivial⟩ (fun w m => m.pick [] 2 rfl rfl)
         ·replace hq44 := if_f hq44 h52
          refine Z7 (.bool false) (congrArg Value.bool (decide_eq_false h52)) (Z23 rfl rfl rfl (Z23 rfl rfl rfl (Z23 rfl rfl rfl (Z23 rfl rfl rfl (Z23 rfl rfl rfl (Z0 (Z106 rfl rfl rfl) rfl (Z0 (Z3 rfl) rfl ?_)))))))
          refine Z23 rfl rfl rfl (Z23 rfl rfl rfl (Z23 rfl rfl rfl (Z23 rfl rfl rfl (Z23 rfl rfl rfl (Z0 (Z106 rfl rfl rfl) rfl (Z0 (Z3 rfl) rfl (Z23 rfl rfl rfl ?_)))))))
          refine Z23 rfl rfl rfl (Z23 rfl rfl rfl (Z23 rfl rfl rfl (Z23 rfl rfl rfl (Z0 (Z106 rfl rfl rfl) rfl (Z0 (Z3 rfl) rfl (Z23 rfl rfl rfl (Z23 rfl rfl rfl ?_)))))))
          refine Z23 rfl rfl rfl (Z23 rfl rfl rfl (Z23 rfl rfl rfl (Z0 (Z106 rfl rfl rfl) rfl (Z0 (Z5 rfl) rfl (Z6 ?_)))))
          exact QW.join ⟨false, (Zi hq44).symm, rfl, rfl⟩ ⟨rfl, trivial⟩ (fun w m => m.pick [] 2 rfl rfl)
        ·replace hq44 := if_f hq44 h51
         refine Z7 (.bool false) (congrArg Value.bool (decide_eq_false h51)) (Z23 rfl rfl rfl (Z23 rfl rfl rfl (Z23 rfl rfl rfl (Z23 rfl rfl rfl (Z23 rfl rfl rfl (Z0 (Z106 rfl rfl rfl) rfl (Z0 (Z3 rfl) rfl ?_)))))))
         refine Z23 rfl rfl rfl (Z23 rfl rfl rfl (Z23 rfl rfl rfl (Z23 rfl rfl rfl (Z23 rfl rfl rfl (Z0 (Z106 rfl rfl rfl) rfl (Z0 (Z3 rfl) rfl (Z23 rfl rfl rfl ?_)))))))
         refine Z23 rfl rfl rfl (Z23 rfl rfl rfl (Z23 rfl rfl rfl (Z23 rfl rfl rfl (Z0 (Z106 rfl rfl rfl) rfl (Z0 (Z3 rfl) rfl (Z23 rfl rfl rfl (Z23 rfl rfl rfl ?_)))))))
         refine Z23 rfl rfl rfl (Z23 rfl rfl rfl (Z23 rfl rfl rfl (Z0 (Z106 rfl rfl rfl) rfl (Z0 (Z3 rfl) rfl (Z23 rfl rfl rfl (Z23 rfl rfl rfl (Z23 rfl rfl rfl ?_)))))))
         refine Z23 rfl rfl rfl (Z23 rfl rfl rfl (Z0 (Z106 rfl rfl rfl) rfl (Z0 (Z5 rfl) rfl (Z6 ?_))))
         exact QW.join ⟨false, (Zi hq44).symm, rfl, rfl⟩ ⟨rfl, trivial⟩ (fun w m => m.pick [] 2 rfl rfl)
     ·skip
      refine Z2 (Z0 (Z30 rfl rfl rfl rfl) rfl (Z7 (ptr (some b15) 436) rfl (Z0 (Z113 rfl (List.Mem.tail _ Zh) rfl rfl rfl rfl (Z144 (⟨a0.parent, a0.uncles, a0.coinbase, a0.state, a0.txRoot, a0.receiptRoot, a0.bloom, a0.difficulty, a0.number, a0.limit, a0.used, a0.time, .slice A1 a0.extra.length c2, a0.mix, a0.nonce, a0.tail, a0.baseFee, a0.withdrawals, a0.blobUsed, a0.blobExcess, a0.beacon, a0.requests⟩ : HdrC)) ((Z103 _).trans Zv)) rfl (Z0 (Z30 rfl rfl rfl rfl) rfl (Z7 (ptr (some b16) 436) rfl (Z0 (Z113 rfl Zh rfl rfl rfl rfl (Z144 (⟨a1.parent, a1.uncles, a1.coinbase, a1.state, a1.txRoot, a1.receiptRoot, a1.bloom, a1.difficulty, a1.number, a1.limit, a1.used, a1.time, .slice A8 a1.extra.length c9, a1.mix, a1.nonce, a1.tail, a1.baseFee, a1.withdrawals, a1.blobUsed, a1.blobExcess, a1.beacon, a1.requests⟩ : HdrC)) ((Z103 _).trans Zv)) rfl (Z0 (RV.neA64 rfl rfl rfl rfl rfl rfl (Zv) (Zv)) rfl ?_)))))))
      refine Z7 (.bool (!decide (a0.difficulty = a1.difficulty))) (congrArg (fun b => Value.bool (!b)) (decide_eq_decide.2 Vector.toList_inj)) (Z0 (Z3 rfl) rfl ?_)
      by_cases h56 : a0.difficulty = a1.difficulty
      ·replace hq35 := if_t hq35 h56
       refine Z7 (.bool false) (congrArg Value.bool (congrArg (fun b => !b) (decide_eq_true h56))) (Z24 rfl (Z0 (Z30 rfl rfl rfl rfl) rfl (Z7 (ptr (some b15) 440) rfl (Z24 rfl (Z0 (Z29 rfl (List.Mem.tail _ Zh) rfl rfl rfl (HdrC.C_number (⟨a0.parent, a0.uncles, a0.coinbase, a0.state, a0.txRoot, a0.receiptRoot, a0.bloom, a0.difficulty, a0.number, a0.limit, a0.used, a0.time, .slice A1 a0.extra.length c2, a0.mix, a0.nonce, a0.tail, a0.baseFee, a0.withdrawals, a0.blobUsed, a0.blobExcess, a0.beacon, a0.requests⟩ : HdrC))) rfl (Z24 rfl (Z0 (Z30 rfl rfl rfl rfl) rfl ?_)))))))
       refine Z7 (ptr (some b16) 440) rfl (Z24 rfl (Z0 (Z29 rfl Zh rfl rfl rfl (HdrC.C_number (⟨a1.parent, a1.uncles, a1.coinbase, a1.state, a1.txRoot, a1.receiptRoot, a1.bloom, a1.difficulty, a1.number, a1.limit, a1.used, a1.time, .slice A8 a1.extra.length c9, a1.mix, a1.nonce, a1.tail, a1.baseFee, a1.withdrawals, a1.blobUsed, a1.blobExcess, a1.beacon, a1.requests⟩ : HdrC))) rfl (Z24 rfl (Z0 (RV.neq64 rfl (by first | rfl | exact lit64 _ rfl) rfl (by first | rfl | exact lit64 _ rfl)) rfl (Z0 (Z106 rfl rfl rfl) rfl (Z0 (Z3 rfl) rfl ?_))))))
       by_cases h57 : a0.number = a1.number
       ·replace hq35 := if_t hq35 h57
        refine Z7 (.bool false) (congrArg Value.bool (congrArg (fun b => !b) (decide_eq_true h57))) (Z24 rfl (Z0 (Z30 rfl rfl rfl rfl) rfl (Z7 (ptr (some b15) 441) rfl (Z24 rfl (Z0 (Z29 rfl (List.Mem.tail _ Zh) rfl rfl rfl (HdrC.C_limit (⟨a0.parent, a0.uncles, a0.coinbase, a0.state, a0.txRoot, a0.receiptRoot, a0.bloom, a0.difficulty, a0.number, a0.limit, a0.used, a0.time, .slice A1 a0.extra.length c2, a0.mix, a0.nonce, a0.tail, a0.baseFee, a0.withdrawals, a0.blobUsed, a0.blobExcess, a0.beacon, a0.requests⟩ : HdrC))) rfl (Z24 rfl (Z0 (Z30 rfl rfl rfl rfl) rfl ?_)))))))
        refine Z7 (ptr (some b16) 441) rfl (Z24 rfl (Z0 (Z29 rfl Zh rfl rfl rfl (HdrC.C_limit (⟨a1.parent, a1.uncles, a1.coinbase, a1.state, a1.txRoot, a1.receiptRoot, a1.bloom, a1.difficulty, a1.number, a1.limit, a1.used, a1.time, .slice A8 a1.extra.length c9, a1.mix, a1.nonce, a1.tail, a1.baseFee, a1.withdrawals, a1.blobUsed, a1.blobExcess, a1.beacon, a1.requests⟩ : HdrC))) rfl (Z24 rfl (Z0 (RV.neq64 rfl (by first | rfl | exact lit64 _ rfl) rfl (by first | rfl | exact lit64 _ rfl)) rfl (Z0 (Z106 rfl rfl rfl) rfl (Z0 (Z3 rfl) rfl ?_))))))
        by_cases h58 : a0.limit = a1.limit
        ·replace hq35 := if_t hq35 h58
         refine Z7 (.bool false) (congrArg Value.bool (congrArg (fun b => !b) (decide_eq_true h58))) (Z24 rfl (Z0 (Z30 rfl rfl rfl rfl) rfl (Z7 (ptr (some b15) 442) rfl (Z24 rfl (Z0 (Z29 rfl (List.Mem.tail _ Zh) rfl rfl rfl (HdrC.C_used (⟨a0.parent, a0.uncles, a0.coinbase, a0.state, a0.txRoot, a0.receiptRoot, a0.bloom, a0.difficulty, a0.number, a0.limit, a0.used, a0.time, .slice A1 a0.extra.length c2, a0.mix, a0.nonce, a0.tail, a0.baseFee, a0.withdrawals, a0.blobUsed, a0.blobExcess, a0.beacon, a0.requests⟩ : HdrC))) rfl (Z24 rfl (Z0 (Z30 rfl rfl rfl rfl) rfl ?_)))))))
         refine Z7 (ptr (some b16) 442) rfl (Z24 rfl (Z0 (Z29 rfl Zh rfl rfl rfl (HdrC.C_used (⟨a1.parent, a1.uncles, a1.coinbase, a1.state, a1.txRoot, a1.receiptRoot, a1.bloom, a1.difficulty, a1.number, a1.limit, a1.used, a1.time, .slice A8 a1.extra.length c9, a1.mix, a1.nonce, a1.tail, a1.baseFee, a1.withdrawals, a1.blobUsed, a1.blobExcess, a1.beacon, a1.requests⟩ : HdrC))) rfl (Z24 rfl (Z0 (RV.neq64 rfl (by first | rfl | exact lit64 _ rfl) rfl (by first | rfl | exact lit64 _ rfl)) rfl (Z0 (Z106 rfl rfl rfl) rfl (Z0 (Z3 rfl) rfl ?_))))))
         by_cases h59 : a0.used = a1.used
         ·replace hq35 := if_t hq35 h59
          refine Z7 (.bool false) (congrArg Value.bool (congrArg (fun b => !b) (decide_eq_true h59))) (Z24 rfl (Z0 (Z30 rfl rfl rfl rfl) rfl (Z7 (ptr (some b15) 443) rfl (Z24 rfl (Z0 (Z29 rfl (List.Mem.tail _ Zh) rfl rfl rfl (HdrC.C_time (⟨a0.parent, a0.uncles, a0.coinbase, a0.state, a0.txRoot, a0.receiptRoot, a0.bloom, a0.difficulty, a0.number, a0.limit, a0.used, a0.time, .slice A1 a0.extra.length c2, a0.mix, a0.nonce, a0.tail, a0.baseFee, a0.withdrawals, a0.blobUsed, a0.blobExcess, a0.beacon, a0.requests⟩ : HdrC))) rfl (Z24 rfl (Z0 (Z30 rfl rfl rfl rfl) rfl ?_)))))))
          refine Z7 (ptr (some b16) 443) rfl (Z24 rfl (Z0 (Z29 rfl Zh rfl rfl rfl (HdrC.C_time (⟨a1.parent, a1.uncles, a1.coinbase, a1.state, a1.txRoot, a1.receiptRoot, a1.bloom, a1.difficulty, a1.number, a1.limit, a1.used, a1.time, .slice A8 a1.extra.length c9, a1.mix, a1.nonce, a1.tail, a1.baseFee, a1.withdrawals, a1.blobUsed, a1.blobExcess, a1.beacon, a1.requests⟩ : HdrC))) rfl (Z24 rfl (Z0 (RV.neq64 rfl (by first | rfl | exact lit64 _ rfl) rfl (by first | rfl | exact lit64 _ rfl)) rfl (Z0 (Z106 rfl rfl rfl) rfl (Z0 (Z3 rfl) rfl ?_))))))
          by_cases h60 : a0.time = a1.time
          ·replace hq35 := if_t hq35 h60
           refine Z7 (.bool false) (congrArg Value.bool (congrArg (fun b => !b) (decide_eq_true h60))) (Z24 rfl (Z0 (Z30 rfl rfl rfl rfl) rfl (Z7 (ptr (some b15) 445) rfl (Z24 rfl (Z0 (Z113 rfl (List.Mem.tail _ Zh) rfl rfl rfl rfl (HdrC.C_mix_all (⟨a0.parent, a0.uncles, a0.coinbase, a0.state, a0.txRoot, a0.receiptRoot, a0.bloom, a0.difficulty, a0.number, a0.limit, a0.used, a0.time, .slice A1 a0.extra.length c2, a0.mix, a0.nonce, a0.tail, a0.baseFee, a0.withdrawals, a0.blobUsed, a0.blobExcess, a0.beacon, a0.requests⟩ : HdrC)) ((Z100 _).trans Zv)) rfl (Z24 rfl (Z0 (Z30 rfl rfl rfl rfl) rfl ?_)))))))
           refine Z7 (ptr (some b16) 445) rfl (Z24 rfl (Z0 (Z113 rfl Zh rfl rfl rfl rfl (HdrC.C_mix_all (⟨a1.parent, a1.uncles, a1.coinbase, a1.state, a1.txRoot, a1.receiptRoot, a1.bloom, a1.difficulty, a1.number, a1.limit, a1.used, a1.time, .slice A8 a1.extra.length c9, a1.mix, a1.nonce, a1.tail, a1.baseFee, a1.withdrawals, a1.blobUsed, a1.blobExcess, a1.beacon, a1.requests⟩ : HdrC)) ((Z100 _).trans Zv)) rfl (Z24 rfl (Z0 (RV.neA8 rfl rfl rfl rfl rfl rfl (Zv) (Zv)) rfl (Z7 (.bool (!decide (a0.mix = a1.mix))) (congrArg (fun b => Value.bool (!b)) (decide_eq_decide.2 Vector.toList_inj)) (Z0 (Z106 rfl rfl rfl) rfl (Z0 (Z3 rfl) rfl ?_)))))))
           by_cases h61 : a0.mix = a1.mix
           ·replace hq35 := if_t hq35 h61
            refine Z7 (.bool false) (congrArg Value.bool (congrArg (fun b => !b) (decide_eq_true h61))) (Z24 rfl (Z0 (Z30 rfl rfl rfl rfl) rfl (Z7 (ptr (some b15) 477) rfl (Z24 rfl (Z0 (Z113 rfl (List.Mem.tail _ Zh) rfl rfl rfl rfl (Z182 (⟨a0.parent, a0.uncles, a0.coinbase, a0.state, a0.txRoot, a0.receiptRoot, a0.bloom, a0.difficulty, a0.number, a0.limit, a0.used, a0.time, .slice A1 a0.extra.length c2, a0.mix, a0.nonce, a0.tail, a0.baseFee, a0.withdrawals, a0.blobUsed, a0.blobExcess, a0.beacon, a0.requests⟩ : HdrC)) ((Z100 _).trans Zv)) rfl (Z24 rfl (Z0 (Z30 rfl rfl rfl rfl) rfl ?_)))))))
            refine Z7 (ptr (some b16) 477) rfl (Z24 rfl (Z0 (Z113 rfl Zh rfl rfl rfl rfl (Z182 (⟨a1.parent, a1.uncles, a1.coinbase, a1.state, a1.txRoot, a1.receiptRoot, a1.bloom, a1.difficulty, a1.number, a1.limit, a1.used, a1.time, .slice A8 a1.extra.length c9, a1.mix, a1.nonce, a1.tail, a1.baseFee, a1.withdrawals, a1.blobUsed, a1.blobExcess, a1.beacon, a1.requests⟩ : HdrC)) ((Z100 _).trans Zv)) rfl (Z24 rfl (Z0 (RV.neA8 rfl rfl rfl rfl rfl rfl (Zv) (Zv)) rfl (Z7 (.bool (!decide (a0.nonce = a1.nonce))) (congrArg (fun b => Value.bool (!b)) (decide_eq_decide.2 Vector.toList_inj)) (Z0 (Z106 rfl rfl rfl) rfl (Z0 (Z3 rfl) rfl ?_)))))))
            by_cases h62 : a0.nonce = a1.nonce
            ·replace hq35 := if_t hq35 h62
             refine Z7 (.bool false) (congrArg Value.bool (congrArg (fun b => !b) (decide_eq_true h62))) (Z24 rfl (Z0 (Z30 rfl rfl rfl rfl) rfl (Z7 (ptr (some b15) 485) rfl (Z24 rfl (Z0 (Z29 rfl (List.Mem.tail _ Zh) rfl rfl rfl (Z122 (⟨a0.parent, a0.uncles, a0.coinbase, a0.state, a0.txRoot, a0.receiptRoot, a0.bloom, a0.difficulty, a0.number, a0.limit, a0.used, a0.time, .slice A1 a0.extra.length c2, a0.mix, a0.nonce, a0.tail, a0.baseFee, a0.withdrawals, a0.blobUsed, a0.blobExcess, a0.beacon, a0.requests⟩ : HdrC))) rfl (Z24 rfl (Z0 (Z30 rfl rfl rfl rfl) rfl ?_)))))))
             refine Z7 (ptr (some b16) 485) rfl (Z24 rfl (Z0 (Z29 rfl Zh rfl rfl rfl (Z122 (⟨a1.parent, a1.uncles, a1.coinbase, a1.state, a1.txRoot, a1.receiptRoot, a1.bloom, a1.difficulty, a1.number, a1.limit, a1.used, a1.time, .slice A8 a1.extra.length c9, a1.mix, a1.nonce, a1.tail, a1.baseFee, a1.withdrawals, a1.blobUsed, a1.blobExcess, a1.beacon, a1.requests⟩ : HdrC))) rfl (Z24 rfl (Z0 (RV.neq rfl rfl) rfl (Z0 (Z106 rfl rfl rfl) rfl (Z6 ?_))))))
             exact QW.join ⟨(!decide (a0.tail = a1.tail)), (Zi hq35).symm, rfl, rfl⟩ ⟨rfl, rfl, rfl, trivial⟩ (fun w m => m.pick [0, 1] 2 rfl rfl)
            ·replace hq35 := if_f hq35 h62
             refine Z7 (.bool true) (congrArg Value.bool (congrArg (fun b => !b) (decide_eq_false h62))) (Z23 rfl rfl rfl (Z23 rfl rfl rfl (Z23 rfl rfl rfl (Z23 rfl rfl rfl (Z23 rfl rfl rfl (Z0 (Z105 rfl rfl rfl) rfl (Z6 ?_)))))))
             exact QW.join ⟨true, (Zi hq35).symm, rfl, rfl⟩ ⟨rfl, rfl, rfl, trivial⟩ (fun w m => m.pick [0, 1] 2 rfl rfl)
           ·replace hq35 := if_f hq35 h61
            refine Z7 (.bool true) (congrArg Value.bool (congrArg (fun b => !b) (decide_eq_false h61))) (Z23 rfl rfl rfl (Z23 rfl rfl rfl (Z23 rfl rfl rfl (Z23 rfl rfl rfl (Z23 rfl rfl rfl (Z0 (Z105 rfl rfl rfl) rfl (Z0 (Z3 rfl) rfl ?_)))))))
            refine Z23 rfl rfl rfl (Z23 rfl rfl rfl (Z23 rfl rfl rfl (Z23 rfl rfl rfl (Z23 rfl rfl rfl (Z0 (Z105 rfl rfl rfl) rfl (Z6 ?_))))))
            exact QW.join ⟨true, (Zi hq35).symm, rfl, rfl⟩ ⟨rfl, rfl, rfl, trivial⟩ (fun w m => m.pick [0, 1] 2 rfl rfl)
          ·replace hq35 := if_f hq35 h60
           refine Z7 (.bool true) (congrArg Value.bool (congrArg (fun b => !b) (decide_eq_false h60))) (Z23 rfl rfl rfl (Z23 rfl rfl rfl (Z23 rfl rfl rfl (Z23 rfl rfl rfl (Z23 rfl rfl rfl (Z0 (Z105 rfl rfl rfl) rfl (Z0 (Z3 rfl) rfl ?_)))))))
           refine Z23 rfl rfl rfl (Z23 rfl rfl rfl (Z23 rfl rfl rfl (Z23 rfl rfl rfl (Z23 rfl rfl rfl (Z0 (Z105 rfl rfl rfl) rfl (Z0 (Z3 rfl) rfl (Z23 rfl rfl rfl ?_)))))))
           refine Z23 rfl rfl rfl (Z23 rfl rfl rfl (Z23 rfl rfl rfl (Z23 rfl rfl rfl (Z0 (Z105 rfl rfl rfl) rfl (Z6 ?_)))))
           exact QW.join ⟨true, (Zi hq35).symm, rfl, rfl⟩ ⟨rfl, rfl, rfl, trivial⟩ (fun w m => m.pick [0, 1] 2 rfl rfl)
         ·replace hq35 := if_f hq35 h59
          refine Z7 (.bool true) (congrArg Value.bool (congrArg (fun b => !b) (decide_eq_false h59))) (Z23 rfl rfl rfl (Z23 rfl rfl rfl (Z23 rfl rfl rfl (Z23 rfl rfl rfl (Z23 rfl rfl rfl (Z0 (Z105 rfl rfl rfl) rfl (Z0 (Z3 rfl) rfl ?_)))))))
          refine Z23 rfl rfl rfl (Z23 rfl rfl rfl (Z23 rfl rfl rfl (Z23 rfl rfl rfl (Z23 rfl rfl rfl (Z0 (Z105 rfl rfl rfl) rfl (Z0 (Z3 rfl) rfl (Z23 rfl rfl rfl ?_)))))))
          refine Z23 rfl rfl rfl (Z23 rfl rfl rfl (Z23 rfl rfl rfl (Z23 rfl rfl rfl (Z0 (Z105 rfl rfl rfl) rfl (Z0 (Z3 rfl) rfl (Z23 rfl rfl rfl (Z23 rfl rfl rfl ?_)))))))
          refine Z23 rfl rfl rfl (Z23 rfl rfl rfl (Z23 rfl rfl rfl (Z0 (Z105 rfl rfl rfl) rfl (Z6 ?_))))
          exact QW.join ⟨true, (Zi hq35).symm, rfl, rfl⟩ ⟨rfl, rfl, rfl, trivial⟩ (fun w m => m.pick [0, 1] 2 rfl rfl)
        ·replace hq35 := if_f hq35 h58
         refine Z7 (.bool true) (congrArg Value.bool (congrArg (fun b => !b) (decide_eq_false h58))) (Z23 rfl rfl rfl (Z23 rfl rfl rfl (Z23 rfl rfl rfl (Z23 rfl rfl rfl (Z23 rfl rfl rfl (Z0 (Z105 rfl rfl rfl) rfl (Z0 (Z3 rfl) rfl ?_)))))))
         refine Z23 rfl rfl rfl (Z23 rfl rfl rfl (Z23 rfl rfl rfl (Z23 rfl rfl rfl (Z23 rfl rfl rfl (Z0 (Z105 rfl rfl rfl) rfl (Z0 (Z3 rfl) rfl (Z23 rfl rfl rfl ?_)))))))
         refine Z23 rfl rfl rfl (Z23 rfl rfl rfl (Z23 rfl rfl rfl (Z23 rfl rfl rfl (Z0 (Z105 rfl rfl rfl) rfl (Z0 (Z3 rfl) rfl (Z23 rfl rfl rfl (Z23 rfl rfl rfl ?_)))))))
         refine Z23 rfl rfl rfl (Z23 rfl rfl rfl (Z23 rfl rfl rfl (Z0 (Z105 rfl rfl rfl) rfl (Z0 (Z3 rfl) rfl (Z23 rfl rfl rfl (Z23 rfl rfl rfl (Z23 rfl rfl rfl ?_)))))))
         refine Z23 rfl rfl rfl (Z23 rfl rfl rfl (Z0 (Z105 rfl rfl rfl) rfl (Z6 ?_)))
         exact QW.join ⟨true, (Zi hq35).symm, rfl, rfl⟩ ⟨rfl, rfl, rfl, trivial⟩ (fun w m => m.pick [0, 1] 2 rfl rfl)
       ·replace hq35 := if_f hq35 h57
        refine Z7 (.bool true) (congrArg Value.bool (congrArg (fun b => !b) (decide_eq_false h57))) (Z23 rfl rfl rfl (Z23 rfl rfl rfl (Z23 rfl rfl rfl (Z23 rfl rfl rfl (Z23 rfl rfl rfl (Z0 (Z105 rfl rfl rfl) rfl (Z0 (Z3 rfl) rfl ?_)))))))
        refine Z23 rfl rfl rfl (Z23 rfl rfl rfl (Z23 rfl rfl rfl (Z23 rfl rfl rfl (Z23 rfl rfl rfl (Z0 (Z105 rfl rfl rfl) rfl (Z0 (Z3 rfl) rfl (Z23 rfl rfl rfl ?_)))))))
        refine Z23 rfl rfl rfl (Z23 rfl rfl rfl (Z23 rfl rfl rfl (Z23 rfl rfl rfl (Z0 (Z105 rfl rfl rfl) rfl (Z0 (Z3 rfl) rfl (Z23 rfl rfl rfl (Z23 rfl rfl rfl ?_)))))))
        refine Z23 rfl rfl rfl (Z23 rfl rfl rfl (Z23 rfl rfl rfl (Z0 (Z105 rfl rfl rfl) rfl (Z0 (Z3 rfl) rfl (Z23 rfl rfl rfl (Z23 rfl rfl rfl (Z23 rfl rfl rfl ?_)))))))
        refine Z23 rfl rfl rfl (Z23 rfl rfl rfl (Z0 (Z105 rfl rfl rfl) rfl (Z0 (Z3 rfl) rfl (Z23 rfl rfl rfl (Z23 rfl rfl rfl (Z23 rfl rfl rfl (Z23 rfl rfl rfl ?_)))))))
        refine Z23 rfl rfl rfl (Z0 (Z105 rfl rfl rfl) rfl (Z6 ?_))
        exact QW.join ⟨true, (Zi hq35).symm, rfl, rfl⟩ ⟨rfl, rfl, rfl, trivial⟩ (fun w m => m.pick [0, 1] 2 rfl rfl)
      ·replace hq35 := if_f hq35 h56
       refine Z7 (.bool true) (congrArg Value.bool (congrArg (fun b => !b) (decide_eq_false h56))) (Z23 rfl rfl rfl (Z23 rfl rfl rfl (Z23 rfl rfl rfl (Z23 rfl rfl rfl (Z23 rfl rfl rfl (Z0 (Z105 rfl rfl rfl) rfl (Z0 (Z3 rfl) rfl ?_)))))))
       refine Z23 rfl rfl rfl (Z23 rfl rfl rfl (Z23 rfl rfl rfl (Z23 rfl rfl rfl (Z23 rfl rfl rfl (Z0 (Z105 rfl rfl rfl) rfl (Z0 (Z3 rfl) rfl (Z23 rfl rfl rfl ?_)))))))
       refine Z23 rfl rfl rfl (Z23 rfl rfl rfl (Z23 rfl rfl rfl (Z23 rfl rfl rfl (Z0 (Z105 rfl rfl rfl) rfl (Z0 (Z3 rfl) rfl (Z23 rfl rfl rfl (Z23 rfl rfl rfl ?_)))))))
       refine Z23 rfl rfl rfl (Z23 rfl rfl rfl (Z23 rfl rfl rfl (Z0 (Z105 rfl rfl rfl) rfl (Z0 (Z3 rfl) rfl (Z23 rfl rfl rfl (Z23 rfl rfl rfl (Z23 rfl rfl rfl ?_)))))))
       refine Z23 rfl rfl rfl (Z23 rfl rfl rfl (Z0 (Z105 rfl rfl rfl) rfl (Z0 (Z3 rfl) rfl (Z23 rfl rfl rfl (Z23 rfl rfl rfl (Z23 rfl rfl rfl (Z23 rfl rfl rfl ?_)))))))
       refine Z23 rfl rfl rfl (Z0 (Z105 rfl rfl rfl) rfl (Z0 (Z3 rfl) rfl (Z23 rfl rfl rfl (Z23 rfl rfl rfl (Z23 rfl rfl rfl (Z23 rfl rfl rfl (Z23 rfl rfl rfl ?_)))))))
       refine Z0 (Z105 rfl rfl rfl) rfl (Z6 ?_)
       exact QW.join ⟨true, (Zi hq35).symm, rfl, rfl⟩ ⟨rfl, rfl, rfl, trivial⟩ (fun w m => m.pick [0, 1] 2 rfl rfl)
   ·skip
    refine Z2 (Z0 (Z30 rfl rfl rfl rfl) rfl (Z7 (ptr (some b15) 0) rfl (Z0 (Z113 rfl (List.Mem.tail _ Zh) rfl rfl rfl rfl (Z170 (⟨a0.parent, a0.uncles, a0.coinbase, a0.state, a0.txRoot, a0.receiptRoot, a0.bloom, a0.difficulty, a0.number, a0.limit, a0.used, a0.time, .slice A1 a0.extra.length c2, a0.mix, a0.nonce, a0.tail, a0.baseFee, a0.withdrawals, a0.blobUsed, a0.blobExcess, a0.beacon, a0.requests⟩ : HdrC)) ((Z100 _).trans Zv)) rfl (Z0 (Z30 rfl rfl rfl rfl) rfl (Z7 (ptr (some b16) 0) rfl (Z0 (Z113 rfl Zh rfl rfl rfl rfl (Z170 (⟨a1.parent, a1.uncles, a1.coinbase, a1.state, a1.txRoot, a1.receiptRoot, a1.bloom, a1.difficulty, a1.number, a1.limit, a1.used, a1.time, .slice A8 a1.extra.length c9, a1.mix, a1.nonce, a1.tail, a1.baseFee, a1.withdrawals, a1.blobUsed, a1.blobExcess, a1.beacon, a1.requests⟩ : HdrC)) ((Z100 _).trans Zv)) rfl (Z0 (RV.neA8 rfl rfl rfl rfl rfl rfl (Zv) (Zv)) rfl ?_)))))))
    refine Z7 (.bool (!decide (a0.parent = a1.parent))) (congrArg (fun b => Value.bool (!b)) (decide_eq_decide.2 Vector.toList_inj)) (Z0 (Z3 rfl) rfl ?_)
    by_cases h63 : a0.parent = a1.parent
    ·replace hq26 := if_t hq26 h63
     refine Z7 (.bool false) (congrArg Value.bool (congrArg (fun b => !b) (decide_eq_true h63))) (Z24 rfl (Z0 (Z30 rfl rfl rfl rfl) rfl (Z7 (ptr (some b15) 32) rfl (Z24 rfl (Z0 (Z113 rfl (List.Mem.tail _ Zh) rfl rfl rfl rfl (Z168 (⟨a0.parent, a0.uncles, a0.coinbase, a0.state, a0.txRoot, a0.receiptRoot, a0.bloom, a0.difficulty, a0.number, a0.limit, a0.used, a0.time, .slice A1 a0.extra.length c2, a0.mix, a0.nonce, a0.tail, a0.baseFee, a0.withdrawals, a0.blobUsed, a0.blobExcess, a0.beacon, a0.requests⟩ : HdrC)) ((Z100 _).trans Zv)) rfl (Z24 rfl (Z0 (Z30 rfl rfl rfl rfl) rfl ?_)))))))
     refine Z7 (ptr (some b16) 32) rfl (Z24 rfl (Z0 (Z113 rfl Zh rfl rfl rfl rfl (Z168 (⟨a1.parent, a1.uncles, a1.coinbase, a1.state, a1.txRoot, a1.receiptRoot, a1.bloom, a1.difficulty, a1.number, a1.limit, a1.used, a1.time, .slice A8 a1.extra.length c9, a1.mix, a1.nonce, a1.tail, a1.baseFee, a1.withdrawals, a1.blobUsed, a1.blobExcess, a1.beacon, a1.requests⟩ : HdrC)) ((Z100 _).trans Zv)) rfl (Z24 rfl (Z0 (RV.neA8 rfl rfl rfl rfl rfl rfl (Zv) (Zv)) rfl (Z7 (.bool (!decide (a0.uncles = a1.uncles))) (congrArg (fun b => Value.bool (!b)) (decide_eq_decide.2 Vector.toList_inj)) (Z0 (Z106 rfl rfl rfl) rfl (Z0 (Z3 rfl) rfl ?_)))))))
     by_cases h64 : a0.uncles = a1.uncles
     ·replace hq26 := if_t hq26 h64
      refine Z7 (.bool false) (congrArg Value.bool (congrArg (fun b => !b) (decide_eq_true h64))) (Z24 rfl (Z0 (Z30 rfl rfl rfl rfl) rfl (Z7 (ptr (some b15) 64) rfl (Z24 rfl (Z0 (Z113 rfl (List.Mem.tail _ Zh) rfl rfl rfl rfl (Z158 (⟨a0.parent, a0.uncles, a0.coinbase, a0.state, a0.txRoot, a0.receiptRoot, a0.bloom, a0.difficulty, a0.number, a0.limit, a0.used, a0.time, .slice A1 a0.extra.length c2, a0.mix, a0.nonce, a0.tail, a0.baseFee, a0.withdrawals, a0.blobUsed, a0.blobExcess, a0.beacon, a0.requests⟩ : HdrC)) ((Z100 _).trans Zv)) rfl (Z24 rfl (Z0 (Z30 rfl rfl rfl rfl) rfl ?_)))))))
      refine Z7 (ptr (some b16) 64) rfl (Z24 rfl (Z0 (Z113 rfl Zh rfl rfl rfl rfl (Z158 (⟨a1.parent, a1.uncles, a1.coinbase, a1.state, a1.txRoot, a1.receiptRoot, a1.bloom, a1.difficulty, a1.number, a1.limit, a1.used, a1.time, .slice A8 a1.extra.length c9, a1.mix, a1.nonce, a1.tail, a1.baseFee, a1.withdrawals, a1.blobUsed, a1.blobExcess, a1.beacon, a1.requests⟩ : HdrC)) ((Z100 _).trans Zv)) rfl (Z24 rfl (Z0 (RV.neA8 rfl rfl rfl rfl rfl rfl (Zv) (Zv)) rfl (Z7 (.bool (!decide (a0.coinbase = a1.coinbase))) (congrArg (fun b => Value.bool (!b)) (decide_eq_decide.2 Vector.toList_inj)) (Z0 (Z106 rfl rfl rfl) rfl (Z0 (Z3 rfl) rfl ?_)))))))
      by_cases h65 : a0.coinbase = a1.coinbase
      ·replace hq26 := if_t hq26 h65
       refine Z7 (.bool false) (congrArg Value.bool (congrArg (fun b => !b) (decide_eq_true h65))) (Z24 rfl (Z0 (Z30 rfl rfl rfl rfl) rfl (Z7 (ptr (some b15) 84) rfl (Z24 rfl (Z0 (Z113 rfl (List.Mem.tail _ Zh) rfl rfl rfl rfl (Z181 (⟨a0.parent, a0.uncles, a0.coinbase, a0.state, a0.txRoot, a0.receiptRoot, a0.bloom, a0.difficulty, a0.number, a0.limit, a0.used, a0.time, .slice A1 a0.extra.length c2, a0.mix, a0.nonce, a0.tail, a0.baseFee, a0.withdrawals, a0.blobUsed, a0.blobExcess, a0.beacon, a0.requests⟩ : HdrC)) ((Z100 _).trans Zv)) rfl (Z24 rfl (Z0 (Z30 rfl rfl rfl rfl) rfl ?_)))))))
       refine Z7 (ptr (some b16) 84) rfl (Z24 rfl (Z0 (Z113 rfl Zh rfl rfl rfl rfl (Z181 (⟨a1.parent, a1.uncles, a1.coinbase, a1.state, a1.txRoot, a1.receiptRoot, a1.bloom, a1.difficulty, a1.number, a1.limit, a1.used, a1.time, .slice A8 a1.extra.length c9, a1.mix, a1.nonce, a1.tail, a1.baseFee, a1.withdrawals, a1.blobUsed, a1.blobExcess, a1.beacon, a1.requests⟩ : HdrC)) ((Z100 _).trans Zv)) rfl (Z24 rfl (Z0 (RV.neA8 rfl rfl rfl rfl rfl rfl (Zv) (Zv)) rfl (Z7 (.bool (!decide (a0.state = a1.state))) (congrArg (fun b => Value.bool (!b)) (decide_eq_decide.2 Vector.toList_inj)) (Z0 (Z106 rfl rfl rfl) rfl (Z0 (Z3 rfl) rfl ?_)))))))
       by_cases h66 : a0.state = a1.state
       ·replace hq26 := if_t hq26 h66
        refine Z7 (.bool false) (congrArg Value.bool (congrArg (fun b => !b) (decide_eq_true h66))) (Z24 rfl (Z0 (Z30 rfl rfl rfl rfl) rfl (Z7 (ptr (some b15) 116) rfl (Z24 rfl (Z0 (Z113 rfl (List.Mem.tail _ Zh) rfl rfl rfl rfl (Z169 (⟨a0.parent, a0.uncles, a0.coinbase, a0.state, a0.txRoot, a0.receiptRoot, a0.bloom, a0.difficulty, a0.number, a0.limit, a0.used, a0.time, .slice A1 a0.extra.length c2, a0.mix, a0.nonce, a0.tail, a0.baseFee, a0.withdrawals, a0.blobUsed, a0.blobExcess, a0.beacon, a0.requests⟩ : HdrC)) ((Z100 _).trans Zv)) rfl (Z24 rfl (Z0 (Z30 rfl rfl rfl rfl) rfl ?_)))))))
        refine Z7 (ptr (some b16) 116) rfl (Z24 rfl (Z0 (Z113 rfl Zh rfl rfl rfl rfl (Z169 (⟨a1.parent, a1.uncles, a1.coinbase, a1.state, a1.txRoot, a1.receiptRoot, a1.bloom, a1.difficulty, a1.number, a1.limit, a1.used, a1.time, .slice A8 a1.extra.length c9, a1.mix, a1.nonce, a1.tail, a1.baseFee, a1.withdrawals, a1.blobUsed, a1.blobExcess, a1.beacon, a1.requests⟩ : HdrC)) ((Z100 _).trans Zv)) rfl (Z24 rfl (Z0 (RV.neA8 rfl rfl rfl rfl rfl rfl (Zv) (Zv)) rfl (Z7 (.bool (!decide (a0.txRoot = a1.txRoot))) (congrArg (fun b => Value.bool (!b)) (decide_eq_decide.2 Vector.toList_inj)) (Z0 (Z106 rfl rfl rfl) rfl (Z0 (Z3 rfl) rfl ?_)))))))
        by_cases h67 : a0.txRoot = a1.txRoot
        ·replace hq26 := if_t hq26 h67
         refine Z7 (.bool false) (congrArg Value.bool (congrArg (fun b => !b) (decide_eq_true h67))) (Z24 rfl (Z0 (Z30 rfl rfl rfl rfl) rfl (Z7 (ptr (some b15) 148) rfl (Z24 rfl (Z0 (Z113 rfl (List.Mem.tail _ Zh) rfl rfl rfl rfl (Z143 (⟨a0.parent, a0.uncles, a0.coinbase, a0.state, a0.txRoot, a0.receiptRoot, a0.bloom, a0.difficulty, a0.number, a0.limit, a0.used, a0.time, .slice A1 a0.extra.length c2, a0.mix, a0.nonce, a0.tail, a0.baseFee, a0.withdrawals, a0.blobUsed, a0.blobExcess, a0.beacon, a0.requests⟩ : HdrC)) ((Z100 _).trans Zv)) rfl (Z24 rfl (Z0 (Z30 rfl rfl rfl rfl) rfl ?_)))))))
         refine Z7 (ptr (some b16) 148) rfl (Z24 rfl (Z0 (Z113 rfl Zh rfl rfl rfl rfl (Z143 (⟨a1.parent, a1.uncles, a1.coinbase, a1.state, a1.txRoot, a1.receiptRoot, a1.bloom, a1.difficulty, a1.number, a1.limit, a1.used, a1.time, .slice A8 a1.extra.length c9, a1.mix, a1.nonce, a1.tail, a1.baseFee, a1.withdrawals, a1.blobUsed, a1.blobExcess, a1.beacon, a1.requests⟩ : HdrC)) ((Z100 _).trans Zv)) rfl (Z24 rfl (Z0 (RV.neA8 rfl rfl rfl rfl rfl rfl (Zv) (Zv)) rfl (Z7 (.bool (!decide (a0.receiptRoot = a1.receiptRoot))) (congrArg (fun b => Value.bool (!b)) (decide_eq_decide.2 Vector.toList_inj)) (Z0 (Z106 rfl rfl rfl) rfl (Z0 (Z3 rfl) rfl ?_)))))))
         by_cases h68 : a0.receiptRoot = a1.receiptRoot
         ·replace hq26 := if_t hq26 h68
          refine Z7 (.bool false) (congrArg Value.bool (congrArg (fun b => !b) (decide_eq_true h68))) (Z24 rfl (Z0 (Z30 rfl rfl rfl rfl) rfl (Z7 (ptr (some b15) 180) rfl (Z24 rfl (Z0 (Z113 rfl (List.Mem.tail _ Zh) rfl rfl rfl rfl (HdrC.C_bloom_all (⟨a0.parent, a0.uncles, a0.coinbase, a0.state, a0.txRoot, a0.receiptRoot, a0.bloom, a0.difficulty, a0.number, a0.limit, a0.used, a0.time, .slice A1 a0.extra.length c2, a0.mix, a0.nonce, a0.tail, a0.baseFee, a0.withdrawals, a0.blobUsed, a0.blobExcess, a0.beacon, a0.requests⟩ : HdrC)) ((Z100 _).trans Zv)) rfl (Z24 rfl (Z0 (Z30 rfl rfl rfl rfl) rfl ?_)))))))
          refine Z7 (ptr (some b16) 180) rfl (Z24 rfl (Z0 (Z113 rfl Zh rfl rfl rfl rfl (HdrC.C_bloom_all (⟨a1.parent, a1.uncles, a1.coinbase, a1.state, a1.txRoot, a1.receiptRoot, a1.bloom, a1.difficulty, a1.number, a1.limit, a1.used, a1.time, .slice A8 a1.extra.length c9, a1.mix, a1.nonce, a1.tail, a1.baseFee, a1.withdrawals, a1.blobUsed, a1.blobExcess, a1.beacon, a1.requests⟩ : HdrC)) ((Z100 _).trans Zv)) rfl (Z24 rfl (Z0 (RV.neA8 rfl rfl rfl rfl rfl rfl (Zv) (Zv)) rfl (Z7 (.bool (!decide (a0.bloom = a1.bloom))) (congrArg (fun b => Value.bool (!b)) (decide_eq_decide.2 Vector.toList_inj)) (Z0 (Z106 rfl rfl rfl) rfl (Z6 ?_)))))))
          exact QW.join ⟨(!decide (a0.bloom = a1.bloom)), (Zi hq26).symm, rfl, rfl⟩ ⟨rfl, rfl, rfl, trivial⟩ (fun w m => m.pick [0, 1] 2 rfl rfl)
         ·replace hq26 := if_f hq26 h68
          refine Z7 (.bool true) (congrArg Value.bool (congrArg (fun b => !b) (decide_eq_false h68))) (Z23 rfl rfl rfl (Z23 rfl rfl rfl (Z23 rfl rfl rfl (Z23 rfl rfl rfl (Z23 rfl rfl rfl (Z0 (Z105 rfl rfl rfl) rfl (Z6 ?_)))))))
          exact QW.join ⟨true, (Zi hq26).symm, rfl, rfl⟩ ⟨rfl, rfl, rfl, trivial⟩ (fun w m => m.pick [0, 1] 2 rfl rfl)
        ·replace hq26 := if_f hq26 h67
         refine Z7 (.bool true) (congrArg Value.bool (congrArg (fun b => !b) (decide_eq_false h67))) (Z23 rfl rfl rfl (Z23 rfl rfl rfl (Z23 rfl rfl rfl (Z23 rfl rfl rfl (Z23 rfl rfl rfl (Z0 (Z105 rfl rfl rfl) rfl (Z0 (Z3 rfl) rfl ?_)))))))
         refine Z23 rfl rfl rfl (Z23 rfl rfl rfl (Z23 rfl rfl rfl (Z23 rfl rfl rfl (Z23 rfl rfl rfl (Z0 (Z105 rfl rfl rfl) rfl (Z6 ?_))))))
         exact QW.join ⟨true, (Zi hq26).symm, rfl, rfl⟩ ⟨rfl, rfl, rfl, trivial⟩ (fun w m => m.pick [0, 1] 2 rfl rfl)
       ·replace hq26 := if_f hq26 h66
        refine Z7 (.bool true) (congrArg Value.bool (congrArg (fun b => !b) (decide_eq_false h66))) (Z23 rfl rfl rfl (Z23 rfl rfl rfl (Z23 rfl rfl rfl (Z23 rfl rfl rfl (Z23 rfl rfl rfl (Z0 (Z105 rfl rfl rfl) rfl (Z0 (Z3 rfl) rfl ?_)))))))
        refine Z23 rfl rfl rfl (Z23 rfl rfl rfl (Z23 rfl rfl rfl (Z23 rfl rfl rfl (Z23 rfl rfl rfl (Z0 (Z105 rfl rfl rfl) rfl (Z0 (Z3 rfl) rfl (Z23 rfl rfl rfl ?_)))))))
        refine Z23 rfl rfl rfl (Z23 rfl rfl rfl (Z23 rfl rfl rfl (Z23 rfl rfl rfl (Z0 (Z105 rfl rfl rfl) rfl (Z6 ?_)))))
        exact QW.join ⟨true, (Zi hq26).symm, rfl, rfl⟩ ⟨rfl, rfl, rfl, trivial⟩ (fun w m => m.pick [0, 1] 2 rfl rfl)
      ·replace hq26 := if_f hq26 h65
       refine Z7 (.bool true) (congrArg Value.bool (congrArg (fun b => !b) (decide_eq_false h65))) (Z23 rfl rfl rfl (Z23 rfl rfl rfl (Z23 rfl rfl rfl (Z23 rfl rfl rfl (Z23 rfl rfl rfl (Z0 (Z105 rfl rfl rfl) rfl (Z0 (Z3 rfl) rfl ?_)))))))
       refine Z23 rfl rfl rfl (Z23 rfl rfl rfl (Z23 rfl rfl rfl (Z23 rfl rfl rfl (Z23 rfl rfl rfl (Z0 (Z105 rfl rfl rfl) rfl (Z0 (Z3 rfl) rfl (Z23 rfl rfl rfl ?_)))))))
       refine Z23 rfl rfl rfl (Z23 rfl rfl rfl (Z23 rfl rfl rfl (Z23 rfl rfl rfl (Z0 (Z105 rfl rfl rfl) rfl (Z0 (Z3 rfl) rfl (Z23 rfl rfl rfl (Z23 rfl rfl rfl ?_)))))))
       refine Z23 rfl rfl rfl (Z23 rfl rfl rfl (Z23 rfl rfl rfl (Z0 (Z105 rfl rfl rfl) rfl (Z6 ?_))))
       exact QW.join ⟨true, (Zi hq26).symm, rfl, rfl⟩ ⟨rfl, rfl, rfl, trivial⟩ (fun w m => m.pick [0, 1] 2 rfl rfl)
     ·replace hq26 := if_f hq26 h64
      refine Z7 (.bool true) (congrArg Value.bool (congrArg (fun b => !b) (decide_eq_false h64))) (Z23 rfl rfl rfl (Z23 rfl rfl rfl (Z23 rfl rfl rfl (Z23 rfl rfl rfl (Z23 rfl rfl rfl (Z0 (Z105 rfl rfl rfl) rfl (Z0 (Z3 rfl) rfl ?_)))))))
      refine Z23 rfl rfl rfl (Z23 rfl rfl rfl (Z23 rfl rfl rfl (Z23 rfl rfl rfl (Z23 rfl rfl rfl (Z0 (Z105 rfl rfl rfl) rfl (Z0 (Z3 rfl) rfl (Z23 rfl rfl rfl ?_)))))))
      refine Z23 rfl rfl rfl (Z23 rfl rfl rfl (Z23 rfl rfl rfl (Z23 rfl rfl rfl (Z0 (Z105 rfl rfl rfl) rfl (Z0 (Z3 rfl) rfl (Z23 rfl rfl rfl (Z23 rfl rfl rfl ?_)))))))
      refine Z23 rfl rfl rfl (Z23 rfl rfl rfl (Z23 rfl rfl rfl (Z0 (Z105 rfl rfl rfl) rfl (Z0 (Z3 rfl) rfl (Z23 rfl rfl rfl (Z23 rfl rfl rfl (Z23 rfl rfl rfl ?_)))))))
      refine Z23 rfl rfl rfl (Z23 rfl rfl rfl (Z0 (Z105 rfl rfl rfl) rfl (Z6 ?_)))
      exact QW.join ⟨true, (Zi hq26).symm, rfl, rfl⟩ ⟨rfl, rfl, rfl, trivial⟩ (fun w m => m.pick [0, 1] 2 rfl rfl)
    ·replace hq26 := if_f hq26 h63
     refine Z7 (.bool true) (congrArg Value.bool (congrArg (fun b => !b) (decide_eq_false h63))) (Z23 rfl rfl rfl (Z23 rfl rfl rfl (Z23 rfl rfl rfl (Z23 rfl rfl rfl (Z23 rfl rfl rfl (Z0 (Z105 rfl rfl rfl) rfl (Z0 (Z3 rfl) rfl ?_)))))))
     refine Z23 rfl rfl rfl (Z23 rfl rfl rfl (Z23 rfl rfl rfl (Z23 rfl rfl rfl (Z23 rfl rfl rfl (Z0 (Z105 rfl rfl rfl) rfl (Z0 (Z3 rfl) rfl (Z23 rfl rfl rfl ?_)))))))
     refine Z23 rfl rfl rfl (Z23 rfl rfl rfl (Z23 rfl rfl rfl (Z23 rfl rfl rfl (Z0 (Z105 rfl rfl rfl) rfl (Z0 (Z3 rfl) rfl (Z23 rfl rfl rfl (Z23 rfl rfl rfl ?_)))))))
     refine Z23 rfl rfl rfl (Z23 rfl rfl rfl (Z23 rfl rfl rfl (Z0 (Z105 rfl rfl rfl) rfl (Z0 (Z3 rfl) rfl (Z23 rfl rfl rfl (Z23 rfl rfl rfl (Z23 rfl rfl rfl ?_)))))))
     refine Z23 rfl rfl rfl (Z23 rfl rfl rfl (Z0 (Z105 rfl rfl rfl) rfl (Z0 (Z3 rfl) rfl (Z23 rfl rfl rfl (Z23 rfl rfl rfl (Z23 rfl rfl rfl (Z23 rfl rfl rfl ?_)))))))
     refine Z23 rfl rfl rfl (Z0 (Z105 rfl rfl rfl) rfl (Z6 ?_))
     exact QW.join ⟨true, (Zi hq26).symm, rfl, rfl⟩ ⟨rfl, rfl, rfl, trivial⟩ (fun w m => m.pick [0, 1] 2 rfl rfl)
  ·skip
   refine CW.block (Z121 (fun k L' M' => ∃ n69 : Nat, (waybillref19_Same.l1 a0 a1 k n69) = some q18 ∧ (n69 ≤ 9223372036854775807) ∧ L' = [(2, ptr (some b15) 0), (3, ptr (some b16) 0), (5, .int .i64 ((n69 : Nat) : Int))] ∧ M' = ((some b16, blk (⟨a1.parent, a1.uncles, a1.coinbase, a1.state, a1.txRoot, a1.receiptRoot, a1.bloom, a1.difficulty, a1.number, a1.limit, a1.used, a1.time, .slice A8 a1.extra.length c9, a1.mix, a1.nonce, a1.tail, a1.baseFee, a1.withdrawals, a1.blobUsed, a1.blobExcess, a1.beacon, a1.requests⟩ : HdrC).C 38) :: (some b15, blk (⟨a0.parent, a0.uncles, a0.coinbase, a0.state, a0.txRoot, a0.receiptRoot, a0.bloom, a0.difficulty, a0.number, a0.limit, a0.used, a0.time, .slice A1 a0.extra.length c2, a0.mix, a0.nonce, a0.tail, a0.baseFee, a0.withdrawals, a0.blobUsed, a0.blobExcess, a0.beacon, a0.requests⟩ : HdrC).C 38) :: ([] ++ N))) (k0 := (a0.extra.length - 0 + 2)) ⟨0, hq19, (by omega), rfl, rfl⟩ ⟨rfl, rfl, rfl, trivial⟩ (fun w m => m.pick [0, 1] 2 rfl rfl) ?_)
   clear hq19
   rintro k71 L74 M75 ⟨n69, hl72, b70, e76, e77⟩
   rw [e76, e77]
   clear e76 e77 L74 M75
   rcases k71 with _ | k71
   ·rw [waybillref19_Same.l1] at hl72; cases hl72
   rw [waybillref19_Same.l1] at hl72
   refine Z4 (Z4 (Z2 (Z0 (Z3 rfl) rfl (Z0 (Z30 rfl rfl rfl rfl) rfl (Z7 (ptr (some b15) 444) rfl (Z0 (Z29 rfl (List.Mem.tail _ Zh) rfl rfl rfl (Z138 (⟨a0.parent, a0.uncles, a0.coinbase, a0.state, a0.txRoot, a0.receiptRoot, a0.bloom, a0.difficulty, a0.number, a0.limit, a0.used, a0.time, .slice A1 a0.extra.length c2, a0.mix, a0.nonce, a0.tail, a0.baseFee, a0.withdrawals, a0.blobUsed, a0.blobExcess, a0.beacon, a0.requests⟩ : HdrC))) rfl (Z0 (RV.len rfl rfl) rfl (Z0 (RV.lss rfl rfl) rfl (Z7 (.bool (decide (n69 < a0.extra.length))) (congrArg Value.bool (decide_eq_decide.2 (by omega))) ?_)))))))))
   refine Z6 (Z1 ?_)
   by_cases h78 : n69 < a0.extra.length
   ·replace hl72 := if_t hl72 h78
    refine Z13 rfl (decide_eq_true h78) (CW.skip (Z1 (Z4 (CW.block (Z4 (Z159 11 mixed (by kernel_rfl) rfl (Z18 0 rfl (by kernel_rfl) rfl (Z30 rfl rfl rfl rfl) rfl (UW.slot (ptr (some b15) 444) rfl (Z18 1 rfl (by kernel_rfl) rfl (Z29 rfl (List.Mem.tail _ Zh) rfl rfl rfl (Z138 (⟨a0.parent, a0.uncles, a0.coinbase, a0.state, a0.txRoot, a0.receiptRoot, a0.bloom, a0.difficulty, a0.number, a0.limit, a0.used, a0.time, .slice A1 a0.extra.length c2, a0.mix, a0.nonce, a0.tail, a0.baseFee, a0.withdrawals, a0.blobUsed, a0.blobExcess, a0.beacon, a0.requests⟩ : HdrC))) rfl (Z18 2 rfl (by kernel_rfl) rfl (Z3 rfl) rfl ?_))))))))))
    obtain ⟨x79, hx80, hl72⟩ := Z102 hl72
    have hl81 := Z130 hx80
    refine Z18 3 rfl (by kernel_rfl) rfl (Z179 (n69) rfl rfl rfl rfl rfl (v3.isSome (by decide) hl81) (by omega)) rfl (Z18 4 rfl (by kernel_rfl) rfl (Z21 rfl rfl rfl (fun w m => v3.cell (More.of hΦ 2 m rfl) (u8s_at hx80))) rfl (Z18 5 rfl (by kernel_rfl) rfl (Z30 rfl rfl rfl rfl) rfl (UW.slot (ptr (some b16) 444) rfl (Z18 6 rfl (by kernel_rfl) rfl (Z29 rfl Zh rfl rfl rfl (Z138 (⟨a1.parent, a1.uncles, a1.coinbase, a1.state, a1.txRoot, a1.receiptRoot, a1.bloom, a1.difficulty, a1.number, a1.limit, a1.used, a1.time, .slice A8 a1.extra.length c9, a1.mix, a1.nonce, a1.tail, a1.baseFee, a1.withdrawals, a1.blobUsed, a1.blobExcess, a1.beacon, a1.requests⟩ : HdrC))) rfl (Z18 7 rfl (by kernel_rfl) rfl (Z3 rfl) rfl ?_)))))
    obtain ⟨x82, hx83, hl72⟩ := Z102 hl72
    have hl84 := Z130 hx83
    refine Z18 8 rfl (by kernel_rfl) rfl (Z179 (n69) rfl rfl rfl rfl rfl (v10.isSome (by decide) hl84) (by omega)) rfl (Z18 9 rfl (by kernel_rfl) rfl (Z21 rfl rfl rfl (fun w m => v10.cell (More.of hΦ 2 m rfl) (u8s_at hx83))) rfl (Z18 10 rfl (by kernel_rfl) rfl (RV.neq8 rfl (by first | rfl | exact lit8 _ rfl) rfl (by first | rfl | exact lit8 _ rfl)) rfl (UW.nil (by kernel_rfl) (Z6 (Z1 ?_)))))
    by_cases h85 : x79 = x82
    ·replace hl72 := if_t hl72 h85
     refine Z14 rfl (congrArg (fun b => !b) (decide_eq_true h85)) (CW.skip (Z27 (Z1 (Z2 (Z0 (Z3 rfl) rfl (Z0 (RV.add rfl rfl (by omega)) rfl (Z7 (.int .i64 (((n69 + 1) : Nat) : Int)) (by first | rfl | (congr 1) | (congr 1; omega)) (Z0 (Z5 rfl) rfl (Z6 ?_)))))))))
     exact Z114 (k' := k71) (Nat.lt_succ_self _) ⟨(n69 + 1), hl72, (by omega), rfl, rfl⟩ ⟨rfl, rfl, rfl, trivial⟩ (fun w m => m.pick [0, 1] 2 rfl rfl)
    ·replace hl72 := if_f hl72 h85
     refine Z13 rfl (congrArg (fun b => !b) (decide_eq_false h85)) (Z4 (Z2 (Z0 (Z5 rfl) rfl (Z6 (Z1 (CW.ret (Z16 (Z8 (Z8 (Z16 (Z8 ?_)))))))))))
     have hc := Zi hl72
     subst hc
     try dsimp only at hf
     refine Z8 ?_
     have e0 := Zi hf
     subst e0
     refine Z108 (rs := [.tmp 4]) ([.bool false]) ((some b16, blk (⟨a1.parent, a1.uncles, a1.coinbase, a1.state, a1.txRoot, a1.receiptRoot, a1.bloom, a1.difficulty, a1.number, a1.limit, a1.used, a1.time, .slice A8 a1.extra.length c9, a1.mix, a1.nonce, a1.tail, a1.baseFee, a1.withdrawals, a1.blobUsed, a1.blobExcess, a1.beacon, a1.requests⟩ : HdrC).C 38) :: (some b15, blk (⟨a0.parent, a0.uncles, a0.coinbase, a0.state, a0.txRoot, a0.receiptRoot, a0.bloom, a0.difficulty, a0.number, a0.limit, a0.used, a0.time, .slice A1 a0.extra.length c2, a0.mix, a0.nonce, a0.tail, a0.baseFee, a0.withdrawals, a0.blobUsed, a0.blobExcess, a0.beacon, a0.requests⟩ : HdrC).C 38) :: []) rfl ?_ rfl ?_ ?_ _ (.inl rfl)
     ·exact ⟨rfl, trivial⟩
     ·exact rfl
     ·exact (fun w m => m)
   ·replace hl72 := if_f hl72 h78
    refine Z14 rfl (decide_eq_false h78) (CW.exit (Z9 (Z9 (Z15 ?_))))
    exact QW.join ⟨(Zi hl72).symm, rfl, rfl⟩ ⟨rfl, rfl, trivial⟩ (fun w m => m.pick [0, 1] 2 rfl rfl)
 ·replace hf := if_f hf h17
  refine Z13 rfl (congrArg (fun b => !b) (decide_eq_false h17)) (Z4 (Z2 (Z0 (Z5 rfl) rfl (Z6 (Z1 (CW.ret (Z8 ?_)))))))
  have e0 := Zi hf
  subst e0
  refine Z108 (rs := [.tmp 4]) ([.bool false]) ((some b16, blk (⟨a1.parent, a1.uncles, a1.coinbase, a1.state, a1.txRoot, a1.receiptRoot, a1.bloom, a1.difficulty, a1.number, a1.limit, a1.used, a1.time, .slice A8 a1.extra.length c9, a1.mix, a1.nonce, a1.tail, a1.baseFee, a1.withdrawals, a1.blobUsed, a1.blobExcess, a1.beacon, a1.requests⟩ : HdrC).C 38) :: (some b15, blk (⟨a0.parent, a0.uncles, a0.coinbase, a0.state, a0.txRoot, a0.receiptRoot, a0.bloom, a0.difficulty, a0.number, a0.limit, a0.used, a0.time, .slice A1 a0.extra.length c2, a0.mix, a0.nonce, a0.tail, a0.baseFee, a0.withdrawals, a0.blobUsed, a0.blobExcess, a0.beacon, a0.requests⟩ : HdrC).C 38) :: []) rfl ?_ rfl ?_ ?_ _ (.inl rfl)
  ·exact ⟨rfl, trivial⟩
  ·exact rfl
  ·exact (fun w m => m)
theorem waybillref19_Hash_does (w0 : World) (Φ : Ctx) (N : List Ent) (hΦ : ∀ w, Mem w0 w N → Φ w) (cs0_ : List Value) (a0 : Hdr) (res0 : Vector (BitVec 8) 32) (res1 : Nat) (ha0 : HdrRd Φ cs0_ a0) (hTn : ∀ i, i < 25 → w0.cell? ⟨5, i, none⟩ = some (.int .i64 (turnsL.getD i 0))) (hRn : ∀ i, i < 24 → w0.cell? ⟨2, i, none⟩ = some (U64 (g64 roundsL i))) (hf : waybillref19_Hash a0 = some (res0, res1)) : DoesG Tryd.prog 27 [.agg cs0_.toArray] w0 [] N (fun v G => (res1 ≤ 9223372036854775807) ∧ v = .tuple #[.agg (u8s res0.toList).toArray, .int .i64 ((res1 : Nat) : Int)]) := by
 unfold waybillref19_Hash at hf
 replace ha0 := HdrRd.mono (Ψ := More w0 Φ []) (fun w q => q.1) _ _ ha0
 have h6 := ha0
 obtain ⟨A1, c2, e5, v3, b4⟩ := HdrRd.opn ha0
 subst e5
 have m7 := v3.mx
 refine DoesG.enter Tryd.func27 rfl Tryd.ntmps27 rfl (M := (([] ++ N))) rfl (Z4 (Z2 (OW.boxA rfl rfl (fun b8 => (OW.alloc (l := (u8s (Vector.replicate 32 0#8).toList)) rfl (by rw [Vector.toList_replicate, ← Z133]; rfl) rfl (fun b9 => (Z0 (Z5 rfl) rfl (Z6 (Z1 (Z4 (Z2 (Z0 (Z22 rfl (List.Mem.tail _ Zh) rfl rfl rfl rfl (HdrC.C_length _)) rfl ?_))))))))))))
 obtain ⟨⟨x11, x12⟩, hx10, hf⟩ := Z102 hf
 try dsimp only at hf
 refine Z12 Tryd.call25 rfl (Z175 w0 (More w0 Φ []) ((some b9, blk (u8s (Vector.replicate 32 0#8).toList) 28) :: (some b8, blk (⟨a0.parent, a0.uncles, a0.coinbase, a0.state, a0.txRoot, a0.receiptRoot, a0.bloom, a0.difficulty, a0.number, a0.limit, a0.used, a0.time, .slice A1 a0.extra.length c2, a0.mix, a0.nonce, a0.tail, a0.baseFee, a0.withdrawals, a0.blobUsed, a0.blobExcess, a0.beacon, a0.requests⟩ : HdrC).C 38) :: ([] ++ N)) (fun w m => More.of hΦ 2 m rfl) (⟨a0.parent, a0.uncles, a0.coinbase, a0.state, a0.txRoot, a0.receiptRoot, a0.bloom, a0.difficulty, a0.number, a0.limit, a0.used, a0.time, .slice A1 a0.extra.length c2, a0.mix, a0.nonce, a0.tail, a0.baseFee, a0.withdrawals, a0.blobUsed, a0.blobExcess, a0.beacon, a0.requests⟩ : HdrC).C a0 x11 x12 h6 hx10) rfl rfl ?_
 rintro L19 M20 ⟨B13, ob14, c15, r16, o17, b18, e21, e22⟩
 rw [e21, e22]
 clear e21 e22 L19 M20
 refine Z20 (M' := ((ob14, blk ((u8s x11) ++ r16) 5) :: (some b9, blk (u8s (Vector.replicate 32 0#8).toList) 28) :: (some b8, blk (⟨a0.parent, a0.uncles, a0.coinbase, a0.state, a0.txRoot, a0.receiptRoot, a0.bloom, a0.difficulty, a0.number, a0.limit, a0.used, a0.time, .slice A1 a0.extra.length c2, a0.mix, a0.nonce, a0.tail, a0.baseFee, a0.withdrawals, a0.blobUsed, a0.blobExcess, a0.beacon, a0.requests⟩ : HdrC).C 38) :: ((B13 ++ []) ++ N))) (fun w m => by have h := Z110 (A := B13) m 1 2 rfl rfl; exact h) ?_
 have gq1 : ∀ w, More w0 Φ (B13 ++ []) w → More w0 Φ [] w := fun w q => More.mono (fun w m => (m).appR) q
 replace h6 := HdrRd.mono gq1 _ _ h6
 replace v3 := v3.mono gq1
 have m23 := o17.mx
 refine Z0 (Z3 rfl) rfl (Z0 (Z17 rfl rfl) rfl (Z7 (sl ob14 0 x11.length c15) (rfl) (Z0 (Z17 rfl rfl) rfl (Z7 (.int .i64 ((x12 : Nat) : Int)) (rfl) (Z0 (Z5 rfl) rfl (Z0 (Z5 rfl) rfl (Z6 (Z1 (Z4 (Z4 (Z2 ?_)))))))))))
 refine Z0 (Z3 rfl) rfl (Z0 (RV.neq rfl rfl) rfl (Z7 (.bool (!decide (x12 = 0))) (congrArg (fun b => Value.bool (!b)) (decide_eq_decide.2 (by omega))) (Z6 (Z1 ?_))))
 by_cases h24 : x12 = 0
 ·replace hf := if_t hf h24
  refine Z14 rfl (congrArg (fun b => !b) (decide_eq_true h24)) (CW.skip (Z1 (Z4 (Z2 (Z0 (Z3 rfl) rfl (Z20 (M' := (some b9, blk (u8s (Vector.replicate 32 0#8).toList) 28) :: (some b8, blk (⟨a0.parent, a0.uncles, a0.coinbase, a0.state, a0.txRoot, a0.receiptRoot, a0.bloom, a0.difficulty, a0.number, a0.limit, a0.used, a0.time, .slice A1 a0.extra.length c2, a0.mix, a0.nonce, a0.tail, a0.baseFee, a0.withdrawals, a0.blobUsed, a0.blobExcess, a0.beacon, a0.requests⟩ : HdrC).C 38) :: (((ob14, blk ((u8s x11) ++ r16) 5) :: (B13 ++ [])) ++ N)) (fun w m => m.pick [1, 2, 0] 3 rfl rfl) ?_))))))
  have gq2 : ∀ w, More w0 Φ ((ob14, blk ((u8s x11) ++ r16) 5) :: (B13 ++ [])) w → More w0 Φ (B13 ++ []) w := fun w q => More.mono (fun w m => (m).tail) q
  replace h6 := HdrRd.mono gq2 _ _ h6
  replace v3 := v3.mono gq2
  have v27 : View (More w0 Φ ((ob14, blk ((u8s x11) ++ r16) 5) :: (B13 ++ []))) ((ob14).map fun k => ⟨k, 0, none⟩) x11.length c15 1 (u8s x11) := o17.view (by decide) (fun w q => q.2.sublist (List.singleton_sublist.2 (List.mem_cons_self ..)))
  refine OW.ofN (NV.bs1 rfl rfl rfl rfl rfl rfl) rfl (fun b25 => ?_)
  have h29 : Reps (BsRd (More w0 Φ ((ob14, blk ((u8s x11) ++ r16) 5) :: (B13 ++ [])))) (([.slice ((ob14).map fun k => ⟨k, 0, none⟩) x11.length c15] : List Value)) [x11] := Reps.one (BsRd.mk v27)
  refine Z20 (M' := (((some b25), blk ((([.slice ((ob14).map fun k => ⟨k, 0, none⟩) x11.length c15] : List Value)) ++ []) 22) :: (some b9, blk (u8s (Vector.replicate 32 0#8).toList) 28) :: (some b8, blk (⟨a0.parent, a0.uncles, a0.coinbase, a0.state, a0.txRoot, a0.receiptRoot, a0.bloom, a0.difficulty, a0.number, a0.limit, a0.used, a0.time, .slice A1 a0.extra.length c2, a0.mix, a0.nonce, a0.tail, a0.baseFee, a0.withdrawals, a0.blobUsed, a0.blobExcess, a0.beacon, a0.requests⟩ : HdrC).C 38) :: (((ob14, blk ((u8s x11) ++ r16) 5) :: (B13 ++ [])) ++ N))) (fun w m => m) ?_
  have o26 : OwnS (some b25) ([x11] : List (List (BitVec 8))).length 1 1 (([.slice ((ob14).map fun k => ⟨k, 0, none⟩) x11.length c15] : List Value)) [] := ⟨by simp [BsRd], by simp [BsRd], (fun h => nomatch h), by simp⟩
  have mx_o26 := o26.mx
  refine Z7 (sl (some b25) 0 ([x11] : List (List (BitVec 8))).length 1) (rfl) (Z20 (M' := (some b9, blk (u8s (Vector.replicate 32 0#8).toList) 28) :: (some b8, blk (⟨a0.parent, a0.uncles, a0.coinbase, a0.state, a0.txRoot, a0.receiptRoot, a0.bloom, a0.difficulty, a0.number, a0.limit, a0.used, a0.time, .slice A1 a0.extra.length c2, a0.mix, a0.nonce, a0.tail, a0.baseFee, a0.withdrawals, a0.blobUsed, a0.blobExcess, a0.beacon, a0.requests⟩ : HdrC).C 38) :: ((((some b25), blk ((([.slice ((ob14).map fun k => ⟨k, 0, none⟩) x11.length c15] : List Value)) ++ []) 22) :: ((ob14, blk ((u8s x11) ++ r16) 5) :: (B13 ++ []))) ++ N)) (fun w m => m.pick [1, 2, 0] 3 rfl rfl) ?_)
  have gq3 : ∀ w, More w0 Φ (((some b25), blk ((([.slice ((ob14).map fun k => ⟨k, 0, none⟩) x11.length c15] : List Value)) ++ []) 22) :: ((ob14, blk ((u8s x11) ++ r16) 5) :: (B13 ++ []))) w → More w0 Φ ((ob14, blk ((u8s x11) ++ r16) 5) :: (B13 ++ [])) w := fun w q => More.mono (fun w m => (m).tail) q
  replace h6 := HdrRd.mono gq3 _ _ h6
  replace v3 := v3.mono gq3
  replace v27 := v27.mono gq3
  replace h29 := h29.mono (BsRd.mono gq3)
  have v30 : View (More w0 Φ (((some b25), blk ((([.slice ((ob14).map fun k => ⟨k, 0, none⟩) x11.length c15] : List Value)) ++ []) 22) :: ((ob14, blk ((u8s x11) ++ r16) 5) :: (B13 ++ [])))) (((some b25)).map fun k => ⟨k, 0, none⟩) ([x11] : List (List (BitVec 8))).length 1 1 (([.slice ((ob14).map fun k => ⟨k, 0, none⟩) x11.length c15] : List Value)) := o26.view (by decide) (fun w q => q.2.sublist (List.singleton_sublist.2 (List.mem_cons_self ..)))
  obtain ⟨x32, hx31, hf⟩ := Z102 hf
  refine Z12 Tryd.call63 rfl (waybillref02_Sum_does w0 (More w0 Φ (((some b25), blk ((([.slice ((ob14).map fun k => ⟨k, 0, none⟩) x11.length c15] : List Value)) ++ []) 22) :: ((ob14, blk ((u8s x11) ++ r16) 5) :: (B13 ++ [])))) ((some b9, blk (u8s (Vector.replicate 32 0#8).toList) 28) :: (some b8, blk (⟨a0.parent, a0.uncles, a0.coinbase, a0.state, a0.txRoot, a0.receiptRoot, a0.bloom, a0.difficulty, a0.number, a0.limit, a0.used, a0.time, .slice A1 a0.extra.length c2, a0.mix, a0.nonce, a0.tail, a0.baseFee, a0.withdrawals, a0.blobUsed, a0.blobExcess, a0.beacon, a0.requests⟩ : HdrC).C 38) :: ((((some b25), blk ((([.slice ((ob14).map fun k => ⟨k, 0, none⟩) x11.length c15] : List Value)) ++ []) 22) :: ((ob14, blk ((u8s x11) ++ r16) 5) :: (B13 ++ []))) ++ N)) (fun w m => More.of hΦ 2 m rfl) (((some b25)).map fun k => ⟨k, 0, none⟩) 1 (([.slice ((ob14).map fun k => ⟨k, 0, none⟩) x11.length c15] : List Value)) ([x11] : List (List (BitVec 8))) x32 v30 h29 hTn hRn hx31) rfl rfl ?_
  rintro _ G33 rfl
  refine Z20 (M' := ((some b9, blk (u8s (Vector.replicate 32 0#8).toList) 28) :: (some b8, blk (⟨a0.parent, a0.uncles, a0.coinbase, a0.state, a0.txRoot, a0.receiptRoot, a0.bloom, a0.difficulty, a0.number, a0.limit, a0.used, a0.time, .slice A1 a0.extra.length c2, a0.mix, a0.nonce, a0.tail, a0.baseFee, a0.withdrawals, a0.blobUsed, a0.blobExcess, a0.beacon, a0.requests⟩ : HdrC).C 38) :: ((((some b25), blk ((([.slice ((ob14).map fun k => ⟨k, 0, none⟩) x11.length c15] : List Value)) ++ []) 22) :: ((ob14, blk ((u8s x11) ++ r16) 5) :: (B13 ++ []))) ++ N))) (fun w m => m.appR) (Z28 (Z109 rfl rfl rfl (Z119 _) rfl ((Z100 _).trans Zv) ((Z100 _).trans Zv)) (Z0 (Z5 rfl) rfl (Z6 (Z1 (CW.ret ?_)))))
  have er0 := Zi hf
  obtain ⟨e0, er1⟩ := Prod.mk.inj er0
  clear er0
  subst e0
  subst er1
  refine Z108 (rs := [.cell 2 28, .tmp 3]) ([.agg (u8s x32.toList).toArray, .int .i64 (0 : Int)]) ((some b9, blk (u8s x32.toList) 28) :: (some b8, blk (⟨a0.parent, a0.uncles, a0.coinbase, a0.state, a0.txRoot, a0.receiptRoot, a0.bloom, a0.difficulty, a0.number, a0.limit, a0.used, a0.time, .slice A1 a0.extra.length c2, a0.mix, a0.nonce, a0.tail, a0.baseFee, a0.withdrawals, a0.blobUsed, a0.blobExcess, a0.beacon, a0.requests⟩ : HdrC).C 38) :: (((some b25), blk ((([.slice ((ob14).map fun k => ⟨k, 0, none⟩) x11.length c15] : List Value)) ++ []) 22) :: ((ob14, blk ((u8s x11) ++ r16) 5) :: (B13 ++ [])))) rfl ?_ rfl ?_ ?_ _ (.inl rfl)
  ·exact ⟨⟨_, _, _, _, rfl, Zh, rfl, rfl, (congrArg some ((Z100 _).trans Zv).symm), rfl⟩, rfl, trivial⟩
  ·exact ⟨(by omega), rfl⟩
  ·exact (fun w m => m)
 ·replace hf := if_f hf h24
  refine Z13 rfl (congrArg (fun b => !b) (decide_eq_false h24)) (Z4 (Z2 (Z0 (Z180 (l := (u8s (Vector.replicate 32 0#8).toList)) rfl rfl rfl (by rw [Vector.toList_replicate, ← Z133]; rfl)) rfl (Z0 (Z3 rfl) rfl (OW.rot1 (Z28 (Z109 rfl rfl rfl (Z119 _) rfl ((Z100 _).trans Zv) ((Z100 _).trans Zv)) (Z0 (Z5 rfl) rfl (Z6 (Z1 (CW.ret (Z8 ?_)))))))))))
  have er0 := Zi hf
  obtain ⟨e0, er1⟩ := Prod.mk.inj er0
  clear er0
  subst e0
  subst er1
  refine Z108 (rs := [.cell 2 28, .tmp 3]) ([.agg (u8s (Vector.replicate 32 0#8).toList).toArray, .int .i64 ((x12 : Nat) : Int)]) ((some b9, blk (u8s (Vector.replicate 32 0#8).toList) 28) :: (ob14, blk ((u8s x11) ++ r16) 5) :: (some b8, blk (⟨a0.parent, a0.uncles, a0.coinbase, a0.state, a0.txRoot, a0.receiptRoot, a0.bloom, a0.difficulty, a0.number, a0.limit, a0.used, a0.time, .slice A1 a0.extra.length c2, a0.mix, a0.nonce, a0.tail, a0.baseFee, a0.withdrawals, a0.blobUsed, a0.blobExcess, a0.beacon, a0.requests⟩ : HdrC).C 38) :: (B13 ++ [])) rfl ?_ rfl ?_ ?_ _ (.inl rfl)
  ·exact ⟨⟨_, _, _, _, rfl, Zh, rfl, rfl, (congrArg some ((Z100 _).trans Zv).symm), rfl⟩, rfl, trivial⟩
  ·exact ⟨(by omega), rfl⟩
  ·exact (fun w m => m)
theorem zhdr_one {A : Option Addr} {c : Nat} {h : Hdr} : ∀ u ∈ (h.C A c).C, u.oneCell' = true := HdrC.C_one _ rfl
theorem Z165 {A : Option Addr} {c : Nat} {h : Hdr} : (h.C A c).C.length = 588 := HdrC.C_length _
theorem zhdr_cells : i38.z.cells = ((Hdr.zero.C none 0).C).toArray := by kernel_rfl
noncomputable def slOps : List Oper := fnOps Tryd.f44 1
theorem slx0 : (List.range' 0 14).all (fun i => XR slOps.toArray (doneTo i 98).toArray i) = true := by kernel_rfl
theorem slx1 : (List.range' 14 14).all (fun i => XR slOps.toArray (doneTo i 98).toArray i) = true := by kernel_rfl
theorem slx2 : (List.range' 28 14).all (fun i => XR slOps.toArray (doneTo i 98).toArray i) = true := by kernel_rfl
theorem slx3 : (List.range' 42 14).all (fun i => XR slOps.toArray (doneTo i 98).toArray i) = true := by kernel_rfl
theorem slx4 : (List.range' 56 14).all (fun i => XR slOps.toArray (doneTo i 98).toArray i) = true := by kernel_rfl
theorem slx5 : (List.range' 70 14).all (fun i => XR slOps.toArray (doneTo i 98).toArray i) = true := by kernel_rfl
theorem slx6 : (List.range' 84 14).all (fun i => XR slOps.toArray (doneTo i 98).toArray i) = true := by kernel_rfl
theorem slX : ∀ i, i < 98 → XR slOps.toArray (doneTo i 98).toArray i = true := by
 intro i hi
 by_cases h0 : i < 14
 ·exact List.all_eq_true.1 slx0 i (List.mem_range'_1.2 (by omega))
 by_cases h1 : i < 28
 ·exact List.all_eq_true.1 slx1 i (List.mem_range'_1.2 (by omega))
 by_cases h2 : i < 42
 ·exact List.all_eq_true.1 slx2 i (List.mem_range'_1.2 (by omega))
 by_cases h3 : i < 56
 ·exact List.all_eq_true.1 slx3 i (List.mem_range'_1.2 (by omega))
 by_cases h4 : i < 70
 ·exact List.all_eq_true.1 slx4 i (List.mem_range'_1.2 (by omega))
 by_cases h5 : i < 84
 ·exact List.all_eq_true.1 slx5 i (List.mem_range'_1.2 (by omega))
 by_cases h6 : i < 98
 ·exact List.all_eq_true.1 slx6 i (List.mem_range'_1.2 (by omega))
 omega
theorem slB : Region.noSelect slOps.toArray = true := by kernel_rfl
theorem slD : (List.replicate slOps.length false).toArray = (doneTo 0 98).toArray := by kernel_rfl
theorem slE : (Region.ready .any slOps.toArray (doneTo 97 98).toArray == [97] && [97].contains 97) = true := by kernel_rfl
theorem slF : Region.seqB .any slOps.toArray 0 slOps.toArray.size (doneTo 98 98).toArray = true := by kernel_rfl
theorem header_slots_does (w0 : World) (N : List Ent) (b : Nat) : DoesG Tryd.prog 44 [ptr (some b) 0] w0 [] N (fun u G => ∃ B, u = .agg (slotC b).toArray ∧ G = B) := by
 refine DoesG.enter Tryd.func44 rfl Tryd.ntmps44 rfl (M := N) rfl ?_
 (repeat (first | refine Z4 ?_ | refine Z1 ?_ | refine CW.block ?_ | refine CW.ret ?_ | refine CW.skip ?_ | refine CW.exit ?_ | refine Z9 ?_ | refine Z8 ?_ | refine Z27 ?_ | refine Z15 ?_ | refine Z164 rfl ?_ | refine Z16 ?_))
 refine Z2 (OW.alloc rfl rfl rfl (fun b2 => (Z6 ?_)))
 (repeat (first | refine Z4 ?_ | refine Z1 ?_ | refine CW.block ?_ | refine CW.ret ?_ | refine CW.skip ?_ | refine CW.exit ?_ | refine Z9 ?_ | refine Z8 ?_ | refine Z27 ?_ | refine Z15 ?_ | refine Z164 rfl ?_ | refine Z16 ?_))
 refine CW.drawsX (l := slOps) N [97] (fun w m => m.tail) mixed slB ?_
 refine XW.norm (done' := (doneTo 0 98).toArray) (by rw [← List.toArray_replicate]; exact slD) ?_
 refine Z116 0 slX (by decide) rfl rfl (Z3 rfl) rfl (Z116 1 slX (by decide) rfl rfl (RV.nilCheck rfl) rfl (Z116 2 slX (by decide) rfl rfl (Z30 rfl rfl rfl rfl) rfl (XW.slot (ptr (some b) 0) rfl (Z116 3 slX (by decide) rfl rfl (Z139 rfl rfl rfl) rfl (XW.slot (sl (some b) 0 32 32) rfl (Z116 4 slX (by decide) rfl rfl (Z112 (l := [nsl, npt, npt, npt]) (cs := Slk.cells b (.text 0 32)) [(0, [sl (some b) 0 32 32])] rfl rfl rfl rfl rfl rfl rfl) rfl (Z116 5 slX (by decide) rfl rfl (Z3 rfl) rfl ?_)))))))
 refine Z116 6 slX (by decide) rfl rfl (RV.nilCheck rfl) rfl (Z116 7 slX (by decide) rfl rfl (Z30 rfl rfl rfl rfl) rfl (XW.slot (ptr (some b) 32) rfl (Z116 8 slX (by decide) rfl rfl (Z139 rfl rfl rfl) rfl (XW.slot (sl (some b) 32 32 32) rfl (Z116 9 slX (by decide) rfl rfl (Z112 (l := [nsl, npt, npt, npt]) (cs := Slk.cells b (.text 32 32)) [(0, [sl (some b) 32 32 32])] rfl rfl rfl rfl rfl rfl rfl) rfl (Z116 10 slX (by decide) rfl rfl (Z3 rfl) rfl (Z116 11 slX (by decide) rfl rfl (RV.nilCheck rfl) rfl ?_)))))))
 refine Z116 12 slX (by decide) rfl rfl (Z30 rfl rfl rfl rfl) rfl (XW.slot (ptr (some b) 64) rfl (Z116 13 slX (by decide) rfl rfl (Z139 rfl rfl rfl) rfl (XW.slot (sl (some b) 64 20 20) rfl (Z116 14 slX (by decide) rfl rfl (Z112 (l := [nsl, npt, npt, npt]) (cs := Slk.cells b (.text 64 20)) [(0, [sl (some b) 64 20 20])] rfl rfl rfl rfl rfl rfl rfl) rfl (Z116 15 slX (by decide) rfl rfl (Z3 rfl) rfl (Z116 16 slX (by decide) rfl rfl (RV.nilCheck rfl) rfl (Z116 17 slX (by decide) rfl rfl (Z30 rfl rfl rfl rfl) rfl ?_)))))))
 refine XW.slot (ptr (some b) 84) rfl (Z116 18 slX (by decide) rfl rfl (Z139 rfl rfl rfl) rfl (XW.slot (sl (some b) 84 32 32) rfl (Z116 19 slX (by decide) rfl rfl (Z112 (l := [nsl, npt, npt, npt]) (cs := Slk.cells b (.text 84 32)) [(0, [sl (some b) 84 32 32])] rfl rfl rfl rfl rfl rfl rfl) rfl (Z116 20 slX (by decide) rfl rfl (Z3 rfl) rfl (Z116 21 slX (by decide) rfl rfl (RV.nilCheck rfl) rfl (Z116 22 slX (by decide) rfl rfl (Z30 rfl rfl rfl rfl) rfl (XW.slot (ptr (some b) 116) rfl ?_)))))))
 refine Z116 23 slX (by decide) rfl rfl (Z139 rfl rfl rfl) rfl (XW.slot (sl (some b) 116 32 32) rfl (Z116 24 slX (by decide) rfl rfl (Z112 (l := [nsl, npt, npt, npt]) (cs := Slk.cells b (.text 116 32)) [(0, [sl (some b) 116 32 32])] rfl rfl rfl rfl rfl rfl rfl) rfl (Z116 25 slX (by decide) rfl rfl (Z3 rfl) rfl (Z116 26 slX (by decide) rfl rfl (RV.nilCheck rfl) rfl (Z116 27 slX (by decide) rfl rfl (Z30 rfl rfl rfl rfl) rfl (XW.slot (ptr (some b) 148) rfl (Z116 28 slX (by decide) rfl rfl (Z139 rfl rfl rfl) rfl ?_)))))))
 refine XW.slot (sl (some b) 148 32 32) rfl (Z116 29 slX (by decide) rfl rfl (Z112 (l := [nsl, npt, npt, npt]) (cs := Slk.cells b (.text 148 32)) [(0, [sl (some b) 148 32 32])] rfl rfl rfl rfl rfl rfl rfl) rfl (Z116 30 slX (by decide) rfl rfl (Z3 rfl) rfl (Z116 31 slX (by decide) rfl rfl (RV.nilCheck rfl) rfl (Z116 32 slX (by decide) rfl rfl (Z30 rfl rfl rfl rfl) rfl (XW.slot (ptr (some b) 180) rfl (Z116 33 slX (by decide) rfl rfl (Z139 rfl rfl rfl) rfl (XW.slot (sl (some b) 180 256 256) rfl ?_)))))))
 refine Z116 34 slX (by decide) rfl rfl (Z112 (l := [nsl, npt, npt, npt]) (cs := Slk.cells b (.text 180 256)) [(0, [sl (some b) 180 256 256])] rfl rfl rfl rfl rfl rfl rfl) rfl (Z116 35 slX (by decide) rfl rfl (Z3 rfl) rfl (Z116 36 slX (by decide) rfl rfl (RV.nilCheck rfl) rfl (Z116 37 slX (by decide) rfl rfl (Z30 rfl rfl rfl rfl) rfl (XW.slot (ptr (some b) 436) rfl (Z116 38 slX (by decide) rfl rfl (Z112 (l := [nsl, npt, npt, npt]) (cs := Slk.cells b (.big 436)) [(1, [ptr (some b) 436])] rfl rfl rfl rfl rfl rfl rfl) rfl (Z116 39 slX (by decide) rfl rfl (Z3 rfl) rfl (Z116 40 slX (by decide) rfl rfl (RV.nilCheck rfl) rfl ?_)))))))
 refine Z116 41 slX (by decide) rfl rfl (Z30 rfl rfl rfl rfl) rfl (XW.slot (ptr (some b) 440) rfl (Z116 42 slX (by decide) rfl rfl (Z112 (l := [nsl, npt, npt, npt]) (cs := Slk.cells b (.word 440)) [(2, [ptr (some b) 440])] rfl rfl rfl rfl rfl rfl rfl) rfl (Z116 43 slX (by decide) rfl rfl (Z3 rfl) rfl (Z116 44 slX (by decide) rfl rfl (RV.nilCheck rfl) rfl (Z116 45 slX (by decide) rfl rfl (Z30 rfl rfl rfl rfl) rfl (XW.slot (ptr (some b) 441) rfl (Z116 46 slX (by decide) rfl rfl (Z112 (l := [nsl, npt, npt, npt]) (cs := Slk.cells b (.word 441)) [(2, [ptr (some b) 441])] rfl rfl rfl rfl rfl rfl rfl) rfl ?_)))))))
 refine Z116 47 slX (by decide) rfl rfl (Z3 rfl) rfl (Z116 48 slX (by decide) rfl rfl (RV.nilCheck rfl) rfl (Z116 49 slX (by decide) rfl rfl (Z30 rfl rfl rfl rfl) rfl (XW.slot (ptr (some b) 442) rfl (Z116 50 slX (by decide) rfl rfl (Z112 (l := [nsl, npt, npt, npt]) (cs := Slk.cells b (.word 442)) [(2, [ptr (some b) 442])] rfl rfl rfl rfl rfl rfl rfl) rfl (Z116 51 slX (by decide) rfl rfl (Z3 rfl) rfl (Z116 52 slX (by decide) rfl rfl (RV.nilCheck rfl) rfl (Z116 53 slX (by decide) rfl rfl (Z30 rfl rfl rfl rfl) rfl ?_)))))))
 refine XW.slot (ptr (some b) 443) rfl (Z116 54 slX (by decide) rfl rfl (Z112 (l := [nsl, npt, npt, npt]) (cs := Slk.cells b (.word 443)) [(2, [ptr (some b) 443])] rfl rfl rfl rfl rfl rfl rfl) rfl (Z116 55 slX (by decide) rfl rfl (Z3 rfl) rfl (Z116 56 slX (by decide) rfl rfl (RV.nilCheck rfl) rfl (Z116 57 slX (by decide) rfl rfl (Z30 rfl rfl rfl rfl) rfl (XW.slot (ptr (some b) 444) rfl (Z116 58 slX (by decide) rfl rfl (Z112 (l := [nsl, npt, npt, npt]) (cs := Slk.cells b (.ext 444)) [(3, [ptr (some b) 444])] rfl rfl rfl rfl rfl rfl rfl) rfl (Z116 59 slX (by decide) rfl rfl (Z3 rfl) rfl ?_)))))))
 refine Z116 60 slX (by decide) rfl rfl (RV.nilCheck rfl) rfl (Z116 61 slX (by decide) rfl rfl (Z30 rfl rfl rfl rfl) rfl (XW.slot (ptr (some b) 445) rfl (Z116 62 slX (by decide) rfl rfl (Z139 rfl rfl rfl) rfl (XW.slot (sl (some b) 445 32 32) rfl (Z116 63 slX (by decide) rfl rfl (Z112 (l := [nsl, npt, npt, npt]) (cs := Slk.cells b (.text 445 32)) [(0, [sl (some b) 445 32 32])] rfl rfl rfl rfl rfl rfl rfl) rfl (Z116 64 slX (by decide) rfl rfl (Z3 rfl) rfl (Z116 65 slX (by decide) rfl rfl (RV.nilCheck rfl) rfl ?_)))))))
 refine Z116 66 slX (by decide) rfl rfl (Z30 rfl rfl rfl rfl) rfl (XW.slot (ptr (some b) 477) rfl (Z116 67 slX (by decide) rfl rfl (Z139 rfl rfl rfl) rfl (XW.slot (sl (some b) 477 8 8) rfl (Z116 68 slX (by decide) rfl rfl (Z112 (l := [nsl, npt, npt, npt]) (cs := Slk.cells b (.text 477 8)) [(0, [sl (some b) 477 8 8])] rfl rfl rfl rfl rfl rfl rfl) rfl (Z116 69 slX (by decide) rfl rfl (Z3 rfl) rfl (Z116 70 slX (by decide) rfl rfl (RV.nilCheck rfl) rfl (Z116 71 slX (by decide) rfl rfl (Z30 rfl rfl rfl rfl) rfl ?_)))))))
 refine XW.slot (ptr (some b) 486) rfl (Z116 72 slX (by decide) rfl rfl (Z112 (l := [nsl, npt, npt, npt]) (cs := Slk.cells b (.big 486)) [(1, [ptr (some b) 486])] rfl rfl rfl rfl rfl rfl rfl) rfl (Z116 73 slX (by decide) rfl rfl (Z3 rfl) rfl (Z116 74 slX (by decide) rfl rfl (RV.nilCheck rfl) rfl (Z116 75 slX (by decide) rfl rfl (Z30 rfl rfl rfl rfl) rfl (XW.slot (ptr (some b) 490) rfl (Z116 76 slX (by decide) rfl rfl (Z139 rfl rfl rfl) rfl (XW.slot (sl (some b) 490 32 32) rfl ?_)))))))
 refine Z116 77 slX (by decide) rfl rfl (Z112 (l := [nsl, npt, npt, npt]) (cs := Slk.cells b (.text 490 32)) [(0, [sl (some b) 490 32 32])] rfl rfl rfl rfl rfl rfl rfl) rfl (Z116 78 slX (by decide) rfl rfl (Z3 rfl) rfl (Z116 79 slX (by decide) rfl rfl (RV.nilCheck rfl) rfl (Z116 80 slX (by decide) rfl rfl (Z30 rfl rfl rfl rfl) rfl (XW.slot (ptr (some b) 522) rfl (Z116 81 slX (by decide) rfl rfl (Z112 (l := [nsl, npt, npt, npt]) (cs := Slk.cells b (.word 522)) [(2, [ptr (some b) 522])] rfl rfl rfl rfl rfl rfl rfl) rfl (Z116 82 slX (by decide) rfl rfl (Z3 rfl) rfl (Z116 83 slX (by decide) rfl rfl (RV.nilCheck rfl) rfl ?_)))))))
 refine Z116 84 slX (by decide) rfl rfl (Z30 rfl rfl rfl rfl) rfl (XW.slot (ptr (some b) 523) rfl (Z116 85 slX (by decide) rfl rfl (Z112 (l := [nsl, npt, npt, npt]) (cs := Slk.cells b (.word 523)) [(2, [ptr (some b) 523])] rfl rfl rfl rfl rfl rfl rfl) rfl (Z116 86 slX (by decide) rfl rfl (Z3 rfl) rfl (Z116 87 slX (by decide) rfl rfl (RV.nilCheck rfl) rfl (Z116 88 slX (by decide) rfl rfl (Z30 rfl rfl rfl rfl) rfl (XW.slot (ptr (some b) 524) rfl (Z116 89 slX (by decide) rfl rfl (Z139 rfl rfl rfl) rfl ?_)))))))
 refine XW.slot (sl (some b) 524 32 32) rfl (Z116 90 slX (by decide) rfl rfl (Z112 (l := [nsl, npt, npt, npt]) (cs := Slk.cells b (.text 524 32)) [(0, [sl (some b) 524 32 32])] rfl rfl rfl rfl rfl rfl rfl) rfl (Z116 91 slX (by decide) rfl rfl (Z3 rfl) rfl (Z116 92 slX (by decide) rfl rfl (RV.nilCheck rfl) rfl (Z116 93 slX (by decide) rfl rfl (Z30 rfl rfl rfl rfl) rfl (XW.slot (ptr (some b) 556) rfl (Z116 94 slX (by decide) rfl rfl (Z139 rfl rfl rfl) rfl (XW.slot (sl (some b) 556 32 32) rfl ?_)))))))
 refine Z116 95 slX (by decide) rfl rfl (Z112 (l := [nsl, npt, npt, npt]) (cs := Slk.cells b (.text 556 32)) [(0, [sl (some b) 556 32 32])] rfl rfl rfl rfl rfl rfl rfl) rfl ?_
 refine Z116 96 slX (by decide) rfl rfl (RV.buildAs (l := List.flatten (List.replicate 21 [nsl, npt, npt, npt])) (s := 4) (vss := slotL.map (Slk.cells b)) (cs := slotC b) rfl rfl rfl rfl rfl (by intro x hx; obtain ⟨s, _, rfl⟩ := List.mem_map.1 hx; exact Z134 b s) slotC_hl (slotC_def b)) rfl ?_
 refine XW.sv 97 rfl slE (Z109 rfl rfl rfl (slotC_one b) rfl rfl rfl) (fun w m => m.tail) (XW.norm (done' := (doneTo 98 98).toArray) (doneTo_next (by decide)) (XW.nil slF (Z1 (CW.ret ?_))))
 refine Z108 (rs := [.cell 2 97]) [.agg (slotC b).toArray] ((some b2, blk (slotC b) 97) :: []) rfl ⟨⟨_, _, _, _, rfl, Zh, rfl, rfl, rfl, rfl⟩, trivial⟩ rfl ⟨_, rfl, rfl⟩ (fun w m => m) _ (.inl rfl)
theorem hslot_zero_does (w0 : World) (Φ : Ctx) (N : List Ent) (hΦ : ∀ w, Mem w0 w N → Φ w) (b : Nat) (s : Slk) (f : Fd) (hs : SlotAt Φ b s f) : DoesG Tryd.prog 54 [.agg (s.cells b).toArray] w0 [] N (fun u G => ∃ B, u = .bool f.isZero ∧ G = B) := by
 refine DoesG.enter Tryd.func54 rfl Tryd.ntmps54 rfl (M := N) rfl (Z4 (Z2 (OW.boxA rfl rfl (fun b1 => (Z0 (Z5 rfl) rfl (Z6 ?_))))))
 (refine Z1 ?_; refine Z4 ?_; refine CW.block ?_; refine Z4 ?_)
 cases s <;> cases f <;> first | exact hs.elim | skip
 ·rename_i o n l
  obtain ⟨rfl, hv⟩ := hs
  have hmx := hv.mx
  refine Z2 (Z0 (Z30 rfl rfl rfl rfl) rfl ?_)
  refine Z0 (Z29 rfl (by exact List.Mem.head _; done) rfl rfl rfl rfl) rfl ?_
  refine Z0 (RV.neqN rfl rfl rfl) rfl (Z0 (Z5 rfl) rfl (Z6 (Z1 (Z136 rfl (Z4 (Z2 (Z0 (Z30 rfl rfl rfl rfl) rfl ?_)))))))
  refine Z0 (Z29 rfl (by exact List.Mem.head _; done) rfl rfl rfl rfl) rfl ?_
  refine Z0 (RV.neqN rfl rfl rfl) rfl (Z0 (Z5 rfl) rfl (Z6 (Z1 (Z136 rfl (Z4 (Z2 (Z0 (Z30 rfl rfl rfl rfl) rfl ?_)))))))
  refine Z0 (Z29 rfl (by exact List.Mem.head _; done) rfl rfl rfl rfl) rfl ?_
  refine Z0 (RV.neqN rfl rfl rfl) rfl (Z0 (Z5 rfl) rfl (Z6 (Z1 (Z136 rfl ?_))))
  (refine CW.skip ?_; refine Z27 ?_; refine Z1 ?_; refine Z4 ?_; refine Z4 ?_)
  refine Z2 (Z0 (Z30 rfl rfl rfl rfl) rfl ?_)
  refine Z0 (Z29 rfl (by exact List.Mem.head _; done) rfl rfl rfl rfl) rfl ?_
  refine Z0 (RV.len rfl rfl) rfl (Z0 (Z3 rfl) rfl (Z6 ?_))
  (refine Z1 ?_; refine CW.block ?_)
  refine Z121 (fun k L' M' => ∃ (i : Nat), k = l.length - i ∧ i ≤ l.length ∧ (∀ x ∈ l.take i, x = 0#8) ∧ L' = [(35, sl (some b) o l.length l.length), (36, .int .i64 (l.length : Int)), (37, .int .i64 (i : Int))] ∧ M' = N) (k0 := l.length) ⟨0, rfl, by omega, by simp, rfl, rfl⟩ ⟨rfl, rfl, rfl, trivial⟩ (fun w m => m.tail) ?_
  rintro k L' M' ⟨i, rfl, hi, hz, rfl, rfl⟩
  refine Z4 (Z2 (Z0 (RV.lss rfl rfl) rfl (Z6 ?_)))
  (refine Z1 ?_; refine Z4 ?_)
  refine Z129 rfl (fun hlt => ?_) (fun hlt => ?_)
  ·have h1 : i < l.length := by omega
   have hx : l[i]? = some l[i] := List.getElem?_eq_getElem h1
   (refine CW.skip ?_; refine Z1 ?_; refine Z4 ?_; refine CW.block ?_; refine Z4 ?_)
   refine Z2 (Z0 (Z179 (i) rfl rfl rfl rfl rfl (hv.isSome (by decide) h1) (by omega)) rfl (Z0 (Z21 rfl rfl rfl (fun w m => hv.cell (hΦ w m) (u8s_at hx))) rfl (Z0 (Z5 rfl) rfl (Z6 ?_))))
   (refine Z1 ?_; refine Z4 ?_)
   refine Z2 (Z0 (Z3 rfl) rfl (Z0 (RV.neq8 rfl rfl rfl (lit8 _ rfl)) rfl (Z6 (Z1 ?_))))
   by_cases hz2 : l[i] = 0#8
   ·refine Z14 rfl (by rw [hz2]; rfl) ?_
    (refine CW.skip ?_; refine Z27 ?_; refine Z1 ?_)
    refine Z2 (Z0 (RV.add rfl rfl (by omega)) rfl (Z0 (Z3 rfl) rfl (Z6 ?_)))
    refine Z114 (k' := l.length - (i + 1)) (by omega) ⟨i + 1, rfl, by omega, (by
     intro x hx2
     rw [List.take_add_one, hx] at hx2
     rcases List.mem_append.1 hx2 with h | h
     ·exact hz x h
     ·simp at h; rw [h, hz2]), rfl, rfl⟩ ⟨rfl, rfl, rfl, trivial⟩ (fun w m => m)
   ·refine Z13 rfl (by simpa using hz2) (Z4 (Z2 (Z0 (Z5 rfl) rfl (Z6 ?_))))
    (repeat (first | refine Z4 ?_ | refine Z1 ?_ | refine CW.block ?_ | refine CW.ret ?_ | refine CW.skip ?_ | refine CW.exit ?_ | refine Z9 ?_ | refine Z8 ?_ | refine Z27 ?_ | refine Z15 ?_ | refine Z164 rfl ?_ | refine Z16 ?_))
    have e : Fd.isZero (.text l) = false := by
     simp only [Fd.isZero, List.all_eq_false]
     exact ⟨l[i], List.getElem_mem h1, by simpa using hz2⟩
    rw [e]
    refine Z108 (rs := [.tmp 2]) [.bool false] [] rfl ⟨rfl, trivial⟩ rfl ⟨_, rfl, rfl⟩ (fun w m => m) _ (.inl rfl)
  ·have e : Fd.isZero (.text l) = true := by
    simp only [Fd.isZero, List.all_eq_true]
    intro x hx
    have := hz x (by rw [List.take_of_length_le (by omega)]; exact hx)
    simpa using this
   rw [e]
   (refine CW.exit ?_; refine Z9 ?_; refine Z9 ?_; refine Z15 ?_; refine Z1 ?_; refine Z4 ?_)
   refine Z2 (Z0 (Z5 rfl) rfl (Z6 ?_))
   (refine Z1 ?_; refine CW.ret ?_)
   refine Z108 (rs := [.tmp 2]) [.bool true] [] rfl ⟨rfl, trivial⟩ rfl ⟨_, rfl, rfl⟩ (fun w m => m) _ (.inl rfl)
 ·rename_i o v
  refine Z2 (Z0 (Z30 rfl rfl rfl rfl) rfl ?_)
  refine Z0 (Z29 rfl (by exact List.Mem.head _; done) rfl rfl rfl rfl) rfl ?_
  refine Z0 (RV.neqS rfl rfl rfl) rfl (Z0 (Z5 rfl) rfl (Z6 (Z1 (Z160 rfl (Z4 (Z2 (Z0 (Z30 rfl rfl rfl rfl) rfl ?_)))))))
  refine Z0 (Z29 rfl (by exact List.Mem.head _; done) rfl rfl rfl rfl) rfl ?_
  refine Z0 (RV.nilCheck rfl) rfl ?_
  refine Z0 (Z156 (vs := u64s v.toList) rfl rfl rfl rfl (fun w m j u hj => by rw [Z118]; exact hs w (hΦ w m.tail) j u hj) ((Z103 _).trans Zv)) rfl ?_
  refine Z0 (Z180 (l := u64s (Vector.replicate 4 0#64).toList) rfl rfl rfl rfl) rfl (Z0 (RV.eqA64 rfl rfl rfl rfl rfl rfl (Zv) (Zv)) rfl (Z0 (Z5 rfl) rfl (Z6 ?_)))
  (refine Z1 ?_; refine CW.ret ?_; refine Z16 ?_; refine Z8 ?_)
  refine Z108 (rs := [.tmp 2]) [.bool (Fd.isZero (.big v))] [] rfl ⟨?_, trivial⟩ rfl ⟨_, rfl, rfl⟩ (fun w m => m.tail) _ (.inl rfl)
  exact congrArg some (congrArg Value.bool (decide_eq_decide.2 Vector.toList_inj))
 ·rename_i o x
  refine Z2 (Z0 (Z30 rfl rfl rfl rfl) rfl ?_)
  refine Z0 (Z29 rfl (by exact List.Mem.head _; done) rfl rfl rfl rfl) rfl ?_
  refine Z0 (RV.neqN rfl rfl rfl) rfl (Z0 (Z5 rfl) rfl (Z6 (Z1 (Z136 rfl (Z4 (Z2 (Z0 (Z30 rfl rfl rfl rfl) rfl ?_)))))))
  refine Z0 (Z29 rfl (by exact List.Mem.head _; done) rfl rfl rfl rfl) rfl ?_
  refine Z0 (RV.neqS rfl rfl rfl) rfl (Z0 (Z5 rfl) rfl (Z6 (Z1 (Z160 rfl (Z4 (Z2 (Z0 (Z30 rfl rfl rfl rfl) rfl ?_)))))))
  refine Z0 (Z29 rfl (by exact List.Mem.head _; done) rfl rfl rfl rfl) rfl ?_
  refine Z0 (RV.nilCheck rfl) rfl (Z0 (Z21 rfl rfl rfl (fun w m => hs w (hΦ w m.tail))) rfl (Z0 (RV.eql64 rfl rfl rfl (lit64 _ rfl)) rfl (Z0 (Z5 rfl) rfl (Z6 ?_))))
  (refine Z1 ?_; refine CW.ret ?_; refine Z16 ?_; refine Z8 ?_)
  refine Z108 (rs := [.tmp 2]) [.bool (Fd.isZero (.word x))] [] rfl ⟨?_, trivial⟩ rfl ⟨_, rfl, rfl⟩ (fun w m => m.tail) _ (.inl rfl)
  exact rfl
 ·rename_i o l
  obtain ⟨A, c, hc, hv⟩ := hs
  refine Z2 (Z0 (Z30 rfl rfl rfl rfl) rfl ?_)
  refine Z0 (Z29 rfl (by exact List.Mem.head _; done) rfl rfl rfl rfl) rfl ?_
  refine Z0 (RV.neqN rfl rfl rfl) rfl (Z0 (Z5 rfl) rfl (Z6 (Z1 (Z136 rfl (Z4 (Z2 (Z0 (Z30 rfl rfl rfl rfl) rfl ?_)))))))
  refine Z0 (Z29 rfl (by exact List.Mem.head _; done) rfl rfl rfl rfl) rfl ?_
  refine Z0 (RV.neqN rfl rfl rfl) rfl (Z0 (Z5 rfl) rfl (Z6 (Z1 (Z136 rfl (Z4 (Z2 (Z0 (Z30 rfl rfl rfl rfl) rfl ?_)))))))
  refine Z0 (Z29 rfl (by exact List.Mem.head _; done) rfl rfl rfl rfl) rfl ?_
  refine Z0 (RV.neqS rfl rfl rfl) rfl (Z0 (Z5 rfl) rfl (Z6 (Z1 (Z160 rfl (Z4 (Z2 (Z0 (Z30 rfl rfl rfl rfl) rfl ?_)))))))
  refine Z0 (Z29 rfl (by exact List.Mem.head _; done) rfl rfl rfl rfl) rfl ?_
  refine Z0 (RV.nilCheck rfl) rfl (Z0 (Z21 rfl rfl rfl (fun w m => hc w (hΦ w m.tail))) rfl (Z0 (RV.len rfl rfl) rfl (Z0 (RV.eql rfl rfl) rfl (Z0 (Z5 rfl) rfl (Z6 ?_)))))
  (refine Z1 ?_; refine CW.ret ?_; refine Z16 ?_; refine Z8 ?_)
  refine Z108 (rs := [.tmp 2]) [.bool (Fd.isZero (.ext l))] [] rfl ⟨?_, trivial⟩ rfl ⟨_, rfl, rfl⟩ (fun w m => m.tail) _ (.inl rfl)
  exact congrArg some (congrArg Value.bool (decide_eq_decide.2 (by omega)))
theorem hslot_item_does (w0 : World) (Φ : Ctx) (N : List Ent) (hΦ : ∀ w, Mem w0 w N → Φ w) (b : Nat) (s : Slk) (f : Fd) (res0 : It) (hs : SlotAt Φ b s f) (hf : f.item = some res0) : DoesG Tryd.prog 56 [.agg (s.cells b).toArray] w0 [] N (fun v G => ∃ B : List Ent, ∃ cr0 : List Value, (ItRd (More w0 Φ B) cr0 res0) ∧ v = .agg cr0.toArray ∧ G = B) := by
 refine DoesG.enter Tryd.func56 rfl Tryd.ntmps56 rfl (M := N) rfl (Z4 (Z2 (OW.boxA rfl rfl (fun b1 => (OW.alloc rfl rfl rfl (fun b2 => (Z6 ?_)))))))
 (refine Z1 ?_; refine Z4 ?_; refine CW.block ?_; refine Z4 ?_)
 cases s <;> cases f <;> first | exact hs.elim | skip
 ·rename_i o n l
  obtain ⟨rfl, hv⟩ := hs
  refine Z2 (Z0 (Z30 rfl rfl rfl rfl) rfl ?_)
  refine Z0 (Z29 rfl (by (refine List.Mem.tail _ ?_; exact List.Mem.head _); done) rfl rfl rfl rfl) rfl ?_
  refine Z0 (RV.neqN rfl rfl rfl) rfl (Z0 (Z5 rfl) rfl (Z6 (Z1 (Z136 rfl (Z4 (Z2 (Z0 (Z30 rfl rfl rfl rfl) rfl ?_)))))))
  refine Z0 (Z29 rfl (by (refine List.Mem.tail _ ?_; exact List.Mem.head _); done) rfl rfl rfl rfl) rfl ?_
  refine Z0 (RV.neqN rfl rfl rfl) rfl (Z0 (Z5 rfl) rfl (Z6 (Z1 (Z136 rfl (Z4 (Z2 (Z0 (Z30 rfl rfl rfl rfl) rfl ?_)))))))
  refine Z0 (Z29 rfl (by (refine List.Mem.tail _ ?_; exact List.Mem.head _); done) rfl rfl rfl rfl) rfl ?_
  refine Z0 (RV.neqN rfl rfl rfl) rfl (Z0 (Z5 rfl) rfl (Z6 (Z1 (Z136 rfl ?_))))
  (refine CW.skip ?_; refine Z27 ?_; refine Z1 ?_; refine Z4 ?_)
  refine Z2 (Z0 (Z30 rfl rfl rfl rfl) rfl ?_)
  refine Z0 (Z29 rfl (by (refine List.Mem.tail _ ?_; exact List.Mem.head _); done) rfl rfl rfl rfl) rfl ?_
  refine Z12 Tryd.call80 rfl (rlp_Text_does w0 Φ ((some b2, blk [.bool false, nsl, nsl] 25) :: (some b1, blk (Slk.cells b (.text o l.length)) 96) :: N) (fun w m => hΦ w (m.drop 2)) _ _ l res0 hv hf) rfl rfl ?_; rintro _ B ⟨_, cr, hcr, rfl, rfl⟩; refine Z20 (M' := (some b2, blk [.bool false, nsl, nsl] 25) :: (B ++ N)) (fun w m => m.out1d) ?_
  refine Z28 (Z109 rfl rfl rfl (ItRd.one _ _ hcr) rfl rfl (ItRd.len _ _ hcr)) (Z6 ?_)
  (refine Z1 ?_; refine CW.ret ?_)
  refine Z108 (rs := [.cell 2 25]) [.agg cr.toArray] ((some b2, blk cr 25) :: B) rfl ⟨⟨_, _, _, _, rfl, Zh, rfl, rfl, (by rw [ItRd.len _ _ hcr]; rfl), rfl⟩, trivial⟩ rfl ⟨_, _, ItRd.mono (fun w q => ⟨q.1, q.2.tail⟩) _ _ hcr, rfl, rfl⟩ (fun w m => m) _ (.inl rfl)
 ·rename_i o v
  refine Z2 (Z0 (Z30 rfl rfl rfl rfl) rfl ?_)
  refine Z0 (Z29 rfl (by (refine List.Mem.tail _ ?_; exact List.Mem.head _); done) rfl rfl rfl rfl) rfl ?_
  refine Z0 (RV.neqS rfl rfl rfl) rfl (Z0 (Z5 rfl) rfl (Z6 (Z1 (Z160 rfl (Z4 (Z2 (Z0 (Z30 rfl rfl rfl rfl) rfl ?_)))))))
  refine Z0 (Z29 rfl (by (refine List.Mem.tail _ ?_; exact List.Mem.head _); done) rfl rfl rfl rfl) rfl ?_
  refine Z0 (RV.nilCheck rfl) rfl ?_
  refine Z0 (Z156 (vs := u64s v.toList) rfl rfl rfl rfl (fun w m j u hj => by rw [Z118]; exact hs w (hΦ w (m.drop 2)) j u hj) ((Z103 _).trans Zv)) rfl ?_
  refine Z12 Tryd.call91 rfl (rlp_Number_does w0 Φ ((some b2, blk [.bool false, nsl, nsl] 25) :: (some b1, blk (Slk.cells b (.big o)) 96) :: N) (fun w m => hΦ w (m.drop 2)) v res0 hf) rfl rfl ?_; rintro _ B ⟨_, cr, hcr, rfl, rfl⟩; refine Z20 (M' := (some b2, blk [.bool false, nsl, nsl] 25) :: (B ++ N)) (fun w m => m.out1d) ?_
  refine Z28 (Z109 rfl rfl rfl (ItRd.one _ _ hcr) rfl rfl (ItRd.len _ _ hcr)) (Z6 ?_)
  (refine Z1 ?_; refine CW.ret ?_; refine Z16 ?_; refine Z8 ?_)
  refine Z108 (rs := [.cell 2 25]) [.agg cr.toArray] ((some b2, blk cr 25) :: B) rfl ⟨⟨_, _, _, _, rfl, Zh, rfl, rfl, (by rw [ItRd.len _ _ hcr]; rfl), rfl⟩, trivial⟩ rfl ⟨_, _, ItRd.mono (fun w q => ⟨q.1, q.2.tail⟩) _ _ hcr, rfl, rfl⟩ (fun w m => m) _ (.inl rfl)
 ·rename_i o x
  refine Z2 (Z0 (Z30 rfl rfl rfl rfl) rfl ?_)
  refine Z0 (Z29 rfl (by (refine List.Mem.tail _ ?_; exact List.Mem.head _); done) rfl rfl rfl rfl) rfl ?_
  refine Z0 (RV.neqN rfl rfl rfl) rfl (Z0 (Z5 rfl) rfl (Z6 (Z1 (Z136 rfl (Z4 (Z2 (Z0 (Z30 rfl rfl rfl rfl) rfl ?_)))))))
  refine Z0 (Z29 rfl (by (refine List.Mem.tail _ ?_; exact List.Mem.head _); done) rfl rfl rfl rfl) rfl ?_
  refine Z0 (RV.neqS rfl rfl rfl) rfl (Z0 (Z5 rfl) rfl (Z6 (Z1 (Z160 rfl (Z4 (Z2 (Z0 (Z30 rfl rfl rfl rfl) rfl ?_)))))))
  refine Z0 (Z29 rfl (by (refine List.Mem.tail _ ?_; exact List.Mem.head _); done) rfl rfl rfl rfl) rfl ?_
  refine Z0 (RV.nilCheck rfl) rfl (Z0 (Z21 rfl rfl rfl (fun w m => hs w (hΦ w (m.drop 2)))) rfl ?_)
  refine Z12 Tryd.call92 rfl (rlp_Small_does w0 Φ ((some b2, blk [.bool false, nsl, nsl] 25) :: (some b1, blk (Slk.cells b (.word o)) 96) :: N) (fun w m => hΦ w (m.drop 2)) x res0 hf) rfl rfl ?_; rintro _ B ⟨_, cr, hcr, rfl, rfl⟩; refine Z20 (M' := (some b2, blk [.bool false, nsl, nsl] 25) :: (B ++ N)) (fun w m => m.out1d) ?_
  refine Z28 (Z109 rfl rfl rfl (ItRd.one _ _ hcr) rfl rfl (ItRd.len _ _ hcr)) (Z6 ?_)
  (refine Z1 ?_; refine CW.ret ?_; refine Z16 ?_; refine Z8 ?_)
  refine Z108 (rs := [.cell 2 25]) [.agg cr.toArray] ((some b2, blk cr 25) :: B) rfl ⟨⟨_, _, _, _, rfl, Zh, rfl, rfl, (by rw [ItRd.len _ _ hcr]; rfl), rfl⟩, trivial⟩ rfl ⟨_, _, ItRd.mono (fun w q => ⟨q.1, q.2.tail⟩) _ _ hcr, rfl, rfl⟩ (fun w m => m) _ (.inl rfl)
 ·rename_i o l
  obtain ⟨A, c, hc, hv⟩ := hs
  refine Z2 (Z0 (Z30 rfl rfl rfl rfl) rfl ?_)
  refine Z0 (Z29 rfl (by (refine List.Mem.tail _ ?_; exact List.Mem.head _); done) rfl rfl rfl rfl) rfl ?_
  refine Z0 (RV.neqN rfl rfl rfl) rfl (Z0 (Z5 rfl) rfl (Z6 (Z1 (Z136 rfl (Z4 (Z2 (Z0 (Z30 rfl rfl rfl rfl) rfl ?_)))))))
  refine Z0 (Z29 rfl (by (refine List.Mem.tail _ ?_; exact List.Mem.head _); done) rfl rfl rfl rfl) rfl ?_
  refine Z0 (RV.neqN rfl rfl rfl) rfl (Z0 (Z5 rfl) rfl (Z6 (Z1 (Z136 rfl (Z4 (Z2 (Z0 (Z30 rfl rfl rfl rfl) rfl ?_)))))))
  refine Z0 (Z29 rfl (by (refine List.Mem.tail _ ?_; exact List.Mem.head _); done) rfl rfl rfl rfl) rfl ?_
  refine Z0 (RV.neqS rfl rfl rfl) rfl (Z0 (Z5 rfl) rfl (Z6 (Z1 (Z160 rfl (Z4 (Z2 (Z0 (Z30 rfl rfl rfl rfl) rfl ?_)))))))
  refine Z0 (Z29 rfl (by (refine List.Mem.tail _ ?_; exact List.Mem.head _); done) rfl rfl rfl rfl) rfl ?_
  refine Z0 (RV.nilCheck rfl) rfl (Z0 (Z21 rfl rfl rfl (fun w m => hc w (hΦ w (m.drop 2)))) rfl ?_)
  refine Z12 Tryd.call80 rfl (rlp_Text_does w0 Φ ((some b2, blk [.bool false, nsl, nsl] 25) :: (some b1, blk (Slk.cells b (.ext o)) 96) :: N) (fun w m => hΦ w (m.drop 2)) _ _ l res0 hv hf) rfl rfl ?_; rintro _ B ⟨_, cr, hcr, rfl, rfl⟩; refine Z20 (M' := (some b2, blk [.bool false, nsl, nsl] 25) :: (B ++ N)) (fun w m => m.out1d) ?_
  refine Z28 (Z109 rfl rfl rfl (ItRd.one _ _ hcr) rfl rfl (ItRd.len _ _ hcr)) (Z6 ?_)
  (refine Z1 ?_; refine CW.ret ?_; refine Z16 ?_; refine Z8 ?_)
  refine Z108 (rs := [.cell 2 25]) [.agg cr.toArray] ((some b2, blk cr 25) :: B) rfl ⟨⟨_, _, _, _, rfl, Zh, rfl, rfl, (by rw [ItRd.len _ _ hcr]; rfl), rfl⟩, trivial⟩ rfl ⟨_, _, ItRd.mono (fun w q => ⟨q.1, q.2.tail⟩) _ _ hcr, rfl, rfl⟩ (fun w m => m) _ (.inl rfl)
theorem header_Check_does (w0 : World) (Φ : Ctx) (N : List Ent) (hΦ : ∀ w, Mem w0 w N → Φ w) (cs0_ : List Value) (a0 : Hdr) (res0 : Nat) (ha0 : HdrRd Φ cs0_ a0) (hf : header_Check a0 = some res0) : DoesG Tryd.prog 20 [.agg cs0_.toArray] w0 [] N (fun v G => (res0 ≤ 9223372036854775807) ∧ v = .int .i64 ((res0 : Nat) : Int)) := by
 unfold header_Check at hf
 obtain ⟨A, c, rfl, hv0, ht⟩ := ha0.opnC
 refine DoesG.enter Tryd.func20 rfl Tryd.ntmps20 rfl (M := N) rfl (Z4 (Z2 (OW.boxA rfl rfl (fun b1 => (Z0 (Z5 rfl) rfl (Z6 ?_))))))
 (refine Z1 ?_; refine Z4 ?_; refine Z4 ?_)
 have hext : (a0.C A c).C[444]? = some (.slice A a0.extra.length c) := Z138 (a0.C A c)
 have htl : (a0.C A c).C[485]? = some (.int .i64 a0.tail) := Z122 (a0.C A c)
 have hv : View (fun w => Mem w0 w ((some b1, blk (a0.C A c).C 38) :: N)) A a0.extra.length c 1 (u8s a0.extra) := hv0.mono (fun w q => hΦ w q.tail)
 have he : Held w0 (fun w => Mem w0 w ((some b1, blk (a0.C A c).C 38) :: N)) b1 (a0.C A c).C 38 := fun w q => q.sublist (List.singleton_sublist.2 (List.mem_cons_self ..))
 have hmx := hv.mx
 by_cases h1 : a0.tail < 0
 ·rw [if_pos h1] at hf
  obtain rfl := Zi hf
  refine Z2 (Z0 (Z30 rfl rfl rfl rfl) rfl (Z0 (Z29 rfl Zh rfl rfl rfl htl) rfl (Z0 (RV.lss_t rfl rfl h1) rfl (Z0 (Z3 rfl) rfl (Z23 rfl rfl rfl (Z23 rfl rfl rfl (Z23 rfl rfl rfl ?_)))))))
  refine Z0 (Z105 rfl rfl rfl) rfl (Z6 (Z1 (Z160 rfl (Z4 (Z2 (Z0 (Z5 rfl) rfl (Z6 ?_)))))))
  (refine Z1 ?_; refine CW.ret ?_; refine Z8 ?_)
  refine Z108 (rs := [.tmp 2]) [.int .i64 191] [] rfl ⟨rfl, trivial⟩ rfl ⟨by omega, rfl⟩ (fun w m => m.tail) _ (.inl rfl)
 rw [if_neg h1] at hf
 by_cases h2 : 4 < a0.tail
 ·rw [if_pos h2] at hf
  obtain rfl := Zi hf
  refine Z2 (Z0 (Z30 rfl rfl rfl rfl) rfl (Z0 (Z29 rfl Zh rfl rfl rfl htl) rfl (Z0 (RV.lss_f rfl rfl h1) rfl (Z0 (Z3 rfl) rfl ?_))))
  refine Z24 rfl ?_; refine Z0 (Z30 rfl rfl rfl rfl) rfl ?_
  refine Z24 rfl ?_; refine Z0 (Z29 rfl Zh rfl rfl rfl htl) rfl ?_
  refine Z24 rfl ?_; refine Z0 (RV.gtr_t rfl rfl h2) rfl ?_
  refine Z0 (Z106 rfl rfl rfl) rfl (Z6 (Z1 (Z160 rfl (Z4 (Z2 (Z0 (Z5 rfl) rfl (Z6 ?_)))))))
  (refine Z1 ?_; refine CW.ret ?_; refine Z8 ?_)
  refine Z108 (rs := [.tmp 2]) [.int .i64 191] [] rfl ⟨rfl, trivial⟩ rfl ⟨by omega, rfl⟩ (fun w m => m.tail) _ (.inl rfl)
 rw [if_neg h2] at hf
 obtain ⟨n, hn, hf⟩ := Option.bind_eq_some_iff.1 hf
 refine Z2 (Z0 (Z30 rfl rfl rfl rfl) rfl (Z0 (Z29 rfl Zh rfl rfl rfl htl) rfl (Z0 (RV.lss_f rfl rfl h1) rfl (Z0 (Z3 rfl) rfl ?_))))
 refine Z24 rfl ?_; refine Z0 (Z30 rfl rfl rfl rfl) rfl ?_
 refine Z24 rfl ?_; refine Z0 (Z29 rfl Zh rfl rfl rfl htl) rfl ?_
 refine Z24 rfl ?_; refine Z0 (RV.gtr_f rfl rfl h2) rfl ?_
 refine Z0 (Z106 rfl rfl rfl) rfl (Z6 (Z1 (Z136 rfl ?_)))
 (refine CW.skip ?_; refine Z1 ?_; refine Z4 ?_; refine Z4 ?_)
 refine Z2 ?_
 refine Z12 Tryd.call44 rfl (header_slots_does w0 ((some b1, blk (a0.C A c).C 38) :: N) b1) rfl rfl ?_; rintro _ B0 ⟨_, rfl, rfl⟩; refine Z20 (M' := (some b1, blk (a0.C A c).C 38) :: N) (fun w m => m.appR) ?_
 refine Z0 (Z3 rfl) rfl (Z6 ?_)
 (refine Z1 ?_; refine CW.block ?_)
 refine Z121 (fun k L' M' => ∃ (i : Nat), k = 21 - i ∧ i ≤ 21 ∧ (∀ j f, n ≤ j → j < i → a0.fds[j]? = some f → f.isZero = true) ∧ L' = [(1, ptr (some b1) 0), (13, .agg (slotC b1).toArray), (14, .int .i64 (i : Int))] ∧ M' = (some b1, blk (a0.C A c).C 38) :: N) (k0 := 21) ⟨0, rfl, by omega, (fun j f _ h => absurd h (by omega)), rfl, rfl⟩ ⟨rfl, rfl, rfl, trivial⟩ (fun w m => m) ?_
 rintro k L' M' ⟨i, rfl, hi, hz, rfl, rfl⟩
 refine Z4 (Z2 (Z0 (RV.lss rfl rfl) rfl (Z6 ?_)))
 (refine Z1 ?_; refine Z4 ?_)
 refine Z129 rfl (fun hlt => ?_) (fun hlt => ?_)
 ·have h3 : i < 21 := by omega
  obtain ⟨s, hs⟩ : ∃ s, slotL[i]? = some s := ⟨_, List.getElem?_eq_getElem (show i < slotL.length from h3)⟩
  obtain ⟨f, hfd⟩ : ∃ f, a0.fds[i]? = some f := ⟨_, List.getElem?_eq_getElem (show i < a0.fds.length from h3)⟩
  have hsl := a0.slotsAt he hv hs hfd
  (refine CW.skip ?_; refine Z1 ?_; refine Z4 ?_; refine CW.block ?_; refine Z4 ?_)
  refine Z2 (Z0 (Z3 rfl) rfl (Z0 (RV.indexVs i rfl rfl rfl rfl rfl rfl rfl (by omega) (slotC_part b1 i hs)) rfl (OW.alloc rfl rfl rfl (fun b4 => (Z0 (Z5 rfl) rfl (Z28 (Z109 rfl rfl rfl (Slk.cells_one b1 s) rfl rfl (Z134 b1 s)) (Z6 ?_)))))))
  (refine Z1 ?_; refine Z4 ?_)
  by_cases h4 : n ≤ i
  ·cases hzf : f.isZero with
   | true =>
    refine Z2 (Z0 (Z3 rfl) rfl (Z0 (Z30 rfl rfl rfl rfl) rfl (Z0 (Z29 rfl (List.Mem.tail _ Zh) rfl rfl rfl htl) rfl ?_)))
    refine Z12 Tryd.call53 rfl (Z137 w0 (fun _ => True) ((some b4, blk (s.cells b1) 96) :: (some b1, blk (a0.C A c).C 38) :: N) (fun _ _ => trivial) a0.tail n ht hn) rfl rfl ?_; rintro _ G1 ⟨hnb, rfl⟩; refine Z20 (M' := (some b4, blk (s.cells b1) 96) :: (some b1, blk (a0.C A c).C 38) :: N) (fun w m => m.appR) ?_
    refine Z0 (RV.geq_t rfl rfl (by omega)) rfl (Z0 (Z3 rfl) rfl ?_)
    refine Z24 rfl ?_; refine Z0 (Z22 rfl Zh rfl rfl rfl rfl (Z134 b1 s)) rfl ?_
    refine Z24 rfl ?_; refine Z12 Tryd.call54 rfl (hslot_zero_does w0 _ ((some b4, blk (s.cells b1) 96) :: (some b1, blk (a0.C A c).C 38) :: N) (fun w m => m.tail) b1 s f hsl) rfl rfl ?_; rintro _ B1 ⟨_, rfl, rfl⟩; refine Z20 (M' := (some b1, blk (a0.C A c).C 38) :: N) (fun w m => (m.appR).tail) ?_; rw [hzf]
    refine Z24 rfl ?_; refine Z0 (RV.not rfl) rfl ?_
    refine Z0 (Z105 rfl rfl rfl) rfl (Z6 (Z1 (Z136 rfl ?_)))
    (refine CW.skip ?_; refine Z27 ?_; refine Z1 ?_)
    refine Z2 (Z0 (RV.add rfl rfl (by omega)) rfl (Z0 (Z3 rfl) rfl (Z6 ?_)))
    refine Z114 (k' := 21 - (i + 1)) (by omega) ⟨i + 1, rfl, by omega, (fun j g h5 h6 h7 => by
     by_cases e : j = i
     ·subst e; rw [hfd] at h7; obtain rfl := Zi h7; exact hzf
     ·exact hz j g h5 (by omega) h7), rfl, rfl⟩ ⟨rfl, rfl, rfl, trivial⟩ (fun w m => m)
   | false =>
    rw [laterZero_not h4 hfd hzf, if_neg (by decide)] at hf
    obtain rfl := Zi hf
    refine Z2 (Z0 (Z3 rfl) rfl (Z0 (Z30 rfl rfl rfl rfl) rfl (Z0 (Z29 rfl (List.Mem.tail _ Zh) rfl rfl rfl htl) rfl ?_)))
    refine Z12 Tryd.call53 rfl (Z137 w0 (fun _ => True) ((some b4, blk (s.cells b1) 96) :: (some b1, blk (a0.C A c).C 38) :: N) (fun _ _ => trivial) a0.tail n ht hn) rfl rfl ?_; rintro _ G1 ⟨hnb, rfl⟩; refine Z20 (M' := (some b4, blk (s.cells b1) 96) :: (some b1, blk (a0.C A c).C 38) :: N) (fun w m => m.appR) ?_
    refine Z0 (RV.geq_t rfl rfl (by omega)) rfl (Z0 (Z3 rfl) rfl ?_)
    refine Z24 rfl ?_; refine Z0 (Z22 rfl Zh rfl rfl rfl rfl (Z134 b1 s)) rfl ?_
    refine Z24 rfl ?_; refine Z12 Tryd.call54 rfl (hslot_zero_does w0 _ ((some b4, blk (s.cells b1) 96) :: (some b1, blk (a0.C A c).C 38) :: N) (fun w m => m.tail) b1 s f hsl) rfl rfl ?_; rintro _ B1 ⟨_, rfl, rfl⟩; refine Z20 (M' := (some b1, blk (a0.C A c).C 38) :: N) (fun w m => (m.appR).tail) ?_; rw [hzf]
    refine Z24 rfl ?_; refine Z0 (RV.not rfl) rfl ?_
    refine Z0 (Z105 rfl rfl rfl) rfl (Z6 (Z1 (Z160 rfl (Z4 (Z2 (Z0 (Z5 rfl) rfl (Z6 ?_)))))))
    (repeat (first | refine Z4 ?_ | refine Z1 ?_ | refine CW.block ?_ | refine CW.ret ?_ | refine CW.skip ?_ | refine CW.exit ?_ | refine Z9 ?_ | refine Z8 ?_ | refine Z27 ?_ | refine Z15 ?_ | refine Z164 rfl ?_ | refine Z16 ?_))
    refine Z108 (rs := [.tmp 2]) [.int .i64 191] [] rfl ⟨rfl, trivial⟩ rfl ⟨by omega, rfl⟩ (fun w m => m.tail) _ (.inl rfl)
  ·skip
   refine Z2 (Z0 (Z3 rfl) rfl (Z0 (Z30 rfl rfl rfl rfl) rfl (Z0 (Z29 rfl (List.Mem.tail _ Zh) rfl rfl rfl htl) rfl ?_)))
   refine Z12 Tryd.call53 rfl (Z137 w0 (fun _ => True) ((some b4, blk (s.cells b1) 96) :: (some b1, blk (a0.C A c).C 38) :: N) (fun _ _ => trivial) a0.tail n ht hn) rfl rfl ?_; rintro _ G1 ⟨hnb, rfl⟩; refine Z20 (M' := (some b1, blk (a0.C A c).C 38) :: N) (fun w m => (m.appR).tail) ?_
   refine Z0 (RV.geq_f rfl rfl (by omega)) rfl (Z0 (Z3 rfl) rfl (Z23 rfl rfl rfl (Z23 rfl rfl rfl (Z23 rfl rfl rfl (Z0 (Z106 rfl rfl rfl) rfl (Z6 (Z1 (Z136 rfl ?_))))))))
   (refine CW.skip ?_; refine Z27 ?_; refine Z1 ?_)
   refine Z2 (Z0 (RV.add rfl rfl (by omega)) rfl (Z0 (Z3 rfl) rfl (Z6 ?_)))
   refine Z114 (k' := 21 - (i + 1)) (by omega) ⟨i + 1, rfl, by omega, (fun j g h5 h6 h7 => hz j g h5 (by omega) h7), rfl, rfl⟩ ⟨rfl, rfl, rfl, trivial⟩ (fun w m => m)
 ·rw [laterZero_all (fun j f h5 h6 => hz j f h5 (by have := (List.getElem?_eq_some_iff.1 h6).1; change j < 21 at this; omega) h6), if_pos rfl] at hf
  by_cases h5 : 32 < a0.extra.length
  ·rw [if_pos h5] at hf
   obtain rfl := Zi hf
   (repeat (first | refine Z4 ?_ | refine Z1 ?_ | refine CW.block ?_ | refine CW.ret ?_ | refine CW.skip ?_ | refine CW.exit ?_ | refine Z9 ?_ | refine Z8 ?_ | refine Z27 ?_ | refine Z15 ?_ | refine Z164 rfl ?_ | refine Z16 ?_))
   refine Z2 (Z0 (Z30 rfl rfl rfl rfl) rfl (Z0 (Z29 rfl Zh rfl rfl rfl hext) rfl (Z0 (RV.len rfl rfl) rfl (Z0 (RV.gtr_t rfl rfl (by omega)) rfl (Z6 (Z1 (Z160 rfl (Z4 (Z2 ?_)))))))))
   refine Z0 (Z5 rfl) rfl (Z6 ?_)
   (refine Z1 ?_; refine CW.ret ?_; refine Z8 ?_)
   refine Z108 (rs := [.tmp 2]) [.int .i64 192] [] rfl ⟨rfl, trivial⟩ rfl ⟨by omega, rfl⟩ (fun w m => m.tail) _ (.inl rfl)
  ·rw [if_neg h5] at hf
   obtain rfl := Zi hf
   (repeat (first | refine Z4 ?_ | refine Z1 ?_ | refine CW.block ?_ | refine CW.ret ?_ | refine CW.skip ?_ | refine CW.exit ?_ | refine Z9 ?_ | refine Z8 ?_ | refine Z27 ?_ | refine Z15 ?_ | refine Z164 rfl ?_ | refine Z16 ?_))
   refine Z2 (Z0 (Z30 rfl rfl rfl rfl) rfl (Z0 (Z29 rfl Zh rfl rfl rfl hext) rfl (Z0 (RV.len rfl rfl) rfl (Z0 (RV.gtr_f rfl rfl (by omega)) rfl (Z6 (Z1 (Z136 rfl ?_)))))))
   (refine CW.skip ?_; refine Z1 ?_; refine Z4 ?_)
   refine Z2 (Z0 (Z5 rfl) rfl (Z6 ?_))
   (refine Z1 ?_; refine CW.ret ?_)
   refine Z108 (rs := [.tmp 2]) [.int .i64 0] [] rfl ⟨rfl, trivial⟩ rfl ⟨by omega, rfl⟩ (fun w m => m.tail) _ (.inl rfl)
theorem header_Item_does (w0 : World) (Φ : Ctx) (N : List Ent) (hΦ : ∀ w, Mem w0 w N → Φ w) (cs0_ : List Value) (a0 : Hdr) (res0 : It) (res1 : Nat) (ha0 : HdrRd Φ cs0_ a0) (hf : header_Item a0 = some (res0, res1)) : DoesG Tryd.prog 22 [.agg cs0_.toArray] w0 [] N (fun v G => ∃ B : List Ent, ∃ cr0 : List Value, (ItRd (More w0 Φ B) cr0 res0) ∧ (res1 ≤ 9223372036854775807) ∧ v = .tuple #[.agg cr0.toArray, .int .i64 ((res1 : Nat) : Int)] ∧ G = B) := by
 unfold header_Item at hf
 obtain ⟨e, he, hf⟩ := Option.bind_eq_some_iff.1 hf
 have hlen := ha0.len
 refine DoesG.enter Tryd.func22 rfl Tryd.ntmps22 rfl (M := N) rfl (Z4 (Z2 (OW.boxA rfl rfl (fun b1 => (OW.alloc rfl rfl rfl (fun b2 => (Z0 (Z5 rfl) rfl (Z6 ?_))))))))
 (refine Z1 ?_; refine Z4 ?_; refine Z4 ?_)
 refine Z2 (Z0 (Z22 rfl (List.Mem.tail _ Zh) rfl rfl rfl rfl hlen) rfl ?_)
 refine Z12 Tryd.call20 rfl (header_Check_does w0 Φ ((some b2, blk [.bool false, nsl, nsl] 25) :: (some b1, blk cs0_ 38) :: N) (fun w m => hΦ w (m.drop 2)) cs0_ a0 e ha0 he) rfl rfl ?_; rintro _ G1 ⟨heb, rfl⟩; refine Z20 (M' := (some b2, blk [.bool false, nsl, nsl] 25) :: (some b1, blk cs0_ 38) :: N) (fun w m => m.appR) ?_
 refine Z0 (Z5 rfl) rfl (Z6 ?_)
 (refine Z1 ?_; refine Z4 ?_)
 by_cases h1 : e = 0
 case neg =>
  rw [if_neg h1] at hf
  obtain ⟨rfl, rfl⟩ := Prod.mk.inj (Zi hf)
  refine Z2 (Z0 (Z3 rfl) rfl (Z0 (RV.neq_t rfl rfl (by omega)) rfl (Z6 (Z1 (Z160 rfl (Z4 (Z2 (Z0 (Z112 (l := [.bool false, nsl, nsl]) (cs := [.bool false, nsl, nsl]) [] rfl rfl rfl rfl rfl rfl rfl) rfl (Z0 (Z3 rfl) rfl ?_)))))))))
  refine Z28 (Z109 rfl rfl rfl (by intro u hu; simp at hu; rcases hu with rfl | rfl | rfl <;> rfl) rfl rfl rfl) ?_
  refine Z0 (Z5 rfl) rfl (Z6 ?_)
  (refine Z1 ?_; refine CW.ret ?_; refine Z8 ?_)
  refine Z108 (rs := [.cell 2 25, .tmp 3]) [.agg #[.bool false, nsl, nsl], .int .i64 (e : Int)] ((some b2, blk [.bool false, nsl, nsl] 25) :: []) rfl ?_ rfl ?_ ?_ _ (.inl rfl)
  ·exact ⟨⟨_, _, _, _, rfl, Zh, rfl, rfl, rfl, rfl⟩, rfl, trivial⟩
  ·exact ⟨_, [.bool false, nsl, nsl], ItRd.mk (d := []) (its := []) View.nil View.nil Reps.nil, heb, rfl, rfl⟩
  ·exact fun w m => m.pick [0] 2 rfl rfl
 subst h1
 rw [if_pos rfl] at hf
 obtain ⟨n, hn, hf⟩ := Option.bind_eq_some_iff.1 hf
 obtain ⟨l, hl, hf⟩ := Option.bind_eq_some_iff.1 hf
 obtain ⟨x0, hx0, hf⟩ := Option.bind_eq_some_iff.1 hf
 obtain ⟨rfl, rfl⟩ := Prod.mk.inj (Zi hf)
 refine Z2 (Z0 (Z3 rfl) rfl (Z0 (RV.neq_f rfl rfl (by omega)) rfl (Z6 (Z1 (Z136 rfl ?_)))))
 obtain ⟨A, c, rfl, hv0, ht⟩ := ha0.opnC
 have htl : (a0.C A c).C[485]? = some (.int .i64 a0.tail) := Z122 (a0.C A c)
 have hv : View (More w0 Φ [(some b1, blk (a0.C A c).C 38)]) A a0.extra.length c 1 (u8s a0.extra) := hv0.mono (fun w q => q.1)
 have hh : Held w0 (More w0 Φ [(some b1, blk (a0.C A c).C 38)]) b1 (a0.C A c).C 38 := fun w q => q.2
 (refine CW.skip ?_; refine Z1 ?_; refine Z4 ?_)
 refine Z2 (Z0 (Z5 rfl) rfl (Z6 ?_))
 (refine Z1 ?_; refine Z4 ?_; refine Z4 ?_)
 refine Z2 ?_
 refine Z12 Tryd.call44 rfl (header_slots_does w0 ((some b2, blk [.bool false, nsl, nsl] 25) :: (some b1, blk (a0.C A c).C 38) :: N) b1) rfl rfl ?_; rintro _ B0 ⟨_, rfl, rfl⟩; refine Z20 (M' := (some b2, blk [.bool false, nsl, nsl] 25) :: (some b1, blk (a0.C A c).C 38) :: N) (fun w m => m.appR) ?_
 refine Z0 (Z3 rfl) rfl (Z6 ?_)
 (refine Z1 ?_; refine CW.block ?_)
 refine Z121 (fun k L' M' => ∃ (i : Nat) (Bx : List Ent) (xs : List It) (cs : List Value) (ob : Option Nat) (cap : Nat) (r : List Value), k = 21 - i ∧ i ≤ 21 ∧ itemsOf (a0.fds.take (min i n)) = some xs ∧ Reps (ItRd (More w0 Φ (Bx ++ [(some b1, blk (a0.C A c).C 38)]))) cs xs ∧ OwnS ob xs.length cap 3 cs r ∧
  L' = [(1, ptr (some b1) 0), (2, ptr (some b2) 0), (5, sl ob 0 xs.length cap), (14, .agg (slotC b1).toArray), (15, .int .i64 (i : Int))] ∧ M' = (ob, blk (cs ++ r) 25) :: (some b2, blk [.bool false, nsl, nsl] 25) :: ((Bx ++ [(some b1, blk (a0.C A c).C 38)]) ++ N)) (k0 := 21)
  ⟨0, [], [], [], none, 0, [], rfl, by omega, by simp [itemsOf], Reps.nil, OwnS.nil, rfl, rfl⟩ ⟨rfl, rfl, rfl, rfl, rfl, trivial⟩ (fun w m => m.nil_ent _) ?_
 rintro k L' M' ⟨i, Bx, xs, cs, ob, cap, r, rfl, hi, hxs, hcs, ho, rfl, rfl⟩
 have hxl := itemsOf_length hxs
 rw [List.length_take] at hxl
 have hfl := a0.fds_length
 refine Z4 (Z2 (Z0 (RV.lss rfl rfl) rfl (Z6 ?_)))
 (refine Z1 ?_; refine Z4 ?_)
 refine Z129 rfl (fun hlt => ?_) (fun hlt => ?_)
 ·have h3 : i < 21 := by omega
  obtain ⟨s, hs⟩ : ∃ s, slotL[i]? = some s := ⟨_, List.getElem?_eq_getElem (show i < slotL.length from h3)⟩
  obtain ⟨f, hfd⟩ : ∃ f, a0.fds[i]? = some f := ⟨_, List.getElem?_eq_getElem (show i < a0.fds.length from h3)⟩
  have hsl := (a0.slotsAt hh hv hs hfd).mono (Ψ := More w0 Φ (Bx ++ [(some b1, blk (a0.C A c).C 38)])) (fun w q => q.app)
  (refine CW.skip ?_; refine Z1 ?_; refine Z4 ?_; refine CW.block ?_; refine Z4 ?_)
  refine Z2 (Z0 (Z3 rfl) rfl (Z0 (RV.indexVs i rfl rfl rfl rfl rfl rfl rfl (by omega) (slotC_part b1 i hs)) rfl (OW.alloc rfl rfl rfl (fun b7 => (Z0 (Z5 rfl) rfl (Z28 (Z109 rfl rfl rfl (Slk.cells_one b1 s) rfl rfl (Z134 b1 s)) (Z6 ?_)))))))
  (refine Z1 ?_; refine Z4 ?_)
  by_cases h4 : i < n
  ·obtain ⟨x, hx, _⟩ := itemsOf_at hl (i := i) (f := f) (by rw [List.getElem?_take_of_lt h4]; exact hfd)
   have hxs2 : itemsOf (a0.fds.take (min (i + 1) n)) = some (xs ++ [x]) := by
    rw [show min (i + 1) n = i + 1 by omega, List.take_add_one, hfd]
    rw [show min i n = i by omega] at hxs
    exact itemsOf_snoc hxs hx
   refine Z2 (Z0 (Z3 rfl) rfl (Z0 (Z30 rfl rfl rfl rfl) rfl (Z0 (Z21 (a := ⟨b1, 0 + 485, none⟩) rfl rfl rfl (fun w m => ((hh w (More.app (More.of hΦ 3 m rfl))).cell (List.mem_cons_self ..) 485).trans htl)) rfl ?_)))
   refine Z12 Tryd.call53 rfl (Z137 w0 (fun _ => True) ((some b7, blk (s.cells b1) 96) :: (ob, blk (cs ++ r) 25) :: (some b2, blk [.bool false, nsl, nsl] 25) :: ((Bx ++ [(some b1, blk (a0.C A c).C 38)]) ++ N)) (fun _ _ => trivial) a0.tail n ht hn) rfl rfl ?_; rintro _ G1 ⟨hnb, rfl⟩; refine Z20 (M' := (some b7, blk (s.cells b1) 96) :: (ob, blk (cs ++ r) 25) :: (some b2, blk [.bool false, nsl, nsl] 25) :: ((Bx ++ [(some b1, blk (a0.C A c).C 38)]) ++ N)) (fun w m => m.appR) ?_
   refine Z0 (RV.lss_t rfl rfl (by omega)) rfl (Z6 (Z1 (Z160 rfl (Z2 (Z0 (Z3 rfl) rfl (Z0 (Z22 rfl Zh rfl rfl rfl rfl (Z134 b1 s)) rfl ?_))))))
   refine Z12 Tryd.call56 rfl (hslot_item_does w0 (More w0 Φ (Bx ++ [(some b1, blk (a0.C A c).C 38)])) ((some b7, blk (s.cells b1) 96) :: (ob, blk (cs ++ r) 25) :: (some b2, blk [.bool false, nsl, nsl] 25) :: ((Bx ++ [(some b1, blk (a0.C A c).C 38)]) ++ N)) (fun w m => More.of hΦ 3 m rfl) b1 s f x hsl hx) rfl rfl ?_; rintro _ B1 ⟨_, cr, hcr, rfl, rfl⟩; have hcl := ItRd.len _ _ hcr; refine Z20 (M' := (ob, blk (cs ++ r) 25) :: (some b2, blk [.bool false, nsl, nsl] 25) :: (((B1 ++ Bx) ++ [(some b1, blk (a0.C A c).C 38)]) ++ N)) (fun w m => by have m2 := m.sk0.tail.sk0.sk1; simpa only [List.append_assoc] using m2) ?_
   refine OW.ofN (NV.bsA rfl rfl (by intro x hx; simp at hx; subst hx; exact hcl) rfl rfl rfl (by decide) (by decide) rfl) rfl (fun bs => ?_); refine OW.cells cr (by simp) ?_; refine OW.rot1 ?_
   refine OW.appendOwn (s := 3) rfl rfl rfl rfl rfl rfl ho (fun w m => m.rd0 (r := []) (List.Mem.tail _ (by rw [List.append_nil]; exact List.Mem.head _)) (fun e => nomatch e)) hcl (ItRd.one _ _ hcr) (fun e => nomatch e) (by decide) (by decide) (by simp only [i25]; omega) rfl rfl ((xs ++ [x]).length) (cs ++ cr) (by simp) rfl (fun ob2 r2 c2 o2 => ?_)
   refine Z0 (Z5 rfl) rfl (Z6 ?_)
   (refine Z27 ?_; refine Z1 ?_)
   refine Z2 (Z0 (RV.add rfl rfl (by omega)) rfl (Z0 (Z3 rfl) rfl (Z6 ?_)))
   refine Z114 (k' := 21 - (i + 1)) (by omega) ⟨i + 1, B1 ++ Bx, xs ++ [x], cs ++ cr, ob2, c2, r2, rfl, by omega, hxs2, ?_, o2, rfl, rfl⟩ ⟨rfl, rfl, rfl, rfl, rfl, trivial⟩ (fun w m => m.pick [0, 2] 3 rfl rfl)
   exact (hcs.mono (ItRd.mono (fun w q => by rw [List.append_assoc] at q; exact q.app))).snoc (ItRd.mono (fun w q => by rw [List.append_assoc] at q; exact q.flat) _ _ hcr)
  ·have hxs2 : itemsOf (a0.fds.take (min (i + 1) n)) = some xs := by rw [show min (i + 1) n = min i n by omega]; exact hxs
   refine Z2 (Z0 (Z3 rfl) rfl (Z0 (Z30 rfl rfl rfl rfl) rfl (Z0 (Z21 (a := ⟨b1, 0 + 485, none⟩) rfl rfl rfl (fun w m => ((hh w (More.app (More.of hΦ 3 m rfl))).cell (List.mem_cons_self ..) 485).trans htl)) rfl ?_)))
   refine Z12 Tryd.call53 rfl (Z137 w0 (fun _ => True) ((some b7, blk (s.cells b1) 96) :: (ob, blk (cs ++ r) 25) :: (some b2, blk [.bool false, nsl, nsl] 25) :: ((Bx ++ [(some b1, blk (a0.C A c).C 38)]) ++ N)) (fun _ _ => trivial) a0.tail n ht hn) rfl rfl ?_; rintro _ G1 ⟨hnb, rfl⟩; refine Z20 (M' := (ob, blk (cs ++ r) 25) :: (some b2, blk [.bool false, nsl, nsl] 25) :: ((Bx ++ [(some b1, blk (a0.C A c).C 38)]) ++ N)) (fun w m => (m.appR).tail) ?_
   refine Z0 (RV.lss_f rfl rfl (by omega)) rfl (Z6 (Z1 (Z136 rfl ?_)))
   (refine CW.skip ?_; refine Z27 ?_; refine Z1 ?_)
   refine Z2 (Z0 (RV.add rfl rfl (by omega)) rfl (Z0 (Z3 rfl) rfl (Z6 ?_)))
   refine Z114 (k' := 21 - (i + 1)) (by omega) ⟨i + 1, Bx, xs, cs, ob, cap, r, rfl, by omega, hxs2, hcs, ho, rfl, rfl⟩ ⟨rfl, rfl, rfl, rfl, rfl, trivial⟩ (fun w m => m)
 ·have e1 : a0.fds.take (min i n) = a0.fds.take n := by
   by_cases h5 : n ≤ i
   ·rw [Nat.min_eq_right h5]
   ·rw [List.take_of_length_le (by omega), List.take_of_length_le (by omega)]
  rw [e1, hl] at hxs
  obtain rfl := Zi hxs
  have hvl := ho.view (te := 25) (w0 := w0) (Ψ := More w0 Φ ((ob, blk (cs ++ r) 25) :: (Bx ++ [(some b1, blk (a0.C A c).C 38)]))) (by decide) (fun w q => q.2.sublist (List.singleton_sublist.2 (List.mem_cons_self ..)))
  (refine CW.exit ?_; refine Z9 ?_; refine Z9 ?_; refine Z15 ?_; refine Z1 ?_; refine Z4 ?_)
  refine Z2 (Z0 (Z3 rfl) rfl ?_)
  refine Z12 Tryd.call57 rfl (rlp_List_does w0 (More w0 Φ ((ob, blk (cs ++ r) 25) :: (Bx ++ [(some b1, blk (a0.C A c).C 38)]))) ((ob, blk (cs ++ r) 25) :: (some b2, blk [.bool false, nsl, nsl] 25) :: ((Bx ++ [(some b1, blk (a0.C A c).C 38)]) ++ N)) (fun w m => by have q : Mem w0 w ((ob, blk (cs ++ r) 25) :: ((Bx ++ [(some b1, blk (a0.C A c).C 38)]) ++ N)) := m.pick [0] 2 rfl rfl; exact ⟨hΦ w q.tail.appR, (show Mem w0 w (((ob, blk (cs ++ r) 25) :: (Bx ++ [(some b1, blk (a0.C A c).C 38)])) ++ N) from q).appL⟩) _ cap cs l x0 hvl (hcs.mono (ItRd.mono (fun w q => ⟨q.1, q.2.tail⟩))) hx0) rfl rfl ?_; rintro _ B1 ⟨_, cr, hcr, rfl, rfl⟩; refine Z20 (M' := (some b2, blk [.bool false, nsl, nsl] 25) :: (ob, blk (cs ++ r) 25) :: (B1 ++ ((Bx ++ [(some b1, blk (a0.C A c).C 38)]) ++ N))) (fun w m => m.sk0.sk1.rot1) ?_
  refine Z28 (Z109 rfl rfl rfl (ItRd.one _ _ hcr) rfl rfl (ItRd.len _ _ hcr)) (Z0 (Z5 rfl) rfl (Z6 ?_))
  (refine Z1 ?_; refine CW.ret ?_)
  refine Z108 (rs := [.cell 2 25, .tmp 3]) [.agg cr.toArray, .int .i64 ((0 : Nat) : Int)] ((some b2, blk cr 25) :: (ob, blk (cs ++ r) 25) :: (B1 ++ (Bx ++ [(some b1, blk (a0.C A c).C 38)]))) rfl ?_ rfl ?_ ?_ _ (.inl rfl)
  ·exact ⟨⟨_, _, _, _, rfl, Zh, rfl, rfl, (by rw [ItRd.len _ _ hcr]; rfl), rfl⟩, rfl, trivial⟩
  ·exact ⟨_, _, ItRd.mono (fun w q => ⟨⟨q.1, q.2.tail.sublist (List.Sublist.cons_cons _ (List.sublist_append_right _ _))⟩, q.2.tail.tail.appL⟩) _ _ hcr, by omega, rfl, rfl⟩
  ·exact fun w m => by simpa only [List.append_assoc, List.cons_append] using m
theorem Z163 (w0 : World) (Φ : Ctx) (N : List Ent) (hΦ : ∀ w, Mem w0 w N → Φ w) (cs0_ : List Value) (a0 : Hdr) (res0 : List (BitVec 8)) (res1 : Nat) (ha0 : HdrRd Φ cs0_ a0) (hf : header_Encode a0 = some (res0, res1)) : DoesG Tryd.prog 24 [.agg cs0_.toArray] w0 [] N (fun v G => ∃ B : List Ent, ∃ or0 : Option Nat, ∃ kr0 : Nat, ∃ rr0 : List Value, (OwnS or0 res0.length kr0 1 (u8s res0) rr0) ∧ (res1 ≤ 9223372036854775807) ∧ v = .tuple #[sl or0 0 res0.length kr0, .int .i64 ((res1 : Nat) : Int)] ∧ G = (or0, blk ((u8s res0) ++ rr0) 5) :: B) := by
 unfold header_Encode at hf
 replace ha0 := HdrRd.mono (Ψ := More w0 Φ []) (fun w q => q.1) _ _ ha0
 have h6 := ha0
 obtain ⟨A1, c2, e5, v3, b4⟩ := HdrRd.opn ha0
 subst e5
 have m7 := v3.mx
 refine DoesG.enter Tryd.func24 rfl Tryd.ntmps24 rfl (M := (([] ++ N))) rfl (Z4 (Z2 (OW.boxA rfl rfl (fun b8 => (Z0 (Z5 rfl) rfl (Z0 (Z5 rfl) rfl (Z6 (Z1 (Z4 (Z2 (Z0 (Z22 rfl Zh rfl rfl rfl rfl (HdrC.C_length _)) rfl ?_)))))))))))
 obtain ⟨⟨x10, x11⟩, hx9, hf⟩ := Z102 hf
 try dsimp only at hf
 refine Z12 Tryd.call22 rfl (header_Item_does w0 (More w0 Φ []) ((some b8, blk (⟨a0.parent, a0.uncles, a0.coinbase, a0.state, a0.txRoot, a0.receiptRoot, a0.bloom, a0.difficulty, a0.number, a0.limit, a0.used, a0.time, .slice A1 a0.extra.length c2, a0.mix, a0.nonce, a0.tail, a0.baseFee, a0.withdrawals, a0.blobUsed, a0.blobExcess, a0.beacon, a0.requests⟩ : HdrC).C 38) :: ([] ++ N)) (fun w m => More.of hΦ 1 m rfl) (⟨a0.parent, a0.uncles, a0.coinbase, a0.state, a0.txRoot, a0.receiptRoot, a0.bloom, a0.difficulty, a0.number, a0.limit, a0.used, a0.time, .slice A1 a0.extra.length c2, a0.mix, a0.nonce, a0.tail, a0.baseFee, a0.withdrawals, a0.blobUsed, a0.blobExcess, a0.beacon, a0.requests⟩ : HdrC).C a0 x10 x11 h6 hx9) rfl rfl ?_
 rintro L16 M17 ⟨B12, cs13, h14, b15, e18, e19⟩
 rw [e18, e19]
 clear e18 e19 L16 M17
 refine Z20 (M' := ((some b8, blk (⟨a0.parent, a0.uncles, a0.coinbase, a0.state, a0.txRoot, a0.receiptRoot, a0.bloom, a0.difficulty, a0.number, a0.limit, a0.used, a0.time, .slice A1 a0.extra.length c2, a0.mix, a0.nonce, a0.tail, a0.baseFee, a0.withdrawals, a0.blobUsed, a0.blobExcess, a0.beacon, a0.requests⟩ : HdrC).C 38) :: ((B12 ++ []) ++ N))) (fun w m => by have h := Z110 (A := B12) m 0 1 rfl rfl; exact h) ?_
 have gq1 : ∀ w, More w0 Φ (B12 ++ []) w → More w0 Φ [] w := fun w q => More.mono (fun w m => (m).appR) q
 replace h6 := HdrRd.mono gq1 _ _ h6
 replace v3 := v3.mono gq1
 replace h14 := ItRd.mono (Ψ := (More w0 Φ (B12 ++ []))) (fun w q => More.flat q) _ _ h14
 have h29 := h14
 obtain ⟨A20, c21, A23, c24, cs26, e28, v22, v25, h27⟩ := ItRd.opn h14
 subst e28
 have m30 := v22.mx
 have m31 := v25.mx
 have m32 := v22.mx
 have m33 := v25.mx
 refine Z0 (Z3 rfl) rfl (Z0 (Z17 rfl rfl) rfl (Z7 (.agg [.bool (x10.list), .slice A20 x10.data.length c21, .slice A23 x10.items.length c24].toArray) (rfl) (Z0 (Z17 rfl rfl) rfl (Z7 (.int .i64 ((x11 : Nat) : Int)) (rfl) (OW.alloc (l := [.bool false, .slice none 0 0, .slice none 0 0]) rfl rfl rfl (fun b34 => ?_))))))
 refine Z28 (Z109 rfl rfl rfl (by intro u hu; simp at hu; rcases hu with rfl | rfl | rfl <;> rfl) rfl rfl rfl) ?_
 refine Z0 (Z5 rfl) rfl (Z6 (Z1 (Z4 (Z4 (Z2 (Z0 (Z3 rfl) rfl (Z0 (RV.neq rfl rfl) rfl (Z7 (.bool (!decide (x11 = 0))) (congrArg (fun b => Value.bool (!b)) (decide_eq_decide.2 (by omega))) (Z6 (Z1 ?_))))))))))
 by_cases h35 : x11 = 0
 ·replace hf := if_t hf h35
  refine Z14 rfl (congrArg (fun b => !b) (decide_eq_true h35)) (CW.skip (Z1 (Z4 (Z2 (Z0 (Z22 rfl Zh rfl rfl rfl rfl rfl) rfl ?_)))))
  obtain ⟨⟨x37, x38⟩, hx36, hf⟩ := Z102 hf
  try dsimp only at hf
  refine Z12 Tryd.call29 rfl (rlp_Encode_does w0 (More w0 Φ (B12 ++ [])) ((some b34, blk [.bool (x10.list), .slice A20 x10.data.length c21, .slice A23 x10.items.length c24] 25) :: (some b8, blk (⟨a0.parent, a0.uncles, a0.coinbase, a0.state, a0.txRoot, a0.receiptRoot, a0.bloom, a0.difficulty, a0.number, a0.limit, a0.used, a0.time, .slice A1 a0.extra.length c2, a0.mix, a0.nonce, a0.tail, a0.baseFee, a0.withdrawals, a0.blobUsed, a0.blobExcess, a0.beacon, a0.requests⟩ : HdrC).C 38) :: ((B12 ++ []) ++ N)) (fun w m => More.of hΦ 2 m rfl) [.bool (x10.list), .slice A20 x10.data.length c21, .slice A23 x10.items.length c24] x10 x37 x38 h29 hx36) rfl rfl ?_
  rintro L45 M46 ⟨B39, ob40, c41, r42, o43, b44, e47, e48⟩
  rw [e47, e48]
  clear e47 e48 L45 M46
  refine Z20 (M' := ((ob40, blk ((u8s x37) ++ r42) 5) :: (some b34, blk [.bool (x10.list), .slice A20 x10.data.length c21, .slice A23 x10.items.length c24] 25) :: (some b8, blk (⟨a0.parent, a0.uncles, a0.coinbase, a0.state, a0.txRoot, a0.receiptRoot, a0.bloom, a0.difficulty, a0.number, a0.limit, a0.used, a0.time, .slice A1 a0.extra.length c2, a0.mix, a0.nonce, a0.tail, a0.baseFee, a0.withdrawals, a0.blobUsed, a0.blobExcess, a0.beacon, a0.requests⟩ : HdrC).C 38) :: ((B39 ++ (B12 ++ [])) ++ N))) (fun w m => by have h := Z110 (A := B39) m 1 2 rfl rfl; exact h) ?_
  have gq2 : ∀ w, More w0 Φ (B39 ++ (B12 ++ [])) w → More w0 Φ (B12 ++ []) w := fun w q => More.mono (fun w m => (m).appR) q
  replace h6 := HdrRd.mono gq2 _ _ h6
  replace v3 := v3.mono gq2
  replace h29 := ItRd.mono gq2 _ _ h29
  replace v22 := v22.mono gq2
  replace v25 := v25.mono gq2
  replace h27 := h27.mono (ItRd.mono gq2)
  have m49 := o43.mx
  refine Z0 (Z17 rfl rfl) rfl (Z7 (sl ob40 0 x37.length c41) (rfl) (Z0 (Z17 rfl rfl) rfl (Z7 (.int .i64 ((x38 : Nat) : Int)) (rfl) (Z0 (Z5 rfl) rfl (Z0 (Z5 rfl) rfl (Z6 (Z1 (CW.ret ?_))))))))
  have er0 := Zi hf
  obtain ⟨e0, er1⟩ := Prod.mk.inj er0
  clear er0
  subst e0
  subst er1
  refine Z108 (rs := [.tmp 2, .tmp 3]) ([sl ob40 0 x37.length c41, .int .i64 ((x38 : Nat) : Int)]) ((ob40, blk ((u8s x37) ++ r42) 5) :: (B39 ++ (B12 ++ []))) rfl ?_ rfl ?_ ?_ _ (.inl rfl)
  ·exact ⟨rfl, rfl, trivial⟩
  ·exact ⟨(B39 ++ (B12 ++ [])), ob40, c41, r42, o43, (by omega), rfl, rfl⟩
  ·exact (fun w m => m.pick [0] 3 rfl rfl)
 ·replace hf := if_f hf h35
  refine Z13 rfl (congrArg (fun b => !b) (decide_eq_false h35)) (Z4 (Z2 (Z0 (Z3 rfl) rfl (Z0 (Z5 rfl) rfl (Z0 (Z5 rfl) rfl (Z6 (Z1 (CW.ret (Z8 (QW.mem (M' := ((none, blk ((u8s ([] : List (BitVec 8))) ++ []) 5) :: (some b34, blk [.bool (x10.list), .slice A20 x10.data.length c21, .slice A23 x10.items.length c24] 25) :: (some b8, blk (⟨a0.parent, a0.uncles, a0.coinbase, a0.state, a0.txRoot, a0.receiptRoot, a0.bloom, a0.difficulty, a0.number, a0.limit, a0.used, a0.time, .slice A1 a0.extra.length c2, a0.mix, a0.nonce, a0.tail, a0.baseFee, a0.withdrawals, a0.blobUsed, a0.blobExcess, a0.beacon, a0.requests⟩ : HdrC).C 38) :: ((B12 ++ []) ++ N))) (fun w m => m.nil_ent _) ?_))))))))))
  have er0 := Zi hf
  obtain ⟨e0, er1⟩ := Prod.mk.inj er0
  clear er0
  subst e0
  subst er1
  refine Z108 (rs := [.tmp 2, .tmp 3]) ([sl none 0 ([] : List (BitVec 8)).length 0, .int .i64 ((x11 : Nat) : Int)]) ((none, blk ((u8s ([] : List (BitVec 8))) ++ []) 5) :: (B12 ++ [])) rfl ?_ rfl ?_ ?_ _ (.inl rfl)
  ·exact ⟨rfl, rfl, trivial⟩
  ·exact ⟨(B12 ++ []), none, 0, [], OwnS.nil, (by omega), rfl, rfl⟩
  ·exact (fun w m => m.pick [0] 3 rfl rfl)
theorem header_Hash_does (w0 : World) (Φ : Ctx) (N : List Ent) (hΦ : ∀ w, Mem w0 w N → Φ w) (cs0_ : List Value) (a0 : Hdr) (res0 : Vector (BitVec 8) 32) (res1 : Nat) (ha0 : HdrRd Φ cs0_ a0) (hg1 : View Φ (some ⟨1, 0, none⟩) 2 2 1 (u8s firstL)) (hf : header_Hash a0 = some (res0, res1)) : DoesG Tryd.prog 26 [.agg cs0_.toArray] w0 [] N (fun v G => (res1 ≤ 9223372036854775807) ∧ v = .tuple #[.agg (u8s res0.toList).toArray, .int .i64 ((res1 : Nat) : Int)]) := by
 unfold header_Hash at hf
 replace hg1 := hg1.mono (Ψ := More w0 Φ []) (fun w q => q.1)
 replace ha0 := HdrRd.mono (Ψ := More w0 Φ []) (fun w q => q.1) _ _ ha0
 have h6 := ha0
 obtain ⟨A1, c2, e5, v3, b4⟩ := HdrRd.opn ha0
 subst e5
 have m7 := v3.mx
 refine DoesG.enter Tryd.func26 rfl Tryd.ntmps26 rfl (M := (([] ++ N))) rfl (Z4 (Z2 (OW.boxA rfl rfl (fun b8 => (OW.alloc (l := (u8s (Vector.replicate 32 0#8).toList)) rfl (by rw [Vector.toList_replicate, ← Z133]; rfl) rfl (fun b9 => (Z0 (Z5 rfl) rfl (Z6 (Z1 (Z4 (Z2 (Z0 (Z22 rfl (List.Mem.tail _ Zh) rfl rfl rfl rfl (HdrC.C_length _)) rfl ?_))))))))))))
 obtain ⟨⟨x11, x12⟩, hx10, hf⟩ := Z102 hf
 try dsimp only at hf
 refine Z12 Tryd.call24 rfl (Z163 w0 (More w0 Φ []) ((some b9, blk (u8s (Vector.replicate 32 0#8).toList) 28) :: (some b8, blk (⟨a0.parent, a0.uncles, a0.coinbase, a0.state, a0.txRoot, a0.receiptRoot, a0.bloom, a0.difficulty, a0.number, a0.limit, a0.used, a0.time, .slice A1 a0.extra.length c2, a0.mix, a0.nonce, a0.tail, a0.baseFee, a0.withdrawals, a0.blobUsed, a0.blobExcess, a0.beacon, a0.requests⟩ : HdrC).C 38) :: ([] ++ N)) (fun w m => More.of hΦ 2 m rfl) (⟨a0.parent, a0.uncles, a0.coinbase, a0.state, a0.txRoot, a0.receiptRoot, a0.bloom, a0.difficulty, a0.number, a0.limit, a0.used, a0.time, .slice A1 a0.extra.length c2, a0.mix, a0.nonce, a0.tail, a0.baseFee, a0.withdrawals, a0.blobUsed, a0.blobExcess, a0.beacon, a0.requests⟩ : HdrC).C a0 x11 x12 h6 hx10) rfl rfl ?_
 rintro L19 M20 ⟨B13, ob14, c15, r16, o17, b18, e21, e22⟩
 rw [e21, e22]
 clear e21 e22 L19 M20
 refine Z20 (M' := ((ob14, blk ((u8s x11) ++ r16) 5) :: (some b9, blk (u8s (Vector.replicate 32 0#8).toList) 28) :: (some b8, blk (⟨a0.parent, a0.uncles, a0.coinbase, a0.state, a0.txRoot, a0.receiptRoot, a0.bloom, a0.difficulty, a0.number, a0.limit, a0.used, a0.time, .slice A1 a0.extra.length c2, a0.mix, a0.nonce, a0.tail, a0.baseFee, a0.withdrawals, a0.blobUsed, a0.blobExcess, a0.beacon, a0.requests⟩ : HdrC).C 38) :: ((B13 ++ []) ++ N))) (fun w m => by have h := Z110 (A := B13) m 1 2 rfl rfl; exact h) ?_
 have gq1 : ∀ w, More w0 Φ (B13 ++ []) w → More w0 Φ [] w := fun w q => More.mono (fun w m => (m).appR) q
 replace h6 := HdrRd.mono gq1 _ _ h6
 replace v3 := v3.mono gq1
 replace hg1 := hg1.mono gq1
 have m23 := o17.mx
 refine Z0 (Z3 rfl) rfl (Z0 (Z17 rfl rfl) rfl (Z7 (sl ob14 0 x11.length c15) (rfl) (Z0 (Z17 rfl rfl) rfl (Z7 (.int .i64 ((x12 : Nat) : Int)) (rfl) (Z0 (Z5 rfl) rfl (Z0 (Z5 rfl) rfl (Z6 (Z1 (Z4 (Z4 (Z2 ?_)))))))))))
 refine Z0 (Z3 rfl) rfl (Z0 (RV.neq rfl rfl) rfl (Z7 (.bool (!decide (x12 = 0))) (congrArg (fun b => Value.bool (!b)) (decide_eq_decide.2 (by omega))) (Z6 (Z1 ?_))))
 by_cases h24 : x12 = 0
 ·replace hf := if_t hf h24
  refine Z14 rfl (congrArg (fun b => !b) (decide_eq_true h24)) (CW.skip (Z1 (Z4 (Z2 (Z0 (Z3 rfl) rfl (Z20 (M' := (some b9, blk (u8s (Vector.replicate 32 0#8).toList) 28) :: (some b8, blk (⟨a0.parent, a0.uncles, a0.coinbase, a0.state, a0.txRoot, a0.receiptRoot, a0.bloom, a0.difficulty, a0.number, a0.limit, a0.used, a0.time, .slice A1 a0.extra.length c2, a0.mix, a0.nonce, a0.tail, a0.baseFee, a0.withdrawals, a0.blobUsed, a0.blobExcess, a0.beacon, a0.requests⟩ : HdrC).C 38) :: (((ob14, blk ((u8s x11) ++ r16) 5) :: (B13 ++ [])) ++ N)) (fun w m => m.pick [1, 2, 0] 3 rfl rfl) ?_))))))
  have gq2 : ∀ w, More w0 Φ ((ob14, blk ((u8s x11) ++ r16) 5) :: (B13 ++ [])) w → More w0 Φ (B13 ++ []) w := fun w q => More.mono (fun w m => (m).tail) q
  replace h6 := HdrRd.mono gq2 _ _ h6
  replace v3 := v3.mono gq2
  replace hg1 := hg1.mono gq2
  have v27 : View (More w0 Φ ((ob14, blk ((u8s x11) ++ r16) 5) :: (B13 ++ []))) ((ob14).map fun k => ⟨k, 0, none⟩) x11.length c15 1 (u8s x11) := o17.view (by decide) (fun w q => q.2.sublist (List.singleton_sublist.2 (List.mem_cons_self ..)))
  refine OW.ofN (NV.bs1 rfl rfl rfl rfl rfl rfl) rfl (fun b25 => ?_)
  have h29 : Reps (BsRd (More w0 Φ ((ob14, blk ((u8s x11) ++ r16) 5) :: (B13 ++ [])))) (([.slice ((ob14).map fun k => ⟨k, 0, none⟩) x11.length c15] : List Value)) [x11] := Reps.one (BsRd.mk v27)
  refine Z20 (M' := (((some b25), blk ((([.slice ((ob14).map fun k => ⟨k, 0, none⟩) x11.length c15] : List Value)) ++ []) 22) :: (some b9, blk (u8s (Vector.replicate 32 0#8).toList) 28) :: (some b8, blk (⟨a0.parent, a0.uncles, a0.coinbase, a0.state, a0.txRoot, a0.receiptRoot, a0.bloom, a0.difficulty, a0.number, a0.limit, a0.used, a0.time, .slice A1 a0.extra.length c2, a0.mix, a0.nonce, a0.tail, a0.baseFee, a0.withdrawals, a0.blobUsed, a0.blobExcess, a0.beacon, a0.requests⟩ : HdrC).C 38) :: (((ob14, blk ((u8s x11) ++ r16) 5) :: (B13 ++ [])) ++ N))) (fun w m => m) ?_
  have o26 : OwnS (some b25) ([x11] : List (List (BitVec 8))).length 1 1 (([.slice ((ob14).map fun k => ⟨k, 0, none⟩) x11.length c15] : List Value)) [] := ⟨by simp [BsRd], by simp [BsRd], (fun h => nomatch h), by simp⟩
  have mx_o26 := o26.mx
  refine Z7 (sl (some b25) 0 ([x11] : List (List (BitVec 8))).length 1) (rfl) (Z20 (M' := (some b9, blk (u8s (Vector.replicate 32 0#8).toList) 28) :: (some b8, blk (⟨a0.parent, a0.uncles, a0.coinbase, a0.state, a0.txRoot, a0.receiptRoot, a0.bloom, a0.difficulty, a0.number, a0.limit, a0.used, a0.time, .slice A1 a0.extra.length c2, a0.mix, a0.nonce, a0.tail, a0.baseFee, a0.withdrawals, a0.blobUsed, a0.blobExcess, a0.beacon, a0.requests⟩ : HdrC).C 38) :: ((((some b25), blk ((([.slice ((ob14).map fun k => ⟨k, 0, none⟩) x11.length c15] : List Value)) ++ []) 22) :: ((ob14, blk ((u8s x11) ++ r16) 5) :: (B13 ++ []))) ++ N)) (fun w m => m.pick [1, 2, 0] 3 rfl rfl) ?_)
  have gq3 : ∀ w, More w0 Φ (((some b25), blk ((([.slice ((ob14).map fun k => ⟨k, 0, none⟩) x11.length c15] : List Value)) ++ []) 22) :: ((ob14, blk ((u8s x11) ++ r16) 5) :: (B13 ++ []))) w → More w0 Φ ((ob14, blk ((u8s x11) ++ r16) 5) :: (B13 ++ [])) w := fun w q => More.mono (fun w m => (m).tail) q
  replace h6 := HdrRd.mono gq3 _ _ h6
  replace v3 := v3.mono gq3
  replace v27 := v27.mono gq3
  replace h29 := h29.mono (BsRd.mono gq3)
  replace hg1 := hg1.mono gq3
  have v30 : View (More w0 Φ (((some b25), blk ((([.slice ((ob14).map fun k => ⟨k, 0, none⟩) x11.length c15] : List Value)) ++ []) 22) :: ((ob14, blk ((u8s x11) ++ r16) 5) :: (B13 ++ [])))) (((some b25)).map fun k => ⟨k, 0, none⟩) ([x11] : List (List (BitVec 8))).length 1 1 (([.slice ((ob14).map fun k => ⟨k, 0, none⟩) x11.length c15] : List Value)) := o26.view (by decide) (fun w q => q.2.sublist (List.singleton_sublist.2 (List.mem_cons_self ..)))
  obtain ⟨x32, hx31, hf⟩ := Z102 hf
  refine Z12 Tryd.call31 rfl (keccak_Sum_does w0 (More w0 Φ (((some b25), blk ((([.slice ((ob14).map fun k => ⟨k, 0, none⟩) x11.length c15] : List Value)) ++ []) 22) :: ((ob14, blk ((u8s x11) ++ r16) 5) :: (B13 ++ [])))) ((some b9, blk (u8s (Vector.replicate 32 0#8).toList) 28) :: (some b8, blk (⟨a0.parent, a0.uncles, a0.coinbase, a0.state, a0.txRoot, a0.receiptRoot, a0.bloom, a0.difficulty, a0.number, a0.limit, a0.used, a0.time, .slice A1 a0.extra.length c2, a0.mix, a0.nonce, a0.tail, a0.baseFee, a0.withdrawals, a0.blobUsed, a0.blobExcess, a0.beacon, a0.requests⟩ : HdrC).C 38) :: ((((some b25), blk ((([.slice ((ob14).map fun k => ⟨k, 0, none⟩) x11.length c15] : List Value)) ++ []) 22) :: ((ob14, blk ((u8s x11) ++ r16) 5) :: (B13 ++ []))) ++ N)) (fun w m => More.of hΦ 2 m rfl) (((some b25)).map fun k => ⟨k, 0, none⟩) 1 (([.slice ((ob14).map fun k => ⟨k, 0, none⟩) x11.length c15] : List Value)) ([x11] : List (List (BitVec 8))) x32 v30 h29 hg1 hx31) rfl rfl ?_
  rintro _ G33 rfl
  refine Z20 (M' := ((some b9, blk (u8s (Vector.replicate 32 0#8).toList) 28) :: (some b8, blk (⟨a0.parent, a0.uncles, a0.coinbase, a0.state, a0.txRoot, a0.receiptRoot, a0.bloom, a0.difficulty, a0.number, a0.limit, a0.used, a0.time, .slice A1 a0.extra.length c2, a0.mix, a0.nonce, a0.tail, a0.baseFee, a0.withdrawals, a0.blobUsed, a0.blobExcess, a0.beacon, a0.requests⟩ : HdrC).C 38) :: ((((some b25), blk ((([.slice ((ob14).map fun k => ⟨k, 0, none⟩) x11.length c15] : List Value)) ++ []) 22) :: ((ob14, blk ((u8s x11) ++ r16) 5) :: (B13 ++ []))) ++ N))) (fun w m => m.appR) (Z28 (Z109 rfl rfl rfl (Z119 _) rfl ((Z100 _).trans Zv) ((Z100 _).trans Zv)) (Z0 (Z5 rfl) rfl (Z6 (Z1 (CW.ret ?_)))))
  have er0 := Zi hf
  obtain ⟨e0, er1⟩ := Prod.mk.inj er0
  clear er0
  subst e0
  subst er1
  refine Z108 (rs := [.cell 2 28, .tmp 3]) ([.agg (u8s x32.toList).toArray, .int .i64 (0 : Int)]) ((some b9, blk (u8s x32.toList) 28) :: (some b8, blk (⟨a0.parent, a0.uncles, a0.coinbase, a0.state, a0.txRoot, a0.receiptRoot, a0.bloom, a0.difficulty, a0.number, a0.limit, a0.used, a0.time, .slice A1 a0.extra.length c2, a0.mix, a0.nonce, a0.tail, a0.baseFee, a0.withdrawals, a0.blobUsed, a0.blobExcess, a0.beacon, a0.requests⟩ : HdrC).C 38) :: (((some b25), blk ((([.slice ((ob14).map fun k => ⟨k, 0, none⟩) x11.length c15] : List Value)) ++ []) 22) :: ((ob14, blk ((u8s x11) ++ r16) 5) :: (B13 ++ [])))) rfl ?_ rfl ?_ ?_ _ (.inl rfl)
  ·exact ⟨⟨_, _, _, _, rfl, Zh, rfl, rfl, (congrArg some ((Z100 _).trans Zv).symm), rfl⟩, rfl, trivial⟩
  ·exact ⟨(by omega), rfl⟩
  ·exact (fun w m => m)
 ·replace hf := if_f hf h24
  refine Z13 rfl (congrArg (fun b => !b) (decide_eq_false h24)) (Z4 (Z2 (Z0 (Z180 (l := (u8s (Vector.replicate 32 0#8).toList)) rfl rfl rfl (by rw [Vector.toList_replicate, ← Z133]; rfl)) rfl (Z0 (Z3 rfl) rfl (OW.rot1 (Z28 (Z109 rfl rfl rfl (Z119 _) rfl ((Z100 _).trans Zv) ((Z100 _).trans Zv)) (Z0 (Z5 rfl) rfl (Z6 (Z1 (CW.ret (Z8 ?_)))))))))))
  have er0 := Zi hf
  obtain ⟨e0, er1⟩ := Prod.mk.inj er0
  clear er0
  subst e0
  subst er1
  refine Z108 (rs := [.cell 2 28, .tmp 3]) ([.agg (u8s (Vector.replicate 32 0#8).toList).toArray, .int .i64 ((x12 : Nat) : Int)]) ((some b9, blk (u8s (Vector.replicate 32 0#8).toList) 28) :: (ob14, blk ((u8s x11) ++ r16) 5) :: (some b8, blk (⟨a0.parent, a0.uncles, a0.coinbase, a0.state, a0.txRoot, a0.receiptRoot, a0.bloom, a0.difficulty, a0.number, a0.limit, a0.used, a0.time, .slice A1 a0.extra.length c2, a0.mix, a0.nonce, a0.tail, a0.baseFee, a0.withdrawals, a0.blobUsed, a0.blobExcess, a0.beacon, a0.requests⟩ : HdrC).C 38) :: (B13 ++ [])) rfl ?_ rfl ?_ ?_ _ (.inl rfl)
  ·exact ⟨⟨_, _, _, _, rfl, Zh, rfl, rfl, (congrArg some ((Z100 _).trans Zv).symm), rfl⟩, rfl, trivial⟩
  ·exact ⟨(by omega), rfl⟩
  ·exact (fun w m => m)
theorem waybilllaw19_twin_raw (w0 : World) (Φ : Ctx) (N : List Ent) (hΦ : ∀ w, Mem w0 w N → Φ w) (cs0_ : List Value) (a0 res0 : Hdr) (ha0 : HdrRd Φ cs0_ a0) (hf : waybilllaw19_twin a0 = some res0) : DoesG Tryd.prog 19 [.agg cs0_.toArray] w0 [] N (fun v G => ∃ (b : Nat) (B : List Ent), res0 = a0 ∧ a0.extra.length + 9 ≤ 140737488355328 ∧ (-9223372036854775808 ≤ a0.tail ∧ a0.tail ≤ 9223372036854775807) ∧ v = .agg ((a0.C (some ⟨b, 0, none⟩) (a0.extra.length + 9)).C).toArray ∧ G = (some b, blk (u8s (a0.extra ++ List.replicate 9 165#8)) 5) :: B) := by
 unfold waybilllaw19_twin at hf
 obtain ⟨hb, hf⟩ := Z115 hf
 cases hf
 obtain ⟨A, c, rfl, hv0, ht⟩ := ha0.opnC
 have hext : (a0.C A c).C[444]? = some (.slice A a0.extra.length c) := Z138 (a0.C A c)
 refine DoesG.enter Tryd.func19 rfl Tryd.ntmps19 rfl (M := N) rfl (Z4 (Z2 (OW.boxA rfl rfl (fun b1 => (OW.alloc (l := (Hdr.zero.C none 0).C) rfl zhdr_cells rfl (fun b2 => (Z6 ?_)))))))
 (refine Z1 ?_; refine Z4 ?_)
 refine Z2 (Z0 (Z30 rfl rfl rfl rfl) rfl (Z0 (Z29 rfl (List.Mem.tail _ Zh) rfl rfl rfl hext) rfl (Z0 (RV.len rfl rfl) rfl (Z0 (RV.add rfl rfl (by omega)) rfl (OW.make (a0.extra.length + 9) (a0.extra.length + 9) rfl rfl rfl rfl rfl rfl rfl rfl (by omega) (by simp only [i5]; omega) (by omega) rfl (fun b9 => (Z0 (Z5 rfl) rfl (Z6 ?_))))))))
 (refine Z1 ?_; refine Z4 ?_)
 refine Z2 (Z0 (Z3 rfl) rfl (Z0 (Z30 rfl rfl rfl rfl) rfl (Z0 (Z29 rfl (List.Mem.tail _ (List.Mem.tail _ Zh)) rfl rfl rfl hext) rfl (OW.copy (ob := some b9) (off := 0) (l := List.replicate (a0.extra.length + 9) (Value.int .u8 0)) (te := 5) rfl rfl rfl rfl (fun h => nomatch h) (by rw [List.length_replicate]; omega) (fun w m => hv0.rd w (hΦ w (m.drop 3))) (Z100 _) (Z119 _) (hv0.zero (by decide)) rfl (Z6 ?_)))))
 (refine Z1 ?_; refine Z4 ?_; refine Z4 ?_)
 refine CW.mem (M' := (some b9, blk (u8s (mkd 9 165#8 a0.extra a0.extra.length)) 5) :: (some b2, blk (Hdr.zero.C none 0).C 38) :: (some b1, blk (a0.C A c).C 38) :: N) (fun w m => by rw [mkd_copy (n := 9) (m := 165#8) (by omega)] at m; exact m) ?_
 refine Z2 (Z0 (Z30 rfl rfl rfl rfl) rfl (Z0 (Z29 rfl (List.Mem.tail _ (List.Mem.tail _ Zh)) rfl rfl rfl hext) rfl (Z0 (RV.len rfl rfl) rfl (Z0 (Z5 rfl) rfl (Z6 ?_)))))
 (refine Z1 ?_; refine CW.block ?_)
 refine CW.loop (σ := Nat) (fun i => a0.extra.length ≤ i ∧ i ≤ a0.extra.length + 9) (fun i => [(1, ptr (some b1) 0), (2, ptr (some b2) 0), (3, sl (some b9) 0 (a0.extra.length + 9) (a0.extra.length + 9)), (4, .int .i64 (i : Int))]) (fun i => (some b9, blk (u8s (mkd 9 165#8 a0.extra i)) 5) :: (some b2, blk (Hdr.zero.C none 0).C 38) :: (some b1, blk (a0.C A c).C 38) :: N) (fun i => a0.extra.length + 9 - i) a0.extra.length ⟨by omega, by omega⟩ ⟨rfl, rfl, rfl, rfl, trivial⟩ (fun _ m => m) ?_
 rintro i ⟨h1, h2⟩
 have hlen := mkd_length (n := 9) (m := 165#8) h1 h2
 (refine Z4 ?_; refine Z4 ?_)
 refine Z2 (Z0 (Z3 rfl) rfl (Z0 (Z3 rfl) rfl (Z0 (RV.len rfl rfl) rfl (Z0 (RV.lss rfl rfl) rfl (Z6 (Z1 ?_))))))
 refine Z129 rfl (fun hlt => ?_) (fun hlt => ?_)
 ·have hi : i < a0.extra.length + 9 := by omega
  have hl : 0 + i < (u8s (mkd 9 165#8 a0.extra i)).length := by rw [Z100]; omega
  (refine CW.skip ?_; refine Z1 ?_; refine Z4 ?_; refine CW.block ?_)
  refine Z2 (Z0 (Z3 rfl) rfl (Z0 (Z3 rfl) rfl (Z0 (RV.idx_o _ rfl rfl rfl rfl rfl rfl (by omega)) rfl (Z28 (SV.store rfl rfl rfl rfl rfl (by assumption)) (Z6 ?_)))))
  (refine Z27 ?_; refine Z1 ?_)
  refine Z2 (Z0 (Z3 rfl) rfl (Z0 (RV.add rfl rfl (by omega)) rfl (Z0 (Z5 rfl) rfl (Z6 (Z166 (i + 1) ⟨by omega, by omega⟩ (by omega) ⟨rfl, rfl, rfl, rfl, trivial⟩ (fun _ m => ?_))))))
  rw [Nat.zero_add] at m
  rw [← mkd_set h1 hi, ← u8s_set']
  exact m
 ·have hi : i = a0.extra.length + 9 := by omega
  subst hi
  rw [mkd_end]
  (refine CW.exit ?_; refine Z9 ?_; refine Z9 ?_; refine Z15 ?_; refine Z1 ?_; refine Z4 ?_)
  refine Z2 (Z0 (Z3 rfl) rfl (Z0 (Z30 rfl rfl rfl rfl) rfl (Z0 (Z29 rfl (List.Mem.tail _ (List.Mem.tail _ Zh)) rfl rfl rfl hext) rfl (Z0 (RV.len rfl rfl) rfl (Z0 (RV.cut_o _ rfl rfl rfl rfl rfl (by omega)) rfl (Z0 (Z30 rfl rfl rfl rfl) rfl ?_))))))
  refine OW.rot2 ?_; refine Z28 (SV.store rfl rfl rfl rfl rfl (by rw [Z165]; decide)) ?_; refine OW.cells ((a0.C (some ⟨b9, 0, none⟩) (a0.extra.length + 9)).C) (HdrC.C_extra_set (a0.C A c) _) ?_
  refine Z6 ?_
  (refine Z1 ?_; refine Z4 ?_)
  refine Z2 (Z0 (Z22 rfl Zh rfl rfl rfl rfl Z165) rfl ?_)
  refine OW.rot2 ?_; refine Z28 (Z109 rfl rfl rfl zhdr_one rfl Z165 Z165) ?_
  refine Z6 ?_
  (refine Z1 ?_; refine CW.ret ?_)
  refine Z108 (rs := [.cell 2 38]) [.agg ((a0.C (some ⟨b9, 0, none⟩) (a0.extra.length + 9)).C).toArray] ((some b9, blk (u8s (a0.extra ++ List.replicate 9 165#8)) 5) :: (some b2, blk (a0.C (some ⟨b9, 0, none⟩) (a0.extra.length + 9)).C 38) :: []) rfl ?_ rfl ?_ ?_ _ (.inl rfl)
  ·exact ⟨⟨_, _, _, _, rfl, Zh, rfl, rfl, (by rw [Z165]; rfl), rfl⟩, trivial⟩
  ·exact ⟨b9, _, rfl, hb, ht, rfl, rfl⟩
  ·exact fun w m => m.pick [2, 0] 3 rfl rfl
theorem twin_rd {w0 : World} {Φ : Ctx} {b : Nat} {a0 : Hdr} (hb : a0.extra.length + 9 ≤ 140737488355328) (ht : -9223372036854775808 ≤ a0.tail ∧ a0.tail ≤ 9223372036854775807) (hE : ∀ w, Φ w → Mem w0 w [(some b, blk (u8s (a0.extra ++ List.replicate 9 165#8)) 5)]) : HdrRd Φ (a0.C (some ⟨b, 0, none⟩) (a0.extra.length + 9)).C a0 :=
 ⟨some ⟨b, 0, none⟩, a0.extra.length + 9, rfl, ⟨fun w q => by
  have := hE w q
  rw [← u8s_app] at this
  exact this.rd0 (List.mem_cons_self ..) (fun e => nomatch e), fun _ => rfl, by rw [Z100]; omega, by omega, by omega⟩, ht⟩
theorem waybilllaw19_left_does (w0 : World) (Φ : Ctx) (N : List Ent) (hΦ : ∀ w, Mem w0 w N → Φ w) (b : Nat) (a0 : Hdr) (cs1 : List Value) (hb : a0.extra.length + 9 ≤ 140737488355328) (ht : -9223372036854775808 ≤ a0.tail ∧ a0.tail ≤ 9223372036854775807) (hE : ∀ w, Φ w → Mem w0 w [(some b, blk (u8s (a0.extra ++ List.replicate 9 165#8)) 5)]) (ha1 : HdrRd Φ cs1 a0) (hsame : waybillref19_Same a0 a0 = some true) :
  DoesG Tryd.prog 28 [.agg ((a0.C (some ⟨b, 0, none⟩) (a0.extra.length + 9)).C).toArray, .agg cs1.toArray] w0 [] N (fun v G => v = .bool true) := by
 have hrd := twin_rd (w0 := w0) (Φ := Φ) hb ht hE
 have hvb : View Φ (some ⟨b, 0, none⟩) (a0.extra.length + 9) (a0.extra.length + 9) 1 (u8s (a0.extra ++ List.replicate 9 165#8)) :=
  ⟨fun w q => (hE w q).rdl (List.mem_cons_self ..) (fun e => nomatch e), fun _ => rfl, by rw [Z100, List.length_append, List.length_replicate]; omega, by omega, by omega⟩
 have ha1' := ha1
 obtain ⟨A, c, rfl, hv0, _⟩ := ha1.opnC
 have hext : (a0.C A c).C[444]? = some (.slice A a0.extra.length c) := Z138 (a0.C A c)
 have hext2 : (a0.C (some ⟨b, 0, none⟩) (a0.extra.length + 9)).C[444]? = some (.slice (some ⟨b, 0, none⟩) a0.extra.length (a0.extra.length + 9)) := Z138 (a0.C _ _)
 refine DoesG.enter Tryd.func28 rfl Tryd.ntmps28 rfl (M := N) rfl (Z4 (Z2 (OW.boxA rfl rfl (fun b2 => (OW.boxA rfl rfl (fun b3 => (Z0 (Z5 rfl) rfl (Z6 ?_))))))))
 (refine Z1 ?_; refine Z4 ?_)
 refine Z2 (Z0 (Z22 rfl (List.Mem.tail _ Zh) rfl rfl rfl rfl Z165) rfl (Z0 (Z22 rfl Zh rfl rfl rfl rfl Z165) rfl ?_))
 refine Z12 Tryd.call13 rfl (waybillref19_Same_does w0 Φ ((some b3, blk (a0.C A c).C 38) :: (some b2, blk (a0.C (some ⟨b, 0, none⟩) (a0.extra.length + 9)).C 38) :: N) (fun w m => hΦ w (m.drop 2)) _ a0 _ a0 true hrd ha1' hsame) rfl rfl ?_; rintro _ G1 rfl; refine Z20 (M' := (some b3, blk (a0.C A c).C 38) :: (some b2, blk (a0.C (some ⟨b, 0, none⟩) (a0.extra.length + 9)).C 38) :: N) (fun w m => m.appR) ?_
 refine Z0 (Z5 rfl) rfl (Z6 ?_)
 (refine Z1 ?_; refine Z4 ?_; refine Z4 ?_)
 refine Z2 (Z0 (Z3 rfl) rfl (Z0 (RV.not rfl) rfl (Z6 (Z1 (Z14 rfl rfl ?_)))))
 (refine CW.skip ?_; refine Z1 ?_; refine Z4 ?_)
 refine Z2 (Z0 (Z30 rfl rfl rfl rfl) rfl (Z0 (Z29 rfl (List.Mem.tail _ Zh) rfl rfl rfl hext2) rfl (Z0 (Z30 rfl rfl rfl rfl) rfl (Z0 (Z29 rfl Zh rfl rfl rfl hext) rfl (Z0 (RV.len rfl rfl) rfl (Z0 (RV.add rfl rfl (by omega)) rfl (Z0 (RV.cut_hi (a0.extra.length + 9) rfl rfl (by omega) rfl rfl (by omega)) rfl ?_)))))))
 refine Z0 (Z5 rfl) rfl (Z6 ?_)
 (refine Z1 ?_; refine Z4 ?_; refine Z4 ?_)
 refine Z2 (Z0 (Z30 rfl rfl rfl rfl) rfl (Z0 (Z29 rfl Zh rfl rfl rfl hext) rfl (Z0 (RV.len rfl rfl) rfl (Z0 (Z5 rfl) rfl (Z6 ?_)))))
 (refine Z1 ?_; refine CW.block ?_)
 refine Z121 (fun k L' M' => ∃ (i : Nat), k = a0.extra.length + 9 - i ∧ a0.extra.length ≤ i ∧ i ≤ a0.extra.length + 9 ∧ L' = [(6, .slice (some ⟨b, 0, none⟩) (a0.extra.length + 9) (a0.extra.length + 9)), (7, .int .i64 (i : Int))] ∧ M' = N) (k0 := 9) ⟨a0.extra.length, by omega, by omega, by omega, rfl, rfl⟩ ⟨rfl, rfl, trivial⟩ (fun w m => m.drop 2) ?_
 rintro k L' M' ⟨i, rfl, hi1, hi2, rfl, rfl⟩
 (refine Z4 ?_; refine Z4 ?_)
 refine Z2 (Z0 (Z3 rfl) rfl (Z0 (Z3 rfl) rfl (Z0 (RV.len rfl rfl) rfl (Z0 (RV.lss rfl rfl) rfl (Z6 (Z1 ?_))))))
 refine Z129 rfl (fun hlt => ?_) (fun hlt => ?_)
 ·have hi : i < a0.extra.length + 9 := by omega
  have hx : (u8s (a0.extra ++ List.replicate 9 165#8))[i]? = some (U8 165#8) := u8s_at (by rw [List.getElem?_append_right hi1, List.getElem?_replicate, if_pos (by omega)])
  (refine CW.skip ?_; refine Z1 ?_; refine Z4 ?_; refine CW.block ?_; refine Z4 ?_)
  refine Z2 (Z0 (Z3 rfl) rfl (Z0 (Z3 rfl) rfl (Z0 (Z179 i rfl rfl rfl rfl rfl rfl (by omega)) rfl (Z0 (Z21 rfl rfl rfl (fun w m => hvb.cell (hΦ w m) hx)) rfl (Z0 (RV.neq8 rfl rfl rfl (lit8 _ rfl)) rfl (Z6 (Z1 (Z14 rfl rfl ?_))))))))
  (refine CW.skip ?_; refine Z27 ?_; refine Z1 ?_)
  refine Z2 (Z0 (Z3 rfl) rfl (Z0 (RV.add rfl rfl (by omega)) rfl (Z0 (Z5 rfl) rfl (Z6 ?_))))
  refine Z114 (k' := a0.extra.length + 9 - (i + 1)) (by omega) ⟨i + 1, rfl, by omega, by omega, rfl, rfl⟩ ⟨rfl, rfl, trivial⟩ (fun w m => m)
 ·(refine CW.exit ?_; refine Z9 ?_; refine Z9 ?_; refine Z15 ?_; refine Z1 ?_; refine Z4 ?_)
  refine Z2 (Z0 (Z5 rfl) rfl (Z6 ?_))
  (refine Z1 ?_; refine CW.ret ?_)
  refine Z108 (rs := [.tmp 4]) [.bool true] [] rfl ⟨rfl, trivial⟩ rfl rfl (fun w m => m) _ (.inl rfl)
end Go.Fw.Tryd
namespace Go.Fw.Tryd
open Go Go.Proofs Go.Fw
theorem rlp_twin_orec (w0 : World) : ∀ (kf : Nat) (Φ : Ctx) (N : List Ent) (hΦ : ∀ w, Mem w0 w N → Φ w) (A0_ : Option Addr) (c0_ : Nat) (cs0_ : List Value) (a0 : List (It)) (res0 : List (It)) (va0 : View Φ A0_ a0.length c0_ 3 cs0_) (ha0 : Reps (ItRd Φ) cs0_ a0) (hf : rlp_twin.r kf a0 = some res0), DoesG Tryd.prog 82 [.slice A0_ a0.length c0_] w0 [] N (fun v G => ∃ (os : List Ow) (B : List Ent) (or0 : Option Nat) (kr0 : Nat) (rr0 : List Value), Ows.it os = res0 ∧ Ows.Ok os ∧ OwnS or0 os.length kr0 3 (Ows.cs os) rr0 ∧ v = sl or0 0 os.length kr0 ∧ G = (or0, blk (Ows.cs os ++ rr0) 25) :: (Ows.ents 25 os ++ B)) := by
 intro kf
 induction kf with
 | zero => intro Φ N hΦ A0_ c0_ cs0_ a0 res0 va0 ha0 hf; rw [rlp_twin.r] at hf; cases hf
 | succ kf ih =>
  intro Φ N hΦ A0_ c0_ cs0_ a0 res0 va0 ha0 hf
  rw [rlp_twin.r] at hf
  have m1 := va0.mx
  refine DoesG.enter Tryd.func82 rfl Tryd.ntmps82 rfl (M := N) rfl (Z4 (Z2 (Z0 (Z5 rfl) rfl (Z6 ?_))))
  (refine Z1 ?_; refine Z4 ?_)
  refine Z2 (Z0 (Z5 rfl) rfl (Z6 ?_))
  (refine Z1 ?_; refine Z4 ?_; refine Z4 ?_)
  refine Z2 (Z0 (Z3 rfl) rfl (Z0 (RV.len rfl rfl) rfl (Z0 (Z3 rfl) rfl (Z6 ?_))))
  obtain ⟨q2, hq3, hf⟩ := Z102 hf
  refine Z1 ?_
  refine Z120 (fun L' M' => ∃ (os : List Ow) (B : List Ent) (ob : Option Nat) (c : Nat) (r : List Value), q2 = Ows.it os ∧ Ows.Ok os ∧ OwnS ob os.length c 3 (Ows.cs os) r ∧ L' = [(3, sl ob 0 os.length c)] ∧ M' = (ob, blk (Ows.cs os ++ r) 25) :: (Ows.ents 25 os ++ (B ++ N))) ?_ ?_
  ·rintro L' M' ⟨os, B, ob, c, r, rfl, hok, ho, rfl, rfl⟩
   (refine Z1 ?_; refine Z4 ?_)
   refine Z2 (Z0 (Z3 rfl) rfl (Z0 (Z5 rfl) rfl (Z6 ?_)))
   (refine Z1 ?_; refine CW.ret ?_)
   obtain rfl := Zi hf
   refine Z108 (rs := [.tmp 2]) [sl ob 0 os.length c] ((ob, blk (Ows.cs os ++ r) 25) :: (Ows.ents 25 os ++ B)) rfl ⟨rfl, trivial⟩ rfl ⟨os, B, ob, c, r, rfl, hok, ho, rfl, rfl⟩ (fun w m => by simpa only [List.append_assoc, List.cons_append] using m) _ (.inl rfl)
  ·refine CW.block (Z121 (fun k L' M' => ∃ (os : List Ow) (n : Nat) (B : List Ent) (ob : Option Nat) (c : Nat) (r : List Value), (rlp_twin.l1 a0 (rlp_twin.r kf) k (Ows.it os) n) = some q2 ∧ Ows.Ok os ∧ OwnS ob os.length c 3 (Ows.cs os) r ∧ n ≤ 9223372036854775807 ∧ L' = [(3, sl ob 0 os.length c), (6, .slice A0_ a0.length c0_), (7, .int .i64 ((a0.length : Nat) : Int)), (8, .int .i64 (n : Int))] ∧ M' = (ob, blk (Ows.cs os ++ r) 25) :: (Ows.ents 25 os ++ (B ++ N))) ⟨[], 0, [], none, 0, [], hq3, trivial, OwnS.nil, by omega, rfl, rfl⟩ ⟨rfl, rfl, rfl, rfl, trivial⟩ (fun w m => m.nil_ent _) ?_)
   rintro k L' M' ⟨os, n, B, ob, c, r, hl, hok, ho, hn, rfl, rfl⟩
   rcases k with _ | k
   ·rw [rlp_twin.l1] at hl; cases hl
   rw [rlp_twin.l1] at hl
   refine Z4 (Z2 (Z0 (RV.lss rfl rfl) rfl (Z6 ?_)))
   (refine Z1 ?_; refine Z4 ?_)
   by_cases h1 : n < a0.length
   ·replace hl := if_t hl h1
    refine Z13 rfl (decide_eq_true (by omega)) ?_
    obtain ⟨x, hx, hl⟩ := Z102 hl
    obtain ⟨cs2, h43, h44⟩ := ha0.get ItRd.len hx
    obtain ⟨A2, c2, A3, c3, cs3, e53, v2, v3, h52⟩ := ItRd.opn h43
    subst e53
    (refine CW.skip ?_; refine Z1 ?_; refine Z4 ?_; refine CW.block ?_; refine Z4 ?_)
    refine Z2 (Z0 (Z157 n rfl rfl rfl rfl rfl (va0.isSome (by decide) h1) (by omega)) rfl (Z0 (Z156 rfl rfl rfl rfl (fun w m => va0.load (hΦ w m.tail.appR.appR) h44) rfl) rfl (OW.alloc rfl rfl rfl (fun b5 => ?_))))
    refine Z28 (Z109 rfl rfl rfl (by intro u hu; simp at hu; rcases hu with rfl | rfl | rfl <;> rfl) rfl rfl rfl) ?_
    refine Z6 (Z1 ?_)
    obtain ⟨y, hy, hl⟩ := Z102 hl
    obtain ⟨z, hz, hl⟩ := Z102 hl
    refine Z159 11 mixed (by kernel_rfl) rfl (Z18 0 rfl (by kernel_rfl) rfl (Z3 rfl) rfl (Z18 1 rfl (by kernel_rfl) rfl (Z30 rfl rfl rfl rfl) rfl (Z18 2 rfl (by kernel_rfl) rfl (Z29 rfl Zh rfl rfl rfl rfl) rfl (Z18 3 rfl (by kernel_rfl) rfl (Z30 rfl rfl rfl rfl) rfl (Z18 4 rfl (by kernel_rfl) rfl (Z29 rfl Zh rfl rfl rfl rfl) rfl (Z18 6 rfl (by kernel_rfl) rfl (Z30 rfl rfl rfl rfl) rfl (Z18 7 rfl (by kernel_rfl) rfl (Z29 rfl Zh rfl rfl rfl rfl) rfl ?_)))))))
    refine Z25 5 rfl (by kernel_rfl) rfl Tryd.call77 rfl (fun N' hN' => rlp_clone_does w0 Φ N' (fun w m => hΦ w ((hN' w m).tail.tail.appR.appR)) A2 c2 x.data y v2 hy) rfl ?_
    rintro _ _ ⟨B1, ob1, c1, r1, o1, rfl, rfl⟩
    refine Z25 8 rfl (by kernel_rfl) rfl Tryd.call82 rfl (fun N' hN' => ih Φ N' (fun w m => hΦ w ((hN' w m).tail.appR.tail.tail.appR.appR)) A3 c3 cs3 x.items z v3 h52 hz) rfl ?_
    rintro _ _ ⟨os2, B2, ob2, ci2, r2, rfl, hok2, o2, rfl, rfl⟩
    refine Z18 9 rfl (by kernel_rfl) rfl (Z112 (l := [.bool false, .slice none 0 0, .slice none 0 0]) (cs := [.bool x.list, sl ob1 0 y.length c1, sl ob2 0 os2.length ci2]) [(0, [.bool x.list]), (1, [sl ob1 0 y.length c1]), (2, [sl ob2 0 os2.length ci2])] rfl rfl rfl rfl rfl rfl rfl) rfl ?_
    refine UW.new 10 rfl (by kernel_rfl) rfl (NV.bsA rfl rfl (by intro x hx; simp at hx; subst hx; exact rfl) rfl rfl rfl (by decide) (by decide) rfl) rfl (fun b84 => ?_)
    refine UW.nil (by kernel_rfl) (Z20 (M' := (ob, blk (Ows.cs os ++ r) 25) :: (some b84, blk (Ow.cs (Ow.mk x.list ob1 y r1 c1 ob2 ci2 r2 os2)) 25) :: (Ows.ents 25 (os ++ [Ow.mk x.list ob1 y r1 c1 ob2 ci2 r2 os2]) ++ ((B2 ++ (B1 ++ B)) ++ N))) (fun w m => m.chunk [[(some b84, blk (Ow.cs (Ow.mk x.list ob1 y r1 c1 ob2 ci2 r2 os2)) 25)], [(ob2, blk (Ows.cs os2 ++ r2) 25)], Ows.ents 25 os2, B2, [(ob1, blk (u8s y ++ r1) 5)], B1, [(some b5, blk [.bool x.list, .slice A2 x.data.length c2, .slice A3 x.items.length c3] 25)], [(ob, blk (Ows.cs os ++ r) 25)], Ows.ents 25 os, B, N] [7, 0, 8, 4, 1, 2, 3, 5, 9, 10] rfl (by simp [Ow.cs]) (by simp [Ows.ents_app, Ows.ents, Ow.ents])) ?_)
    obtain ⟨hb, hl⟩ := Z115 hl
    rw [Ows.it_length] at hb
    simp only [List.length_cons, List.length_nil] at hb
    refine OW.appendOwn (s := 3) rfl rfl rfl rfl rfl rfl ho (fun w m => m.rd0 (r := []) (List.Mem.tail _ (by rw [List.append_nil]; exact List.Mem.head _)) (fun e => nomatch e)) rfl (Ow.cs_one _) (fun e => nomatch e) (by decide) (by decide) (by simp only [i25]; omega) rfl rfl ((os ++ [Ow.mk x.list ob1 y r1 c1 ob2 ci2 r2 os2]).length) (Ows.cs (os ++ [Ow.mk x.list ob1 y r1 c1 ob2 ci2 r2 os2])) (by simp) (by rw [Ows.cs_app, Ows.cs_sing]) (fun ob3 r3 c3' o3 => ?_)
    refine Z0 (Z5 rfl) rfl (Z6 ?_)
    (refine Z27 ?_; refine Z1 ?_)
    refine Z2 (Z0 (RV.add rfl rfl (by omega)) rfl (Z0 (Z3 rfl) rfl (Z6 ?_)))
    refine Z114 (k' := k) (Nat.lt_succ_self _) ⟨os ++ [Ow.mk x.list ob1 y r1 c1 ob2 ci2 r2 os2], n + 1, B2 ++ (B1 ++ B), ob3, c3', r3, ?_, Ows.Ok_app.2 ⟨hok, by rw [Ows.Ok, Ow.Ok]; exact ⟨⟨o1, o2, hok2⟩, trivial⟩⟩, o3, by omega, rfl, rfl⟩ ⟨rfl, rfl, rfl, rfl, trivial⟩ (fun w m => m.pick [0] 2 rfl rfl)
    rw [Ows.it_app]
    simp only [Ows.it, Ow.it]
    exact hl
   ·replace hl := if_f hl h1
    refine Z14 rfl (decide_eq_false (by omega)) (CW.exit ?_)
    (refine Z9 ?_; refine Z9 ?_; refine Z15 ?_)
    exact QW.join ⟨os, B, ob, c, r, (Zi hl).symm, hok, ho, rfl, rfl⟩ ⟨rfl, trivial⟩ (fun w m => m)
theorem rlp_List_own (w0 : World) (Φ : Ctx) (N : List Ent) (hΦ : ∀ w, Mem w0 w N → Φ w) (A0_ : Option Addr) (c0_ : Nat) (cs0_ : List Value) (a0 : List (It)) (res0 : It) (va0 : View Φ A0_ a0.length c0_ 3 cs0_) (ha0 : Reps (ItRd Φ) cs0_ a0) (hf : rlp_List a0 = some res0) : DoesG Tryd.prog 57 [.slice A0_ a0.length c0_] w0 [] N (fun v G => ∃ (o : Ow) (B : List Ent), o.it = res0 ∧ o.Ok ∧ v = .agg o.cs.toArray ∧ G = o.ents 25 ++ B) := by
 unfold rlp_List at hf
 obtain ⟨x, hx, hf⟩ := Z102 hf
 obtain rfl := Zi hf
 refine DoesG.enter Tryd.func57 rfl Tryd.ntmps57 rfl (M := N) rfl (Z4 (Z2 (OW.alloc (l := [.bool false, nsl, nsl]) rfl rfl rfl (fun b2 => (Z6 ?_)))))
 (refine Z1 ?_; refine Z4 ?_)
 refine Z2 (Z0 (Z3 rfl) rfl ?_)
 refine Z12 Tryd.call82 rfl (rlp_twin_orec w0 _ Φ ((some b2, blk [.bool false, nsl, nsl] 25) :: N) (fun w m => hΦ w m.tail) A0_ c0_ cs0_ a0 x va0 ha0 hx) rfl rfl ?_; rintro _ _ ⟨os, B, ob, c, r, rfl, hok, ho, rfl, rfl⟩; refine Z20 (M' := (some b2, blk [.bool false, nsl, nsl] 25) :: (ob, blk (Ows.cs os ++ r) 25) :: (Ows.ents 25 os ++ (B ++ N))) (fun w m => m.chunk [[(ob, blk (Ows.cs os ++ r) 25)], Ows.ents 25 os, B, [(some b2, blk [.bool false, nsl, nsl] 25)], N] [3, 0, 1, 2, 4] rfl (by simp) (by simp)) ?_
 refine Z0 (Z112 (l := [.bool false, .slice none 0 0, .slice none 0 0]) (cs := [.bool true, .slice none 0 0, sl ob 0 os.length c]) [(0, [.bool true]), (2, [sl ob 0 os.length c])] rfl rfl rfl rfl rfl rfl rfl) rfl ?_
 refine Z28 (Z109 rfl rfl rfl (by intro u hu; simp at hu; rcases hu with rfl | rfl | rfl <;> rfl) rfl rfl rfl) ?_
 refine Z6 ?_
 (refine Z1 ?_; refine CW.ret ?_)
 refine Z108 (rs := [.cell 2 25]) [.agg #[.bool true, .slice none 0 0, sl ob 0 os.length c]] (Ow.ents 25 (Ow.mk true none [] [] 0 ob c r os) ++ (((some b2, blk [.bool true, .slice none 0 0, sl ob 0 os.length c] 25) :: B))) rfl ?_ rfl ?_ ?_ _ (.inl rfl)
 ·exact ⟨⟨_, _, _, _, rfl, Zh, rfl, rfl, rfl, rfl⟩, trivial⟩
 ·exact ⟨Ow.mk true none [] [] 0 ob c r os, _, by rw [Ow.it], by rw [Ow.Ok]; exact ⟨OwnS.nil, ho, hok⟩, rfl, rfl⟩
 ·exact fun w m => by
   have m2 := m.nil_ent (blk (u8s [] ++ []) 5)
   exact m2.chunk [[(none, blk (u8s [] ++ []) 5)], [(some b2, blk [.bool true, .slice none 0 0, sl ob 0 os.length c] 25)], [(ob, blk (Ows.cs os ++ r) 25)], Ows.ents 25 os, B, N] [0, 2, 3, 1, 4, 5] rfl (by simp) (by simp [Ow.ents])
theorem header_Item_own (w0 : World) (Φ : Ctx) (N : List Ent) (hΦ : ∀ w, Mem w0 w N → Φ w) (cs0_ : List Value) (a0 : Hdr) (res0 : It) (res1 : Nat) (ha0 : HdrRd Φ cs0_ a0) (hf : header_Item a0 = some (res0, res1)) : DoesG Tryd.prog 22 [.agg cs0_.toArray] w0 [] N (fun v G => ∃ (o : Ow) (B : List Ent), o.it = res0 ∧ o.Ok ∧ (res1 ≤ 9223372036854775807) ∧ v = .tuple #[.agg o.cs.toArray, .int .i64 ((res1 : Nat) : Int)] ∧ G = o.ents 25 ++ B) := by
 unfold header_Item at hf
 obtain ⟨e, he, hf⟩ := Option.bind_eq_some_iff.1 hf
 have hlen := ha0.len
 refine DoesG.enter Tryd.func22 rfl Tryd.ntmps22 rfl (M := N) rfl (Z4 (Z2 (OW.boxA rfl rfl (fun b1 => (OW.alloc rfl rfl rfl (fun b2 => (Z0 (Z5 rfl) rfl (Z6 ?_))))))))
 (refine Z1 ?_; refine Z4 ?_; refine Z4 ?_)
 refine Z2 (Z0 (Z22 rfl (List.Mem.tail _ Zh) rfl rfl rfl rfl hlen) rfl ?_)
 refine Z12 Tryd.call20 rfl (header_Check_does w0 Φ ((some b2, blk [.bool false, nsl, nsl] 25) :: (some b1, blk cs0_ 38) :: N) (fun w m => hΦ w (m.drop 2)) cs0_ a0 e ha0 he) rfl rfl ?_; rintro _ G1 ⟨heb, rfl⟩; refine Z20 (M' := (some b2, blk [.bool false, nsl, nsl] 25) :: (some b1, blk cs0_ 38) :: N) (fun w m => m.appR) ?_
 refine Z0 (Z5 rfl) rfl (Z6 ?_)
 (refine Z1 ?_; refine Z4 ?_)
 by_cases h1 : e = 0
 case neg =>
  rw [if_neg h1] at hf
  obtain ⟨rfl, rfl⟩ := Prod.mk.inj (Zi hf)
  refine Z2 (Z0 (Z3 rfl) rfl (Z0 (RV.neq_t rfl rfl (by omega)) rfl (Z6 (Z1 (Z160 rfl (Z4 (Z2 (Z0 (Z112 (l := [.bool false, nsl, nsl]) (cs := [.bool false, nsl, nsl]) [] rfl rfl rfl rfl rfl rfl rfl) rfl (Z0 (Z3 rfl) rfl ?_)))))))))
  refine Z28 (Z109 rfl rfl rfl (by intro u hu; simp at hu; rcases hu with rfl | rfl | rfl <;> rfl) rfl rfl rfl) ?_
  refine Z0 (Z5 rfl) rfl (Z6 ?_)
  (refine Z1 ?_; refine CW.ret ?_; refine Z8 ?_)
  refine Z108 (rs := [.cell 2 25, .tmp 3]) [.agg #[.bool false, nsl, nsl], .int .i64 (e : Int)] (Ow.ents 25 (Ow.mk false none [] [] 0 none 0 [] []) ++ ((some b2, blk [.bool false, nsl, nsl] 25) :: [])) rfl ?_ rfl ?_ ?_ _ (.inl rfl)
  ·exact ⟨⟨_, _, _, _, rfl, Zh, rfl, rfl, rfl, rfl⟩, rfl, trivial⟩
  ·exact ⟨Ow.mk false none [] [] 0 none 0 [] [], _, by rw [Ow.it, Ows.it], by rw [Ow.Ok]; exact ⟨OwnS.nil, OwnS.nil, trivial⟩, heb, rfl, rfl⟩
  ·exact fun w m => by
    rw [Ow.ents, Ows.ents]
    exact ((m.pick [0] 2 rfl rfl).nil_ent _).nil_ent _
 subst h1
 rw [if_pos rfl] at hf
 obtain ⟨n, hn, hf⟩ := Option.bind_eq_some_iff.1 hf
 obtain ⟨l, hl, hf⟩ := Option.bind_eq_some_iff.1 hf
 obtain ⟨x0, hx0, hf⟩ := Option.bind_eq_some_iff.1 hf
 obtain ⟨rfl, rfl⟩ := Prod.mk.inj (Zi hf)
 refine Z2 (Z0 (Z3 rfl) rfl (Z0 (RV.neq_f rfl rfl (by omega)) rfl (Z6 (Z1 (Z136 rfl ?_)))))
 obtain ⟨A, c, rfl, hv0, ht⟩ := ha0.opnC
 have htl : (a0.C A c).C[485]? = some (.int .i64 a0.tail) := Z122 (a0.C A c)
 have hv : View (More w0 Φ [(some b1, blk (a0.C A c).C 38)]) A a0.extra.length c 1 (u8s a0.extra) := hv0.mono (fun w q => q.1)
 have hh : Held w0 (More w0 Φ [(some b1, blk (a0.C A c).C 38)]) b1 (a0.C A c).C 38 := fun w q => q.2
 (refine CW.skip ?_; refine Z1 ?_; refine Z4 ?_)
 refine Z2 (Z0 (Z5 rfl) rfl (Z6 ?_))
 (refine Z1 ?_; refine Z4 ?_; refine Z4 ?_)
 refine Z2 ?_
 refine Z12 Tryd.call44 rfl (header_slots_does w0 ((some b2, blk [.bool false, nsl, nsl] 25) :: (some b1, blk (a0.C A c).C 38) :: N) b1) rfl rfl ?_; rintro _ B0 ⟨_, rfl, rfl⟩; refine Z20 (M' := (some b2, blk [.bool false, nsl, nsl] 25) :: (some b1, blk (a0.C A c).C 38) :: N) (fun w m => m.appR) ?_
 refine Z0 (Z3 rfl) rfl (Z6 ?_)
 (refine Z1 ?_; refine CW.block ?_)
 refine Z121 (fun k L' M' => ∃ (i : Nat) (Bx : List Ent) (xs : List It) (cs : List Value) (ob : Option Nat) (cap : Nat) (r : List Value), k = 21 - i ∧ i ≤ 21 ∧ itemsOf (a0.fds.take (min i n)) = some xs ∧ Reps (ItRd (More w0 Φ (Bx ++ [(some b1, blk (a0.C A c).C 38)]))) cs xs ∧ OwnS ob xs.length cap 3 cs r ∧
  L' = [(1, ptr (some b1) 0), (2, ptr (some b2) 0), (5, sl ob 0 xs.length cap), (14, .agg (slotC b1).toArray), (15, .int .i64 (i : Int))] ∧ M' = (ob, blk (cs ++ r) 25) :: (some b2, blk [.bool false, nsl, nsl] 25) :: ((Bx ++ [(some b1, blk (a0.C A c).C 38)]) ++ N)) (k0 := 21)
  ⟨0, [], [], [], none, 0, [], rfl, by omega, by simp [itemsOf], Reps.nil, OwnS.nil, rfl, rfl⟩ ⟨rfl, rfl, rfl, rfl, rfl, trivial⟩ (fun w m => m.nil_ent _) ?_
 rintro k L' M' ⟨i, Bx, xs, cs, ob, cap, r, rfl, hi, hxs, hcs, ho, rfl, rfl⟩
 have hxl := itemsOf_length hxs
 rw [List.length_take] at hxl
 have hfl := a0.fds_length
 refine Z4 (Z2 (Z0 (RV.lss rfl rfl) rfl (Z6 ?_)))
 (refine Z1 ?_; refine Z4 ?_)
 refine Z129 rfl (fun hlt => ?_) (fun hlt => ?_)
 ·have h3 : i < 21 := by omega
  obtain ⟨s, hs⟩ : ∃ s, slotL[i]? = some s := ⟨_, List.getElem?_eq_getElem (show i < slotL.length from h3)⟩
  obtain ⟨f, hfd⟩ : ∃ f, a0.fds[i]? = some f := ⟨_, List.getElem?_eq_getElem (show i < a0.fds.length from h3)⟩
  have hsl := (a0.slotsAt hh hv hs hfd).mono (Ψ := More w0 Φ (Bx ++ [(some b1, blk (a0.C A c).C 38)])) (fun w q => q.app)
  (refine CW.skip ?_; refine Z1 ?_; refine Z4 ?_; refine CW.block ?_; refine Z4 ?_)
  refine Z2 (Z0 (Z3 rfl) rfl (Z0 (RV.indexVs i rfl rfl rfl rfl rfl rfl rfl (by omega) (slotC_part b1 i hs)) rfl (OW.alloc rfl rfl rfl (fun b7 => (Z0 (Z5 rfl) rfl (Z28 (Z109 rfl rfl rfl (Slk.cells_one b1 s) rfl rfl (Z134 b1 s)) (Z6 ?_)))))))
  (refine Z1 ?_; refine Z4 ?_)
  by_cases h4 : i < n
  ·obtain ⟨x, hx, _⟩ := itemsOf_at hl (i := i) (f := f) (by rw [List.getElem?_take_of_lt h4]; exact hfd)
   have hxs2 : itemsOf (a0.fds.take (min (i + 1) n)) = some (xs ++ [x]) := by
    rw [show min (i + 1) n = i + 1 by omega, List.take_add_one, hfd]
    rw [show min i n = i by omega] at hxs
    exact itemsOf_snoc hxs hx
   refine Z2 (Z0 (Z3 rfl) rfl (Z0 (Z30 rfl rfl rfl rfl) rfl (Z0 (Z21 (a := ⟨b1, 0 + 485, none⟩) rfl rfl rfl (fun w m => ((hh w (More.app (More.of hΦ 3 m rfl))).cell (List.mem_cons_self ..) 485).trans htl)) rfl ?_)))
   refine Z12 Tryd.call53 rfl (Z137 w0 (fun _ => True) ((some b7, blk (s.cells b1) 96) :: (ob, blk (cs ++ r) 25) :: (some b2, blk [.bool false, nsl, nsl] 25) :: ((Bx ++ [(some b1, blk (a0.C A c).C 38)]) ++ N)) (fun _ _ => trivial) a0.tail n ht hn) rfl rfl ?_; rintro _ G1 ⟨hnb, rfl⟩; refine Z20 (M' := (some b7, blk (s.cells b1) 96) :: (ob, blk (cs ++ r) 25) :: (some b2, blk [.bool false, nsl, nsl] 25) :: ((Bx ++ [(some b1, blk (a0.C A c).C 38)]) ++ N)) (fun w m => m.appR) ?_
   refine Z0 (RV.lss_t rfl rfl (by omega)) rfl (Z6 (Z1 (Z160 rfl (Z2 (Z0 (Z3 rfl) rfl (Z0 (Z22 rfl Zh rfl rfl rfl rfl (Z134 b1 s)) rfl ?_))))))
   refine Z12 Tryd.call56 rfl (hslot_item_does w0 (More w0 Φ (Bx ++ [(some b1, blk (a0.C A c).C 38)])) ((some b7, blk (s.cells b1) 96) :: (ob, blk (cs ++ r) 25) :: (some b2, blk [.bool false, nsl, nsl] 25) :: ((Bx ++ [(some b1, blk (a0.C A c).C 38)]) ++ N)) (fun w m => More.of hΦ 3 m rfl) b1 s f x hsl hx) rfl rfl ?_; rintro _ B1 ⟨_, cr, hcr, rfl, rfl⟩; have hcl := ItRd.len _ _ hcr; refine Z20 (M' := (ob, blk (cs ++ r) 25) :: (some b2, blk [.bool false, nsl, nsl] 25) :: (((B1 ++ Bx) ++ [(some b1, blk (a0.C A c).C 38)]) ++ N)) (fun w m => by have m2 := m.sk0.tail.sk0.sk1; simpa only [List.append_assoc] using m2) ?_
   refine OW.ofN (NV.bsA rfl rfl (by intro x hx; simp at hx; subst hx; exact hcl) rfl rfl rfl (by decide) (by decide) rfl) rfl (fun bs => ?_); refine OW.cells cr (by simp) ?_; refine OW.rot1 ?_
   refine OW.appendOwn (s := 3) rfl rfl rfl rfl rfl rfl ho (fun w m => m.rd0 (r := []) (List.Mem.tail _ (by rw [List.append_nil]; exact List.Mem.head _)) (fun e => nomatch e)) hcl (ItRd.one _ _ hcr) (fun e => nomatch e) (by decide) (by decide) (by simp only [i25]; omega) rfl rfl ((xs ++ [x]).length) (cs ++ cr) (by simp) rfl (fun ob2 r2 c2 o2 => ?_)
   refine Z0 (Z5 rfl) rfl (Z6 ?_)
   (refine Z27 ?_; refine Z1 ?_)
   refine Z2 (Z0 (RV.add rfl rfl (by omega)) rfl (Z0 (Z3 rfl) rfl (Z6 ?_)))
   refine Z114 (k' := 21 - (i + 1)) (by omega) ⟨i + 1, B1 ++ Bx, xs ++ [x], cs ++ cr, ob2, c2, r2, rfl, by omega, hxs2, ?_, o2, rfl, rfl⟩ ⟨rfl, rfl, rfl, rfl, rfl, trivial⟩ (fun w m => m.pick [0, 2] 3 rfl rfl)
   exact (hcs.mono (ItRd.mono (fun w q => by rw [List.append_assoc] at q; exact q.app))).snoc (ItRd.mono (fun w q => by rw [List.append_assoc] at q; exact q.flat) _ _ hcr)
  ·have hxs2 : itemsOf (a0.fds.take (min (i + 1) n)) = some xs := by rw [show min (i + 1) n = min i n by omega]; exact hxs
   refine Z2 (Z0 (Z3 rfl) rfl (Z0 (Z30 rfl rfl rfl rfl) rfl (Z0 (Z21 (a := ⟨b1, 0 + 485, none⟩) rfl rfl rfl (fun w m => ((hh w (More.app (More.of hΦ 3 m rfl))).cell (List.mem_cons_self ..) 485).trans htl)) rfl ?_)))
   refine Z12 Tryd.call53 rfl (Z137 w0 (fun _ => True) ((some b7, blk (s.cells b1) 96) :: (ob, blk (cs ++ r) 25) :: (some b2, blk [.bool false, nsl, nsl] 25) :: ((Bx ++ [(some b1, blk (a0.C A c).C 38)]) ++ N)) (fun _ _ => trivial) a0.tail n ht hn) rfl rfl ?_; rintro _ G1 ⟨hnb, rfl⟩; refine Z20 (M' := (ob, blk (cs ++ r) 25) :: (some b2, blk [.bool false, nsl, nsl] 25) :: ((Bx ++ [(some b1, blk (a0.C A c).C 38)]) ++ N)) (fun w m => (m.appR).tail) ?_
   refine Z0 (RV.lss_f rfl rfl (by omega)) rfl (Z6 (Z1 (Z136 rfl ?_)))
   (refine CW.skip ?_; refine Z27 ?_; refine Z1 ?_)
   refine Z2 (Z0 (RV.add rfl rfl (by omega)) rfl (Z0 (Z3 rfl) rfl (Z6 ?_)))
   refine Z114 (k' := 21 - (i + 1)) (by omega) ⟨i + 1, Bx, xs, cs, ob, cap, r, rfl, by omega, hxs2, hcs, ho, rfl, rfl⟩ ⟨rfl, rfl, rfl, rfl, rfl, trivial⟩ (fun w m => m)
 ·have e1 : a0.fds.take (min i n) = a0.fds.take n := by
   by_cases h5 : n ≤ i
   ·rw [Nat.min_eq_right h5]
   ·rw [List.take_of_length_le (by omega), List.take_of_length_le (by omega)]
  rw [e1, hl] at hxs
  obtain rfl := Zi hxs
  have hvl := ho.view (te := 25) (w0 := w0) (Ψ := More w0 Φ ((ob, blk (cs ++ r) 25) :: (Bx ++ [(some b1, blk (a0.C A c).C 38)]))) (by decide) (fun w q => q.2.sublist (List.singleton_sublist.2 (List.mem_cons_self ..)))
  (refine CW.exit ?_; refine Z9 ?_; refine Z9 ?_; refine Z15 ?_; refine Z1 ?_; refine Z4 ?_)
  refine Z2 (Z0 (Z3 rfl) rfl ?_)
  refine Z12 Tryd.call57 rfl (rlp_List_own w0 (More w0 Φ ((ob, blk (cs ++ r) 25) :: (Bx ++ [(some b1, blk (a0.C A c).C 38)]))) ((ob, blk (cs ++ r) 25) :: (some b2, blk [.bool false, nsl, nsl] 25) :: ((Bx ++ [(some b1, blk (a0.C A c).C 38)]) ++ N)) (fun w m => by have q : Mem w0 w ((ob, blk (cs ++ r) 25) :: ((Bx ++ [(some b1, blk (a0.C A c).C 38)]) ++ N)) := m.pick [0] 2 rfl rfl; exact ⟨hΦ w q.tail.appR, (show Mem w0 w (((ob, blk (cs ++ r) 25) :: (Bx ++ [(some b1, blk (a0.C A c).C 38)])) ++ N) from q).appL⟩) _ cap cs l x0 hvl (hcs.mono (ItRd.mono (fun w q => ⟨q.1, q.2.tail⟩))) hx0) rfl rfl ?_; rintro _ _ ⟨o, B1, rfl, hok, rfl, rfl⟩; refine Z20 (M' := (some b2, blk [.bool false, nsl, nsl] 25) :: (o.ents 25 ++ (B1 ++ ((ob, blk (cs ++ r) 25) :: ((Bx ++ [(some b1, blk (a0.C A c).C 38)]) ++ N))))) (fun w m => m.chunk [o.ents 25, B1, [(ob, blk (cs ++ r) 25)], [(some b2, blk [.bool false, nsl, nsl] 25)], Bx ++ [(some b1, blk (a0.C A c).C 38)], N] [3, 0, 1, 2, 4, 5] rfl (by simp) (by simp)) ?_
  refine Z28 (Z109 rfl rfl rfl (Ow.cs_one o) rfl rfl o.cs_length) (Z0 (Z5 rfl) rfl (Z6 ?_))
  (refine Z1 ?_; refine CW.ret ?_)
  refine Z108 (rs := [.cell 2 25, .tmp 3]) [.agg o.cs.toArray, .int .i64 ((0 : Nat) : Int)] (o.ents 25 ++ ((some b2, blk o.cs 25) :: (B1 ++ ((ob, blk (cs ++ r) 25) :: (Bx ++ [(some b1, blk (a0.C A c).C 38)]))))) rfl ?_ rfl ?_ ?_ _ (.inl rfl)
  ·exact ⟨⟨_, _, _, _, rfl, Zh, rfl, rfl, (by rw [o.cs_length]; rfl), rfl⟩, rfl, trivial⟩
  ·exact ⟨o, _, rfl, hok, by omega, rfl, rfl⟩
  ·exact fun w m => m.chunk [[(some b2, blk o.cs 25)], o.ents 25, B1, [(ob, blk (cs ++ r) 25)], Bx ++ [(some b1, blk (a0.C A c).C 38)], N] [1, 0, 2, 3, 4, 5] rfl (by simp) (by simp)
theorem packs_facts (a0 : Hdr) : ∃ (x : It) (bb : List (BitVec 8)) (d : Vector (BitVec 8) 32), header_Item a0 = some (x, a0.chk) ∧ waybillref19_Item a0 = some (x, a0.chk) ∧ header_Encode a0 = some (bb, a0.chk) ∧ waybillref19_Encode a0 = some (bb, a0.chk) ∧ header_Hash a0 = some (d, a0.chk) ∧ waybillref19_Hash a0 = some (d, a0.chk) ∧ bb.length ≤ 16777216 ∧ a0.chk ≤ 192 := by
 have hle : a0.chk ≤ 192 := by unfold Hdr.chk; (repeat' split) <;> omega
 by_cases hc : a0.chk = 0
 ·obtain ⟨d, h1, h2⟩ := rhash_ok hc
  exact ⟨_, _, d, by rw [hc]; exact item_ok hc, by rw [hc]; exact ritem_ok hc, by rw [hc]; exact hencode_ok hc, by rw [hc]; exact rencode_ok hc, by rw [hc]; exact h1, by rw [hc]; exact h2, Hdr.enc_len hc, hle⟩
 ·exact ⟨_, _, _, item_bad hc, ritem_bad hc, hencode_bad hc, rencode_bad hc, hash_bad hc, rhash_bad hc, by simp, hle⟩
theorem waybilllaw19_HeaderPacks_does (w0 : World) (Φ : Ctx) (N : List Ent) (hΦ : ∀ w, Mem w0 w N → Φ w) (cs0_ : List Value) (a0 : Hdr) (ha0 : HdrRd Φ cs0_ a0) (hb : a0.extra.length + 9 ≤ 140737488355328) (hg1 : View Φ (some ⟨1, 0, none⟩) 2 2 1 (u8s firstL)) (hTn : ∀ i, i < 25 → w0.cell? ⟨5, i, none⟩ = some (.int .i64 (turnsL.getD i 0))) (hRn : ∀ i, i < 24 → w0.cell? ⟨2, i, none⟩ = some (U64 (g64 roundsL i))) :
  DoesG Tryd.prog 4 [.agg cs0_.toArray] w0 [] N (fun v G => v = .bool true) := by
 obtain ⟨x, bb, d, p1, p2, p3, p4, p5, p6, hbl, hck⟩ := packs_facts a0
 have hlen := ha0.len
 refine DoesG.enter Tryd.func4 rfl Tryd.ntmps4 rfl (M := N) rfl (Z4 (Z2 (OW.boxA rfl rfl (fun b1 => (Z0 (Z5 rfl) rfl (Z6 ?_))))))
 (refine Z1 ?_; refine Z4 ?_)
 refine Z2 (Z0 (Z22 rfl Zh rfl rfl rfl rfl hlen) rfl ?_)
 refine Z12 Tryd.call19 rfl (waybilllaw19_twin_raw w0 Φ ((some b1, blk cs0_ 38) :: N) (fun w m => hΦ w m.tail) cs0_ a0 a0 ha0 (htwin_eq hb)) rfl rfl ?_; rintro _ _ ⟨bT, BT, _, _, ht, rfl, rfl⟩; refine Z20 (M' := (some b1, blk cs0_ 38) :: (some bT, blk (u8s (a0.extra ++ List.replicate 9 165#8)) 5) :: N) (fun w m => m.chunk [[(some bT, blk (u8s (a0.extra ++ List.replicate 9 165#8)) 5)], BT, [(some b1, blk cs0_ 38)], N] [2, 0, 3] rfl (by simp) (by simp)) ?_
 refine OW.alloc (l := (Hdr.zero.C none 0).C) rfl zhdr_cells rfl (fun b3 => (Z28 (Z109 rfl rfl rfl zhdr_one rfl Z165 Z165) (Z6 ?_)))
 (refine Z1 ?_; refine Z4 ?_; refine Z4 ?_)
 have hN1 : ∀ w, Mem w0 w ((some bT, blk (u8s (a0.extra ++ List.replicate 9 165#8)) 5) :: N) → More w0 Φ [(some bT, blk (u8s (a0.extra ++ List.replicate 9 165#8)) 5)] w := fun w m => ⟨hΦ w m.tail, m.sublist (List.singleton_sublist.2 (List.mem_cons_self ..))⟩
 have hT : HdrRd (More w0 Φ [(some bT, blk (u8s (a0.extra ++ List.replicate 9 165#8)) 5)]) (a0.C (some ⟨bT, 0, none⟩) (a0.extra.length + 9)).C a0 := twin_rd hb ht (fun w q => q.2)
 have hH : HdrRd (More w0 Φ [(some bT, blk (u8s (a0.extra ++ List.replicate 9 165#8)) 5)]) cs0_ a0 := HdrRd.mono (fun w q => q.1) _ _ ha0
 have hg2 : View (More w0 Φ [(some bT, blk (u8s (a0.extra ++ List.replicate 9 165#8)) 5)]) (some ⟨1, 0, none⟩) 2 2 1 (u8s firstL) := hg1.mono (fun w q => q.1)
 refine Z159 6 mixed (by kernel_rfl) rfl (Z18 0 rfl (by kernel_rfl) rfl (Z22 rfl Zh rfl rfl rfl rfl Z165) rfl (Z18 3 rfl (by kernel_rfl) rfl (Z22 rfl (List.Mem.tail _ Zh) rfl rfl rfl rfl hlen) rfl (Z25 1 rfl (by kernel_rfl) rfl Tryd.call20 rfl (fun N' hN' => header_Check_does w0 _ N' (fun w m => hN1 w ((hN' w m).drop 2)) _ a0 a0.chk hT (check_eq a0)) rfl ?_)))
 rintro _ G1 ⟨_, rfl⟩
 refine UW.mem (M' := (some b3, blk (a0.C (some ⟨bT, 0, none⟩) (a0.extra.length + 9)).C 38) :: (some b1, blk cs0_ 38) :: (some bT, blk (u8s (a0.extra ++ List.replicate 9 165#8)) 5) :: N) (fun w m => m.appR) (Z25 2 rfl (by kernel_rfl) rfl Tryd.call12 rfl (fun N' hN' => Z127 w0 (fun _ => True) N' (fun _ _ => trivial) (a0.chk : Int) (a0.chk : Int) (by omega) rfl) rfl ?_)
 rintro _ G1 ⟨_, rfl⟩
 refine UW.mem (M' := (some b3, blk (a0.C (some ⟨bT, 0, none⟩) (a0.extra.length + 9)).C 38) :: (some b1, blk cs0_ 38) :: (some bT, blk (u8s (a0.extra ++ List.replicate 9 165#8)) 5) :: N) (fun w m => m.appR) (Z25 4 rfl (by kernel_rfl) rfl Tryd.call21 rfl (fun N' hN' => waybillref19_Check_does w0 _ N' (fun w m => hN1 w ((hN' w m).drop 2)) _ a0 a0.chk hH (rcheck_hdr a0)) rfl ?_)
 rintro _ G1 ⟨_, rfl⟩
 refine UW.mem (M' := (some b3, blk (a0.C (some ⟨bT, 0, none⟩) (a0.extra.length + 9)).C 38) :: (some b1, blk cs0_ 38) :: (some bT, blk (u8s (a0.extra ++ List.replicate 9 165#8)) 5) :: N) (fun w m => m.appR) (Z18 5 rfl (by kernel_rfl) rfl (RV.neq_f rfl rfl rfl) rfl (UW.nil (by kernel_rfl) (Z6 (Z1 (Z14 rfl rfl ?_)))))
 (refine CW.skip ?_; refine Z1 ?_; refine Z4 ?_)
 refine Z2 (Z0 (Z22 rfl Zh rfl rfl rfl rfl Z165) rfl ?_)
 refine Z12 Tryd.call22 rfl (header_Item_own w0 _ ((some b3, blk (a0.C (some ⟨bT, 0, none⟩) (a0.extra.length + 9)).C 38) :: (some b1, blk cs0_ 38) :: (some bT, blk (u8s (a0.extra ++ List.replicate 9 165#8)) 5) :: N) (fun w m => hN1 w (m.drop 2)) _ a0 x a0.chk hT p1) rfl rfl ?_; rintro _ _ ⟨o, B, hox, hok, _, rfl, rfl⟩; subst hox; refine Z20 (M' := (some b3, blk (a0.C (some ⟨bT, 0, none⟩) (a0.extra.length + 9)).C 38) :: (some b1, blk cs0_ 38) :: (o.ents 25 ++ ((some bT, blk (u8s (a0.extra ++ List.replicate 9 165#8)) 5) :: N))) (fun w m => m.chunk [o.ents 25, B, [(some b3, blk (a0.C (some ⟨bT, 0, none⟩) (a0.extra.length + 9)).C 38)], [(some b1, blk cs0_ 38)], (some bT, blk (u8s (a0.extra ++ List.replicate 9 165#8)) 5) :: N] [2, 3, 0, 4] rfl (by simp) (by simp)) ?_
 refine Z0 (Z3 rfl) rfl (Z0 (Z17 rfl rfl) rfl (Z0 (Z17 rfl rfl) rfl (OW.alloc (l := [.bool false, nsl, nsl]) rfl rfl rfl (fun b4 => (Z28 (Z109 rfl rfl rfl (Ow.cs_one o) rfl rfl o.cs_length) (Z0 (Z5 rfl) rfl (Z6 ?_)))))))
 (refine Z1 ?_; refine Z4 ?_)
 refine Z2 (Z0 (Z22 rfl (List.Mem.tail _ (List.Mem.tail _ Zh)) rfl rfl rfl rfl hlen) rfl ?_)
 refine Z12 Tryd.call23 rfl (waybillref19_Item_does w0 _ ((some b4, blk o.cs 25) :: (some b3, blk (a0.C (some ⟨bT, 0, none⟩) (a0.extra.length + 9)).C 38) :: (some b1, blk cs0_ 38) :: (o.ents 25 ++ ((some bT, blk (u8s (a0.extra ++ List.replicate 9 165#8)) 5) :: N))) (fun w m => hN1 w (m.drop 3).appR) _ a0 o.it a0.chk hH p2) rfl rfl ?_; rintro _ B6 ⟨_, cr6, hcr6, _, rfl, rfl⟩; have hcl6 := ItRd.len _ _ hcr6; refine Z20 (M' := (some b4, blk o.cs 25) :: (some b3, blk (a0.C (some ⟨bT, 0, none⟩) (a0.extra.length + 9)).C 38) :: (some b1, blk cs0_ 38) :: (o.ents 25 ++ (B6 ++ ((some bT, blk (u8s (a0.extra ++ List.replicate 9 165#8)) 5) :: N)))) (fun w m => m.chunk [B6, [(some b4, blk o.cs 25)], [(some b3, blk (a0.C (some ⟨bT, 0, none⟩) (a0.extra.length + 9)).C 38)], [(some b1, blk cs0_ 38)], o.ents 25, (some bT, blk (u8s (a0.extra ++ List.replicate 9 165#8)) 5) :: N] [1, 2, 3, 4, 0, 5] rfl (by simp) (by simp)) ?_
 refine Z0 (Z3 rfl) rfl (Z0 (Z17 rfl rfl) rfl (Z0 (Z17 rfl rfl) rfl (OW.alloc (l := [.bool false, nsl, nsl]) rfl rfl rfl (fun b6 => (Z28 (Z109 rfl rfl rfl (ItRd.one _ _ hcr6) rfl rfl hcl6) (Z0 (Z5 rfl) rfl (Z6 ?_)))))))
 (refine Z1 ?_; refine Z4 ?_; refine Z4 ?_)
 have hK1 : ∀ w, Mem w0 w (o.ents 25 ++ (B6 ++ ((some bT, blk (u8s (a0.extra ++ List.replicate 9 165#8)) 5) :: N))) → More w0 Φ [(some bT, blk (u8s (a0.extra ++ List.replicate 9 165#8)) 5)] w := fun w m => hN1 w m.appR.appR
 have hKS : ∀ w, Mem w0 w (o.ents 25 ++ (B6 ++ ((some bT, blk (u8s (a0.extra ++ List.replicate 9 165#8)) 5) :: N))) → (More w0 Φ [(some bT, blk (u8s (a0.extra ++ List.replicate 9 165#8)) 5)] w ∧ Mem w0 w (o.ents 25 ++ B6)) := fun w m => ⟨hK1 w m, m.chunk [o.ents 25, B6, (some bT, blk (u8s (a0.extra ++ List.replicate 9 165#8)) 5) :: N] [0, 1] rfl (by simp) (by simp)⟩
 have hoR : ItRd (fun w => More w0 Φ [(some bT, blk (u8s (a0.extra ++ List.replicate 9 165#8)) 5)] w ∧ Mem w0 w (o.ents 25 ++ B6)) o.cs o.it := Ow.rd (w0 := w0) (t := 25) o hok (fun w q => q.2.appL)
 have hcR : ItRd (fun w => More w0 Φ [(some bT, blk (u8s (a0.extra ++ List.replicate 9 165#8)) 5)] w ∧ Mem w0 w (o.ents 25 ++ B6)) cr6 o.it := ItRd.mono (fun w q => ⟨q.1, q.2.appR⟩) _ _ hcr6
 have hsm := Same_refl o.it
 refine Z2 (Z0 (Z3 rfl) rfl ?_)
 refine Z12 Tryd.call12 rfl (Z127 w0 (fun _ => True) ((some b6, blk cr6 25) :: (some b4, blk o.cs 25) :: (some b3, blk (a0.C (some ⟨bT, 0, none⟩) (a0.extra.length + 9)).C 38) :: (some b1, blk cs0_ 38) :: (o.ents 25 ++ (B6 ++ ((some bT, blk (u8s (a0.extra ++ List.replicate 9 165#8)) 5) :: N)))) (fun _ _ => trivial) (a0.chk : Int) (a0.chk : Int) (by omega) rfl) rfl rfl ?_; rintro _ G1 ⟨_, rfl⟩; refine Z20 (M' := (some b6, blk cr6 25) :: (some b4, blk o.cs 25) :: (some b3, blk (a0.C (some ⟨bT, 0, none⟩) (a0.extra.length + 9)).C 38) :: (some b1, blk cs0_ 38) :: (o.ents 25 ++ (B6 ++ ((some bT, blk (u8s (a0.extra ++ List.replicate 9 165#8)) 5) :: N)))) (fun w m => m.appR) ?_
 refine Z0 (Z3 rfl) rfl (Z0 (RV.neq_f rfl rfl rfl) rfl (Z0 (Z3 rfl) rfl ?_))
 refine Z24 rfl ?_; refine Z0 (Z22 rfl (List.Mem.tail _ Zh) rfl rfl rfl rfl o.cs_length) rfl ?_
 refine Z24 rfl ?_; refine Z0 (Z22 rfl Zh rfl rfl rfl rfl hcl6) rfl ?_
 refine Z24 rfl ?_; refine Z12 Tryd.call18 rfl (Z141 w0 _ ((some b6, blk cr6 25) :: (some b4, blk o.cs 25) :: (some b3, blk (a0.C (some ⟨bT, 0, none⟩) (a0.extra.length + 9)).C 38) :: (some b1, blk cs0_ 38) :: (o.ents 25 ++ (B6 ++ ((some bT, blk (u8s (a0.extra ++ List.replicate 9 165#8)) 5) :: N)))) (fun w m => hKS w (m.drop 4)) _ o.it _ o.it true hoR hcR hsm) rfl rfl ?_; rintro _ G1 rfl; refine Z20 (M' := (some b6, blk cr6 25) :: (some b4, blk o.cs 25) :: (some b3, blk (a0.C (some ⟨bT, 0, none⟩) (a0.extra.length + 9)).C 38) :: (some b1, blk cs0_ 38) :: (o.ents 25 ++ (B6 ++ ((some bT, blk (u8s (a0.extra ++ List.replicate 9 165#8)) 5) :: N)))) (fun w m => m.appR) ?_
 refine Z24 rfl ?_; refine Z0 (RV.not rfl) rfl ?_
 refine Z0 (Z106 rfl rfl rfl) rfl (Z6 (Z1 (Z14 rfl rfl ?_)))
 (refine CW.skip ?_; refine Z1 ?_; refine Z4 ?_)
 refine Z2 (Z0 (Z22 rfl (List.Mem.tail _ (List.Mem.tail _ Zh)) rfl rfl rfl rfl Z165) rfl ?_)
 refine Z12 Tryd.call24 rfl (Z163 w0 _ ((some b6, blk cr6 25) :: (some b4, blk o.cs 25) :: (some b3, blk (a0.C (some ⟨bT, 0, none⟩) (a0.extra.length + 9)).C 38) :: (some b1, blk cs0_ 38) :: (o.ents 25 ++ (B6 ++ ((some bT, blk (u8s (a0.extra ++ List.replicate 9 165#8)) 5) :: N)))) (fun w m => hK1 w (m.drop 4)) _ a0 bb a0.chk hT p3) rfl rfl ?_; rintro _ _ ⟨B8, ob8, c8, r8, o8, _, rfl, rfl⟩; refine Z20 (M' := (ob8, blk (u8s bb ++ r8) 5) :: (some b6, blk cr6 25) :: (some b4, blk o.cs 25) :: (some b3, blk (a0.C (some ⟨bT, 0, none⟩) (a0.extra.length + 9)).C 38) :: (some b1, blk cs0_ 38) :: (o.ents 25 ++ (B6 ++ ((some bT, blk (u8s (a0.extra ++ List.replicate 9 165#8)) 5) :: N)))) (fun w m => m.chunk [[(ob8, blk (u8s bb ++ r8) 5)], B8, (some b6, blk cr6 25) :: (some b4, blk o.cs 25) :: (some b3, blk (a0.C (some ⟨bT, 0, none⟩) (a0.extra.length + 9)).C 38) :: (some b1, blk cs0_ 38) :: (o.ents 25 ++ (B6 ++ ((some bT, blk (u8s (a0.extra ++ List.replicate 9 165#8)) 5) :: N)))] [0, 2] rfl (by simp) (by simp)) ?_
 refine Z0 (Z3 rfl) rfl (Z0 (Z17 rfl rfl) rfl (Z0 (Z17 rfl rfl) rfl (Z0 (Z5 rfl) rfl (Z0 (Z5 rfl) rfl (Z6 ?_)))))
 (refine Z1 ?_; refine Z4 ?_)
 refine Z2 (Z0 (Z22 rfl (List.Mem.tail _ (List.Mem.tail _ (List.Mem.tail _ (List.Mem.tail _ Zh)))) rfl rfl rfl rfl hlen) rfl ?_)
 refine Z12 Tryd.call25 rfl (Z175 w0 _ ((ob8, blk (u8s bb ++ r8) 5) :: (some b6, blk cr6 25) :: (some b4, blk o.cs 25) :: (some b3, blk (a0.C (some ⟨bT, 0, none⟩) (a0.extra.length + 9)).C 38) :: (some b1, blk cs0_ 38) :: (o.ents 25 ++ (B6 ++ ((some bT, blk (u8s (a0.extra ++ List.replicate 9 165#8)) 5) :: N)))) (fun w m => hK1 w (m.drop 5)) _ a0 bb a0.chk hH p4) rfl rfl ?_; rintro _ _ ⟨B10, ob10, c10, r10, o10, _, rfl, rfl⟩; refine Z20 (M' := (ob10, blk (u8s bb ++ r10) 5) :: (ob8, blk (u8s bb ++ r8) 5) :: (some b6, blk cr6 25) :: (some b4, blk o.cs 25) :: (some b3, blk (a0.C (some ⟨bT, 0, none⟩) (a0.extra.length + 9)).C 38) :: (some b1, blk cs0_ 38) :: (o.ents 25 ++ (B6 ++ ((some bT, blk (u8s (a0.extra ++ List.replicate 9 165#8)) 5) :: N)))) (fun w m => m.chunk [[(ob10, blk (u8s bb ++ r10) 5)], B10, (ob8, blk (u8s bb ++ r8) 5) :: (some b6, blk cr6 25) :: (some b4, blk o.cs 25) :: (some b3, blk (a0.C (some ⟨bT, 0, none⟩) (a0.extra.length + 9)).C 38) :: (some b1, blk cs0_ 38) :: (o.ents 25 ++ (B6 ++ ((some bT, blk (u8s (a0.extra ++ List.replicate 9 165#8)) 5) :: N)))] [0, 2] rfl (by simp) (by simp)) ?_
 refine Z0 (Z3 rfl) rfl (Z0 (Z17 rfl rfl) rfl (Z0 (Z17 rfl rfl) rfl (Z0 (Z5 rfl) rfl (Z0 (Z5 rfl) rfl (Z6 ?_)))))
 (refine Z1 ?_; refine Z4 ?_; refine Z4 ?_)
 have v8 : View (fun w => Mem w0 w [(ob10, blk (u8s bb ++ r10) 5), (ob8, blk (u8s bb ++ r8) 5)]) (ob8.map fun k => ⟨k, 0, none⟩) bb.length c8 1 (u8s bb) := o8.view (te := 5) (by decide) (fun w q => q.tail)
 have v10 : View (fun w => Mem w0 w [(ob10, blk (u8s bb ++ r10) 5), (ob8, blk (u8s bb ++ r8) 5)]) (ob10.map fun k => ⟨k, 0, none⟩) bb.length c10 1 (u8s bb) := o10.view (te := 5) (by decide) (fun w q => q.pick [0] 2 rfl rfl)
 have heq := equal_refl bb
 refine Z2 (Z0 (Z3 rfl) rfl ?_)
 refine Z12 Tryd.call12 rfl (Z127 w0 (fun _ => True) ((ob10, blk (u8s bb ++ r10) 5) :: (ob8, blk (u8s bb ++ r8) 5) :: (some b6, blk cr6 25) :: (some b4, blk o.cs 25) :: (some b3, blk (a0.C (some ⟨bT, 0, none⟩) (a0.extra.length + 9)).C 38) :: (some b1, blk cs0_ 38) :: (o.ents 25 ++ (B6 ++ ((some bT, blk (u8s (a0.extra ++ List.replicate 9 165#8)) 5) :: N)))) (fun _ _ => trivial) (a0.chk : Int) (a0.chk : Int) (by omega) rfl) rfl rfl ?_; rintro _ G1 ⟨_, rfl⟩; refine Z20 (M' := (ob10, blk (u8s bb ++ r10) 5) :: (ob8, blk (u8s bb ++ r8) 5) :: (some b6, blk cr6 25) :: (some b4, blk o.cs 25) :: (some b3, blk (a0.C (some ⟨bT, 0, none⟩) (a0.extra.length + 9)).C 38) :: (some b1, blk cs0_ 38) :: (o.ents 25 ++ (B6 ++ ((some bT, blk (u8s (a0.extra ++ List.replicate 9 165#8)) 5) :: N)))) (fun w m => m.appR) ?_
 refine Z0 (Z3 rfl) rfl (Z0 (RV.neq_f rfl rfl rfl) rfl (Z0 (Z3 rfl) rfl ?_))
 refine Z24 rfl ?_; refine Z0 (Z3 rfl) rfl ?_
 refine Z24 rfl ?_; refine Z0 (Z3 rfl) rfl ?_
 refine Z24 rfl ?_; refine Z12 Tryd.call14 rfl (Z140 w0 _ ((ob10, blk (u8s bb ++ r10) 5) :: (ob8, blk (u8s bb ++ r8) 5) :: (some b6, blk cr6 25) :: (some b4, blk o.cs 25) :: (some b3, blk (a0.C (some ⟨bT, 0, none⟩) (a0.extra.length + 9)).C 38) :: (some b1, blk cs0_ 38) :: (o.ents 25 ++ (B6 ++ ((some bT, blk (u8s (a0.extra ++ List.replicate 9 165#8)) 5) :: N)))) (fun w m => m.sublist (List.Sublist.cons_cons _ (List.Sublist.cons_cons _ (List.nil_sublist _)))) _ c8 bb _ c10 bb true v8 v10 heq) rfl rfl ?_; rintro _ G1 rfl; refine Z20 (M' := (ob10, blk (u8s bb ++ r10) 5) :: (ob8, blk (u8s bb ++ r8) 5) :: (some b6, blk cr6 25) :: (some b4, blk o.cs 25) :: (some b3, blk (a0.C (some ⟨bT, 0, none⟩) (a0.extra.length + 9)).C 38) :: (some b1, blk cs0_ 38) :: (o.ents 25 ++ (B6 ++ ((some bT, blk (u8s (a0.extra ++ List.replicate 9 165#8)) 5) :: N)))) (fun w m => m.appR) ?_
 refine Z24 rfl ?_; refine Z0 (RV.not rfl) rfl ?_
 refine Z0 (Z106 rfl rfl rfl) rfl (Z6 (Z1 (Z14 rfl rfl ?_)))
 have hdl : (u8s d.toList).length = 32 := (Z100 _).trans Zv
 (refine CW.skip ?_; refine Z1 ?_; refine Z4 ?_)
 refine Z2 (Z0 (Z22 rfl (List.Mem.tail _ (List.Mem.tail _ (List.Mem.tail _ (List.Mem.tail _ Zh)))) rfl rfl rfl rfl Z165) rfl ?_)
 refine Z12 Tryd.call26 rfl (header_Hash_does w0 _ ((ob10, blk (u8s bb ++ r10) 5) :: (ob8, blk (u8s bb ++ r8) 5) :: (some b6, blk cr6 25) :: (some b4, blk o.cs 25) :: (some b3, blk (a0.C (some ⟨bT, 0, none⟩) (a0.extra.length + 9)).C 38) :: (some b1, blk cs0_ 38) :: (o.ents 25 ++ (B6 ++ ((some bT, blk (u8s (a0.extra ++ List.replicate 9 165#8)) 5) :: N)))) (fun w m => hK1 w (m.drop 6)) _ a0 d a0.chk hT hg2 p5) rfl rfl ?_; rintro _ G1 ⟨_, rfl⟩; refine Z20 (M' := (ob10, blk (u8s bb ++ r10) 5) :: (ob8, blk (u8s bb ++ r8) 5) :: (some b6, blk cr6 25) :: (some b4, blk o.cs 25) :: (some b3, blk (a0.C (some ⟨bT, 0, none⟩) (a0.extra.length + 9)).C 38) :: (some b1, blk cs0_ 38) :: (o.ents 25 ++ (B6 ++ ((some bT, blk (u8s (a0.extra ++ List.replicate 9 165#8)) 5) :: N)))) (fun w m => m.appR) ?_
 refine Z0 (Z3 rfl) rfl (Z0 (Z17 rfl rfl) rfl (Z0 (Z17 rfl rfl) rfl (OW.alloc (l := u8s (List.replicate 32 0#8)) rfl (by rw [← Z133]; rfl) rfl (fun b12 => (Z28 (Z109 rfl rfl rfl (Z119 _) rfl ((Z100 _).trans (List.length_replicate ..)) (by assumption)) (Z0 (Z5 rfl) rfl (Z6 ?_)))))))
 (refine Z1 ?_; refine Z4 ?_)
 refine Z2 (Z0 (Z22 rfl (List.Mem.tail _ (List.Mem.tail _ (List.Mem.tail _ (List.Mem.tail _ (List.Mem.tail _ (List.Mem.tail _ Zh)))))) rfl rfl rfl rfl hlen) rfl ?_)
 refine Z12 Tryd.call27 rfl (waybillref19_Hash_does w0 _ ((some b12, blk (u8s d.toList) 28) :: (ob10, blk (u8s bb ++ r10) 5) :: (ob8, blk (u8s bb ++ r8) 5) :: (some b6, blk cr6 25) :: (some b4, blk o.cs 25) :: (some b3, blk (a0.C (some ⟨bT, 0, none⟩) (a0.extra.length + 9)).C 38) :: (some b1, blk cs0_ 38) :: (o.ents 25 ++ (B6 ++ ((some bT, blk (u8s (a0.extra ++ List.replicate 9 165#8)) 5) :: N)))) (fun w m => hK1 w (m.drop 7)) _ a0 d a0.chk hH hTn hRn p6) rfl rfl ?_; rintro _ G1 ⟨_, rfl⟩; refine Z20 (M' := (some b12, blk (u8s d.toList) 28) :: (ob10, blk (u8s bb ++ r10) 5) :: (ob8, blk (u8s bb ++ r8) 5) :: (some b6, blk cr6 25) :: (some b4, blk o.cs 25) :: (some b3, blk (a0.C (some ⟨bT, 0, none⟩) (a0.extra.length + 9)).C 38) :: (some b1, blk cs0_ 38) :: (o.ents 25 ++ (B6 ++ ((some bT, blk (u8s (a0.extra ++ List.replicate 9 165#8)) 5) :: N)))) (fun w m => m.appR) ?_
 refine Z0 (Z3 rfl) rfl (Z0 (Z17 rfl rfl) rfl (Z0 (Z17 rfl rfl) rfl (OW.alloc (l := u8s (List.replicate 32 0#8)) rfl (by rw [← Z133]; rfl) rfl (fun b14 => (Z28 (Z109 rfl rfl rfl (Z119 _) rfl ((Z100 _).trans (List.length_replicate ..)) (by assumption)) (Z0 (Z5 rfl) rfl (Z6 ?_)))))))
 (refine Z1 ?_; refine Z4 ?_; refine Z4 ?_)
 refine Z2 (Z0 (Z3 rfl) rfl ?_)
 refine Z12 Tryd.call12 rfl (Z127 w0 (fun _ => True) ((some b14, blk (u8s d.toList) 28) :: (some b12, blk (u8s d.toList) 28) :: (ob10, blk (u8s bb ++ r10) 5) :: (ob8, blk (u8s bb ++ r8) 5) :: (some b6, blk cr6 25) :: (some b4, blk o.cs 25) :: (some b3, blk (a0.C (some ⟨bT, 0, none⟩) (a0.extra.length + 9)).C 38) :: (some b1, blk cs0_ 38) :: (o.ents 25 ++ (B6 ++ ((some bT, blk (u8s (a0.extra ++ List.replicate 9 165#8)) 5) :: N)))) (fun _ _ => trivial) (a0.chk : Int) (a0.chk : Int) (by omega) rfl) rfl rfl ?_; rintro _ G1 ⟨_, rfl⟩; refine Z20 (M' := (some b14, blk (u8s d.toList) 28) :: (some b12, blk (u8s d.toList) 28) :: (ob10, blk (u8s bb ++ r10) 5) :: (ob8, blk (u8s bb ++ r8) 5) :: (some b6, blk cr6 25) :: (some b4, blk o.cs 25) :: (some b3, blk (a0.C (some ⟨bT, 0, none⟩) (a0.extra.length + 9)).C 38) :: (some b1, blk cs0_ 38) :: (o.ents 25 ++ (B6 ++ ((some bT, blk (u8s (a0.extra ++ List.replicate 9 165#8)) 5) :: N)))) (fun w m => m.appR) ?_
 refine Z0 (Z3 rfl) rfl (Z0 (RV.neq_f rfl rfl rfl) rfl (Z0 (Z3 rfl) rfl ?_))
 refine Z24 rfl ?_; refine Z0 (Z22 rfl (List.Mem.tail _ Zh) rfl rfl rfl rfl hdl) rfl ?_
 refine Z24 rfl ?_; refine Z0 (Z22 rfl Zh rfl rfl rfl rfl hdl) rfl ?_
 refine Z24 rfl ?_; refine Z0 (RV.neA8_f rfl rfl rfl rfl rfl rfl (Zv) rfl) rfl ?_
 refine Z0 (Z106 rfl rfl rfl) rfl (Z6 (Z1 (Z14 rfl rfl (CW.mem (M' := (ob10, blk (u8s bb ++ r10) 5) :: (ob8, blk (u8s bb ++ r8) 5) :: (some b6, blk cr6 25) :: (some b4, blk o.cs 25) :: (some b3, blk (a0.C (some ⟨bT, 0, none⟩) (a0.extra.length + 9)).C 38) :: (some b1, blk cs0_ 38) :: (o.ents 25 ++ (B6 ++ ((some bT, blk (u8s (a0.extra ++ List.replicate 9 165#8)) 5) :: N)))) (fun w m => m.drop 2) ?_))))
 have hz0 : Hdr.zero.chk = 0 := by decide
 (refine CW.skip ?_; refine Z1 ?_; refine Z4 ?_)
 refine Z2 (Z0 (Z112 (l := (Hdr.zero.C none 0).C) (cs := (Hdr.zero.C none 0).C) [] rfl rfl rfl zhdr_cells rfl rfl rfl) rfl ?_)
 refine Z12 Tryd.call24 rfl (Z163 w0 (fun _ => True) ((ob10, blk (u8s bb ++ r10) 5) :: (ob8, blk (u8s bb ++ r8) 5) :: (some b6, blk cr6 25) :: (some b4, blk o.cs 25) :: (some b3, blk (a0.C (some ⟨bT, 0, none⟩) (a0.extra.length + 9)).C 38) :: (some b1, blk cs0_ 38) :: (o.ents 25 ++ (B6 ++ ((some bT, blk (u8s (a0.extra ++ List.replicate 9 165#8)) 5) :: N)))) (fun _ _ => trivial) (Hdr.zero.C none 0).C Hdr.zero _ 0 ⟨none, 0, rfl, View.nil, by decide, by decide⟩ (hencode_ok hz0)) rfl rfl ?_; rintro _ G1 _; refine Z20 (M' := (ob10, blk (u8s bb ++ r10) 5) :: (ob8, blk (u8s bb ++ r8) 5) :: (some b6, blk cr6 25) :: (some b4, blk o.cs 25) :: (some b3, blk (a0.C (some ⟨bT, 0, none⟩) (a0.extra.length + 9)).C 38) :: (some b1, blk cs0_ 38) :: (o.ents 25 ++ (B6 ++ ((some bT, blk (u8s (a0.extra ++ List.replicate 9 165#8)) 5) :: N)))) (fun w m => m.appR) ?_
 refine Z6 ?_
 (refine Z1 ?_; refine Z4 ?_)
 refine Z2 (Z0 (Z22 rfl (List.Mem.tail _ (List.Mem.tail _ (List.Mem.tail _ (List.Mem.tail _ Zh)))) rfl rfl rfl rfl Z165) rfl ?_)
 refine Z12 Tryd.call22 rfl (header_Item_does w0 _ ((ob10, blk (u8s bb ++ r10) 5) :: (ob8, blk (u8s bb ++ r8) 5) :: (some b6, blk cr6 25) :: (some b4, blk o.cs 25) :: (some b3, blk (a0.C (some ⟨bT, 0, none⟩) (a0.extra.length + 9)).C 38) :: (some b1, blk cs0_ 38) :: (o.ents 25 ++ (B6 ++ ((some bT, blk (u8s (a0.extra ++ List.replicate 9 165#8)) 5) :: N)))) (fun w m => hK1 w (m.drop 6)) _ a0 o.it a0.chk hT p1) rfl rfl ?_; rintro _ B16 ⟨_, cr16, hcr16, _, rfl, rfl⟩; have hcl16 := ItRd.len _ _ hcr16; refine Z20 (M' := (ob10, blk (u8s bb ++ r10) 5) :: (ob8, blk (u8s bb ++ r8) 5) :: (some b6, blk cr6 25) :: (some b4, blk o.cs 25) :: (some b3, blk (a0.C (some ⟨bT, 0, none⟩) (a0.extra.length + 9)).C 38) :: (some b1, blk cs0_ 38) :: (o.ents 25 ++ (B16 ++ (B6 ++ ((some bT, blk (u8s (a0.extra ++ List.replicate 9 165#8)) 5) :: N))))) (fun w m => m.chunk [B16, (ob10, blk (u8s bb ++ r10) 5) :: (ob8, blk (u8s bb ++ r8) 5) :: (some b6, blk cr6 25) :: (some b4, blk o.cs 25) :: (some b3, blk (a0.C (some ⟨bT, 0, none⟩) (a0.extra.length + 9)).C 38) :: [(some b1, blk cs0_ 38)], o.ents 25, B6 ++ ((some bT, blk (u8s (a0.extra ++ List.replicate 9 165#8)) 5) :: N)] [1, 2, 0, 3] rfl (by simp) (by simp)) ?_
 refine Z0 (Z3 rfl) rfl (Z0 (Z17 rfl rfl) rfl (Z0 (Z17 rfl rfl) rfl (OW.alloc (l := [.bool false, nsl, nsl]) rfl rfl rfl (fun b16 => (Z28 (Z109 rfl rfl rfl (ItRd.one _ _ hcr16) rfl rfl hcl16) (Z0 (Z5 rfl) rfl (Z6 ?_)))))))
 (refine Z1 ?_; refine Z4 ?_)
 have hK2 : ∀ w, Mem w0 w (o.ents 25 ++ (B16 ++ (B6 ++ ((some bT, blk (u8s (a0.extra ++ List.replicate 9 165#8)) 5) :: N)))) → More w0 Φ [(some bT, blk (u8s (a0.extra ++ List.replicate 9 165#8)) 5)] w := fun w m => hN1 w m.appR.appR.appR
 refine Z2 (Z0 (Z22 rfl (List.Mem.tail _ (List.Mem.tail _ (List.Mem.tail _ (List.Mem.tail _ (List.Mem.tail _ Zh))))) rfl rfl rfl rfl Z165) rfl ?_)
 refine Z12 Tryd.call24 rfl (Z163 w0 _ ((some b16, blk cr16 25) :: (ob10, blk (u8s bb ++ r10) 5) :: (ob8, blk (u8s bb ++ r8) 5) :: (some b6, blk cr6 25) :: (some b4, blk o.cs 25) :: (some b3, blk (a0.C (some ⟨bT, 0, none⟩) (a0.extra.length + 9)).C 38) :: (some b1, blk cs0_ 38) :: (o.ents 25 ++ (B16 ++ (B6 ++ ((some bT, blk (u8s (a0.extra ++ List.replicate 9 165#8)) 5) :: N))))) (fun w m => hK2 w (m.drop 7)) _ a0 bb a0.chk hT p3) rfl rfl ?_; rintro _ _ ⟨B18, ob18, c18, r18, o18, _, rfl, rfl⟩; refine Z20 (M' := (ob18, blk (u8s bb ++ r18) 5) :: (some b16, blk cr16 25) :: (ob10, blk (u8s bb ++ r10) 5) :: (ob8, blk (u8s bb ++ r8) 5) :: (some b6, blk cr6 25) :: (some b4, blk o.cs 25) :: (some b3, blk (a0.C (some ⟨bT, 0, none⟩) (a0.extra.length + 9)).C 38) :: (some b1, blk cs0_ 38) :: (o.ents 25 ++ (B16 ++ (B6 ++ ((some bT, blk (u8s (a0.extra ++ List.replicate 9 165#8)) 5) :: N))))) (fun w m => m.chunk [[(ob18, blk (u8s bb ++ r18) 5)], B18, (some b16, blk cr16 25) :: (ob10, blk (u8s bb ++ r10) 5) :: (ob8, blk (u8s bb ++ r8) 5) :: (some b6, blk cr6 25) :: (some b4, blk o.cs 25) :: (some b3, blk (a0.C (some ⟨bT, 0, none⟩) (a0.extra.length + 9)).C 38) :: (some b1, blk cs0_ 38) :: (o.ents 25 ++ (B16 ++ (B6 ++ ((some bT, blk (u8s (a0.extra ++ List.replicate 9 165#8)) 5) :: N))))] [0, 2] rfl (by simp) (by simp)) ?_
 refine Z0 (Z3 rfl) rfl (Z0 (Z17 rfl rfl) rfl (Z0 (Z17 rfl rfl) rfl (Z0 (Z5 rfl) rfl (Z0 (Z5 rfl) rfl (Z6 ?_)))))
 (refine Z1 ?_; refine Z4 ?_; refine Z4 ?_)
 have v18 : View (fun w => Mem w0 w [(ob18, blk (u8s bb ++ r18) 5), (ob10, blk (u8s bb ++ r10) 5)]) (ob18.map fun k => ⟨k, 0, none⟩) bb.length c18 1 (u8s bb) := o18.view (te := 5) (by decide) (fun w q => q.pick [0] 2 rfl rfl)
 have v10' : View (fun w => Mem w0 w [(ob18, blk (u8s bb ++ r18) 5), (ob10, blk (u8s bb ++ r10) 5)]) (ob10.map fun k => ⟨k, 0, none⟩) bb.length c10 1 (u8s bb) := o10.view (te := 5) (by decide) (fun w q => q.tail)
 have hoR2 : ItRd (fun w => More w0 Φ [(some bT, blk (u8s (a0.extra ++ List.replicate 9 165#8)) 5)] w ∧ Mem w0 w (o.ents 25 ++ (B16 ++ B6))) o.cs o.it := Ow.rd (w0 := w0) (t := 25) o hok (fun w q => q.2.appL)
 have hcR2 : ItRd (fun w => More w0 Φ [(some bT, blk (u8s (a0.extra ++ List.replicate 9 165#8)) 5)] w ∧ Mem w0 w (o.ents 25 ++ (B16 ++ B6))) cr6 o.it := ItRd.mono (fun w q => ⟨q.1, q.2.appR.appR⟩) _ _ hcr6
 have haR2 : ItRd (fun w => More w0 Φ [(some bT, blk (u8s (a0.extra ++ List.replicate 9 165#8)) 5)] w ∧ Mem w0 w (o.ents 25 ++ (B16 ++ B6))) cr16 o.it := ItRd.mono (fun w q => ⟨q.1, q.2.appR.appL⟩) _ _ hcr16
 have hKS2 : ∀ w, Mem w0 w (o.ents 25 ++ (B16 ++ (B6 ++ ((some bT, blk (u8s (a0.extra ++ List.replicate 9 165#8)) 5) :: N)))) → (More w0 Φ [(some bT, blk (u8s (a0.extra ++ List.replicate 9 165#8)) 5)] w ∧ Mem w0 w (o.ents 25 ++ (B16 ++ B6))) := fun w m => ⟨hK2 w m, m.chunk [o.ents 25, B16, B6, (some bT, blk (u8s (a0.extra ++ List.replicate 9 165#8)) 5) :: N] [0, 1, 2] rfl (by simp) (by simp)⟩
 refine Z2 (Z0 (Z3 rfl) rfl ?_)
 refine Z12 Tryd.call12 rfl (Z127 w0 (fun _ => True) ((ob18, blk (u8s bb ++ r18) 5) :: (some b16, blk cr16 25) :: (ob10, blk (u8s bb ++ r10) 5) :: (ob8, blk (u8s bb ++ r8) 5) :: (some b6, blk cr6 25) :: (some b4, blk o.cs 25) :: (some b3, blk (a0.C (some ⟨bT, 0, none⟩) (a0.extra.length + 9)).C 38) :: (some b1, blk cs0_ 38) :: (o.ents 25 ++ (B16 ++ (B6 ++ ((some bT, blk (u8s (a0.extra ++ List.replicate 9 165#8)) 5) :: N))))) (fun _ _ => trivial) (a0.chk : Int) (a0.chk : Int) (by omega) rfl) rfl rfl ?_; rintro _ G1 ⟨_, rfl⟩; refine Z20 (M' := (ob18, blk (u8s bb ++ r18) 5) :: (some b16, blk cr16 25) :: (ob10, blk (u8s bb ++ r10) 5) :: (ob8, blk (u8s bb ++ r8) 5) :: (some b6, blk cr6 25) :: (some b4, blk o.cs 25) :: (some b3, blk (a0.C (some ⟨bT, 0, none⟩) (a0.extra.length + 9)).C 38) :: (some b1, blk cs0_ 38) :: (o.ents 25 ++ (B16 ++ (B6 ++ ((some bT, blk (u8s (a0.extra ++ List.replicate 9 165#8)) 5) :: N))))) (fun w m => m.appR) ?_
 refine Z0 (Z3 rfl) rfl (Z0 (RV.neq_f rfl rfl rfl) rfl (Z0 (Z3 rfl) rfl ?_))
 refine Z24 rfl ?_; refine Z0 (Z3 rfl) rfl ?_
 refine Z24 rfl ?_; refine Z12 Tryd.call12 rfl (Z127 w0 (fun _ => True) ((ob18, blk (u8s bb ++ r18) 5) :: (some b16, blk cr16 25) :: (ob10, blk (u8s bb ++ r10) 5) :: (ob8, blk (u8s bb ++ r8) 5) :: (some b6, blk cr6 25) :: (some b4, blk o.cs 25) :: (some b3, blk (a0.C (some ⟨bT, 0, none⟩) (a0.extra.length + 9)).C 38) :: (some b1, blk cs0_ 38) :: (o.ents 25 ++ (B16 ++ (B6 ++ ((some bT, blk (u8s (a0.extra ++ List.replicate 9 165#8)) 5) :: N))))) (fun _ _ => trivial) (a0.chk : Int) (a0.chk : Int) (by omega) rfl) rfl rfl ?_; rintro _ G1 ⟨_, rfl⟩; refine Z20 (M' := (ob18, blk (u8s bb ++ r18) 5) :: (some b16, blk cr16 25) :: (ob10, blk (u8s bb ++ r10) 5) :: (ob8, blk (u8s bb ++ r8) 5) :: (some b6, blk cr6 25) :: (some b4, blk o.cs 25) :: (some b3, blk (a0.C (some ⟨bT, 0, none⟩) (a0.extra.length + 9)).C 38) :: (some b1, blk cs0_ 38) :: (o.ents 25 ++ (B16 ++ (B6 ++ ((some bT, blk (u8s (a0.extra ++ List.replicate 9 165#8)) 5) :: N))))) (fun w m => m.appR) ?_
 refine Z24 rfl ?_; refine Z0 (Z3 rfl) rfl ?_
 refine Z24 rfl ?_; refine Z0 (RV.neq_f rfl rfl rfl) rfl ?_
 refine Z0 (Z106 rfl rfl rfl) rfl (Z0 (Z3 rfl) rfl ?_)
 refine Z24 rfl ?_; refine Z0 (Z22 rfl (List.Mem.tail _ Zh) rfl rfl rfl rfl hcl16) rfl ?_
 refine Z24 rfl ?_; refine Z0 (Z22 rfl (List.Mem.tail _ (List.Mem.tail _ (List.Mem.tail _ (List.Mem.tail _ Zh)))) rfl rfl rfl rfl hcl6) rfl ?_
 refine Z24 rfl ?_; refine Z12 Tryd.call18 rfl (Z141 w0 _ ((ob18, blk (u8s bb ++ r18) 5) :: (some b16, blk cr16 25) :: (ob10, blk (u8s bb ++ r10) 5) :: (ob8, blk (u8s bb ++ r8) 5) :: (some b6, blk cr6 25) :: (some b4, blk o.cs 25) :: (some b3, blk (a0.C (some ⟨bT, 0, none⟩) (a0.extra.length + 9)).C 38) :: (some b1, blk cs0_ 38) :: (o.ents 25 ++ (B16 ++ (B6 ++ ((some bT, blk (u8s (a0.extra ++ List.replicate 9 165#8)) 5) :: N))))) (fun w m => hKS2 w (m.drop 8)) _ o.it _ o.it true haR2 hcR2 hsm) rfl rfl ?_; rintro _ G1 rfl; refine Z20 (M' := (ob18, blk (u8s bb ++ r18) 5) :: (some b16, blk cr16 25) :: (ob10, blk (u8s bb ++ r10) 5) :: (ob8, blk (u8s bb ++ r8) 5) :: (some b6, blk cr6 25) :: (some b4, blk o.cs 25) :: (some b3, blk (a0.C (some ⟨bT, 0, none⟩) (a0.extra.length + 9)).C 38) :: (some b1, blk cs0_ 38) :: (o.ents 25 ++ (B16 ++ (B6 ++ ((some bT, blk (u8s (a0.extra ++ List.replicate 9 165#8)) 5) :: N))))) (fun w m => m.appR) ?_
 refine Z24 rfl ?_; refine Z0 (RV.not rfl) rfl ?_
 refine Z0 (Z106 rfl rfl rfl) rfl (Z0 (Z3 rfl) rfl ?_)
 refine Z24 rfl ?_; refine Z0 (Z22 rfl (List.Mem.tail _ (List.Mem.tail _ (List.Mem.tail _ (List.Mem.tail _ (List.Mem.tail _ Zh))))) rfl rfl rfl rfl o.cs_length) rfl ?_
 refine Z24 rfl ?_; refine Z0 (Z22 rfl (List.Mem.tail _ (List.Mem.tail _ (List.Mem.tail _ (List.Mem.tail _ Zh)))) rfl rfl rfl rfl hcl6) rfl ?_
 refine Z24 rfl ?_; refine Z12 Tryd.call18 rfl (Z141 w0 _ ((ob18, blk (u8s bb ++ r18) 5) :: (some b16, blk cr16 25) :: (ob10, blk (u8s bb ++ r10) 5) :: (ob8, blk (u8s bb ++ r8) 5) :: (some b6, blk cr6 25) :: (some b4, blk o.cs 25) :: (some b3, blk (a0.C (some ⟨bT, 0, none⟩) (a0.extra.length + 9)).C 38) :: (some b1, blk cs0_ 38) :: (o.ents 25 ++ (B16 ++ (B6 ++ ((some bT, blk (u8s (a0.extra ++ List.replicate 9 165#8)) 5) :: N))))) (fun w m => hKS2 w (m.drop 8)) _ o.it _ o.it true hoR2 hcR2 hsm) rfl rfl ?_; rintro _ G1 rfl; refine Z20 (M' := (ob18, blk (u8s bb ++ r18) 5) :: (some b16, blk cr16 25) :: (ob10, blk (u8s bb ++ r10) 5) :: (ob8, blk (u8s bb ++ r8) 5) :: (some b6, blk cr6 25) :: (some b4, blk o.cs 25) :: (some b3, blk (a0.C (some ⟨bT, 0, none⟩) (a0.extra.length + 9)).C 38) :: (some b1, blk cs0_ 38) :: (o.ents 25 ++ (B16 ++ (B6 ++ ((some bT, blk (u8s (a0.extra ++ List.replicate 9 165#8)) 5) :: N))))) (fun w m => m.appR) ?_
 refine Z24 rfl ?_; refine Z0 (RV.not rfl) rfl ?_
 refine Z0 (Z106 rfl rfl rfl) rfl (Z0 (Z3 rfl) rfl ?_)
 refine Z24 rfl ?_; refine Z0 (Z3 rfl) rfl ?_
 refine Z24 rfl ?_; refine Z0 (Z3 rfl) rfl ?_
 refine Z24 rfl ?_; refine Z12 Tryd.call14 rfl (Z140 w0 _ ((ob18, blk (u8s bb ++ r18) 5) :: (some b16, blk cr16 25) :: (ob10, blk (u8s bb ++ r10) 5) :: (ob8, blk (u8s bb ++ r8) 5) :: (some b6, blk cr6 25) :: (some b4, blk o.cs 25) :: (some b3, blk (a0.C (some ⟨bT, 0, none⟩) (a0.extra.length + 9)).C 38) :: (some b1, blk cs0_ 38) :: (o.ents 25 ++ (B16 ++ (B6 ++ ((some bT, blk (u8s (a0.extra ++ List.replicate 9 165#8)) 5) :: N))))) (fun w m => (m.pick [0, 2] 3 rfl rfl : Mem w0 w ((ob18, blk (u8s bb ++ r18) 5) :: (ob10, blk (u8s bb ++ r10) 5) :: ((ob8, blk (u8s bb ++ r8) 5) :: (some b6, blk cr6 25) :: (some b4, blk o.cs 25) :: (some b3, blk (a0.C (some ⟨bT, 0, none⟩) (a0.extra.length + 9)).C 38) :: (some b1, blk cs0_ 38) :: (o.ents 25 ++ (B16 ++ (B6 ++ ((some bT, blk (u8s (a0.extra ++ List.replicate 9 165#8)) 5) :: N))))))).sublist (List.Sublist.cons_cons _ (List.Sublist.cons_cons _ (List.nil_sublist _)))) _ c18 bb _ c10 bb true v18 v10' heq) rfl rfl ?_; rintro _ G1 rfl; refine Z20 (M' := (ob18, blk (u8s bb ++ r18) 5) :: (some b16, blk cr16 25) :: (ob10, blk (u8s bb ++ r10) 5) :: (ob8, blk (u8s bb ++ r8) 5) :: (some b6, blk cr6 25) :: (some b4, blk o.cs 25) :: (some b3, blk (a0.C (some ⟨bT, 0, none⟩) (a0.extra.length + 9)).C 38) :: (some b1, blk cs0_ 38) :: (o.ents 25 ++ (B16 ++ (B6 ++ ((some bT, blk (u8s (a0.extra ++ List.replicate 9 165#8)) 5) :: N))))) (fun w m => m.appR) ?_
 refine Z24 rfl ?_; refine Z0 (RV.not rfl) rfl ?_
 refine Z0 (Z106 rfl rfl rfl) rfl (Z0 (Z3 rfl) rfl ?_)
 refine Z24 rfl ?_; refine Z0 (Z3 rfl) rfl ?_
 refine Z24 rfl ?_; refine Z0 (Z3 rfl) rfl ?_
 refine Z24 rfl ?_; refine Z12 Tryd.call14 rfl (Z140 w0 _ ((ob18, blk (u8s bb ++ r18) 5) :: (some b16, blk cr16 25) :: (ob10, blk (u8s bb ++ r10) 5) :: (ob8, blk (u8s bb ++ r8) 5) :: (some b6, blk cr6 25) :: (some b4, blk o.cs 25) :: (some b3, blk (a0.C (some ⟨bT, 0, none⟩) (a0.extra.length + 9)).C 38) :: (some b1, blk cs0_ 38) :: (o.ents 25 ++ (B16 ++ (B6 ++ ((some bT, blk (u8s (a0.extra ++ List.replicate 9 165#8)) 5) :: N))))) (fun w m => (m.pick [2, 3] 4 rfl rfl : Mem w0 w ((ob10, blk (u8s bb ++ r10) 5) :: (ob8, blk (u8s bb ++ r8) 5) :: ((some b6, blk cr6 25) :: (some b4, blk o.cs 25) :: (some b3, blk (a0.C (some ⟨bT, 0, none⟩) (a0.extra.length + 9)).C 38) :: (some b1, blk cs0_ 38) :: (o.ents 25 ++ (B16 ++ (B6 ++ ((some bT, blk (u8s (a0.extra ++ List.replicate 9 165#8)) 5) :: N))))))).sublist (List.Sublist.cons_cons _ (List.Sublist.cons_cons _ (List.nil_sublist _)))) _ c8 bb _ c10 bb true v8 v10 heq) rfl rfl ?_; rintro _ G1 rfl; refine Z20 (M' := (ob18, blk (u8s bb ++ r18) 5) :: (some b16, blk cr16 25) :: (ob10, blk (u8s bb ++ r10) 5) :: (ob8, blk (u8s bb ++ r8) 5) :: (some b6, blk cr6 25) :: (some b4, blk o.cs 25) :: (some b3, blk (a0.C (some ⟨bT, 0, none⟩) (a0.extra.length + 9)).C 38) :: (some b1, blk cs0_ 38) :: (o.ents 25 ++ (B16 ++ (B6 ++ ((some bT, blk (u8s (a0.extra ++ List.replicate 9 165#8)) 5) :: N))))) (fun w m => m.appR) ?_
 refine Z24 rfl ?_; refine Z0 (RV.not rfl) rfl ?_
 refine Z0 (Z106 rfl rfl rfl) rfl (Z6 (Z1 (Z14 rfl rfl ?_)))
 (refine CW.skip ?_; refine Z1 ?_; refine Z4 ?_; refine Z4 ?_)
 refine Z2 (Z0 (Z5 rfl) rfl (Z6 (Z1 ?_)))
 cases o with
 | mk lO obO dO rO cO oiO ciO riO its =>
 rw [Ow.Ok] at hok
 obtain ⟨hO1, hO2, hO3⟩ := hok
 have hvi := hO2.view (te := 25) (w0 := w0) (Ψ := fun w => Mem w0 w [(oiO, blk (Ows.cs its ++ riO) 25)]) (by decide) (fun w q => q)
 refine CW.block (Z121 (fun k L' M' => ∃ (p : Nat) (its' : List Ow), k = its.length - p ∧ p ≤ its.length ∧ Ows.cs its' = Ows.cs its ∧ Ows.Ok its' ∧ L' = [(1, ptr (some b1) 0), (3, ptr (some b3) 0), (4, ptr (some b4) 0), (6, ptr (some b6) 0), (8, sl ob8 0 bb.length c8), (10, sl ob10 0 bb.length c10), (16, ptr (some b16) 0), (18, sl ob18 0 bb.length c18), (20, .int .i64 (p : Int))] ∧ M' = (ob18, blk (u8s bb ++ r18) 5) :: (some b16, blk cr16 25) :: (ob10, blk (u8s bb ++ r10) 5) :: (ob8, blk (u8s bb ++ r8) 5) :: (some b6, blk cr6 25) :: (some b4, blk (Ow.cs (Ow.mk lO obO dO rO cO oiO ciO riO its)) 25) :: (some b3, blk (a0.C (some ⟨bT, 0, none⟩) (a0.extra.length + 9)).C 38) :: (some b1, blk cs0_ 38) :: (obO, blk (u8s dO ++ rO) 5) :: (oiO, blk (Ows.cs its ++ riO) 25) :: (Ows.ents 25 its' ++ (B16 ++ (B6 ++ ((some bT, blk (u8s (a0.extra ++ List.replicate 9 165#8)) 5) :: N))))) (k0 := its.length) ⟨0, its, rfl, by omega, rfl, hO3, rfl, rfl⟩ ⟨rfl, rfl, rfl, rfl, rfl, rfl, rfl, rfl, rfl, trivial⟩ (fun w m => by simpa only [Ow.ents, List.cons_append] using m) ?_)
 rintro k L' M' ⟨p, its', rfl, hp, hcs, hok', rfl, rfl⟩
 have hmi := hO2.mx
 have hlen' : its'.length = its.length := by have h1 := Ows.cs_length its'; have h2 := Ows.cs_length its; rw [hcs] at h1; omega
 (refine Z4 ?_; refine Z4 ?_)
 refine Z2 (Z0 (Z3 rfl) rfl (Z0 (Z30 rfl rfl rfl rfl) rfl (Z0 (Z29 rfl (List.Mem.tail _ (List.Mem.tail _ (List.Mem.tail _ (List.Mem.tail _ (List.Mem.tail _ Zh))))) rfl rfl rfl rfl) rfl (Z0 (RV.len rfl rfl) rfl (Z0 (RV.lss rfl rfl) rfl (Z6 (Z1 ?_)))))))
 by_cases hlt : p < its.length
 ·refine Z13 rfl (decide_eq_true (by omega)) ?_
  (refine CW.skip ?_; refine Z1 ?_; refine Z4 ?_; refine CW.block ?_; refine Z4 ?_)
  refine Z2 (Z0 (Z5 rfl) rfl (Z6 ?_))
  (refine Z1 ?_; refine CW.block ?_)
  obtain ⟨xx, hxx⟩ : ∃ x, its'[p]? = some x := ⟨_, List.getElem?_eq_getElem (by omega)⟩
  cases xx with
  | mk lx xob xd xr xc xoi xci xri xits =>
  refine Z121 (fun k L' M' => ∃ (q : Nat) (its2 : List Ow), k = xd.length - q ∧ q ≤ xd.length ∧ Ows.cs its2 = Ows.cs its ∧ Ows.Ok its2 ∧ (∃ lx xob xd2 xr xc xoi xci xri xits, its2[p]? = some (Ow.mk lx xob xd2 xr xc xoi xci xri xits) ∧ xd2.length = xd.length) ∧ L' = [(1, ptr (some b1) 0), (3, ptr (some b3) 0), (4, ptr (some b4) 0), (6, ptr (some b6) 0), (8, sl ob8 0 bb.length c8), (10, sl ob10 0 bb.length c10), (16, ptr (some b16) 0), (18, sl ob18 0 bb.length c18), (20, .int .i64 (p : Int)), (21, .int .i64 (q : Int))] ∧ M' = (ob18, blk (u8s bb ++ r18) 5) :: (some b16, blk cr16 25) :: (ob10, blk (u8s bb ++ r10) 5) :: (ob8, blk (u8s bb ++ r8) 5) :: (some b6, blk cr6 25) :: (some b4, blk (Ow.cs (Ow.mk lO obO dO rO cO oiO ciO riO its)) 25) :: (some b3, blk (a0.C (some ⟨bT, 0, none⟩) (a0.extra.length + 9)).C 38) :: (some b1, blk cs0_ 38) :: (obO, blk (u8s dO ++ rO) 5) :: (oiO, blk (Ows.cs its ++ riO) 25) :: (Ows.ents 25 its2 ++ (B16 ++ (B6 ++ ((some bT, blk (u8s (a0.extra ++ List.replicate 9 165#8)) 5) :: N))))) (k0 := xd.length) ⟨0, its', rfl, by omega, hcs, hok', ⟨_, _, _, _, _, _, _, _, _, hxx, rfl⟩, rfl, rfl⟩ ⟨rfl, rfl, rfl, rfl, rfl, rfl, rfl, rfl, rfl, rfl, trivial⟩ (fun w m => m) ?_
  rintro k L' M' ⟨q, its2, rfl, hq, hcs2, hok2, ⟨lx2, xob2, xd2, xr2, xc2, xoi2, xci2, xri2, xits2, hx2, hl2⟩, rfl, rfl⟩
  have hat := Ows.cs_at hx2
  rw [hcs2] at hat
  (refine Z4 ?_; refine Z4 ?_)
  refine Z2 (Z0 (Z3 rfl) rfl (Z0 (Z30 rfl rfl rfl rfl) rfl (Z0 (Z29 rfl (List.Mem.tail _ (List.Mem.tail _ (List.Mem.tail _ (List.Mem.tail _ (List.Mem.tail _ Zh))))) rfl rfl rfl rfl) rfl (Z0 (Z3 rfl) rfl (Z0 (Z157 p rfl rfl rfl rfl rfl (hvi.isSome (by decide) hlt) (by omega)) rfl (Z0 (Z31 rfl rfl rfl rfl) rfl (Z0 (Z21 rfl rfl rfl (fun w m => hvi.load_fld ((m.drop 9).sublist (List.singleton_sublist.2 (List.mem_cons_self ..))) hat (v := sl xob2 0 xd2.length xc2) rfl)) rfl ?_)))))))
  refine Z0 (RV.len rfl rfl) rfl (Z0 (RV.lss rfl rfl) rfl (Z6 (Z1 ?_)))
  by_cases hlt2 : q < xd.length
  ·refine Z13 rfl (decide_eq_true (by omega)) ?_
   obtain ⟨A3, B3, w1, w2⟩ := Ows.write 25 hx2
   have hox2 : OwnS xob2 xd2.length xc2 1 (u8s xd2) xr2 := by
    have : ∀ {l : List Ow} {p : Nat} {x : Ow}, Ows.Ok l → l[p]? = some x → x.Ok := by
     intro l
     induction l with
     | nil => intro p x _ h; simp at h
     | cons a r ih =>
      intro p x h1 h2
      rw [Ows.Ok] at h1
      rcases p with _ | p
      ·obtain rfl := Zi h2; exact h1.1
      ·exact ih h1.2 (by simpa using h2)
    have h3 := this hok2 hx2
    rw [Ow.Ok] at h3
    exact h3.1
   have hsome := hox2.some_of (by decide) (i := q) (by omega)
   have hmx2 := hox2.mx
   obtain ⟨w3, w4, w5⟩ := w2 (xd2.set q 7#8) (by rw [List.length_set])
   (refine CW.skip ?_; refine Z1 ?_; refine Z4 ?_; refine CW.block ?_)
   refine Z2 (Z0 (Z30 rfl rfl rfl rfl) rfl (Z0 (Z29 rfl (List.Mem.tail _ (List.Mem.tail _ (List.Mem.tail _ (List.Mem.tail _ (List.Mem.tail _ Zh))))) rfl rfl rfl rfl) rfl (Z0 (Z3 rfl) rfl (Z0 (Z157 p rfl rfl rfl rfl rfl (hvi.isSome (by decide) hlt) (by omega)) rfl (Z0 (Z31 rfl rfl rfl rfl) rfl (Z0 (Z21 rfl rfl rfl (fun w m => hvi.load_fld ((m.drop 9).sublist (List.singleton_sublist.2 (List.mem_cons_self ..))) hat (v := sl xob2 0 xd2.length xc2) rfl)) rfl (Z0 (Z3 rfl) rfl ?_)))))))
   refine Z0 (RV.idx_o q rfl rfl rfl rfl rfl hsome (by omega)) rfl ?_
   refine Z20 (M' := (xob2, blk (u8s xd2 ++ xr2) 5) :: (ob18, blk (u8s bb ++ r18) 5) :: (some b16, blk cr16 25) :: (ob10, blk (u8s bb ++ r10) 5) :: (ob8, blk (u8s bb ++ r8) 5) :: (some b6, blk cr6 25) :: (some b4, blk (Ow.cs (Ow.mk lO obO dO rO cO oiO ciO riO its)) 25) :: (some b3, blk (a0.C (some ⟨bT, 0, none⟩) (a0.extra.length + 9)).C 38) :: (some b1, blk cs0_ 38) :: (obO, blk (u8s dO ++ rO) 5) :: (oiO, blk (Ows.cs its ++ riO) 25) :: (A3 ++ (B3 ++ (B16 ++ (B6 ++ ((some bT, blk (u8s (a0.extra ++ List.replicate 9 165#8)) 5) :: N)))))) (fun w m => by rw [w1] at m; exact m.chunk [(ob18, blk (u8s bb ++ r18) 5) :: (some b16, blk cr16 25) :: (ob10, blk (u8s bb ++ r10) 5) :: (ob8, blk (u8s bb ++ r8) 5) :: (some b6, blk cr6 25) :: (some b4, blk (Ow.cs (Ow.mk lO obO dO rO cO oiO ciO riO its)) 25) :: (some b3, blk (a0.C (some ⟨bT, 0, none⟩) (a0.extra.length + 9)).C 38) :: (some b1, blk cs0_ 38) :: (obO, blk (u8s dO ++ rO) 5) :: [(oiO, blk (Ows.cs its ++ riO) 25)], A3, [(xob2, blk (u8s xd2 ++ xr2) 5)], B3, (B16 ++ (B6 ++ ((some bT, blk (u8s (a0.extra ++ List.replicate 9 165#8)) 5) :: N)))] [2, 0, 1, 3, 4] rfl (by simp) (by simp)) ?_; refine Z28 (SV.store rfl hsome rfl rfl rfl (by rw [List.length_append, Z100]; omega)) ?_; refine OW.cells (u8s (xd2.set q 7#8) ++ xr2) (by rw [Nat.zero_add]; exact u8s_set_app xd2 xr2 (by omega) 7#8) ?_
   refine Z6 ?_
   (refine Z27 ?_; refine Z1 ?_)
   refine Z2 (Z0 (Z3 rfl) rfl (Z0 (RV.add rfl rfl (by omega)) rfl (Z0 (Z5 rfl) rfl (Z6 ?_))))
   refine Z114 (k' := xd.length - (q + 1)) (by omega) ⟨q + 1, _, rfl, by omega, w4.trans hcs2, w5 hok2, ⟨_, _, _, _, _, _, _, _, _, List.getElem?_set_self (by have := (List.getElem?_eq_some_iff.1 hx2).1; omega), by rw [List.length_set]; exact hl2⟩, rfl, rfl⟩ ⟨rfl, rfl, rfl, rfl, rfl, rfl, rfl, rfl, rfl, rfl, trivial⟩ (fun w m => by rw [w3]; exact m.chunk [[(xob2, blk (u8s (xd2.set q 7#8) ++ xr2) 5)], (ob18, blk (u8s bb ++ r18) 5) :: (some b16, blk cr16 25) :: (ob10, blk (u8s bb ++ r10) 5) :: (ob8, blk (u8s bb ++ r8) 5) :: (some b6, blk cr6 25) :: (some b4, blk (Ow.cs (Ow.mk lO obO dO rO cO oiO ciO riO its)) 25) :: (some b3, blk (a0.C (some ⟨bT, 0, none⟩) (a0.extra.length + 9)).C 38) :: (some b1, blk cs0_ 38) :: (obO, blk (u8s dO ++ rO) 5) :: [(oiO, blk (Ows.cs its ++ riO) 25)], A3, B3, (B16 ++ (B6 ++ ((some bT, blk (u8s (a0.extra ++ List.replicate 9 165#8)) 5) :: N)))] [1, 2, 0, 3, 4] rfl (by simp) (by simp))
  ·refine Z14 rfl (decide_eq_false (by omega)) ?_
   (refine CW.exit ?_; refine Z9 ?_; refine Z9 ?_; refine Z15 ?_; refine Z27 ?_; refine Z1 ?_)
   refine Z2 (Z0 (Z3 rfl) rfl (Z0 (RV.add rfl rfl (by omega)) rfl (Z0 (Z5 rfl) rfl (Z6 ?_))))
   refine Z114 (k' := its.length - (p + 1)) (by omega) ⟨p + 1, its2, rfl, by omega, hcs2, hok2, rfl, rfl⟩ ⟨rfl, rfl, rfl, rfl, rfl, rfl, rfl, rfl, rfl, trivial⟩ (fun w m => m)
 ·refine Z14 rfl (decide_eq_false (by omega)) ?_
  (repeat (first | refine Z4 ?_ | refine Z1 ?_ | refine CW.block ?_ | refine CW.ret ?_ | refine CW.skip ?_ | refine CW.exit ?_ | refine Z9 ?_ | refine Z8 ?_ | refine Z27 ?_ | refine Z15 ?_ | refine Z164 rfl ?_ | refine Z16 ?_))
  refine Z2 (Z0 (Z5 rfl) rfl (Z6 ?_))
  (refine Z1 ?_; refine CW.block ?_)
  refine Z121 (fun k L' M' => ∃ (i : Nat) (b2 : List (BitVec 8)), k = bb.length - i ∧ i ≤ bb.length ∧ b2.length = bb.length ∧ L' = [(1, ptr (some b1) 0), (3, ptr (some b3) 0), (6, ptr (some b6) 0), (10, sl ob10 0 bb.length c10), (16, ptr (some b16) 0), (18, sl ob18 0 bb.length c18), (8, sl ob8 0 bb.length c8), (22, .int .i64 (i : Int))] ∧ M' = (ob8, blk (u8s b2 ++ r8) 5) :: (ob18, blk (u8s bb ++ r18) 5) :: (some b16, blk cr16 25) :: (ob10, blk (u8s bb ++ r10) 5) :: (some b6, blk cr6 25) :: (some b3, blk (a0.C (some ⟨bT, 0, none⟩) (a0.extra.length + 9)).C 38) :: (some b1, blk cs0_ 38) :: (B16 ++ (B6 ++ ((some bT, blk (u8s (a0.extra ++ List.replicate 9 165#8)) 5) :: N)))) (k0 := bb.length) ⟨0, bb, rfl, by omega, rfl, rfl, rfl⟩ ⟨rfl, rfl, rfl, rfl, rfl, rfl, rfl, rfl, trivial⟩ (fun w m => m.chunk [[(ob18, blk (u8s bb ++ r18) 5)], [(some b16, blk cr16 25)], [(ob10, blk (u8s bb ++ r10) 5)], [(ob8, blk (u8s bb ++ r8) 5)], [(some b6, blk cr6 25)], [(some b4, blk (Ow.cs (Ow.mk lO obO dO rO cO oiO ciO riO its)) 25)], [(some b3, blk (a0.C (some ⟨bT, 0, none⟩) (a0.extra.length + 9)).C 38)], [(some b1, blk cs0_ 38)], (obO, blk (u8s dO ++ rO) 5) :: (oiO, blk (Ows.cs its ++ riO) 25) :: Ows.ents 25 its', (B16 ++ (B6 ++ ((some bT, blk (u8s (a0.extra ++ List.replicate 9 165#8)) 5) :: N)))] [3, 0, 1, 2, 4, 6, 7, 9] rfl (by simp) (by simp)) ?_
  rintro k L' M' ⟨i, b2, rfl, hi, hb2, rfl, rfl⟩
  (refine Z4 ?_; refine Z4 ?_)
  refine Z2 (Z0 (Z3 rfl) rfl (Z0 (Z3 rfl) rfl (Z0 (RV.len rfl rfl) rfl (Z0 (RV.lss rfl rfl) rfl (Z6 (Z1 ?_))))))
  by_cases hlt3 : i < bb.length
  ·refine Z13 rfl (decide_eq_true (by omega)) ?_
   have hs8 := o8.some_of (by decide) hlt3
   (refine CW.skip ?_; refine Z1 ?_; refine Z4 ?_; refine CW.block ?_)
   refine Z2 (Z0 (Z3 rfl) rfl (Z0 (Z3 rfl) rfl (Z0 (RV.idx_o i rfl rfl rfl rfl rfl hs8 (by omega)) rfl ?_)))
   refine Z28 (SV.store rfl hs8 rfl rfl rfl (by rw [List.length_append, Z100]; omega)) ?_; refine OW.cells (u8s (b2.set i 8#8) ++ r8) (by rw [Nat.zero_add]; exact u8s_set_app b2 r8 (by omega) 8#8) ?_
   refine Z6 ?_
   (refine Z27 ?_; refine Z1 ?_)
   refine Z2 (Z0 (Z3 rfl) rfl (Z0 (RV.add rfl rfl (by omega)) rfl (Z0 (Z5 rfl) rfl (Z6 ?_))))
   refine Z114 (k' := bb.length - (i + 1)) (by omega) ⟨i + 1, b2.set i 8#8, rfl, by omega, by rw [List.length_set]; exact hb2, rfl, rfl⟩ ⟨rfl, rfl, rfl, rfl, rfl, rfl, rfl, rfl, trivial⟩ (fun w m => m)
  ·refine Z14 rfl (decide_eq_false (by omega)) ?_
   (repeat (first | refine Z4 ?_ | refine Z1 ?_ | refine CW.block ?_ | refine CW.ret ?_ | refine CW.skip ?_ | refine CW.exit ?_ | refine Z9 ?_ | refine Z8 ?_ | refine Z27 ?_ | refine Z15 ?_ | refine Z164 rfl ?_ | refine Z16 ?_))
   refine Z2 (Z0 (Z5 rfl) rfl (Z6 ?_))
   (refine Z1 ?_; refine CW.block ?_)
   have ob2 : OwnS ob8 b2.length c8 1 (u8s b2) r8 := ⟨by rw [Z100]; omega, by rw [← o8.hr, List.length_append, List.length_append, Z100, Z100, hb2], o8.hn, by omega⟩
   refine Z121 (fun k L' M' => ∃ (j : Nat) (bl : List (BitVec 8)) (obn : Option Nat) (cn : Nat) (rn : List Value), k = 70 - j ∧ j ≤ 70 ∧ bl.length ≤ 16777216 + j ∧ OwnS obn bl.length cn 1 (u8s bl) rn ∧ L' = [(1, ptr (some b1) 0), (3, ptr (some b3) 0), (6, ptr (some b6) 0), (10, sl ob10 0 bb.length c10), (16, ptr (some b16) 0), (18, sl ob18 0 bb.length c18), (8, sl obn 0 bl.length cn), (23, .int .i64 (j : Int))] ∧ M' = (obn, blk (u8s bl ++ rn) 5) :: (ob18, blk (u8s bb ++ r18) 5) :: (some b16, blk cr16 25) :: (ob10, blk (u8s bb ++ r10) 5) :: (some b6, blk cr6 25) :: (some b3, blk (a0.C (some ⟨bT, 0, none⟩) (a0.extra.length + 9)).C 38) :: (some b1, blk cs0_ 38) :: (B16 ++ (B6 ++ ((some bT, blk (u8s (a0.extra ++ List.replicate 9 165#8)) 5) :: N)))) (k0 := 70) ⟨0, b2, ob8, c8, r8, rfl, by omega, by omega, ob2, rfl, rfl⟩ ⟨rfl, rfl, rfl, rfl, rfl, rfl, by rw [hb2]; rfl, rfl, trivial⟩ (fun w m => m) ?_
   rintro k L' M' ⟨j, bl, obn, cn, rn, rfl, hj, hbl2, on, rfl, rfl⟩
   (refine Z4 ?_; refine Z4 ?_)
   refine Z2 (Z0 (Z3 rfl) rfl (Z0 (RV.lss rfl rfl) rfl (Z6 (Z1 ?_))))
   by_cases hlt4 : j < 70
   ·refine Z13 rfl (decide_eq_true (by omega)) ?_
    (refine CW.skip ?_; refine Z1 ?_; refine Z4 ?_; refine CW.block ?_)
    refine Z2 (Z0 (Z3 rfl) rfl ?_)
    refine OW.bs1 rfl rfl rfl rfl rfl rfl rfl (fun b177 => ?_); refine OW.rot1 ?_
    refine OW.appendOwn (s := 1) rfl rfl rfl rfl rfl rfl on (fun w m => m.rdl (List.Mem.tail _ Zh) (fun e => nomatch e)) rfl (by intro u hu; simp at hu; subst hu; rfl) (fun e => nomatch e) (by decide) (by decide) (by simp only [i5]; omega) rfl rfl ((bl ++ [9#8]).length) (u8s (bl ++ [9#8])) (by simp) (by rw [← u8s_app]; rfl) (fun ob3 r3 c3 o3 => ?_)
    refine Z0 (Z5 rfl) rfl (Z6 ?_)
    (refine Z27 ?_; refine Z1 ?_)
    refine Z2 (Z0 (Z3 rfl) rfl (Z0 (RV.add rfl rfl (by omega)) rfl (Z0 (Z5 rfl) rfl (Z6 ?_))))
    refine Z114 (k' := 70 - (j + 1)) (by omega) ⟨j + 1, bl ++ [9#8], ob3, c3, r3, rfl, by omega, by simp; omega, o3, rfl, rfl⟩ ⟨rfl, rfl, rfl, rfl, rfl, rfl, rfl, rfl, trivial⟩ (fun w m => m.pick [0] 2 rfl rfl)
   ·refine Z14 rfl (decide_eq_false (by omega)) ?_
    have hcR3 : ItRd (fun w => More w0 Φ [(some bT, blk (u8s (a0.extra ++ List.replicate 9 165#8)) 5)] w ∧ Mem w0 w (B16 ++ B6)) cr6 (Ow.it (Ow.mk lO obO dO rO cO oiO ciO riO its)) := ItRd.mono (fun w q => ⟨q.1, q.2.appR⟩) _ _ hcr6
    have haR3 : ItRd (fun w => More w0 Φ [(some bT, blk (u8s (a0.extra ++ List.replicate 9 165#8)) 5)] w ∧ Mem w0 w (B16 ++ B6)) cr16 (Ow.it (Ow.mk lO obO dO rO cO oiO ciO riO its)) := ItRd.mono (fun w q => ⟨q.1, q.2.appL⟩) _ _ hcr16
    have hKS3 : ∀ w, Mem w0 w (B16 ++ (B6 ++ ((some bT, blk (u8s (a0.extra ++ List.replicate 9 165#8)) 5) :: N))) → (More w0 Φ [(some bT, blk (u8s (a0.extra ++ List.replicate 9 165#8)) 5)] w ∧ Mem w0 w (B16 ++ B6)) := fun w m => ⟨hN1 w m.appR.appR, m.chunk [B16, B6, (some bT, blk (u8s (a0.extra ++ List.replicate 9 165#8)) 5) :: N] [0, 1] rfl (by simp) (by simp)⟩
    (refine CW.exit ?_; refine Z9 ?_; refine Z9 ?_; refine Z15 ?_; refine Z1 ?_; refine Z4 ?_)
    refine Z2 (Z0 (Z22 rfl (List.Mem.tail _ (List.Mem.tail _ Zh)) rfl rfl rfl rfl hcl16) rfl (Z0 (Z22 rfl (List.Mem.tail _ (List.Mem.tail _ (List.Mem.tail _ (List.Mem.tail _ Zh)))) rfl rfl rfl rfl hcl6) rfl ?_))
    refine Z12 Tryd.call18 rfl (Z141 w0 _ ((obn, blk (u8s bl ++ rn) 5) :: (ob18, blk (u8s bb ++ r18) 5) :: (some b16, blk cr16 25) :: (ob10, blk (u8s bb ++ r10) 5) :: (some b6, blk cr6 25) :: (some b3, blk (a0.C (some ⟨bT, 0, none⟩) (a0.extra.length + 9)).C 38) :: (some b1, blk cs0_ 38) :: (B16 ++ (B6 ++ ((some bT, blk (u8s (a0.extra ++ List.replicate 9 165#8)) 5) :: N)))) (fun w m => hKS3 w (m.drop 7)) _ (Ow.it (Ow.mk lO obO dO rO cO oiO ciO riO its)) _ (Ow.it (Ow.mk lO obO dO rO cO oiO ciO riO its)) true haR3 hcR3 hsm) rfl rfl ?_; rintro _ G1 rfl; refine Z20 (M' := (obn, blk (u8s bl ++ rn) 5) :: (ob18, blk (u8s bb ++ r18) 5) :: (some b16, blk cr16 25) :: (ob10, blk (u8s bb ++ r10) 5) :: (some b6, blk cr6 25) :: (some b3, blk (a0.C (some ⟨bT, 0, none⟩) (a0.extra.length + 9)).C 38) :: (some b1, blk cs0_ 38) :: (B16 ++ (B6 ++ ((some bT, blk (u8s (a0.extra ++ List.replicate 9 165#8)) 5) :: N)))) (fun w m => m.appR) ?_
    refine Z0 (Z3 rfl) rfl ?_
    refine Z24 rfl ?_; refine Z0 (Z3 rfl) rfl ?_
    refine Z24 rfl ?_; refine Z0 (Z3 rfl) rfl ?_
    refine Z24 rfl ?_; refine Z12 Tryd.call14 rfl (Z140 w0 _ ((obn, blk (u8s bl ++ rn) 5) :: (ob18, blk (u8s bb ++ r18) 5) :: (some b16, blk cr16 25) :: (ob10, blk (u8s bb ++ r10) 5) :: (some b6, blk cr6 25) :: (some b3, blk (a0.C (some ⟨bT, 0, none⟩) (a0.extra.length + 9)).C 38) :: (some b1, blk cs0_ 38) :: (B16 ++ (B6 ++ ((some bT, blk (u8s (a0.extra ++ List.replicate 9 165#8)) 5) :: N)))) (fun w m => (m.pick [1, 3] 4 rfl rfl : Mem w0 w ((ob18, blk (u8s bb ++ r18) 5) :: (ob10, blk (u8s bb ++ r10) 5) :: ((some b6, blk cr6 25) :: (some b3, blk (a0.C (some ⟨bT, 0, none⟩) (a0.extra.length + 9)).C 38) :: (some b1, blk cs0_ 38) :: (B16 ++ (B6 ++ ((some bT, blk (u8s (a0.extra ++ List.replicate 9 165#8)) 5) :: N)))))).sublist (List.Sublist.cons_cons _ (List.Sublist.cons_cons _ (List.nil_sublist _)))) _ c18 bb _ c10 bb true v18 v10' heq) rfl rfl ?_; rintro _ G1 rfl; refine Z20 (M' := (obn, blk (u8s bl ++ rn) 5) :: (ob18, blk (u8s bb ++ r18) 5) :: (some b16, blk cr16 25) :: (ob10, blk (u8s bb ++ r10) 5) :: (some b6, blk cr6 25) :: (some b3, blk (a0.C (some ⟨bT, 0, none⟩) (a0.extra.length + 9)).C 38) :: (some b1, blk cs0_ 38) :: (B16 ++ (B6 ++ ((some bT, blk (u8s (a0.extra ++ List.replicate 9 165#8)) 5) :: N)))) (fun w m => m.appR) ?_
    refine Z0 (Z105 rfl rfl rfl) rfl (Z0 (Z3 rfl) rfl ?_)
    refine Z24 rfl ?_; refine Z0 (Z22 rfl (List.Mem.tail _ (List.Mem.tail _ (List.Mem.tail _ (List.Mem.tail _ (List.Mem.tail _ Zh))))) rfl rfl rfl rfl Z165) rfl ?_
    refine Z24 rfl ?_; refine Z0 (Z22 rfl (List.Mem.tail _ (List.Mem.tail _ (List.Mem.tail _ (List.Mem.tail _ (List.Mem.tail _ (List.Mem.tail _ Zh)))))) rfl rfl rfl rfl hlen) rfl ?_
    refine Z24 rfl ?_; refine Z12 Tryd.call28 rfl (waybilllaw19_left_does w0 (More w0 Φ [(some bT, blk (u8s (a0.extra ++ List.replicate 9 165#8)) 5)]) ((obn, blk (u8s bl ++ rn) 5) :: (ob18, blk (u8s bb ++ r18) 5) :: (some b16, blk cr16 25) :: (ob10, blk (u8s bb ++ r10) 5) :: (some b6, blk cr6 25) :: (some b3, blk (a0.C (some ⟨bT, 0, none⟩) (a0.extra.length + 9)).C 38) :: (some b1, blk cs0_ 38) :: (B16 ++ (B6 ++ ((some bT, blk (u8s (a0.extra ++ List.replicate 9 165#8)) 5) :: N)))) (fun w m => hN1 w ((m.drop 7).appR.appR)) bT a0 cs0_ hb ht (fun w q => q.2) hH (hsame_refl a0)) rfl rfl ?_; rintro _ G1 rfl; refine Z20 (M' := (obn, blk (u8s bl ++ rn) 5) :: (ob18, blk (u8s bb ++ r18) 5) :: (some b16, blk cr16 25) :: (ob10, blk (u8s bb ++ r10) 5) :: (some b6, blk cr6 25) :: (some b3, blk (a0.C (some ⟨bT, 0, none⟩) (a0.extra.length + 9)).C 38) :: (some b1, blk cs0_ 38) :: (B16 ++ (B6 ++ ((some bT, blk (u8s (a0.extra ++ List.replicate 9 165#8)) 5) :: N)))) (fun w m => m.appR) ?_
    refine Z0 (Z105 rfl rfl rfl) rfl (Z0 (Z5 rfl) rfl (Z6 ?_))
    (refine Z1 ?_; refine CW.ret ?_)
    refine Z108 (rs := [.tmp 2]) [.bool true] [] rfl ⟨rfl, trivial⟩ rfl rfl (fun w m => (m.drop 7).appR.appR.tail) _ (.inl rfl)
end Go.Fw.Tryd
namespace Go.Fw
open Go
theorem bulk_len {H : Type} (ub : DataW H → Nat) (uba : List (DataW H) → Nat) (h0 : uba [] = 0) (h1 : ∀ d r, uba (d :: r) = ub d + uba r) (h2 : ∀ el sp, ub (.slice el sp) = uba el + uba sp + 1) (hp : ∀ d : DataW H, 1 ≤ ub d)
    {d : DataW H} {el sp : List (DataW H)} (he : Els d el sp) : el.length ≤ ub d := by
 have hlen : ∀ l : List (DataW H), l.length ≤ uba l := fun l => by
  induction l with
  | nil => simp
  | cons x r ih => rw [h1]; have := hp x; simp; omega
 rcases he with ⟨_, rfl, _⟩ | rfl
 ·simp
 ·rw [h2]; have := hlen el; omega
end Go.Fw
namespace Go.Fw
open Go
structure BulkFn {H : Type} (ub : DataW H → Nat) (uba : List (DataW H) → Nat) : Prop where
 h0 : uba [] = 0
 h1 : ∀ d r, uba (d :: r) = ub d + uba r
 hs : ∀ el sp, ub (.slice el sp) = uba el + uba sp + 1
 ha : ∀ l, ub (.agg l) = uba l + 1
 hp : ∀ d : DataW H, 1 ≤ ub d
namespace BulkFn
variable {H : Type} {ub : DataW H → Nat} {uba : List (DataW H) → Nat} (B : BulkFn ub uba)
include B
theorem mem {d : DataW H} : ∀ {l : List (DataW H)}, d ∈ l → ub d ≤ uba l
 | x :: l, h => by
  rw [B.h1]
  rcases List.mem_cons.1 h with rfl | h
  ·omega
  ·have := mem h; omega
theorem len {d : DataW H} {el sp : List (DataW H)} (h : Els d el sp) : el.length ≤ ub d := bulk_len ub uba B.h0 B.h1 B.hs B.hp h
end BulkFn
end Go.Fw
