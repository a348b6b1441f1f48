/- Part of a proof: rules that its law uses. -/
import Derived.Test.YtojnakdlnlcmiaaDoorT4
set_option linter.unusedVariables false
set_option linter.unusedSimpArgs false
set_option linter.unusedSectionVars false
set_option maxRecDepth 100000
set_option maxHeartbeats 1000000
namespace Go.Fw.Tryd
open Go Go.Proofs Go.Fw
theorem Z127 (w0 : World) (Φ : Ctx) (N : List Ent) (hΦ : ∀ w, Mem w0 w N → Φ w) (cs0_ : List Value) (a0 : Rcpt) (cs1_ : List Value) (a1 : Rcpt) (res0 : Bool) (ha0 : RcptRd Φ cs0_ a0) (ha1 : RcptRd Φ cs1_ a1) (hf : waybilllaw17_sameReceipt a0 a1 = some res0) : DoesG Tryd.prog 16 [.agg cs0_.toArray, .agg cs1_.toArray] w0 [] N (fun v G => v = .bool res0) := by
 unfold waybilllaw17_sameReceipt at hf
 replace ha0 := RcptRd.mono (Ψ := More w0 Φ []) (fun w q => q.1) _ _ ha0
 have h8 := ha0
 obtain ⟨A2, c3, cs5, e7, b1, v4, h6⟩ := RcptRd.opn ha0
 subst e7
 have m9 := v4.mx
 replace ha1 := RcptRd.mono (Ψ := More w0 Φ []) (fun w q => q.1) _ _ ha1
 have h17 := ha1
 obtain ⟨A11, c12, cs14, e16, b10, v13, h15⟩ := RcptRd.opn ha1
 subst e16
 have m18 := v13.mx
 refine DoesG.enter Tryd.func16 rfl Tryd.ntmps16 rfl (M := (([] ++ N))) rfl (Z4 (Z2 (Z130 rfl rfl (fun b19 => (Z130 rfl rfl (fun b20 => (Z0 (Z5 rfl) rfl (Z6 (Z1 (Z4 (Z4 ?_)))))))))))
 obtain ⟨q21, hq22, hf⟩ := Z100 hf
 refine Z115 (fun L' M' => ∃ p23 : Bool, q21 = p23 ∧ L' = [(2, ptr (some b19) 0), (3, ptr (some b20) 0), (37, .bool (p23))] ∧ M' = ((some b20, blk (⟨a1.kind, (a1.rooted), a1.root, a1.status, a1.used, a1.bloom, .slice A11 a1.logs.length c12⟩ : RcptC).C 30) :: (some b19, blk (⟨a0.kind, (a0.rooted), a0.root, a0.status, a0.used, a0.bloom, .slice A2 a0.logs.length c3⟩ : RcptC).C 30) :: ([] ++ N))) ?_ ?_
 ·rintro L25 M26 ⟨p23, e24, e27, e28⟩
  rw [e27, e28]
  clear e27 e28 L25 M26
  clear hq22
  rw [e24] at hf
  clear e24
  try dsimp only at hf
  refine Z1 ?_
  by_cases h29 : p23 = true
  ·replace hf := if_t hf h29
   refine Z13 rfl (h29) (Z4 (Z2 (Z0 (Z5 rfl) rfl (Z6 (Z1 (CW.ret (Z8 ?_)))))))
   have e0 := Zi hf
   subst e0
   refine Z104 (rs := [.tmp 4]) ([.bool false]) ((some b20, blk (⟨a1.kind, (a1.rooted), a1.root, a1.status, a1.used, a1.bloom, .slice A11 a1.logs.length c12⟩ : RcptC).C 30) :: (some b19, blk (⟨a0.kind, (a0.rooted), a0.root, a0.status, a0.used, a0.bloom, .slice A2 a0.logs.length c3⟩ : RcptC).C 30) :: []) rfl ?_ rfl ?_ ?_ _ (.inl rfl)
   ·exact ⟨rfl, trivial⟩
   ·exact rfl
   ·exact (fun w m => m)
  ·replace hf := if_f hf h29
   refine Z14 rfl (Bool.eq_false_iff.2 h29) (CW.skip (Z1 (Z4 ?_)))
   obtain ⟨q30, hq31, hf⟩ := Z100 hf
   refine Z115 (fun L' M' => ∃ p32 : Bool, q30 = p32 ∧ L' = [(4, .bool (p32))] ∧ M' = (([] ++ N))) ?_ ?_
   ·rintro L34 M35 ⟨p32, e33, e36, e37⟩
    rw [e36, e37]
    clear e36 e37 L34 M35
    clear hq31
    rw [e33] at hf
    clear e33
    try dsimp only at hf
    refine Z1 (CW.ret ?_)
    have e0 := Zi hf
    subst e0
    refine Z104 (rs := [.tmp 4]) ([.bool (p32)]) ([]) rfl ?_ rfl ?_ ?_ _ (.inl rfl)
    ·exact ⟨rfl, trivial⟩
    ·exact rfl
    ·exact (fun w m => m)
   ·skip
    refine Z2 (Z0 (Z30 rfl rfl rfl rfl) rfl (Z7 (ptr (some b19) 36) rfl (Z0 (RV.loadAo rfl (List.Mem.tail _ Zh) rfl rfl rfl rfl (Z146 (⟨a0.kind, (a0.rooted), a0.root, a0.status, a0.used, a0.bloom, .slice A2 a0.logs.length c3⟩ : RcptC)) ((Z102 _).trans Zv)) rfl (Z0 (Z30 rfl rfl rfl rfl) rfl (Z7 (ptr (some b20) 36) rfl (Z0 (RV.loadAo rfl Zh rfl rfl rfl rfl (Z146 (⟨a1.kind, (a1.rooted), a1.root, a1.status, a1.used, a1.bloom, .slice A11 a1.logs.length c12⟩ : RcptC)) ((Z102 _).trans Zv)) rfl (Z0 (RV.eqA8 rfl rfl rfl rfl rfl rfl (Zv) (Zv)) rfl ?_)))))))
    refine Z7 (.bool (decide (a0.bloom = a1.bloom))) (congrArg Value.bool (decide_eq_decide.2 Vector.toList_inj)) (Z0 (Z3 rfl) rfl ?_)
    by_cases h38 : a0.bloom = a1.bloom
    ·replace hq31 := if_t hq31 h38
     refine Z7 (.bool true) (congrArg Value.bool (decide_eq_true h38)) (Z24 rfl (Z0 (Z30 rfl rfl rfl rfl) rfl (Z7 (ptr (some b19) 292) rfl (Z24 rfl (Z0 (Z29 rfl (List.Mem.tail _ Zh) rfl rfl rfl (Z151 (⟨a0.kind, (a0.rooted), a0.root, a0.status, a0.used, a0.bloom, .slice A2 a0.logs.length c3⟩ : RcptC))) rfl (Z24 rfl (Z0 (Z30 rfl rfl rfl rfl) rfl ?_)))))))
     refine Z7 (ptr (some b20) 292) rfl (Z24 rfl (Z0 (Z29 rfl Zh rfl rfl rfl (Z151 (⟨a1.kind, (a1.rooted), a1.root, a1.status, a1.used, a1.bloom, .slice A11 a1.logs.length c12⟩ : RcptC))) rfl (Z24 rfl ?_)))
     obtain ⟨x40, hx39, hq31⟩ := Z100 hq31
     refine Z12 Tryd.call45 rfl (waybilllaw17_sameLogs_does w0 (More w0 Φ []) ((some b20, blk (⟨a1.kind, (a1.rooted), a1.root, a1.status, a1.used, a1.bloom, .slice A11 a1.logs.length c12⟩ : RcptC).C 30) :: (some b19, blk (⟨a0.kind, (a0.rooted), a0.root, a0.status, a0.used, a0.bloom, .slice A2 a0.logs.length c3⟩ : RcptC).C 30) :: ([] ++ N)) (fun w m => Z105 hΦ 2 m rfl) A2 c3 cs5 a0.logs A11 c12 cs14 a1.logs x40 v4 h6 v13 h15 hx39) rfl rfl ?_
     rintro _ G41 rfl
     refine Z20 (M' := ((some b20, blk (⟨a1.kind, (a1.rooted), a1.root, a1.status, a1.used, a1.bloom, .slice A11 a1.logs.length c12⟩ : RcptC).C 30) :: (some b19, blk (⟨a0.kind, (a0.rooted), a0.root, a0.status, a0.used, a0.bloom, .slice A2 a0.logs.length c3⟩ : RcptC).C 30) :: ([] ++ N))) (fun w m => m.appR) (Z0 (Z108 rfl rfl rfl) rfl (Z0 (Z5 rfl) rfl (Z6 ?_)))
     exact QW.join ⟨(x40), (Zi hq31).symm, rfl, rfl⟩ ⟨rfl, trivial⟩ (fun w m => m.pick [] 2 rfl rfl)
    ·replace hq31 := if_f hq31 h38
     refine Z7 (.bool false) (congrArg Value.bool (decide_eq_false h38)) (Z23 rfl rfl rfl (Z23 rfl rfl rfl (Z23 rfl rfl rfl (Z23 rfl rfl rfl (Z23 rfl rfl rfl (Z0 (Z106 rfl rfl rfl) rfl (Z0 (Z5 rfl) rfl ?_)))))))
     refine Z6 ?_
     exact QW.join ⟨false, (Zi hq31).symm, rfl, rfl⟩ ⟨rfl, trivial⟩ (fun w m => m.pick [] 2 rfl rfl)
 ·skip
  refine Z2 (Z0 (Z30 rfl rfl rfl rfl) rfl (Z7 (ptr (some b19) 0) rfl (Z0 (Z29 rfl (List.Mem.tail _ Zh) rfl rfl rfl (RcptC.C_kind (⟨a0.kind, (a0.rooted), a0.root, a0.status, a0.used, a0.bloom, .slice A2 a0.logs.length c3⟩ : RcptC))) rfl (Z0 (Z30 rfl rfl rfl rfl) rfl (Z7 (ptr (some b20) 0) rfl (Z0 (Z29 rfl Zh rfl rfl rfl (RcptC.C_kind (⟨a1.kind, (a1.rooted), a1.root, a1.status, a1.used, a1.bloom, .slice A11 a1.logs.length c12⟩ : RcptC))) rfl (Z0 (RV.neq rfl rfl) rfl ?_)))))))
  refine Z0 (Z3 rfl) rfl ?_
  by_cases h43 : a0.kind = a1.kind
  ·replace hq22 := if_t hq22 h43
   refine Z7 (.bool false) (congrArg Value.bool (congrArg (fun b => !b) (decide_eq_true h43))) (Z24 rfl (Z0 (Z30 rfl rfl rfl rfl) rfl (Z7 (ptr (some b19) 1) rfl (Z24 rfl (Z0 (Z29 rfl (List.Mem.tail _ Zh) rfl rfl rfl (RcptC.C_rooted (⟨a0.kind, (a0.rooted), a0.root, a0.status, a0.used, a0.bloom, .slice A2 a0.logs.length c3⟩ : RcptC))) rfl (Z24 rfl (Z0 (Z30 rfl rfl rfl rfl) rfl ?_)))))))
   refine Z7 (ptr (some b20) 1) rfl (Z24 rfl (Z0 (Z29 rfl Zh rfl rfl rfl (RcptC.C_rooted (⟨a1.kind, (a1.rooted), a1.root, a1.status, a1.used, a1.bloom, .slice A11 a1.logs.length c12⟩ : RcptC))) rfl (Z24 rfl (Z0 (RV.neqB rfl rfl rfl) rfl (Z7 (.bool (!decide ((a0.rooted) = (a1.rooted)))) (by first | rfl | (congr 1) | simp) (Z0 (Z106 rfl rfl rfl) rfl (Z0 (Z3 rfl) rfl ?_)))))))
   by_cases h44 : (a0.rooted) = (a1.rooted)
   ·replace hq22 := if_t hq22 h44
    refine Z7 (.bool false) (congrArg Value.bool (congrArg (fun b => !b) (decide_eq_true h44))) (Z24 rfl (Z0 (Z30 rfl rfl rfl rfl) rfl (Z7 (ptr (some b19) 2) rfl (Z24 rfl (Z0 (RV.loadAo rfl (List.Mem.tail _ Zh) rfl rfl rfl rfl (RcptC.C_root_all (⟨a0.kind, (a0.rooted), a0.root, a0.status, a0.used, a0.bloom, .slice A2 a0.logs.length c3⟩ : RcptC)) ((Z102 _).trans Zv)) rfl (Z24 rfl (Z0 (Z30 rfl rfl rfl rfl) rfl ?_)))))))
    refine Z7 (ptr (some b20) 2) rfl (Z24 rfl (Z0 (RV.loadAo rfl Zh rfl rfl rfl rfl (RcptC.C_root_all (⟨a1.kind, (a1.rooted), a1.root, a1.status, a1.used, a1.bloom, .slice A11 a1.logs.length c12⟩ : RcptC)) ((Z102 _).trans Zv)) rfl (Z24 rfl (Z0 (RV.neA8 rfl rfl rfl rfl rfl rfl (Zv) (Zv)) rfl (Z7 (.bool (!decide (a0.root = a1.root))) (congrArg (fun b => Value.bool (!b)) (decide_eq_decide.2 Vector.toList_inj)) (Z0 (Z106 rfl rfl rfl) rfl (Z0 (Z3 rfl) rfl ?_)))))))
    by_cases h45 : a0.root = a1.root
    ·replace hq22 := if_t hq22 h45
     refine Z7 (.bool false) (congrArg Value.bool (congrArg (fun b => !b) (decide_eq_true h45))) (Z24 rfl (Z0 (Z30 rfl rfl rfl rfl) rfl (Z7 (ptr (some b19) 34) rfl (Z24 rfl (Z0 (Z29 rfl (List.Mem.tail _ Zh) rfl rfl rfl (RcptC.C_status (⟨a0.kind, (a0.rooted), a0.root, a0.status, a0.used, a0.bloom, .slice A2 a0.logs.length c3⟩ : RcptC))) rfl (Z24 rfl (Z0 (Z30 rfl rfl rfl rfl) rfl ?_)))))))
     refine Z7 (ptr (some b20) 34) rfl (Z24 rfl (Z0 (Z29 rfl Zh rfl rfl rfl (RcptC.C_status (⟨a1.kind, (a1.rooted), a1.root, a1.status, a1.used, a1.bloom, .slice A11 a1.logs.length c12⟩ : RcptC))) rfl (Z24 rfl (Z0 (RV.neq64 rfl (by first | rfl | exact lit64 _ rfl) rfl (by first | rfl | exact lit64 _ rfl)) rfl (Z0 (Z106 rfl rfl rfl) rfl (Z0 (Z3 rfl) rfl ?_))))))
     by_cases h46 : a0.status = a1.status
     ·replace hq22 := if_t hq22 h46
      refine Z7 (.bool false) (congrArg Value.bool (congrArg (fun b => !b) (decide_eq_true h46))) (Z24 rfl (Z0 (Z30 rfl rfl rfl rfl) rfl (Z7 (ptr (some b19) 35) rfl (Z24 rfl (Z0 (Z29 rfl (List.Mem.tail _ Zh) rfl rfl rfl (RcptC.C_used (⟨a0.kind, (a0.rooted), a0.root, a0.status, a0.used, a0.bloom, .slice A2 a0.logs.length c3⟩ : RcptC))) rfl (Z24 rfl (Z0 (Z30 rfl rfl rfl rfl) rfl ?_)))))))
      refine Z7 (ptr (some b20) 35) rfl (Z24 rfl (Z0 (Z29 rfl Zh rfl rfl rfl (RcptC.C_used (⟨a1.kind, (a1.rooted), a1.root, a1.status, a1.used, a1.bloom, .slice A11 a1.logs.length c12⟩ : RcptC))) rfl (Z24 rfl (Z0 (RV.neq64 rfl (by first | rfl | exact lit64 _ rfl) rfl (by first | rfl | exact lit64 _ rfl)) rfl (Z0 (Z106 rfl rfl rfl) rfl (Z6 ?_))))))
      exact QW.join ⟨(!decide (a0.used = a1.used)), (Zi hq22).symm, rfl, rfl⟩ ⟨rfl, rfl, rfl, trivial⟩ (fun w m => m.pick [0, 1] 2 rfl rfl)
     ·replace hq22 := if_f hq22 h46
      refine Z7 (.bool true) (congrArg Value.bool (congrArg (fun b => !b) (decide_eq_false h46))) (Z23 rfl rfl rfl (Z23 rfl rfl rfl (Z23 rfl rfl rfl (Z23 rfl rfl rfl (Z23 rfl rfl rfl (Z0 (Z108 rfl rfl rfl) rfl (Z6 ?_)))))))
      exact QW.join ⟨true, (Zi hq22).symm, rfl, rfl⟩ ⟨rfl, rfl, rfl, trivial⟩ (fun w m => m.pick [0, 1] 2 rfl rfl)
    ·replace hq22 := if_f hq22 h45
     refine Z7 (.bool true) (congrArg Value.bool (congrArg (fun b => !b) (decide_eq_false h45))) (Z23 rfl rfl rfl (Z23 rfl rfl rfl (Z23 rfl rfl rfl (Z23 rfl rfl rfl (Z23 rfl rfl rfl (Z0 (Z108 rfl rfl rfl) rfl (Z0 (Z3 rfl) rfl ?_)))))))
     refine Z23 rfl rfl rfl (Z23 rfl rfl rfl (Z23 rfl rfl rfl (Z23 rfl rfl rfl (Z23 rfl rfl rfl (Z0 (Z108 rfl rfl rfl) rfl (Z6 ?_))))))
     exact QW.join ⟨true, (Zi hq22).symm, rfl, rfl⟩ ⟨rfl, rfl, rfl, trivial⟩ (fun w m => m.pick [0, 1] 2 rfl rfl)
   ·replace hq22 := if_f hq22 h44
    refine Z7 (.bool true) (congrArg Value.bool (congrArg (fun b => !b) (decide_eq_false h44))) (Z23 rfl rfl rfl (Z23 rfl rfl rfl (Z23 rfl rfl rfl (Z23 rfl rfl rfl (Z23 rfl rfl rfl (Z0 (Z108 rfl rfl rfl) rfl (Z0 (Z3 rfl) rfl ?_)))))))
    refine Z23 rfl rfl rfl (Z23 rfl rfl rfl (Z23 rfl rfl rfl (Z23 rfl rfl rfl (Z23 rfl rfl rfl (Z0 (Z108 rfl rfl rfl) rfl (Z0 (Z3 rfl) rfl (Z23 rfl rfl rfl ?_)))))))
    refine Z23 rfl rfl rfl (Z23 rfl rfl rfl (Z23 rfl rfl rfl (Z23 rfl rfl rfl (Z0 (Z108 rfl rfl rfl) rfl (Z6 ?_)))))
    exact QW.join ⟨true, (Zi hq22).symm, rfl, rfl⟩ ⟨rfl, rfl, rfl, trivial⟩ (fun w m => m.pick [0, 1] 2 rfl rfl)
  ·replace hq22 := if_f hq22 h43
   refine Z7 (.bool true) (congrArg Value.bool (congrArg (fun b => !b) (decide_eq_false h43))) (Z23 rfl rfl rfl (Z23 rfl rfl rfl (Z23 rfl rfl rfl (Z23 rfl rfl rfl (Z23 rfl rfl rfl (Z0 (Z108 rfl rfl rfl) rfl (Z0 (Z3 rfl) rfl ?_)))))))
   refine Z23 rfl rfl rfl (Z23 rfl rfl rfl (Z23 rfl rfl rfl (Z23 rfl rfl rfl (Z23 rfl rfl rfl (Z0 (Z108 rfl rfl rfl) rfl (Z0 (Z3 rfl) rfl (Z23 rfl rfl rfl ?_)))))))
   refine Z23 rfl rfl rfl (Z23 rfl rfl rfl (Z23 rfl rfl rfl (Z23 rfl rfl rfl (Z0 (Z108 rfl rfl rfl) rfl (Z0 (Z3 rfl) rfl (Z23 rfl rfl rfl (Z23 rfl rfl rfl ?_)))))))
   refine Z23 rfl rfl rfl (Z23 rfl rfl rfl (Z23 rfl rfl rfl (Z0 (Z108 rfl rfl rfl) rfl (Z6 ?_))))
   exact QW.join ⟨true, (Zi hq22).symm, rfl, rfl⟩ ⟨rfl, rfl, rfl, trivial⟩ (fun w m => m.pick [0, 1] 2 rfl rfl)
theorem Z110 (w0 : World) (Φ : Ctx) (N : List Ent) (hΦ : ∀ w, Mem w0 w N → Φ w) (b0_ : Nat) (a0 : Rdr) (a1 : Int) (new0 : Rdr) (ba1 : -9223372036854775808 ≤ a1 ∧ a1 ≤ 9223372036854775807) (hf : waybill_receipt_reader_refuse a0 a1 = some new0) : DoesG Tryd.prog 95 [ptr (some b0_) 0, .int .i64 a1] w0 [(some b0_, blk a0.C 109)] N (fun v G => ∃ B : List Ent, v = .tuple #[] ∧ G = (some b0_, blk new0.C 109) :: B) := by
 unfold waybill_receipt_reader_refuse at hf
 refine DoesG.enter Tryd.func95 rfl Tryd.ntmps95 rfl (M := ((some b0_, blk a0.C 109) :: ([] ++ N))) rfl (Z4 (Z2 (Z0 (Z3 rfl) rfl (Z0 (RV.nilCheck rfl) rfl (Z0 (Z30 rfl rfl rfl rfl) rfl (Z7 (ptr (some b0_) 0) rfl (Z0 (Z29 rfl Zh rfl rfl rfl (Rdr.C_err _)) rfl (Z0 (RV.eql rfl rfl) rfl ?_))))))))
 refine Z6 (Z1 ?_)
 obtain ⟨q1, hq2, hf⟩ := Z100 hf
 refine Z115 (fun L' M' => ∃ w3 : Rdr, q1 = w3 ∧ L' = [] ∧ M' = ((some b0_, blk w3.C 109) :: ([] ++ N))) ?_ ?_
 ·rintro L5 M6 ⟨w3, e4, e7, e8⟩
  rw [e7, e8]
  clear e7 e8 L5 M6
  clear hq2
  rw [e4] at hf
  clear e4
  try dsimp only at hf
  have e0 := Zi hf
  subst e0
  refine Z104 (rs := []) ([]) ((some b0_, blk w3.C 109) :: []) rfl ?_ rfl ?_ ?_ _ (.inr rfl)
  ·exact trivial
  ·exact ⟨[], rfl, rfl⟩
  ·exact (fun w m => m.pick [0] 1 rfl rfl)
 ·skip
  by_cases h9 : a0.err = (0 : Int)
  ·replace hq2 := if_t hq2 h9
   refine Z13 rfl (decide_eq_true h9) (Z2 (Z0 (Z3 rfl) rfl (Z0 (Z3 rfl) rfl (Z0 (RV.nilCheck rfl) rfl (Z0 (Z30 rfl rfl rfl rfl) rfl (Z7 (ptr (some b0_) 0) rfl (Z28 (SV.store rfl rfl rfl rfl rfl (by rw [Rdr.C_length]; omega)) ?_)))))))
   refine OW.cells ({ a0 with err := a1 } : Rdr).C (Rdr.C_err_set _ _) (Z6 ?_)
   exact QW.join ⟨({ a0 with err := a1 } : Rdr), (Zi hq2).symm, rfl, rfl⟩ trivial (fun w m => m.pick [0] 1 rfl rfl)
  ·replace hq2 := if_f hq2 h9
   refine Z14 rfl (decide_eq_false h9) (CW.skip ?_)
   exact QW.join ⟨a0, (Zi hq2).symm, rfl, rfl⟩ trivial (fun w m => m.pick [0] 1 rfl rfl)
theorem Z134 (w0 : World) (Φ : Ctx) (N : List Ent) (hΦ : ∀ w, Mem w0 w N → Φ w) (b0_ : Nat) (a0 : Rdr) (cs1_ : List Value) (a1 : It) (res0 : List (It)) (new0 : Rdr) (ha1 : ItRd Φ cs1_ a1) (hf : waybill_receipt_reader_list a0 a1 = some (res0, new0)) : DoesG Tryd.prog 97 [ptr (some b0_) 0, .agg cs1_.toArray] w0 [(some b0_, blk a0.C 109)] N (fun v G => ∃ B : List Ent, ∃ cr0 : List Value, ∃ or0 : Option Nat, ∃ kr0 : Nat, ∃ rr0 : List Value, (Reps (ItRd (More w0 Φ B)) cr0 res0) ∧ (OwnS or0 res0.length kr0 3 cr0 rr0) ∧ v = sl or0 0 res0.length kr0 ∧ G = (or0, blk (cr0 ++ rr0) 89) :: (some b0_, blk new0.C 109) :: B) := by
 unfold waybill_receipt_reader_list at hf
 replace ha1 := ItRd.mono (Ψ := More w0 Φ []) (fun w q => q.1) _ _ ha1
 have h10 := ha1
 obtain ⟨A1, c2, A4, c5, cs7, e9, v3, v6, h8⟩ := ItRd.opn ha1
 subst e9
 have m11 := v3.mx
 have m12 := v6.mx
 refine DoesG.enter Tryd.func97 rfl Tryd.ntmps97 rfl (M := ((some b0_, blk a0.C 109) :: ([] ++ N))) rfl (Z4 (Z2 (Z130 rfl rfl (fun b13 => (Z0 (Z5 rfl) rfl (Z6 (Z1 (Z4 (Z4 (Z2 (Z0 (Z3 rfl) rfl (Z0 (RV.nilCheck rfl) rfl (Z0 (Z30 rfl rfl rfl rfl) rfl ?_)))))))))))))
 refine Z7 (ptr (some b0_) 0) rfl (Z0 (Z29 rfl (List.Mem.tail _ Zh) rfl rfl rfl (Rdr.C_err _)) rfl (Z0 (RV.neq rfl rfl) rfl (Z6 (Z1 ?_))))
 by_cases h14 : a0.err = (0 : Int)
 ·replace hf := if_t hf h14
  refine Z14 rfl (congrArg (fun b => !b) (decide_eq_true h14)) (CW.skip (Z1 (Z4 (Z2 (Z0 (Z22 rfl Zh rfl rfl rfl rfl rfl) rfl ?_)))))
  obtain ⟨⟨x16, x17⟩, hx15, hf⟩ := Z100 hf
  try dsimp only at hf
  refine Z12 Tryd.call67 rfl (rlp_GetList_does w0 (More w0 Φ []) ((some b13, blk [.bool (a1.list), .slice A1 a1.data.length c2, .slice A4 a1.items.length c5] 89) :: (some b0_, blk a0.C 109) :: ([] ++ N)) (fun w m => Z105 hΦ 2 m rfl) [.bool (a1.list), .slice A1 a1.data.length c2, .slice A4 a1.items.length c5] a1 x16 x17 h10 hx15) rfl rfl ?_
  rintro L26 M27 ⟨B18, cs19, ob21, c22, r23, h20, o24, b25, e28, e29⟩
  rw [e28, e29]
  clear e28 e29 L26 M27
  refine Z20 (M' := ((ob21, blk (cs19 ++ r23) 89) :: (some b13, blk [.bool (a1.list), .slice A1 a1.data.length c2, .slice A4 a1.items.length c5] 89) :: (some b0_, blk a0.C 109) :: ((B18 ++ []) ++ N))) (fun w m => by have h := Z113 (A := B18) m 1 2 rfl rfl; exact h) ?_
  have gq1 : ∀ w, More w0 Φ (B18 ++ []) w → More w0 Φ [] w := fun w q => More.mono (fun w m => (m).appR) q
  replace h10 := ItRd.mono gq1 _ _ h10
  replace v3 := v3.mono gq1
  replace v6 := v6.mono gq1
  replace h8 := h8.mono (ItRd.mono gq1)
  replace h20 := h20.mono (ItRd.mono (Ψ := (More w0 Φ (B18 ++ []))) (fun w q => Z128 q))
  have m30 := o24.mx
  refine Z0 (Z3 rfl) rfl (Z0 (Z17 rfl rfl) rfl (Z7 (sl ob21 0 x16.length c22) (rfl) (Z0 (Z17 rfl rfl) rfl (Z7 (.int .i64 ((x17 : Nat) : Int)) (rfl) (Z0 (Z5 rfl) rfl (Z0 (Z5 rfl) rfl (Z6 (Z1 (Z4 (Z4 (Z2 ?_)))))))))))
  refine Z0 (Z3 rfl) rfl (Z0 (RV.neq rfl rfl) rfl (Z7 (.bool (!decide (x17 = 0))) (congrArg (fun b => Value.bool (!b)) (decide_eq_decide.2 (by omega))) (Z6 (Z1 ?_))))
  obtain ⟨q31, hq32, hf⟩ := Z100 hf
  refine Z115 (fun L' M' => ∃ w35 : Rdr, ∃ B33 : List Ent, q31 = w35 ∧ (∀ w, Mem w0 w B33 → Mem w0 w (B18 ++ [])) ∧ L' = [(5, sl ob21 0 x16.length c22)] ∧ M' = ((ob21, blk (cs19 ++ r23) 89) :: (some b0_, blk w35.C 109) :: (B33 ++ N))) ?_ ?_
  ·rintro L37 M38 ⟨w35, B33, e36, hB34, e39, e40⟩
   rw [e39, e40]
   clear e39 e40 L37 M38
   clear hq32
   rw [e36] at hf
   clear e36
   try dsimp only at hf
   have gq2 : ∀ w, More w0 Φ B33 w → More w0 Φ (B18 ++ []) w := fun w q => More.mono (fun w m => hB34 w (m)) q
   replace h20 := h20.mono (ItRd.mono gq2)
   have m41 := o24.mx
   refine Z1 (Z4 (Z2 (Z0 (Z3 rfl) rfl (Z0 (Z5 rfl) rfl (Z6 (Z1 (CW.ret ?_)))))))
   have er0 := Zi hf
   obtain ⟨e0, er1⟩ := Prod.mk.inj er0
   clear er0
   subst e0
   subst er1
   refine Z104 (rs := [.tmp 4]) ([sl ob21 0 x16.length c22]) ((ob21, blk (cs19 ++ r23) 89) :: (some b0_, blk w35.C 109) :: B33) rfl ?_ rfl ?_ ?_ _ (.inl rfl)
   ·exact ⟨rfl, trivial⟩
   ·exact ⟨B33, cs19, ob21, c22, r23, h20, o24, rfl, rfl⟩
   ·exact (fun w m => m.pick [0, 1] 2 rfl rfl)
  ·skip
   by_cases h42 : x17 = 0
   ·replace hq32 := if_t hq32 h42
    refine Z14 rfl (congrArg (fun b => !b) (decide_eq_true h42)) (CW.skip ?_)
    exact QW.join ⟨a0, (B18 ++ []), (Zi hq32).symm, (fun w m => m), rfl, rfl⟩ ⟨rfl, trivial⟩ (fun w m => m.pick [0, 2] 3 rfl rfl)
   ·replace hq32 := if_f hq32 h42
    refine Z13 rfl (congrArg (fun b => !b) (decide_eq_false h42)) (Z2 (Z0 (Z3 rfl) rfl ?_))
    obtain ⟨x44, hx43, hq32⟩ := Z100 hq32
    refine Z20 (M' := ((some b0_, blk a0.C 109) :: (ob21, blk (cs19 ++ r23) 89) :: (some b13, blk [.bool (a1.list), .slice A1 a1.data.length c2, .slice A4 a1.items.length c5] 89) :: ((B18 ++ []) ++ N))) (fun w m => m.pick [2, 0, 1] 3 rfl rfl) (Z12 Tryd.call95 rfl (Z110 w0 (More w0 Φ (B18 ++ [])) ((ob21, blk (cs19 ++ r23) 89) :: (some b13, blk [.bool (a1.list), .slice A1 a1.data.length c2, .slice A4 a1.items.length c5] 89) :: ((B18 ++ []) ++ N)) (fun w m => Z105 hΦ 2 m rfl) b0_ a0 (172 : Int) x44 (by omega) hx43) rfl rfl ?_)
    rintro L46 M47 ⟨B45, e48, e49⟩
    rw [e48, e49]
    clear e48 e49 L46 M47
    refine Z20 (M' := ((some b0_, blk x44.C 109) :: (ob21, blk (cs19 ++ r23) 89) :: (some b13, blk [.bool (a1.list), .slice A1 a1.data.length c2, .slice A4 a1.items.length c5] 89) :: ((B45 ++ (B18 ++ [])) ++ N))) (fun w m => by have h := Z113 (A := B45) m 1 2 rfl rfl; exact h) ?_
    have gq3 : ∀ w, More w0 Φ (B45 ++ (B18 ++ [])) w → More w0 Φ (B18 ++ []) w := fun w q => More.mono (fun w m => (m).appR) q
    replace h10 := ItRd.mono gq3 _ _ h10
    replace v3 := v3.mono gq3
    replace v6 := v6.mono gq3
    replace h8 := h8.mono (ItRd.mono gq3)
    replace h20 := h20.mono (ItRd.mono gq3)
    refine Z6 ?_
    exact QW.join ⟨x44, (B45 ++ (B18 ++ [])), (Zi hq32).symm, (fun w m => (m).appR), rfl, rfl⟩ ⟨rfl, trivial⟩ (fun w m => m.pick [1, 0] 3 rfl rfl)
 ·replace hf := if_f hf h14
  refine Z13 rfl (congrArg (fun b => !b) (decide_eq_false h14)) (Z4 (Z2 (Z0 (Z5 rfl) rfl (Z6 (Z1 (CW.ret (Z8 (QW.mem (M' := ((none, blk ([] ++ []) 89) :: (some b13, blk [.bool (a1.list), .slice A1 a1.data.length c2, .slice A4 a1.items.length c5] 89) :: (some b0_, blk a0.C 109) :: ([] ++ N))) (fun w m => m.nil_ent _) ?_))))))))
  have er0 := Zi hf
  obtain ⟨e0, er1⟩ := Prod.mk.inj er0
  clear er0
  subst e0
  subst er1
  refine Z104 (rs := [.tmp 4]) ([sl none 0 ([] : List (It)).length 0]) ((none, blk ([] ++ []) 89) :: (some b0_, blk a0.C 109) :: []) rfl ?_ rfl ?_ ?_ _ (.inl rfl)
  ·exact ⟨rfl, trivial⟩
  ·exact ⟨[], [], none, 0, [], Reps.nil, OwnS.nil, rfl, rfl⟩
  ·exact (fun w m => m.pick [0, 2] 3 rfl rfl)
theorem Z120 (w0 : World) (Φ : Ctx) (N : List Ent) (hΦ : ∀ w, Mem w0 w N → Φ w) (b0_ : Nat) (a0 : Rdr) (cs1_ : List Value) (a1 : It) (a2 : Int) (res0 : List (BitVec 8)) (new0 : Rdr) (ha1 : ItRd Φ cs1_ a1) (ba2 : -9223372036854775808 ≤ a2 ∧ a2 ≤ 9223372036854775807) (hf : waybill_receipt_reader_text a0 a1 a2 = some (res0, new0)) : DoesG Tryd.prog 94 [ptr (some b0_) 0, .agg cs1_.toArray, .int .i64 a2] w0 [(some b0_, blk a0.C 109)] N (fun v G => ∃ B : List Ent, ∃ or0 : Option Nat, ∃ kr0 : Nat, ∃ rr0 : List Value, (OwnS or0 res0.length kr0 1 (u8s res0) rr0) ∧ v = sl or0 0 res0.length kr0 ∧ G = (or0, blk ((u8s res0) ++ rr0) 5) :: (some b0_, blk new0.C 109) :: B) := by
 unfold waybill_receipt_reader_text at hf
 replace ha1 := ItRd.mono (Ψ := More w0 Φ []) (fun w q => q.1) _ _ ha1
 have h10 := ha1
 obtain ⟨A1, c2, A4, c5, cs7, e9, v3, v6, h8⟩ := ItRd.opn ha1
 subst e9
 have m11 := v3.mx
 have m12 := v6.mx
 refine DoesG.enter Tryd.func94 rfl Tryd.ntmps94 rfl (M := ((some b0_, blk a0.C 109) :: ([] ++ N))) rfl (Z4 (Z2 (Z130 rfl rfl (fun b13 => (Z0 (Z5 rfl) rfl (Z6 (Z1 (Z4 (Z4 (Z2 (Z0 (Z3 rfl) rfl (Z0 (RV.nilCheck rfl) rfl (Z0 (Z30 rfl rfl rfl rfl) rfl ?_)))))))))))))
 refine Z7 (ptr (some b0_) 0) rfl (Z0 (Z29 rfl (List.Mem.tail _ Zh) rfl rfl rfl (Rdr.C_err _)) rfl (Z0 (RV.neq rfl rfl) rfl (Z6 (Z1 ?_))))
 by_cases h14 : a0.err = (0 : Int)
 ·replace hf := if_t hf h14
  refine Z14 rfl (congrArg (fun b => !b) (decide_eq_true h14)) (CW.skip (Z1 (Z4 (Z2 (Z0 (Z22 rfl Zh rfl rfl rfl rfl rfl) rfl ?_)))))
  obtain ⟨⟨x16, x17⟩, hx15, hf⟩ := Z100 hf
  try dsimp only at hf
  refine Z12 Tryd.call121 rfl (rlp_GetText_does w0 (More w0 Φ []) ((some b13, blk [.bool (a1.list), .slice A1 a1.data.length c2, .slice A4 a1.items.length c5] 89) :: (some b0_, blk a0.C 109) :: ([] ++ N)) (fun w m => Z105 hΦ 2 m rfl) [.bool (a1.list), .slice A1 a1.data.length c2, .slice A4 a1.items.length c5] a1 x16 x17 h10 hx15) rfl rfl ?_
  rintro L24 M25 ⟨B18, ob19, c20, r21, o22, b23, e26, e27⟩
  rw [e26, e27]
  clear e26 e27 L24 M25
  refine Z20 (M' := ((ob19, blk ((u8s x16) ++ r21) 5) :: (some b13, blk [.bool (a1.list), .slice A1 a1.data.length c2, .slice A4 a1.items.length c5] 89) :: (some b0_, blk a0.C 109) :: ((B18 ++ []) ++ N))) (fun w m => by have h := Z113 (A := B18) m 1 2 rfl rfl; exact h) ?_
  have gq1 : ∀ w, More w0 Φ (B18 ++ []) w → More w0 Φ [] w := fun w q => More.mono (fun w m => (m).appR) q
  replace h10 := ItRd.mono gq1 _ _ h10
  replace v3 := v3.mono gq1
  replace v6 := v6.mono gq1
  replace h8 := h8.mono (ItRd.mono gq1)
  have m28 := o22.mx
  refine Z0 (Z3 rfl) rfl (Z0 (Z17 rfl rfl) rfl (Z7 (sl ob19 0 x16.length c20) (rfl) (Z0 (Z17 rfl rfl) rfl (Z7 (.int .i64 ((x17 : Nat) : Int)) (rfl) (Z0 (Z5 rfl) rfl (Z0 (Z5 rfl) rfl (Z6 (Z1 (Z4 (Z4 ?_))))))))))
  obtain ⟨q29, hq30, hf⟩ := Z100 hf
  refine Z115 (fun L' M' => ∃ p31 : Bool, q29 = p31 ∧ L' = [(0, ptr (some b0_) 0), (7, sl ob19 0 x16.length c20), (30, .bool (p31))] ∧ M' = ((ob19, blk ((u8s x16) ++ r21) 5) :: (some b0_, blk a0.C 109) :: ((B18 ++ []) ++ N))) ?_ ?_
  ·rintro L33 M34 ⟨p31, e32, e35, e36⟩
   rw [e35, e36]
   clear e35 e36 L33 M34
   clear hq30
   rw [e32] at hf
   clear e32
   try dsimp only at hf
   have m37 := o22.mx
   refine Z1 ?_
   by_cases h38 : p31 = true
   ·replace hf := if_t hf h38
    refine Z13 rfl (h38) (Z4 (Z2 (Z0 (Z3 rfl) rfl ?_)))
    obtain ⟨x40, hx39, hf⟩ := Z100 hf
    refine Z20 (M' := ((some b0_, blk a0.C 109) :: (ob19, blk ((u8s x16) ++ r21) 5) :: ((B18 ++ []) ++ N))) (fun w m => m.pick [1, 0] 2 rfl rfl) (Z12 Tryd.call95 rfl (Z110 w0 (More w0 Φ (B18 ++ [])) ((ob19, blk ((u8s x16) ++ r21) 5) :: ((B18 ++ []) ++ N)) (fun w m => Z105 hΦ 1 m rfl) b0_ a0 (172 : Int) x40 (by omega) hx39) rfl rfl ?_)
    rintro L42 M43 ⟨B41, e44, e45⟩
    rw [e44, e45]
    clear e44 e45 L42 M43
    refine Z20 (M' := ((some b0_, blk x40.C 109) :: (ob19, blk ((u8s x16) ++ r21) 5) :: ((B41 ++ (B18 ++ [])) ++ N))) (fun w m => by have h := Z113 (A := B41) m 1 1 rfl rfl; exact h) ?_
    refine Z6 (Z1 (Z4 (Z2 (Z0 (Z5 rfl) rfl (Z6 (Z1 (CW.ret (Z8 (QW.mem (M' := ((none, blk ((u8s ([] : List (BitVec 8))) ++ []) 5) :: (some b0_, blk x40.C 109) :: (ob19, blk ((u8s x16) ++ r21) 5) :: ((B41 ++ (B18 ++ [])) ++ N))) (fun w m => m.nil_ent _) ?_)))))))))
    have er0 := Zi hf
    obtain ⟨e0, er1⟩ := Prod.mk.inj er0
    clear er0
    subst e0
    subst er1
    refine Z104 (rs := [.tmp 6]) ([sl none 0 ([] : List (BitVec 8)).length 0]) ((none, blk ((u8s ([] : List (BitVec 8))) ++ []) 5) :: (some b0_, blk x40.C 109) :: (B41 ++ (B18 ++ []))) rfl ?_ rfl ?_ ?_ _ (.inl rfl)
    ·exact ⟨rfl, trivial⟩
    ·exact ⟨(B41 ++ (B18 ++ [])), none, 0, [], OwnS.nil, rfl, rfl⟩
    ·exact (fun w m => m.pick [0, 1] 3 rfl rfl)
   ·replace hf := if_f hf h38
    refine Z14 rfl (Bool.eq_false_iff.2 h38) (CW.skip (Z1 (Z4 (Z2 (Z0 (Z3 rfl) rfl (Z0 (Z5 rfl) rfl (Z6 (Z1 (CW.ret ?_)))))))))
    have er0 := Zi hf
    obtain ⟨e0, er1⟩ := Prod.mk.inj er0
    clear er0
    subst e0
    subst er1
    refine Z104 (rs := [.tmp 6]) ([sl ob19 0 x16.length c20]) ((ob19, blk ((u8s x16) ++ r21) 5) :: (some b0_, blk a0.C 109) :: (B18 ++ [])) rfl ?_ rfl ?_ ?_ _ (.inl rfl)
    ·exact ⟨rfl, trivial⟩
    ·exact ⟨(B18 ++ []), ob19, c20, r21, o22, rfl, rfl⟩
    ·exact (fun w m => m.pick [0, 1] 2 rfl rfl)
  ·skip
   refine Z2 (Z0 (Z3 rfl) rfl (Z0 (RV.neq rfl rfl) rfl (Z7 (.bool (!decide (x17 = 0))) (congrArg (fun b => Value.bool (!b)) (decide_eq_decide.2 (by omega))) (Z0 (Z3 rfl) rfl ?_))))
   by_cases h46 : x17 = 0
   ·replace hq30 := if_t hq30 h46
    refine Z7 (.bool false) (congrArg Value.bool (congrArg (fun b => !b) (decide_eq_true h46))) (Z24 rfl (Z0 (Z3 rfl) rfl (Z24 rfl (Z0 (RV.geq rfl rfl) rfl (Z24 rfl (Z0 (Z3 rfl) rfl ?_))))))
    by_cases h47 : (0 : Int) ≤ a2
    ·replace hq30 := if_t hq30 h47
     refine Z7 (.bool true) (congrArg Value.bool (decide_eq_true h47)) (Z24 rfl (Z0 (Z3 rfl) rfl (Z24 rfl (Z0 (RV.len rfl rfl) rfl (Z24 rfl (Z0 (Z3 rfl) rfl (Z24 rfl ?_)))))))
     refine Z0 (RV.neq rfl rfl) rfl (Z24 rfl (Z0 (Z108 rfl rfl rfl) rfl (Z0 (Z106 rfl rfl rfl) rfl (Z6 ?_))))
     exact QW.join ⟨(!decide (((x16.length : Nat) : Int) = a2)), (Zi hq30).symm, rfl, rfl⟩ ⟨rfl, rfl, rfl, trivial⟩ (fun w m => m.pick [0, 2] 3 rfl rfl)
    ·replace hq30 := if_f hq30 h47
     refine Z7 (.bool false) (congrArg Value.bool (decide_eq_false h47)) (Z23 rfl rfl rfl (Z23 rfl rfl rfl (Z23 rfl rfl rfl (Z23 rfl rfl rfl (Z24 rfl (Z0 (Z106 rfl rfl rfl) rfl (Z0 (Z106 rfl rfl rfl) rfl ?_)))))))
     refine Z6 ?_
     exact QW.join ⟨false, (Zi hq30).symm, rfl, rfl⟩ ⟨rfl, rfl, rfl, trivial⟩ (fun w m => m.pick [0, 2] 3 rfl rfl)
   ·replace hq30 := if_f hq30 h46
    refine Z7 (.bool true) (congrArg Value.bool (congrArg (fun b => !b) (decide_eq_false h46))) (Z23 rfl rfl rfl (Z23 rfl rfl rfl (Z23 rfl rfl rfl (Z23 rfl rfl rfl (Z23 rfl rfl rfl (Z23 rfl rfl rfl (Z23 rfl rfl rfl ?_)))))))
    refine Z23 rfl rfl rfl (Z0 (Z108 rfl rfl rfl) rfl (Z6 ?_))
    exact QW.join ⟨true, (Zi hq30).symm, rfl, rfl⟩ ⟨rfl, rfl, rfl, trivial⟩ (fun w m => m.pick [0, 2] 3 rfl rfl)
 ·replace hf := if_f hf h14
  refine Z13 rfl (congrArg (fun b => !b) (decide_eq_false h14)) (Z4 (Z2 (Z0 (Z5 rfl) rfl (Z6 (Z1 (CW.ret (Z8 (QW.mem (M' := ((none, blk ((u8s ([] : List (BitVec 8))) ++ []) 5) :: (some b13, blk [.bool (a1.list), .slice A1 a1.data.length c2, .slice A4 a1.items.length c5] 89) :: (some b0_, blk a0.C 109) :: ([] ++ N))) (fun w m => m.nil_ent _) ?_))))))))
  have er0 := Zi hf
  obtain ⟨e0, er1⟩ := Prod.mk.inj er0
  clear er0
  subst e0
  subst er1
  refine Z104 (rs := [.tmp 6]) ([sl none 0 ([] : List (BitVec 8)).length 0]) ((none, blk ((u8s ([] : List (BitVec 8))) ++ []) 5) :: (some b0_, blk a0.C 109) :: []) rfl ?_ rfl ?_ ?_ _ (.inl rfl)
  ·exact ⟨rfl, trivial⟩
  ·exact ⟨[], none, 0, [], OwnS.nil, rfl, rfl⟩
  ·exact (fun w m => m.pick [0, 2] 3 rfl rfl)
theorem Z140 (w0 : World) (Φ : Ctx) (N : List Ent) (hΦ : ∀ w, Mem w0 w N → Φ w) (cs0_ : List Value) (a0 : It) (res0 : List (BitVec 8)) (res1 : Bool) (ha0 : ItRd Φ cs0_ a0) (hf : waybillref14_Text a0 = some (res0, res1)) : DoesG Tryd.prog 126 [.agg cs0_.toArray] w0 [] N (fun v G => ∃ B : List Ent, ∃ Ar0 : Option Addr, ∃ kr0 : Nat, (View (More w0 Φ B) Ar0 res0.length kr0 1 (u8s res0)) ∧ v = .tuple #[.slice Ar0 res0.length kr0, .bool res1] ∧ G = B) := by
 unfold waybillref14_Text at hf
 replace ha0 := ItRd.mono (Ψ := More w0 Φ []) (fun w q => q.1) _ _ ha0
 have h10 := ha0
 obtain ⟨A1, c2, A4, c5, cs7, e9, v3, v6, h8⟩ := ItRd.opn ha0
 subst e9
 have m11 := v3.mx
 have m12 := v6.mx
 refine DoesG.enter Tryd.func126 rfl Tryd.ntmps126 rfl (M := (([] ++ N))) rfl (Z4 (Z2 (Z130 rfl rfl (fun b13 => (Z0 (Z5 rfl) rfl (Z0 (Z5 rfl) rfl (Z6 (Z1 (Z4 (Z4 ?_))))))))))
 obtain ⟨q14, hq15, hf⟩ := Z100 hf
 refine Z115 (fun L' M' => ∃ p16 : Bool, q14 = p16 ∧ L' = [(1, ptr (some b13) 0), (11, .bool (p16))] ∧ M' = ((some b13, blk [.bool (a0.list), .slice A1 a0.data.length c2, .slice A4 a0.items.length c5] 89) :: ([] ++ N))) ?_ ?_
 ·rintro L18 M19 ⟨p16, e17, e20, e21⟩
  rw [e20, e21]
  clear e20 e21 L18 M19
  clear hq15
  rw [e17] at hf
  clear e17
  try dsimp only at hf
  refine Z1 ?_
  by_cases h22 : p16 = true
  ·replace hf := if_t hf h22
   refine Z13 rfl (h22) (Z4 (Z2 (Z0 (Z5 rfl) rfl (Z0 (Z5 rfl) rfl (Z6 (Z1 (CW.ret (Z8 ?_))))))))
   have er0 := Zi hf
   obtain ⟨e0, er1⟩ := Prod.mk.inj er0
   clear er0
   subst e0
   subst er1
   refine Z104 (rs := [.tmp 2, .tmp 3]) ([.slice none 0 0, .bool false]) ([]) rfl ?_ rfl ?_ ?_ _ (.inl rfl)
   ·exact ⟨rfl, rfl, trivial⟩
   ·exact ⟨[], none, 0, View.nil, rfl, rfl⟩
   ·exact (fun w m => m.pick [] 1 rfl rfl)
  ·replace hf := if_f hf h22
   refine Z14 rfl (Bool.eq_false_iff.2 h22) (CW.skip (Z1 (Z4 (Z2 (Z0 (Z30 rfl rfl rfl rfl) rfl (Z0 (Z29 rfl Zh rfl rfl rfl rfl) rfl (Z0 (Z5 rfl) rfl (Z0 (Z5 rfl) rfl (Z6 (Z1 (CW.ret ?_)))))))))))
   have er0 := Zi hf
   obtain ⟨e0, er1⟩ := Prod.mk.inj er0
   clear er0
   subst e0
   subst er1
   refine Z104 (rs := [.tmp 2, .tmp 3]) ([.slice A1 a0.data.length c2, .bool true]) ([]) rfl ?_ rfl ?_ ?_ _ (.inl rfl)
   ·exact ⟨rfl, rfl, trivial⟩
   ·exact ⟨[], A1, c2, v3, rfl, rfl⟩
   ·exact (fun w m => m.pick [] 1 rfl rfl)
 ·skip
  refine Z2 (Z0 (Z30 rfl rfl rfl rfl) rfl (Z0 (Z29 rfl Zh rfl rfl rfl rfl) rfl (Z0 (Z3 rfl) rfl ?_)))
  by_cases h23 : a0.list = true
  ·replace hq15 := if_t hq15 h23
   refine Z7 (.bool true) (congrArg Value.bool (h23)) (Z23 rfl rfl rfl (Z23 rfl rfl rfl (Z23 rfl rfl rfl (Z23 rfl rfl rfl (Z0 (Z108 rfl rfl rfl) rfl (Z6 ?_))))))
   exact QW.join ⟨true, (Zi hq15).symm, rfl, rfl⟩ ⟨rfl, rfl, trivial⟩ (fun w m => m.pick [0] 1 rfl rfl)
  ·replace hq15 := if_f hq15 h23
   refine Z7 (.bool false) (congrArg Value.bool (Bool.eq_false_iff.2 h23)) (Z24 rfl (Z0 (Z30 rfl rfl rfl rfl) rfl (Z24 rfl (Z0 (Z29 rfl Zh rfl rfl rfl rfl) rfl (Z24 rfl (Z0 (RV.len rfl rfl) rfl (Z24 rfl ?_)))))))
   refine Z0 (RV.gtr rfl rfl) rfl (Z7 (.bool (decide (0 < a0.items.length))) (congrArg Value.bool (decide_eq_decide.2 (by omega))) (Z0 (Z106 rfl rfl rfl) rfl (Z6 ?_)))
   exact QW.join ⟨(decide (0 < a0.items.length)), (Zi hq15).symm, rfl, rfl⟩ ⟨rfl, rfl, trivial⟩ (fun w m => m.pick [0] 1 rfl rfl)
theorem Z141 (w0 : World) (Φ : Ctx) (N : List Ent) (hΦ : ∀ w, Mem w0 w N → Φ w) (cs0_ : List Value) (a0 : It) (res0 : List (It)) (res1 : Bool) (ha0 : ItRd Φ cs0_ a0) (hf : waybillref14_List a0 = some (res0, res1)) : DoesG Tryd.prog 73 [.agg cs0_.toArray] w0 [] N (fun v G => ∃ B : List Ent, ∃ cr0 : List Value, ∃ Ar0 : Option Addr, ∃ kr0 : Nat, (Reps (ItRd (More w0 Φ B)) cr0 res0) ∧ (View (More w0 Φ B) Ar0 res0.length kr0 3 cr0) ∧ v = .tuple #[.slice Ar0 res0.length kr0, .bool res1] ∧ G = B) := by
 unfold waybillref14_List at hf
 replace ha0 := ItRd.mono (Ψ := More w0 Φ []) (fun w q => q.1) _ _ ha0
 have h10 := ha0
 obtain ⟨A1, c2, A4, c5, cs7, e9, v3, v6, h8⟩ := ItRd.opn ha0
 subst e9
 have m11 := v3.mx
 have m12 := v6.mx
 refine DoesG.enter Tryd.func73 rfl Tryd.ntmps73 rfl (M := (([] ++ N))) rfl (Z4 (Z2 (Z130 rfl rfl (fun b13 => (Z0 (Z5 rfl) rfl (Z0 (Z5 rfl) rfl (Z6 (Z1 (Z4 (Z4 ?_))))))))))
 obtain ⟨q14, hq15, hf⟩ := Z100 hf
 refine Z115 (fun L' M' => ∃ p16 : Bool, q14 = p16 ∧ L' = [(1, ptr (some b13) 0), (12, .bool (p16))] ∧ M' = ((some b13, blk [.bool (a0.list), .slice A1 a0.data.length c2, .slice A4 a0.items.length c5] 89) :: ([] ++ N))) ?_ ?_
 ·rintro L18 M19 ⟨p16, e17, e20, e21⟩
  rw [e20, e21]
  clear e20 e21 L18 M19
  clear hq15
  rw [e17] at hf
  clear e17
  try dsimp only at hf
  refine Z1 ?_
  by_cases h22 : p16 = true
  ·replace hf := if_t hf h22
   refine Z13 rfl (h22) (Z4 (Z2 (Z0 (Z5 rfl) rfl (Z0 (Z5 rfl) rfl (Z6 (Z1 (CW.ret (Z8 ?_))))))))
   have er0 := Zi hf
   obtain ⟨e0, er1⟩ := Prod.mk.inj er0
   clear er0
   subst e0
   subst er1
   refine Z104 (rs := [.tmp 2, .tmp 3]) ([.slice none 0 0, .bool false]) ([]) rfl ?_ rfl ?_ ?_ _ (.inl rfl)
   ·exact ⟨rfl, rfl, trivial⟩
   ·exact ⟨[], [], none, 0, .nil, View.nil, rfl, rfl⟩
   ·exact (fun w m => m.pick [] 1 rfl rfl)
  ·replace hf := if_f hf h22
   refine Z14 rfl (Bool.eq_false_iff.2 h22) (CW.skip (Z1 (Z4 (Z2 (Z0 (Z30 rfl rfl rfl rfl) rfl (Z0 (Z29 rfl Zh rfl rfl rfl rfl) rfl (Z0 (Z5 rfl) rfl (Z0 (Z5 rfl) rfl (Z6 (Z1 (CW.ret ?_)))))))))))
   have er0 := Zi hf
   obtain ⟨e0, er1⟩ := Prod.mk.inj er0
   clear er0
   subst e0
   subst er1
   refine Z104 (rs := [.tmp 2, .tmp 3]) ([.slice A4 a0.items.length c5, .bool true]) ([]) rfl ?_ rfl ?_ ?_ _ (.inl rfl)
   ·exact ⟨rfl, rfl, trivial⟩
   ·exact ⟨[], cs7, A4, c5, h8, v6, rfl, rfl⟩
   ·exact (fun w m => m.pick [] 1 rfl rfl)
 ·skip
  refine Z2 (Z0 (Z30 rfl rfl rfl rfl) rfl (Z0 (Z29 rfl Zh rfl rfl rfl rfl) rfl (Z0 (RV.not rfl) rfl (Z0 (Z3 rfl) rfl ?_))))
  by_cases h23 : a0.list = true
  ·replace hq15 := if_t hq15 h23
   refine Z7 (.bool false) (congrArg Value.bool (congrArg (fun b => !b) (h23))) (Z24 rfl (Z0 (Z30 rfl rfl rfl rfl) rfl (Z24 rfl (Z0 (Z29 rfl Zh rfl rfl rfl rfl) rfl (Z24 rfl (Z0 (RV.len rfl rfl) rfl (Z24 rfl ?_)))))))
   refine Z0 (RV.gtr rfl rfl) rfl (Z7 (.bool (decide (0 < a0.data.length))) (congrArg Value.bool (decide_eq_decide.2 (by omega))) (Z0 (Z106 rfl rfl rfl) rfl (Z6 ?_)))
   exact QW.join ⟨(decide (0 < a0.data.length)), (Zi hq15).symm, rfl, rfl⟩ ⟨rfl, rfl, trivial⟩ (fun w m => m.pick [0] 1 rfl rfl)
  ·replace hq15 := if_f hq15 h23
   refine Z7 (.bool true) (congrArg Value.bool (congrArg (fun b => !b) (Bool.eq_false_iff.2 h23))) (Z23 rfl rfl rfl (Z23 rfl rfl rfl (Z23 rfl rfl rfl (Z23 rfl rfl rfl (Z0 (Z108 rfl rfl rfl) rfl (Z6 ?_))))))
   exact QW.join ⟨true, (Zi hq15).symm, rfl, rfl⟩ ⟨rfl, rfl, trivial⟩ (fun w m => m.pick [0] 1 rfl rfl)
theorem Z147 (w0 : World) (Φ : Ctx) (N : List Ent) (hΦ : ∀ w, Mem w0 w N → Φ w) (cs0_ : List Value) (a0 : It) (a1 : Int) (res0 : List (BitVec 8)) (res1 : Bool) (ha0 : ItRd Φ cs0_ a0) (ba1 : -9223372036854775808 ≤ a1 ∧ a1 ≤ 9223372036854775807) (hf : waybillref14_Fixed a0 a1 = some (res0, res1)) : DoesG Tryd.prog 102 [.agg cs0_.toArray, .int .i64 a1] w0 [] N (fun v G => ∃ B : List Ent, ∃ Ar0 : Option Addr, ∃ kr0 : Nat, (View (More w0 Φ B) Ar0 res0.length kr0 1 (u8s res0)) ∧ v = .tuple #[.slice Ar0 res0.length kr0, .bool res1] ∧ G = B) := by
 unfold waybillref14_Fixed at hf
 replace ha0 := ItRd.mono (Ψ := More w0 Φ []) (fun w q => q.1) _ _ ha0
 have h10 := ha0
 obtain ⟨A1, c2, A4, c5, cs7, e9, v3, v6, h8⟩ := ItRd.opn ha0
 subst e9
 have m11 := v3.mx
 have m12 := v6.mx
 refine DoesG.enter Tryd.func102 rfl Tryd.ntmps102 rfl (M := (([] ++ N))) rfl (Z4 (Z2 (Z130 rfl rfl (fun b13 => (Z0 (Z5 rfl) rfl (Z0 (Z5 rfl) rfl (Z6 (Z1 (Z4 (Z2 (Z0 (Z22 rfl Zh rfl rfl rfl rfl rfl) rfl ?_)))))))))))
 obtain ⟨⟨x15, x16⟩, hx14, hf⟩ := Z100 hf
 try dsimp only at hf
 refine Z12 Tryd.call126 rfl (Z140 w0 (More w0 Φ []) ((some b13, blk [.bool (a0.list), .slice A1 a0.data.length c2, .slice A4 a0.items.length c5] 89) :: ([] ++ N)) (fun w m => Z105 hΦ 1 m rfl) [.bool (a0.list), .slice A1 a0.data.length c2, .slice A4 a0.items.length c5] a0 x15 x16 h10 hx14) rfl rfl ?_
 rintro L21 M22 ⟨B17, A18, c19, v20, e23, e24⟩
 rw [e23, e24]
 clear e23 e24 L21 M22
 refine Z20 (M' := ((some b13, blk [.bool (a0.list), .slice A1 a0.data.length c2, .slice A4 a0.items.length c5] 89) :: ((B17 ++ []) ++ N))) (fun w m => by have h := Z113 (A := B17) m 0 1 rfl rfl; exact h) ?_
 have gq1 : ∀ w, More w0 Φ (B17 ++ []) w → More w0 Φ [] w := fun w q => More.mono (fun w m => (m).appR) q
 replace h10 := ItRd.mono gq1 _ _ h10
 replace v3 := v3.mono gq1
 replace v6 := v6.mono gq1
 replace h8 := h8.mono (ItRd.mono gq1)
 replace v20 := v20.mono (Ψ := (More w0 Φ (B17 ++ []))) (fun w q => Z128 q)
 have m25 := v20.mx
 refine Z0 (Z3 rfl) rfl (Z0 (Z17 rfl rfl) rfl (Z7 (.slice A18 x15.length c19) (rfl) (Z0 (Z17 rfl rfl) rfl (Z7 (.bool (x16)) (rfl) (Z0 (Z5 rfl) rfl (Z0 (Z5 rfl) rfl (Z6 (Z1 (Z4 ?_)))))))))
 obtain ⟨q26, hq27, hf⟩ := Z100 hf
 refine Z115 (fun L' M' => ∃ l28 : List (BitVec 8), ∃ p32 : Bool, ∃ A29 : Option Addr, ∃ c30 : Nat, q26 = (l28, p32) ∧ (View (More w0 Φ (B17 ++ [])) A29 l28.length c30 1 (u8s l28)) ∧ L' = [(4, .slice A29 l28.length c30), (5, .bool (p32))] ∧ M' = (((B17 ++ []) ++ N))) ?_ ?_
 ·rintro L34 M35 ⟨l28, p32, A29, c30, e33, v31, e36, e37⟩
  rw [e36, e37]
  clear e36 e37 L34 M35
  clear hq27
  rw [e33] at hf
  clear e33
  try dsimp only at hf
  have m38 := v31.mx
  refine Z1 (CW.ret ?_)
  have er0 := Zi hf
  obtain ⟨e0, er1⟩ := Prod.mk.inj er0
  clear er0
  subst e0
  subst er1
  refine Z104 (rs := [.tmp 4, .tmp 5]) ([.slice A29 l28.length c30, .bool (p32)]) ((B17 ++ [])) rfl ?_ rfl ?_ ?_ _ (.inl rfl)
  ·exact ⟨rfl, rfl, trivial⟩
  ·exact ⟨(B17 ++ []), A29, c30, v31, rfl, rfl⟩
  ·exact (fun w m => m.pick [] 0 rfl rfl)
 ·skip
  refine Z2 (Z0 (Z3 rfl) rfl (Z0 (Z3 rfl) rfl (Z0 (Z3 rfl) rfl ?_)))
  by_cases h39 : x16 = true
  ·replace hq27 := if_t hq27 h39
   refine Z7 (.bool true) (congrArg Value.bool (h39)) (Z24 rfl (Z0 (Z3 rfl) rfl (Z24 rfl (Z0 (RV.len rfl rfl) rfl (Z24 rfl (Z0 (Z3 rfl) rfl (Z24 rfl ?_)))))))
   refine Z0 (RV.eql rfl rfl) rfl (Z0 (Z108 rfl rfl rfl) rfl (Z0 (Z5 rfl) rfl (Z0 (Z5 rfl) rfl (Z6 ?_))))
   exact QW.join ⟨x15, (decide (((x15.length : Nat) : Int) = a1)), A18, c19, (Zi hq27).symm, v20, rfl, rfl⟩ ⟨rfl, rfl, trivial⟩ (fun w m => m.pick [] 1 rfl rfl)
  ·replace hq27 := if_f hq27 h39
   refine Z7 (.bool false) (congrArg Value.bool (Bool.eq_false_iff.2 h39)) (Z23 rfl rfl rfl (Z23 rfl rfl rfl (Z23 rfl rfl rfl (Z23 rfl rfl rfl (Z0 (Z106 rfl rfl rfl) rfl (Z0 (Z5 rfl) rfl (Z0 (Z5 rfl) rfl ?_)))))))
   refine Z6 ?_
   exact QW.join ⟨x15, false, A18, c19, (Zi hq27).symm, v20, rfl, rfl⟩ ⟨rfl, rfl, trivial⟩ (fun w m => m.pick [] 1 rfl rfl)
theorem waybillref14_Scalar_does (w0 : World) (Φ : Ctx) (N : List Ent) (hΦ : ∀ w, Mem w0 w N → Φ w) (cs0_ : List Value) (a0 : It) (a1 : Int) (res0 : Vector (BitVec 64) 4) (res1 : Bool) (ha0 : ItRd Φ cs0_ a0) (ba1 : -9223372036854775808 ≤ a1 ∧ a1 ≤ 9223372036854775807) (hf : waybillref14_Scalar a0 a1 = some (res0, res1)) : DoesG Tryd.prog 101 [.agg cs0_.toArray, .int .i64 a1] w0 [] N (fun v G => v = .tuple #[.agg (u64s res0.toList).toArray, .bool res1]) := by
 unfold waybillref14_Scalar at hf
 replace ha0 := ItRd.mono (Ψ := More w0 Φ []) (fun w q => q.1) _ _ ha0
 have h10 := ha0
 obtain ⟨A1, c2, A4, c5, cs7, e9, v3, v6, h8⟩ := ItRd.opn ha0
 subst e9
 have m11 := v3.mx
 have m12 := v6.mx
 refine DoesG.enter Tryd.func101 rfl Tryd.ntmps101 rfl (M := (([] ++ N))) rfl (Z4 (Z2 (Z130 rfl rfl (fun b13 => (OW.alloc (l := (u64s (Vector.replicate 4 0#64).toList)) rfl (by rw [Vector.toList_replicate, ← Z116]; rfl) rfl (fun b14 => (Z0 (Z5 rfl) rfl (Z6 (Z1 (Z4 (Z2 (Z0 (Z22 rfl (List.Mem.tail _ Zh) rfl rfl rfl rfl rfl) rfl ?_))))))))))))
 obtain ⟨⟨x16, x17⟩, hx15, hf⟩ := Z100 hf
 try dsimp only at hf
 refine Z12 Tryd.call126 rfl (Z140 w0 (More w0 Φ []) ((some b14, blk (u64s (Vector.replicate 4 0#64).toList) 128) :: (some b13, blk [.bool (a0.list), .slice A1 a0.data.length c2, .slice A4 a0.items.length c5] 89) :: ([] ++ N)) (fun w m => Z105 hΦ 2 m rfl) [.bool (a0.list), .slice A1 a0.data.length c2, .slice A4 a0.items.length c5] a0 x16 x17 h10 hx15) rfl rfl ?_
 rintro L22 M23 ⟨B18, A19, c20, v21, e24, e25⟩
 rw [e24, e25]
 clear e24 e25 L22 M23
 refine Z20 (M' := ((some b14, blk (u64s (Vector.replicate 4 0#64).toList) 128) :: (some b13, blk [.bool (a0.list), .slice A1 a0.data.length c2, .slice A4 a0.items.length c5] 89) :: ((B18 ++ []) ++ N))) (fun w m => by have h := Z113 (A := B18) m 0 2 rfl rfl; exact h) ?_
 have gq1 : ∀ w, More w0 Φ (B18 ++ []) w → More w0 Φ [] w := fun w q => More.mono (fun w m => (m).appR) q
 replace h10 := ItRd.mono gq1 _ _ h10
 replace v3 := v3.mono gq1
 replace v6 := v6.mono gq1
 replace h8 := h8.mono (ItRd.mono gq1)
 replace v21 := v21.mono (Ψ := (More w0 Φ (B18 ++ []))) (fun w q => Z128 q)
 have m26 := v21.mx
 refine Z0 (Z3 rfl) rfl (Z0 (Z17 rfl rfl) rfl (Z7 (.slice A19 x16.length c20) (rfl) (Z0 (Z17 rfl rfl) rfl (Z7 (.bool (x17)) (rfl) (Z0 (Z5 rfl) rfl (Z0 (Z5 rfl) rfl (Z6 (Z1 (Z4 (Z4 ?_))))))))))
 obtain ⟨q27, hq28, hf⟩ := Z100 hf
 refine Z115 (fun L' M' => ∃ p29 : Bool, q27 = p29 ∧ L' = [(4, ptr (some b14) 0), (6, .slice A19 x16.length c20), (33, .bool (p29))] ∧ M' = ((some b14, blk (u64s (Vector.replicate 4 0#64).toList) 128) :: ((B18 ++ []) ++ N))) ?_ ?_
 ·rintro L31 M32 ⟨p29, e30, e33, e34⟩
  rw [e33, e34]
  clear e33 e34 L31 M32
  clear hq28
  rw [e30] at hf
  clear e30
  try dsimp only at hf
  refine Z1 ?_
  by_cases h35 : p29 = true
  ·replace hf := if_t hf h35
   refine Z13 rfl (h35) (Z4 (Z2 (Z0 (RV.build0 (l := (u64s (Vector.replicate 4 0#64).toList)) rfl rfl rfl (by rw [Vector.toList_replicate, ← Z116]; rfl)) rfl (Z28 (Z103 rfl rfl rfl (Z118 _) rfl ((Z101 _).trans Zv) ((Z101 _).trans Zv)) (Z0 (Z5 rfl) rfl (Z6 (Z1 (CW.ret (Z8 ?_)))))))))
   have er0 := Zi hf
   obtain ⟨e0, er1⟩ := Prod.mk.inj er0
   clear er0
   subst e0
   subst er1
   refine Z104 (rs := [.cell 4 128, .tmp 5]) ([.agg (u64s (Vector.replicate 4 0#64).toList).toArray, .bool false]) ((some b14, blk (u64s (Vector.replicate 4 0#64).toList) 128) :: (B18 ++ [])) rfl ?_ rfl ?_ ?_ _ (.inl rfl)
   ·exact ⟨⟨_, _, _, _, rfl, Zh, rfl, rfl, (congrArg some ((Z101 _).trans Zv).symm), rfl⟩, rfl, trivial⟩
   ·exact rfl
   ·exact (fun w m => m)
  ·replace hf := if_f hf h35
   refine Z14 rfl (Bool.eq_false_iff.2 h35) (CW.skip (Z1 (Z4 (Z2 (Z0 (Z3 rfl) rfl (Z0 (Z107 (l := [.bool false, .slice none 0 0, .slice none 0 0]) (cs := [.bool false, .slice A19 x16.length c20, .slice none 0 0]) [(1, [.slice A19 x16.length c20])] rfl rfl rfl rfl rfl rfl rfl) rfl ?_))))))
   have v36 : View (More w0 Φ (B18 ++ [])) none ([] : List (It)).length 0 3 [] := View.nil
   obtain ⟨⟨x38, x39⟩, hx37, hf⟩ := Z100 hf
   try dsimp only at hf
   refine Z12 Tryd.call127 rfl (waybillref07_GetNumber_does w0 (More w0 Φ (B18 ++ [])) ((some b14, blk (u64s (Vector.replicate 4 0#64).toList) 128) :: ((B18 ++ []) ++ N)) (fun w m => Z105 hΦ 1 m rfl) [.bool false, .slice A19 x16.length c20, .slice none 0 0] (It.mk false x16 ([] : List (It))) x38 x39 (ItRd.mk v21 v36 (Reps.nil)) hx37) rfl rfl ?_
   rintro _ G41 ⟨b40, rfl⟩
   refine Z20 (M' := ((some b14, blk (u64s (Vector.replicate 4 0#64).toList) 128) :: ((B18 ++ []) ++ N))) (fun w m => m.appR) (Z0 (Z3 rfl) rfl (Z0 (Z17 rfl rfl) rfl (Z7 (.agg (u64s x38.toList).toArray) (rfl) (Z0 (Z17 rfl rfl) rfl (Z7 (.int .i64 ((x39 : Nat) : Int)) (rfl) (OW.alloc (l := (u64s (Vector.replicate 4 0#64).toList)) rfl (by rw [Vector.toList_replicate, ← Z116]; rfl) rfl (fun b43 => (Z28 (Z103 rfl rfl rfl (Z118 _) rfl ((Z101 _).trans Zv) ((Z101 _).trans Zv)) ?_))))))))
   refine Z0 (Z5 rfl) rfl (Z6 (Z1 (Z4 (Z2 (Z0 (Z22 rfl Zh rfl rfl rfl rfl ((Z101 _).trans Zv)) rfl (Z0 (Z3 rfl) rfl (Z0 (RV.eql rfl rfl) rfl (Z7 (.bool (decide (x39 = 0))) (congrArg Value.bool (decide_eq_decide.2 (by omega))) (OW.rot1 (Z28 (Z103 rfl rfl rfl (Z118 _) rfl ((Z101 _).trans Zv) ((Z101 _).trans Zv)) ?_))))))))))
   refine Z0 (Z5 rfl) rfl (Z6 (Z1 (CW.ret ?_)))
   have er0 := Zi hf
   obtain ⟨e0, er1⟩ := Prod.mk.inj er0
   clear er0
   subst e0
   subst er1
   refine Z104 (rs := [.cell 4 128, .tmp 5]) ([.agg (u64s x38.toList).toArray, .bool (decide (x39 = 0))]) ((some b14, blk (u64s x38.toList) 128) :: (some b43, blk (u64s x38.toList) 128) :: (B18 ++ [])) rfl ?_ rfl ?_ ?_ _ (.inl rfl)
   ·exact ⟨⟨_, _, _, _, rfl, Zh, rfl, rfl, (congrArg some ((Z101 _).trans Zv).symm), rfl⟩, rfl, trivial⟩
   ·exact rfl
   ·exact (fun w m => m)
 ·skip
  refine Z2 (Z0 (Z3 rfl) rfl (Z0 (RV.not rfl) rfl (Z0 (Z3 rfl) rfl ?_)))
  by_cases h44 : x17 = true
  ·replace hq28 := if_t hq28 h44
   refine Z7 (.bool false) (congrArg Value.bool (congrArg (fun b => !b) (h44))) (Z24 rfl (Z0 (Z3 rfl) rfl (Z24 rfl (Z0 (RV.len rfl rfl) rfl (Z24 rfl (Z0 (Z3 rfl) rfl (Z24 rfl ?_)))))))
   refine Z0 (RV.gtr rfl rfl) rfl (Z0 (Z106 rfl rfl rfl) rfl (Z0 (Z3 rfl) rfl ?_))
   by_cases h45 : a1 < ((x16.length : Nat) : Int)
   ·replace hq28 := if_t hq28 h45
    refine Z7 (.bool true) (congrArg Value.bool (decide_eq_true h45)) (Z23 rfl rfl rfl (Z23 rfl rfl rfl (Z23 rfl rfl rfl (Z23 rfl rfl rfl (Z23 rfl rfl rfl (Z23 rfl rfl rfl (Z23 rfl rfl rfl ?_)))))))
    refine Z23 rfl rfl rfl (Z23 rfl rfl rfl (Z0 (Z108 rfl rfl rfl) rfl (Z6 ?_)))
    exact QW.join ⟨true, (Zi hq28).symm, rfl, rfl⟩ ⟨rfl, rfl, rfl, trivial⟩ (fun w m => m.pick [0] 2 rfl rfl)
   ·replace hq28 := if_f hq28 h45
    refine Z7 (.bool false) (congrArg Value.bool (decide_eq_false h45)) (Z24 rfl (Z0 (Z3 rfl) rfl (Z24 rfl (Z0 (RV.len rfl rfl) rfl (Z24 rfl (Z0 (RV.gtr rfl rfl) rfl (Z7 (.bool (decide (0 < x16.length))) (congrArg Value.bool (decide_eq_decide.2 (by omega))) ?_)))))))
    refine Z24 rfl (Z0 (Z3 rfl) rfl ?_)
    by_cases h46 : 0 < x16.length
    ·replace hq28 := if_t hq28 h46
     refine Z7 (.bool true) (congrArg Value.bool (decide_eq_true h46)) (Z24 rfl (Z0 (Z3 rfl) rfl (Z24 rfl ?_)))
     obtain ⟨x47, hx48, hq28⟩ := Z100 hq28
     have hl49 := Z111 hx48
     refine Z0 (Z131 (0) rfl rfl rfl rfl rfl (v21.isSome (by decide) hl49) (by omega)) rfl (Z24 rfl (Z0 (Z21 rfl rfl rfl (fun w m => v21.cell (Z105 hΦ 2 m rfl) (Z148 hx48))) rfl (Z24 rfl (Z0 (RV.eql8 rfl (by first | rfl | exact lit8 _ rfl) rfl (by first | rfl | exact lit8 _ rfl)) rfl (Z24 rfl (Z0 (Z108 rfl rfl rfl) rfl (Z0 (Z106 rfl rfl rfl) rfl ?_)))))))
     refine Z6 ?_
     exact QW.join ⟨(decide (x47 = 0#8)), (Zi hq28).symm, rfl, rfl⟩ ⟨rfl, rfl, rfl, trivial⟩ (fun w m => m.pick [0] 2 rfl rfl)
    ·replace hq28 := if_f hq28 h46
     refine Z7 (.bool false) (congrArg Value.bool (decide_eq_false h46)) (Z23 rfl rfl rfl (Z23 rfl rfl rfl (Z23 rfl rfl rfl (Z23 rfl rfl rfl (Z24 rfl (Z0 (Z106 rfl rfl rfl) rfl (Z0 (Z106 rfl rfl rfl) rfl ?_)))))))
     refine Z6 ?_
     exact QW.join ⟨false, (Zi hq28).symm, rfl, rfl⟩ ⟨rfl, rfl, rfl, trivial⟩ (fun w m => m.pick [0] 2 rfl rfl)
  ·replace hq28 := if_f hq28 h44
   refine Z7 (.bool true) (congrArg Value.bool (congrArg (fun b => !b) (Bool.eq_false_iff.2 h44))) (Z23 rfl rfl rfl (Z23 rfl rfl rfl (Z23 rfl rfl rfl (Z23 rfl rfl rfl (Z0 (Z108 rfl rfl rfl) rfl (Z0 (Z3 rfl) rfl (Z23 rfl rfl rfl ?_)))))))
   refine Z23 rfl rfl rfl (Z23 rfl rfl rfl (Z23 rfl rfl rfl (Z23 rfl rfl rfl (Z23 rfl rfl rfl (Z23 rfl rfl rfl (Z23 rfl rfl rfl (Z23 rfl rfl rfl ?_)))))))
   refine Z0 (Z108 rfl rfl rfl) rfl (Z6 ?_)
   exact QW.join ⟨true, (Zi hq28).symm, rfl, rfl⟩ ⟨rfl, rfl, rfl, trivial⟩ (fun w m => m.pick [0] 2 rfl rfl)
theorem waybillref17_text_does (w0 : World) (Φ : Ctx) (N : List Ent) (hΦ : ∀ w, Mem w0 w N → Φ w) (A0_ : Option Addr) (c0_ : Nat) (a0 : List (BitVec 8)) (res0 : It) (va0 : View Φ A0_ a0.length c0_ 1 (u8s a0)) (hf : waybillref17_text a0 = some res0) : DoesG Tryd.prog 52 [.slice A0_ a0.length c0_] w0 [] N (fun v G => ∃ B : List Ent, ∃ cr0 : List Value, (ItRd (More w0 Φ B) cr0 res0) ∧ v = .agg cr0.toArray ∧ G = B) := by
 unfold waybillref17_text at hf
 replace va0 := va0.mono (Ψ := More w0 Φ []) (fun w q => q.1)
 have m1 := va0.mx
 refine DoesG.enter Tryd.func52 rfl Tryd.ntmps52 rfl (M := (([] ++ N))) rfl (Z4 (Z2 (OW.alloc (l := [.bool false, .slice none 0 0, .slice none 0 0]) rfl rfl rfl (fun b2 => (Z6 (Z1 (Z4 (Z2 (Z0 (Z5 rfl) rfl (Z6 (Z1 (Z4 (Z2 (Z0 (Z3 rfl) rfl (Z0 (Z3 rfl) rfl ?_)))))))))))))))
 refine Z20 (M' := ((none, blk ((u8s ([] : List (BitVec 8))) ++ []) 5) :: (some b2, blk [.bool false, .slice none 0 0, .slice none 0 0] 89) :: ([] ++ N))) (fun w m => m.nil_ent _) (OW.appendOwn (s := 1) rfl rfl rfl rfl rfl rfl OwnS.nil (fun w m => va0.rd w (Z105 hΦ 2 m rfl)) va0.n (Z129 _) (va0.zero (by decide)) (by decide) (by decide) (by first | omega | (simp only [i5, List.length_nil]; omega)) rfl rfl (a0.length) (u8s a0) (Nat.zero_add _) rfl (fun ob3 r4 c5 o6 => ?_))
 have m7 := o6.mx
 refine Z0 (Z5 rfl) rfl (Z6 (Z1 (Z4 (Z2 (Z0 (Z3 rfl) rfl (Z0 (Z107 (l := [.bool false, .slice none 0 0, .slice none 0 0]) (cs := [.bool false, sl ob3 0 a0.length c5, .slice none 0 0]) [(1, [sl ob3 0 a0.length c5])] rfl rfl rfl rfl rfl rfl rfl) rfl (OW.rot1 ?_)))))))
 refine Z28 (Z103 rfl rfl rfl (by intro u hu; simp at hu; rcases hu with rfl | rfl | rfl <;> rfl) rfl rfl rfl) ?_
 refine Z6 (Z1 (CW.ret (QW.mem (M' := (some b2, blk [.bool false, sl ob3 0 a0.length c5, .slice none 0 0] 89) :: (((ob3, blk ((u8s a0) ++ r4) 5) :: []) ++ N)) (fun w m => m.pick [0, 1] 2 rfl rfl) ?_)))
 have gq1 : ∀ w, More w0 Φ ((ob3, blk ((u8s a0) ++ r4) 5) :: []) w → More w0 Φ [] w := fun w q => More.mono (fun w m => (m).tail) q
 replace va0 := va0.mono gq1
 have v8 : View (More w0 Φ ((ob3, blk ((u8s a0) ++ r4) 5) :: [])) ((ob3).map fun k => ⟨k, 0, none⟩) a0.length c5 1 (u8s a0) := o6.view (by decide) (fun w q => q.2.sublist (List.singleton_sublist.2 (List.mem_cons_self ..)))
 have e0 := Zi hf
 subst e0
 have v9 : View (More w0 Φ ((ob3, blk ((u8s a0) ++ r4) 5) :: [])) none ([] : List (It)).length 0 3 [] := View.nil
 refine Z104 (rs := [.cell 2 89]) ([.agg [.bool false, .slice ((ob3).map fun k => ⟨k, 0, none⟩) a0.length c5, .slice none 0 0].toArray]) (((ob3, blk ((u8s a0) ++ r4) 5) :: [])) rfl ?_ rfl ?_ ?_ _ (.inl rfl)
 ·exact ⟨⟨_, _, _, _, rfl, Zh, rfl, rfl, rfl, rfl⟩, trivial⟩
 ·exact ⟨((ob3, blk ((u8s a0) ++ r4) 5) :: []), [.bool false, .slice ((ob3).map fun k => ⟨k, 0, none⟩) a0.length c5, .slice none 0 0], (ItRd.mk v8 v9 (Reps.nil)), rfl, rfl⟩
 ·exact (fun w m => m.pick [] 1 rfl rfl)
theorem waybillref17_BloomOf_does (w0 : World) (Φ : Ctx) (N : List Ent) (hΦ : ∀ w, Mem w0 w N → Φ w) (A0_ : Option Addr) (c0_ : Nat) (cs0_ : List Value) (a0 : List (Log)) (res0 : Vector (BitVec 8) 256) (va0 : View Φ A0_ a0.length c0_ 22 cs0_) (ha0 : Reps (LogRd Φ) cs0_ a0) (hTn : ∀ i, i < 25 → w0.cell? ⟨4, i, none⟩ = some (.int .i64 (turnsL.getD i 0))) (hRn : ∀ i, i < 24 → w0.cell? ⟨3, i, none⟩ = some (U64 (g64 roundsL i))) (hf : waybillref17_BloomOf a0 = some res0) : DoesG Tryd.prog 29 [.slice A0_ a0.length c0_] w0 [] N (fun v G => v = .agg (u8s res0.toList).toArray) := by
 unfold waybillref17_BloomOf at hf
 replace va0 := va0.mono (Ψ := More w0 Φ []) (fun w q => q.1)
 replace ha0 := ha0.mono (LogRd.mono (Ψ := More w0 Φ []) (fun w q => q.1))
 have m1 := va0.mx
 refine DoesG.enter Tryd.func29 rfl Tryd.ntmps29 rfl (M := (([] ++ N))) rfl (Z4 (Z2 (OW.alloc (l := (u8s (Vector.replicate 256 0#8).toList)) rfl (by rw [Vector.toList_replicate, ← Z135]; rfl) rfl (fun b2 => (Z6 (Z1 (Z4 (Z2 (Z0 (Z5 rfl) rfl (Z6 (Z1 (Z4 (Z4 (Z2 (Z0 (Z5 rfl) rfl (Z6 (Z1 ?_)))))))))))))))))
 obtain ⟨q3, hq4, hf⟩ := Z100 hf
 refine Z115 (fun L' M' => ∃ l7 : List (List (BitVec 8)), ∃ B5 : List Ent, ∃ cs8 : List Value, ∃ ob10 : Option Nat, ∃ c11 : Nat, ∃ r12 : List Value, q3 = l7 ∧ (∀ w, Mem w0 w B5 → Mem w0 w []) ∧ (Reps (BsRd (More w0 Φ B5)) cs8 l7) ∧ (OwnS ob10 l7.length c11 1 cs8 r12) ∧ L' = [(2, ptr (some b2) 0), (3, sl ob10 0 l7.length c11)] ∧ M' = ((ob10, blk (cs8 ++ r12) 61) :: (some b2, blk (u8s (Vector.replicate 256 0#8).toList) 27) :: (B5 ++ N))) ?_ ?_
 ·rintro L15 M16 ⟨l7, B5, cs8, ob10, c11, r12, e14, hB6, h9, o13, e17, e18⟩
  rw [e17, e18]
  clear e17 e18 L15 M16
  clear hq4
  rw [e14] at hf
  clear e14
  try dsimp only at hf
  have m19 := o13.mx
  refine Z1 (Z4 (Z2 (Z0 (Z3 rfl) rfl (Z20 (M' := (some b2, blk (u8s (Vector.replicate 256 0#8).toList) 27) :: (((ob10, blk (cs8 ++ r12) 61) :: B5) ++ N)) (fun w m => m.pick [1, 0] 2 rfl rfl) ?_))))
  have gq1 : ∀ w, More w0 Φ ((ob10, blk (cs8 ++ r12) 61) :: B5) w → More w0 Φ B5 w := fun w q => More.mono (fun w m => (m).tail) q
  replace h9 := h9.mono (BsRd.mono gq1)
  have v20 : View (More w0 Φ ((ob10, blk (cs8 ++ r12) 61) :: B5)) ((ob10).map fun k => ⟨k, 0, none⟩) l7.length c11 1 cs8 := o13.view (by decide) (fun w q => q.2.sublist (List.singleton_sublist.2 (List.mem_cons_self ..)))
  obtain ⟨x22, hx21, hf⟩ := Z100 hf
  refine Z12 Tryd.call53 rfl (waybillref10_Of_does w0 (More w0 Φ ((ob10, blk (cs8 ++ r12) 61) :: B5)) ((some b2, blk (u8s (Vector.replicate 256 0#8).toList) 27) :: (((ob10, blk (cs8 ++ r12) 61) :: B5) ++ N)) (fun w m => Z105 hΦ 1 m rfl) ((ob10).map fun k => ⟨k, 0, none⟩) c11 cs8 l7 x22 v20 h9 hTn hRn hx21) rfl rfl ?_
  rintro _ G23 rfl
  refine Z20 (M' := ((some b2, blk (u8s (Vector.replicate 256 0#8).toList) 27) :: (((ob10, blk (cs8 ++ r12) 61) :: B5) ++ N))) (fun w m => m.appR) (Z28 (Z103 rfl rfl rfl (Z129 _) rfl ((Z102 _).trans Zv) ((Z102 _).trans Zv)) (Z6 (Z1 (CW.ret ?_))))
  have e0 := Zi hf
  subst e0
  refine Z104 (rs := [.cell 2 27]) ([.agg (u8s x22.toList).toArray]) ((some b2, blk (u8s x22.toList) 27) :: ((ob10, blk (cs8 ++ r12) 61) :: B5)) rfl ?_ rfl ?_ ?_ _ (.inl rfl)
  ·exact ⟨⟨_, _, _, _, rfl, Zh, rfl, rfl, (congrArg some ((Z102 _).trans Zv).symm), rfl⟩, trivial⟩
  ·exact rfl
  ·exact (fun w m => m)
 ·skip
  refine CW.block (CW.mem (M' := ((none, blk ([] ++ []) 61) :: (some b2, blk (u8s (Vector.replicate 256 0#8).toList) 27) :: ([] ++ N))) (fun w m => m.nil_ent _) (Z121 (fun k L' M' => ∃ l27 : List (List (BitVec 8)), ∃ n34 : Nat, ∃ B25 : List Ent, ∃ cs28 : List Value, ∃ ob30 : Option Nat, ∃ c31 : Nat, ∃ r32 : List Value, (waybillref17_BloomOf.l1 a0 k l27 n34) = some q3 ∧ (∀ w, Mem w0 w B25 → Mem w0 w []) ∧ (Reps (BsRd (More w0 Φ B25)) cs28 l27) ∧ (OwnS ob30 l27.length c31 1 cs28 r32) ∧ (n34 ≤ 9223372036854775807) ∧ L' = [(0, .slice A0_ a0.length c0_), (2, ptr (some b2) 0), (3, sl ob30 0 l27.length c31), (4, .int .i64 ((n34 : Nat) : Int))] ∧ M' = ((ob30, blk (cs28 ++ r32) 61) :: (some b2, blk (u8s (Vector.replicate 256 0#8).toList) 27) :: (B25 ++ N))) (k0 := (a0.length - 0 + 2)) ⟨([] : List (List (BitVec 8))), 0, [], [], none, 0, [], hq4, (fun w m => m), Reps.nil, OwnS.nil, (by omega), rfl, rfl⟩ ⟨rfl, rfl, rfl, rfl, trivial⟩ (fun w m => m.pick [0, 1] 2 rfl rfl) ?_))
  clear hq4
  rintro k36 L39 M40 ⟨l27, n34, B25, cs28, ob30, c31, r32, hl37, hB26, h29, o33, b35, e41, e42⟩
  rw [e41, e42]
  clear e41 e42 L39 M40
  rcases k36 with _ | k36
  ·rw [waybillref17_BloomOf.l1] at hl37; cases hl37
  rw [waybillref17_BloomOf.l1] at hl37
  have gq2 : ∀ w, More w0 Φ B25 w → More w0 Φ [] w := fun w q => More.mono (fun w m => hB26 w (m)) q
  replace va0 := va0.mono gq2
  replace ha0 := ha0.mono (LogRd.mono gq2)
  have m43 := o33.mx
  refine Z4 (Z4 (Z2 (Z0 (Z3 rfl) rfl (Z0 (Z3 rfl) rfl (Z0 (RV.len rfl rfl) rfl (Z0 (RV.lss rfl rfl) rfl (Z7 (.bool (decide (n34 < a0.length))) (congrArg Value.bool (decide_eq_decide.2 (by omega))) (Z6 (Z1 ?_)))))))))
  by_cases h44 : n34 < a0.length
  ·replace hl37 := if_t hl37 h44
   refine Z13 rfl (decide_eq_true h44) (CW.skip (Z1 (Z4 (CW.block (Z4 (Z2 (Z0 (Z3 rfl) rfl (Z0 (Z3 rfl) rfl ?_))))))))
   obtain ⟨x45, hx46, hl37⟩ := Z100 hl37
   have hl47 := Z111 hx46
   refine Z0 (Z117 (n34) rfl rfl rfl rfl rfl (va0.isSome (by decide) hl47) (by omega)) rfl ?_
   obtain ⟨cs48, h49, h50⟩ := ha0.get LogRd.len hx46
   have h60 := h49
   obtain ⟨A51, c52, cs54, A56, c57, e59, v53, h55, v58⟩ := LogRd.opn h49
   subst e59
   have m61 := v53.mx
   have m62 := v58.mx
   refine Z0 (Z31 rfl rfl rfl rfl) rfl (Z0 (Z124 rfl rfl rfl rfl (fun w m => va0.load_part (Z105 hΦ 2 m rfl) h50 (Z153 (⟨x45.address, .slice A51 x45.topics.length c52, .slice A56 x45.data.length c57⟩ : LogC))) ((Z102 _).trans Zv)) rfl (OW.alloc (l := (u8s (Vector.replicate 20 0#8).toList)) rfl (by rw [Vector.toList_replicate, ← Z135]; rfl) rfl (fun b63 => (Z28 (Z103 rfl rfl rfl (Z129 _) rfl ((Z102 _).trans Zv) ((Z102 _).trans Zv)) (Z6 (Z1 (Z4 (Z2 (Z20 (M' := (ob30, blk (cs28 ++ r32) 61) :: (some b2, blk (u8s (Vector.replicate 256 0#8).toList) 27) :: (((some b63, blk (u8s x45.address.toList) 60) :: B25) ++ N)) (fun w m => m.pick [1, 2, 0] 3 rfl rfl) ?_)))))))))
   have gq3 : ∀ w, More w0 Φ ((some b63, blk (u8s x45.address.toList) 60) :: B25) w → More w0 Φ B25 w := fun w q => More.mono (fun w m => (m).tail) q
   replace va0 := va0.mono gq3
   replace ha0 := ha0.mono (LogRd.mono gq3)
   replace h29 := h29.mono (BsRd.mono gq3)
   replace h60 := LogRd.mono gq3 _ _ h60
   replace v53 := v53.mono gq3
   replace h55 := h55.mono (Ar8Rd.mono gq3)
   replace v58 := v58.mono gq3
   have v64 : View (More w0 Φ ((some b63, blk (u8s x45.address.toList) 60) :: B25)) (some ⟨b63, 0, none⟩) x45.address.toList.length 20 1 (u8s x45.address.toList) := View.arr (w0 := w0) (te := 60) (fun w q => q.2.sublist (List.singleton_sublist.2 (List.mem_cons_self ..))) (by decide)
   refine Z0 (RV.arr_all rfl rfl rfl) rfl ?_
   refine Z7 (.slice (some ⟨b63, 0, none⟩) x45.address.toList.length 20) (by rw [Zv]; try rfl) ?_
   have v65 := v64
   have m66 := v65.mx
   obtain ⟨x68, hx67, hl37⟩ := Z100 hl37
   refine Z12 Tryd.call52 rfl (waybillref17_text_does w0 (More w0 Φ ((some b63, blk (u8s x45.address.toList) 60) :: B25)) ((ob30, blk (cs28 ++ r32) 61) :: (some b2, blk (u8s (Vector.replicate 256 0#8).toList) 27) :: (((some b63, blk (u8s x45.address.toList) 60) :: B25) ++ N)) (fun w m => Z105 hΦ 2 m rfl) (some ⟨b63, 0, none⟩) 20 x45.address.toList x68 v65 hx67) rfl rfl ?_
   rintro L72 M73 ⟨B69, cs70, h71, e74, e75⟩
   rw [e74, e75]
   clear e74 e75 L72 M73
   refine Z20 (M' := ((ob30, blk (cs28 ++ r32) 61) :: (some b2, blk (u8s (Vector.replicate 256 0#8).toList) 27) :: ((B69 ++ ((some b63, blk (u8s x45.address.toList) 60) :: B25)) ++ N))) (fun w m => by have h := Z113 (A := B69) m 0 2 rfl rfl; exact h) ?_
   have gq4 : ∀ w, More w0 Φ (B69 ++ ((some b63, blk (u8s x45.address.toList) 60) :: B25)) w → More w0 Φ ((some b63, blk (u8s x45.address.toList) 60) :: B25) w := fun w q => More.mono (fun w m => (m).appR) q
   replace va0 := va0.mono gq4
   replace ha0 := ha0.mono (LogRd.mono gq4)
   replace h29 := h29.mono (BsRd.mono gq4)
   replace h60 := LogRd.mono gq4 _ _ h60
   replace v53 := v53.mono gq4
   replace h55 := h55.mono (Ar8Rd.mono gq4)
   replace v58 := v58.mono gq4
   replace v65 := v65.mono gq4
   replace h71 := ItRd.mono (Ψ := (More w0 Φ (B69 ++ ((some b63, blk (u8s x45.address.toList) 60) :: B25)))) (fun w q => Z128 q) _ _ h71
   have h85 := h71
   obtain ⟨A76, c77, A79, c80, cs82, e84, v78, v81, h83⟩ := ItRd.opn h71
   subst e84
   have m86 := v78.mx
   have m87 := v81.mx
   have m88 := v78.mx
   have m89 := v81.mx
   refine OW.alloc (l := [.bool false, .slice none 0 0, .slice none 0 0]) rfl rfl rfl (fun b90 => ?_)
   refine Z28 (Z103 rfl rfl rfl (by intro u hu; simp at hu; rcases hu with rfl | rfl | rfl <;> rfl) rfl rfl rfl) ?_
   refine Z6 (Z1 (Z4 (Z2 (Z0 (Z3 rfl) rfl (Z0 (Z30 rfl rfl rfl rfl) rfl (Z0 (Z29 rfl Zh rfl rfl rfl rfl) rfl (OW.ofN (NV.bs1 rfl rfl rfl rfl rfl rfl) rfl (fun b91 => ?_))))))))
   have h94 : Reps (BsRd (More w0 Φ (B69 ++ ((some b63, blk (u8s x45.address.toList) 60) :: B25)))) (([.slice A76 x68.data.length c77] : List Value)) [x68.data] := Reps.one (BsRd.mk v78)
   refine Z20 (M' := (((some b91), blk ((([.slice A76 x68.data.length c77] : List Value)) ++ []) 61) :: (some b90, blk [.bool (x68.list), .slice A76 x68.data.length c77, .slice A79 x68.items.length c80] 89) :: (ob30, blk (cs28 ++ r32) 61) :: (some b2, blk (u8s (Vector.replicate 256 0#8).toList) 27) :: ((B69 ++ ((some b63, blk (u8s x45.address.toList) 60) :: B25)) ++ N))) (fun w m => m) ?_
   have o92 : OwnS (some b91) ([x68.data] : List (List (BitVec 8))).length 1 1 (([.slice A76 x68.data.length c77] : List Value)) [] := ⟨by simp [BsRd], by simp [BsRd], (fun h => nomatch h), by simp⟩
   have mx_o92 := o92.mx
   refine Z7 (sl (some b91) 0 ([x68.data] : List (List (BitVec 8))).length 1) (rfl) (OW.rot2 ?_)
   obtain ⟨g95, hl37⟩ := Z112 hl37
   have h100 := h29.app h94
   refine OW.appendOwn (s := 1) rfl rfl rfl rfl rfl rfl o33 (fun w m => m.rd0 (List.Mem.tail _ Zh) (fun e => o92.nilc (by decide) e)) o92.n (h94.cell1 BsRd.one) (o92.zeroO (by decide)) (by decide) (by decide) (by first | omega | (simp only [i61, List.length_nil]; omega)) rfl rfl ((l27 ++ ([x68.data] : List (List (BitVec 8)))).length) (cs28 ++ (([.slice A76 x68.data.length c77] : List Value))) (List.length_append ..).symm rfl (fun ob96 r97 c98 o99 => ?_)
   have m101 := o99.mx
   refine Z0 (Z5 rfl) rfl (Z6 (Z1 (Z4 (Z2 (Z0 (Z5 rfl) rfl (Z6 (Z1 ?_)))))))
   obtain ⟨q102, hq103, hl37⟩ := Z100 hl37
   refine Z115 (fun L' M' => ∃ l106 : List (List (BitVec 8)), ∃ B104 : List Ent, ∃ cs107 : List Value, ∃ ob109 : Option Nat, ∃ c110 : Nat, ∃ r111 : List Value, q102 = l106 ∧ (∀ w, Mem w0 w B104 → Mem w0 w (B69 ++ ((some b63, blk (u8s x45.address.toList) 60) :: B25))) ∧ (Reps (BsRd (More w0 Φ B104)) cs107 l106) ∧ (OwnS ob109 l106.length c110 1 cs107 r111) ∧ L' = [(0, .slice A0_ a0.length c0_), (2, ptr (some b2) 0), (3, sl ob109 0 l106.length c110), (4, .int .i64 ((n34 : Nat) : Int))] ∧ M' = ((ob109, blk (cs107 ++ r111) 61) :: (some b2, blk (u8s (Vector.replicate 256 0#8).toList) 27) :: (B104 ++ N))) ?_ ?_
   ·rintro L114 M115 ⟨l106, B104, cs107, ob109, c110, r111, e113, hB105, h108, o112, e116, e117⟩
    rw [e116, e117]
    clear e116 e117 L114 M115
    clear hq103
    rw [e113] at hl37
    clear e113
    try dsimp only at hl37
    have gq5 : ∀ w, More w0 Φ B104 w → More w0 Φ (B69 ++ ((some b63, blk (u8s x45.address.toList) 60) :: B25)) w := fun w q => More.mono (fun w m => hB105 w (m)) q
    replace va0 := va0.mono gq5
    replace ha0 := ha0.mono (LogRd.mono gq5)
    have m118 := o112.mx
    refine Z27 (Z1 (Z2 (Z0 (Z3 rfl) rfl (Z0 (RV.add rfl rfl (by omega)) rfl (Z7 (.int .i64 (((n34 + 1) : Nat) : Int)) (by first | rfl | (congr 1) | (congr 1; omega)) (Z0 (Z5 rfl) rfl (Z6 ?_)))))))
    exact Z114 (k' := k36) (Nat.lt_succ_self _) ⟨l106, (n34 + 1), B104, cs107, ob109, c110, r111, hl37, (fun w m => hB26 w (((hB105 w (m)).appR).tail)), h108, o112, (by omega), rfl, rfl⟩ ⟨rfl, rfl, rfl, rfl, trivial⟩ (fun w m => m.pick [0, 1] 2 rfl rfl)
   ·skip
    refine CW.block (Z121 (fun k L' M' => ∃ l121 : List (List (BitVec 8)), ∃ n128 : Nat, ∃ B119 : List Ent, ∃ cs122 : List Value, ∃ ob124 : Option Nat, ∃ c125 : Nat, ∃ r126 : List Value, (waybillref17_BloomOf.l2 a0 n34 k l121 n128) = some q102 ∧ (∀ w, Mem w0 w B119 → Mem w0 w (B69 ++ ((some b63, blk (u8s x45.address.toList) 60) :: B25))) ∧ (Reps (BsRd (More w0 Φ B119)) cs122 l121) ∧ (OwnS ob124 l121.length c125 1 cs122 r126) ∧ (n128 ≤ 9223372036854775807) ∧ L' = [(0, .slice A0_ a0.length c0_), (2, ptr (some b2) 0), (3, sl ob124 0 l121.length c125), (4, .int .i64 ((n34 : Nat) : Int)), (7, .int .i64 ((n128 : Nat) : Int))] ∧ M' = ((ob124, blk (cs122 ++ r126) 61) :: (some b2, blk (u8s (Vector.replicate 256 0#8).toList) 27) :: (B119 ++ N))) (k0 := (((a0[n34]?)).elim 2 fun x132 => (x132.topics.length - 0 + 2))) ⟨(l27 ++ ([x68.data] : List (List (BitVec 8)))), 0, (B69 ++ ((some b63, blk (u8s x45.address.toList) 60) :: B25)), (cs28 ++ (([.slice A76 x68.data.length c77] : List Value))), ob96, c98, r97, hq103, (fun w m => m), h100, o99, (by omega), rfl, rfl⟩ ⟨rfl, rfl, rfl, rfl, rfl, trivial⟩ (fun w m => m.pick [0, 3] 4 rfl rfl) ?_)
    clear hq103
    rintro k130 L133 M134 ⟨l121, n128, B119, cs122, ob124, c125, r126, hl131, hB120, h123, o127, b129, e135, e136⟩
    rw [e135, e136]
    clear e135 e136 L133 M134
    rcases k130 with _ | k130
    ·rw [waybillref17_BloomOf.l2] at hl131; cases hl131
    rw [waybillref17_BloomOf.l2] at hl131
    have gq6 : ∀ w, More w0 Φ B119 w → More w0 Φ (B69 ++ ((some b63, blk (u8s x45.address.toList) 60) :: B25)) w := fun w q => More.mono (fun w m => hB120 w (m)) q
    replace va0 := va0.mono gq6
    replace ha0 := ha0.mono (LogRd.mono gq6)
    have m137 := o127.mx
    refine Z4 (Z4 (Z2 (Z0 (Z3 rfl) rfl (Z0 (Z3 rfl) rfl (Z0 (Z3 rfl) rfl ?_)))))
    obtain ⟨x138, hx139, hl131⟩ := Z100 hl131
    have hl140 := Z111 hx139
    refine Z0 (Z117 (n34) rfl rfl rfl rfl rfl (va0.isSome (by decide) hl140) (by omega)) rfl ?_
    obtain ⟨cs141, h142, h143⟩ := ha0.get LogRd.len hx139
    have h153 := h142
    obtain ⟨A144, c145, cs147, A149, c150, e152, v146, h148, v151⟩ := LogRd.opn h142
    subst e152
    have m154 := v146.mx
    have m155 := v151.mx
    refine Z0 (Z31 rfl rfl rfl rfl) rfl (Z0 (Z21 rfl rfl rfl (fun w m => va0.load_fld (Z105 hΦ 2 m rfl) h143 (Z122 (⟨x138.address, .slice A144 x138.topics.length c145, .slice A149 x138.data.length c150⟩ : LogC)))) rfl (Z0 (RV.len rfl rfl) rfl (Z0 (RV.lss rfl rfl) rfl (Z7 (.bool (decide (n128 < x138.topics.length))) (congrArg Value.bool (decide_eq_decide.2 (by omega))) (Z6 (Z1 ?_))))))
    by_cases h156 : n128 < x138.topics.length
    ·replace hl131 := if_t hl131 h156
     refine Z13 rfl (decide_eq_true h156) (CW.skip (Z1 (Z4 (CW.block (Z4 (Z2 (Z0 (Z3 rfl) rfl (Z0 (Z3 rfl) rfl ?_))))))))
     obtain ⟨x157, hx158, hl131⟩ := Z100 hl131
     have hl159 := Z111 hx158
     refine Z0 (Z117 (n34) rfl rfl rfl rfl rfl (va0.isSome (by decide) hl159) (by omega)) rfl ?_
     obtain ⟨cs160, h161, h162⟩ := ha0.get LogRd.len hx158
     have h172 := h161
     obtain ⟨A163, c164, cs166, A168, c169, e171, v165, h167, v170⟩ := LogRd.opn h161
     subst e171
     have m173 := v165.mx
     have m174 := v170.mx
     refine Z0 (Z31 rfl rfl rfl rfl) rfl (Z0 (Z21 rfl rfl rfl (fun w m => va0.load_fld (Z105 hΦ 2 m rfl) h162 (Z122 (⟨x157.address, .slice A163 x157.topics.length c164, .slice A168 x157.data.length c169⟩ : LogC)))) rfl (Z0 (Z3 rfl) rfl ?_))
     obtain ⟨x175, hx176, hl131⟩ := Z100 hl131
     have hl177 := Z111 hx176
     refine Z0 (Z117 (n128) rfl rfl rfl rfl rfl (v165.isSome (by decide) hl177) (by omega)) rfl ?_
     obtain ⟨cs178, h179, h180⟩ := h167.get Ar8Rd.len hx176
     have h179a := h179
     subst h179a
     refine Z0 (Z124 rfl rfl rfl rfl (fun w m => v165.load (Z105 hΦ 2 m rfl) h180) ((Z102 _).trans Zv)) rfl (OW.alloc (l := (u8s (Vector.replicate 32 0#8).toList)) rfl (by rw [Vector.toList_replicate, ← Z135]; rfl) rfl (fun b181 => (Z28 (Z103 rfl rfl rfl (Z129 _) rfl ((Z102 _).trans Zv) ((Z102 _).trans Zv)) (Z6 (Z1 (Z4 (Z2 (Z20 (M' := (ob124, blk (cs122 ++ r126) 61) :: (some b2, blk (u8s (Vector.replicate 256 0#8).toList) 27) :: (((some b181, blk (u8s x175.toList) 24) :: B119) ++ N)) (fun w m => m.pick [1, 2, 0] 3 rfl rfl) ?_))))))))
     have gq7 : ∀ w, More w0 Φ ((some b181, blk (u8s x175.toList) 24) :: B119) w → More w0 Φ B119 w := fun w q => More.mono (fun w m => (m).tail) q
     replace va0 := va0.mono gq7
     replace ha0 := ha0.mono (LogRd.mono gq7)
     replace h123 := h123.mono (BsRd.mono gq7)
     replace h153 := LogRd.mono gq7 _ _ h153
     replace v146 := v146.mono gq7
     replace h148 := h148.mono (Ar8Rd.mono gq7)
     replace v151 := v151.mono gq7
     replace h172 := LogRd.mono gq7 _ _ h172
     replace v165 := v165.mono gq7
     replace h167 := h167.mono (Ar8Rd.mono gq7)
     replace v170 := v170.mono gq7
     have v182 : View (More w0 Φ ((some b181, blk (u8s x175.toList) 24) :: B119)) (some ⟨b181, 0, none⟩) x175.toList.length 32 1 (u8s x175.toList) := View.arr (w0 := w0) (te := 24) (fun w q => q.2.sublist (List.singleton_sublist.2 (List.mem_cons_self ..))) (by decide)
     refine Z0 (RV.arr_all rfl rfl rfl) rfl ?_
     refine Z7 (.slice (some ⟨b181, 0, none⟩) x175.toList.length 32) (by rw [Zv]; try rfl) ?_
     have v183 := v182
     have m184 := v183.mx
     obtain ⟨x186, hx185, hl131⟩ := Z100 hl131
     refine Z12 Tryd.call52 rfl (waybillref17_text_does w0 (More w0 Φ ((some b181, blk (u8s x175.toList) 24) :: B119)) ((ob124, blk (cs122 ++ r126) 61) :: (some b2, blk (u8s (Vector.replicate 256 0#8).toList) 27) :: (((some b181, blk (u8s x175.toList) 24) :: B119) ++ N)) (fun w m => Z105 hΦ 2 m rfl) (some ⟨b181, 0, none⟩) 32 x175.toList x186 v183 hx185) rfl rfl ?_
     rintro L190 M191 ⟨B187, cs188, h189, e192, e193⟩
     rw [e192, e193]
     clear e192 e193 L190 M191
     refine Z20 (M' := ((ob124, blk (cs122 ++ r126) 61) :: (some b2, blk (u8s (Vector.replicate 256 0#8).toList) 27) :: ((B187 ++ ((some b181, blk (u8s x175.toList) 24) :: B119)) ++ N))) (fun w m => by have h := Z113 (A := B187) m 0 2 rfl rfl; exact h) ?_
     have gq8 : ∀ w, More w0 Φ (B187 ++ ((some b181, blk (u8s x175.toList) 24) :: B119)) w → More w0 Φ ((some b181, blk (u8s x175.toList) 24) :: B119) w := fun w q => More.mono (fun w m => (m).appR) q
     replace va0 := va0.mono gq8
     replace ha0 := ha0.mono (LogRd.mono gq8)
     replace h123 := h123.mono (BsRd.mono gq8)
     replace h153 := LogRd.mono gq8 _ _ h153
     replace v146 := v146.mono gq8
     replace h148 := h148.mono (Ar8Rd.mono gq8)
     replace v151 := v151.mono gq8
     replace h172 := LogRd.mono gq8 _ _ h172
     replace v165 := v165.mono gq8
     replace h167 := h167.mono (Ar8Rd.mono gq8)
     replace v170 := v170.mono gq8
     replace v183 := v183.mono gq8
     replace h189 := ItRd.mono (Ψ := (More w0 Φ (B187 ++ ((some b181, blk (u8s x175.toList) 24) :: B119)))) (fun w q => Z128 q) _ _ h189
     have h203 := h189
     obtain ⟨A194, c195, A197, c198, cs200, e202, v196, v199, h201⟩ := ItRd.opn h189
     subst e202
     have m204 := v196.mx
     have m205 := v199.mx
     have m206 := v196.mx
     have m207 := v199.mx
     refine OW.alloc (l := [.bool false, .slice none 0 0, .slice none 0 0]) rfl rfl rfl (fun b208 => ?_)
     refine Z28 (Z103 rfl rfl rfl (by intro u hu; simp at hu; rcases hu with rfl | rfl | rfl <;> rfl) rfl rfl rfl) ?_
     refine Z6 (Z1 (Z2 (Z0 (Z3 rfl) rfl (Z0 (Z30 rfl rfl rfl rfl) rfl (Z0 (Z29 rfl Zh rfl rfl rfl rfl) rfl (OW.ofN (NV.bs1 rfl rfl rfl rfl rfl rfl) rfl (fun b209 => ?_)))))))
     have h212 : Reps (BsRd (More w0 Φ (B187 ++ ((some b181, blk (u8s x175.toList) 24) :: B119)))) (([.slice A194 x186.data.length c195] : List Value)) [x186.data] := Reps.one (BsRd.mk v196)
     refine Z20 (M' := (((some b209), blk ((([.slice A194 x186.data.length c195] : List Value)) ++ []) 61) :: (some b208, blk [.bool (x186.list), .slice A194 x186.data.length c195, .slice A197 x186.items.length c198] 89) :: (ob124, blk (cs122 ++ r126) 61) :: (some b2, blk (u8s (Vector.replicate 256 0#8).toList) 27) :: ((B187 ++ ((some b181, blk (u8s x175.toList) 24) :: B119)) ++ N))) (fun w m => m) ?_
     have o210 : OwnS (some b209) ([x186.data] : List (List (BitVec 8))).length 1 1 (([.slice A194 x186.data.length c195] : List Value)) [] := ⟨by simp [BsRd], by simp [BsRd], (fun h => nomatch h), by simp⟩
     have mx_o210 := o210.mx
     refine Z7 (sl (some b209) 0 ([x186.data] : List (List (BitVec 8))).length 1) (rfl) (OW.rot2 ?_)
     obtain ⟨g213, hl131⟩ := Z112 hl131
     have h218 := h123.app h212
     refine OW.appendOwn (s := 1) rfl rfl rfl rfl rfl rfl o127 (fun w m => m.rd0 (List.Mem.tail _ Zh) (fun e => o210.nilc (by decide) e)) o210.n (h212.cell1 BsRd.one) (o210.zeroO (by decide)) (by decide) (by decide) (by first | omega | (simp only [i61, List.length_nil]; omega)) rfl rfl ((l121 ++ ([x186.data] : List (List (BitVec 8)))).length) (cs122 ++ (([.slice A194 x186.data.length c195] : List Value))) (List.length_append ..).symm rfl (fun ob214 r215 c216 o217 => ?_)
     have m219 := o217.mx
     refine Z0 (Z5 rfl) rfl (Z6 (Z27 (Z1 (Z2 (Z0 (Z3 rfl) rfl (Z0 (RV.add rfl rfl (by omega)) rfl (Z7 (.int .i64 (((n128 + 1) : Nat) : Int)) (by first | rfl | (congr 1) | (congr 1; omega)) (Z0 (Z5 rfl) rfl (Z6 ?_)))))))))
     exact Z114 (k' := k130) (Nat.lt_succ_self _) ⟨(l121 ++ ([x186.data] : List (List (BitVec 8)))), (n128 + 1), (B187 ++ ((some b181, blk (u8s x175.toList) 24) :: B119)), (cs122 ++ (([.slice A194 x186.data.length c195] : List Value))), ob214, c216, r215, hl131, (fun w m => hB120 w (((m).appR).tail)), h218, o217, (by omega), rfl, rfl⟩ ⟨rfl, rfl, rfl, rfl, rfl, trivial⟩ (fun w m => m.pick [0, 3] 4 rfl rfl)
    ·replace hl131 := if_f hl131 h156
     refine Z14 rfl (decide_eq_false h156) (CW.exit (Z9 (Z9 (Z15 ?_))))
     exact QW.join ⟨l121, B119, cs122, ob124, c125, r126, (Zi hl131).symm, (fun w m => hB120 w (m)), h123, o127, rfl, rfl⟩ ⟨rfl, rfl, rfl, rfl, trivial⟩ (fun w m => m.pick [0, 1] 2 rfl rfl)
  ·replace hl37 := if_f hl37 h44
   refine Z14 rfl (decide_eq_false h44) (CW.exit (Z9 (Z9 (Z15 ?_))))
   exact QW.join ⟨l27, B25, cs28, ob30, c31, r32, (Zi hl37).symm, (fun w m => hB26 w (m)), h29, o33, rfl, rfl⟩ ⟨rfl, rfl, trivial⟩ (fun w m => m.pick [0, 1] 2 rfl rfl)
theorem waybillref17_first_does (w0 : World) (Φ : Ctx) (N : List Ent) (hΦ : ∀ w, Mem w0 w N → Φ w) (a0 : Int) (cs1_ : List Value) (a1 : It) (res0 : Rcpt) (res1 : Bool) (ba0 : -9223372036854775808 ≤ a0 ∧ a0 ≤ 9223372036854775807) (ha1 : ItRd Φ cs1_ a1) (hf : waybillref17_first a0 a1 = some (res0, res1)) : DoesG Tryd.prog 100 [.int .i64 a0, .agg cs1_.toArray] w0 [] N (fun v G => (res0.logs = []) ∧ (-9223372036854775808 ≤ res0.kind ∧ res0.kind ≤ 9223372036854775807) ∧ v = .tuple #[.agg (⟨res0.kind, (res0.rooted), res0.root, res0.status, res0.used, res0.bloom, .slice none 0 0⟩ : RcptC).C.toArray, .bool res1]) := by
 unfold waybillref17_first at hf
 replace ha1 := ItRd.mono (Ψ := More w0 Φ []) (fun w q => q.1) _ _ ha1
 have h10 := ha1
 obtain ⟨A1, c2, A4, c5, cs7, e9, v3, v6, h8⟩ := ItRd.opn ha1
 subst e9
 have m11 := v3.mx
 have m12 := v6.mx
 refine DoesG.enter Tryd.func100 rfl Tryd.ntmps100 rfl (M := (([] ++ N))) rfl (Z4 (Z2 (Z130 rfl rfl (fun b13 => (OW.alloc (l := (⟨(0 : Int), false, (Vector.replicate 32 0#8), 0#64, 0#64, (Vector.replicate 256 0#8), .slice none 0 0⟩ : RcptC).C) rfl (by kernel_rfl) rfl (fun b14 => (Z0 (Z5 rfl) rfl (Z6 (Z1 (Z4 (Z2 (Z0 (Z3 rfl) rfl ?_))))))))))))
 refine Z0 (Z107 (l := (⟨(0 : Int), false, (Vector.replicate 32 0#8), 0#64, 0#64, (Vector.replicate 256 0#8), .slice none 0 0⟩ : RcptC).C) (cs := (⟨a0, false, (Vector.replicate 32 0#8), 0#64, 0#64, (Vector.replicate 256 0#8), .slice none 0 0⟩ : RcptC).C) [(0, [.int .i64 a0])] rfl rfl rfl (by kernel_rfl) rfl rfl (by refine (fillL_cons rfl rfl (by rw [RcptC.C_length]; exact Nat.le_of_ble_eq_true rfl)).trans ?_; rw [spl_one (by rw [RcptC.C_length]; exact Nat.le_of_ble_eq_true rfl), RcptC.C_kind_set]; rfl)) rfl ?_
 refine OW.alloc (l := (⟨(0 : Int), false, (Vector.replicate 32 0#8), 0#64, 0#64, (Vector.replicate 256 0#8), .slice none 0 0⟩ : RcptC).C) rfl (by kernel_rfl) rfl (fun b15 => (Z28 (Z103 rfl rfl rfl (RcptC.C_one _ rfl) rfl (RcptC.C_length _) (RcptC.C_length _)) (Z6 (Z1 (Z4 (Z2 (Z0 (Z22 rfl (List.Mem.tail _ (List.Mem.tail _ Zh)) rfl rfl rfl rfl rfl) rfl ?_)))))))
 obtain ⟨⟨x17, x18⟩, hx16, hf⟩ := Z100 hf
 try dsimp only at hf
 refine Z12 Tryd.call126 rfl (Z140 w0 (More w0 Φ []) ((some b15, blk (⟨a0, false, (Vector.replicate 32 0#8), 0#64, 0#64, (Vector.replicate 256 0#8), .slice none 0 0⟩ : RcptC).C 30) :: (some b14, blk (⟨(0 : Int), false, (Vector.replicate 32 0#8), 0#64, 0#64, (Vector.replicate 256 0#8), .slice none 0 0⟩ : RcptC).C 30) :: (some b13, blk [.bool (a1.list), .slice A1 a1.data.length c2, .slice A4 a1.items.length c5] 89) :: ([] ++ N)) (fun w m => Z105 hΦ 3 m rfl) [.bool (a1.list), .slice A1 a1.data.length c2, .slice A4 a1.items.length c5] a1 x17 x18 h10 hx16) rfl rfl ?_
 rintro L23 M24 ⟨B19, A20, c21, v22, e25, e26⟩
 rw [e25, e26]
 clear e25 e26 L23 M24
 refine Z20 (M' := ((some b15, blk (⟨a0, false, (Vector.replicate 32 0#8), 0#64, 0#64, (Vector.replicate 256 0#8), .slice none 0 0⟩ : RcptC).C 30) :: (some b14, blk (⟨(0 : Int), false, (Vector.replicate 32 0#8), 0#64, 0#64, (Vector.replicate 256 0#8), .slice none 0 0⟩ : RcptC).C 30) :: (some b13, blk [.bool (a1.list), .slice A1 a1.data.length c2, .slice A4 a1.items.length c5] 89) :: ((B19 ++ []) ++ N))) (fun w m => by have h := Z113 (A := B19) m 0 3 rfl rfl; exact h) ?_
 have gq1 : ∀ w, More w0 Φ (B19 ++ []) w → More w0 Φ [] w := fun w q => More.mono (fun w m => (m).appR) q
 replace h10 := ItRd.mono gq1 _ _ h10
 replace v3 := v3.mono gq1
 replace v6 := v6.mono gq1
 replace h8 := h8.mono (ItRd.mono gq1)
 replace v22 := v22.mono (Ψ := (More w0 Φ (B19 ++ []))) (fun w q => Z128 q)
 have m27 := v22.mx
 refine Z0 (Z3 rfl) rfl (Z0 (Z17 rfl rfl) rfl (Z7 (.slice A20 x17.length c21) (rfl) (Z0 (Z17 rfl rfl) rfl (Z7 (.bool (x18)) (rfl) (Z0 (Z5 rfl) rfl (Z0 (Z5 rfl) rfl (Z6 (Z1 (Z4 (Z4 (Z2 ?_)))))))))))
 refine Z0 (Z3 rfl) rfl (Z0 (RV.not rfl) rfl (Z6 (Z1 ?_)))
 by_cases h28 : x18 = true
 ·replace hf := if_t hf h28
  refine Z14 rfl (congrArg (fun b => !b) (h28)) (CW.skip (Z1 (Z4 (Z4 (Z2 (Z0 (Z3 rfl) rfl (Z0 (RV.len rfl rfl) rfl (Z0 (RV.eql rfl rfl) rfl (Z7 (.bool (decide (x17.length = 0))) (congrArg Value.bool (decide_eq_decide.2 (by omega))) (Z6 (Z1 ?_)))))))))))
  by_cases h29 : x17.length = 0
  ·replace hf := if_t hf h29
   refine Z13 rfl (decide_eq_true h29) (Z4 (Z2 (Z0 (Z22 rfl Zh rfl rfl rfl rfl (RcptC.C_length _)) rfl (OW.rot1 (Z28 (Z103 rfl rfl rfl (RcptC.C_one _ rfl) rfl (RcptC.C_length _) (RcptC.C_length _)) (Z0 (Z5 rfl) rfl (Z6 (Z1 (CW.ret (Z8 ?_))))))))))
   have er0 := Zi hf
   obtain ⟨e0, er1⟩ := Prod.mk.inj er0
   clear er0
   subst e0
   subst er1
   refine Z104 (rs := [.cell 4 30, .tmp 5]) ([.agg (⟨a0, false, (Vector.replicate 32 0#8), 0#64, 0#64, (Vector.replicate 256 0#8), .slice none 0 0⟩ : RcptC).C.toArray, .bool true]) ((some b14, blk (⟨a0, false, (Vector.replicate 32 0#8), 0#64, 0#64, (Vector.replicate 256 0#8), .slice none 0 0⟩ : RcptC).C 30) :: (some b15, blk (⟨a0, false, (Vector.replicate 32 0#8), 0#64, 0#64, (Vector.replicate 256 0#8), .slice none 0 0⟩ : RcptC).C 30) :: (some b13, blk [.bool (a1.list), .slice A1 a1.data.length c2, .slice A4 a1.items.length c5] 89) :: (B19 ++ [])) rfl ?_ rfl ?_ ?_ _ (.inl rfl)
   ·exact ⟨⟨_, _, _, _, rfl, Zh, rfl, rfl, (congrArg some (RcptC.C_length _).symm), rfl⟩, rfl, trivial⟩
   ·exact ⟨rfl, (by dsimp only; omega), rfl⟩
   ·exact (fun w m => m)
  ·replace hf := if_f hf h29
   refine Z14 rfl (decide_eq_false h29) (CW.skip (Z1 (Z4 (Z4 ?_))))
   obtain ⟨q30, hq31, hf⟩ := Z100 hf
   refine Z115 (fun L' M' => ∃ p32 : Bool, q30 = p32 ∧ L' = [(0, .int .i64 a0), (4, ptr (some b14) 0), (6, ptr (some b15) 0), (7, .slice A20 x17.length c21), (31, .bool (p32))] ∧ M' = ((some b15, blk (⟨a0, false, (Vector.replicate 32 0#8), 0#64, 0#64, (Vector.replicate 256 0#8), .slice none 0 0⟩ : RcptC).C 30) :: (some b14, blk (⟨(0 : Int), false, (Vector.replicate 32 0#8), 0#64, 0#64, (Vector.replicate 256 0#8), .slice none 0 0⟩ : RcptC).C 30) :: ((B19 ++ []) ++ N))) ?_ ?_
   ·rintro L34 M35 ⟨p32, e33, e36, e37⟩
    rw [e36, e37]
    clear e36 e37 L34 M35
    clear hq31
    rw [e33] at hf
    clear e33
    try dsimp only at hf
    refine Z1 ?_
    by_cases h38 : p32 = true
    ·replace hf := if_t hf h38
     refine Z13 rfl (h38) (Z4 (Z2 (Z0 (Z30 rfl rfl rfl rfl) rfl (Z7 (ptr (some b15) 34) rfl (Z28 (SV.store rfl rfl rfl rfl rfl (by rw [RcptC.C_length]; omega)) (OW.cells (⟨a0, false, (Vector.replicate 32 0#8), 1#64, 0#64, (Vector.replicate 256 0#8), .slice none 0 0⟩ : RcptC).C (RcptC.C_status_set _ (1#64)) (Z6 (Z1 (Z4 (Z2 (Z0 (Z22 rfl Zh rfl rfl rfl rfl (RcptC.C_length _)) rfl ?_)))))))))))
     refine OW.rot1 (Z28 (Z103 rfl rfl rfl (RcptC.C_one _ rfl) rfl (RcptC.C_length _) (RcptC.C_length _)) (Z0 (Z5 rfl) rfl (Z6 (Z1 (CW.ret (Z8 ?_))))))
     have er0 := Zi hf
     obtain ⟨e0, er1⟩ := Prod.mk.inj er0
     clear er0
     subst e0
     subst er1
     refine Z104 (rs := [.cell 4 30, .tmp 5]) ([.agg (⟨a0, false, (Vector.replicate 32 0#8), 1#64, 0#64, (Vector.replicate 256 0#8), .slice none 0 0⟩ : RcptC).C.toArray, .bool true]) ((some b14, blk (⟨a0, false, (Vector.replicate 32 0#8), 1#64, 0#64, (Vector.replicate 256 0#8), .slice none 0 0⟩ : RcptC).C 30) :: (some b15, blk (⟨a0, false, (Vector.replicate 32 0#8), 1#64, 0#64, (Vector.replicate 256 0#8), .slice none 0 0⟩ : RcptC).C 30) :: (B19 ++ [])) rfl ?_ rfl ?_ ?_ _ (.inl rfl)
     ·exact ⟨⟨_, _, _, _, rfl, Zh, rfl, rfl, (congrArg some (RcptC.C_length _).symm), rfl⟩, rfl, trivial⟩
     ·exact ⟨rfl, (by dsimp only; omega), rfl⟩
     ·exact (fun w m => m)
    ·replace hf := if_f hf h38
     refine Z14 rfl (Bool.eq_false_iff.2 h38) (CW.skip (Z1 (Z4 (Z4 ?_))))
     obtain ⟨q39, hq40, hf⟩ := Z100 hf
     refine Z115 (fun L' M' => ∃ p41 : Bool, q39 = p41 ∧ L' = [(4, ptr (some b14) 0), (6, ptr (some b15) 0), (7, .slice A20 x17.length c21), (40, .bool (p41))] ∧ M' = ((some b15, blk (⟨a0, false, (Vector.replicate 32 0#8), 0#64, 0#64, (Vector.replicate 256 0#8), .slice none 0 0⟩ : RcptC).C 30) :: (some b14, blk (⟨(0 : Int), false, (Vector.replicate 32 0#8), 0#64, 0#64, (Vector.replicate 256 0#8), .slice none 0 0⟩ : RcptC).C 30) :: ((B19 ++ []) ++ N))) ?_ ?_
     ·rintro L43 M44 ⟨p41, e42, e45, e46⟩
      rw [e45, e46]
      clear e45 e46 L43 M44
      clear hq40
      rw [e42] at hf
      clear e42
      try dsimp only at hf
      refine Z1 ?_
      by_cases h47 : p41 = true
      ·replace hf := if_t hf h47
       refine Z13 rfl (h47) (Z4 (Z2 (Z0 (Z30 rfl rfl rfl rfl) rfl (Z7 (ptr (some b15) 1) rfl (Z28 (SV.store rfl rfl rfl rfl rfl (by rw [RcptC.C_length]; omega)) (OW.cells (⟨a0, true, (Vector.replicate 32 0#8), 0#64, 0#64, (Vector.replicate 256 0#8), .slice none 0 0⟩ : RcptC).C (RcptC.C_rooted_set _ true) (Z6 (Z1 (Z4 (Z2 (Z0 (Z30 rfl rfl rfl rfl) rfl ?_)))))))))))
       refine Z7 (ptr (some b15) 2) rfl (Z0 (RV.arr_all rfl rfl rfl) rfl (Z7 (sl (some b15) (2 + 0) (32 - 0) (32 - 0)) (rfl) (Z0 (Z3 rfl) rfl (OW.copy (ob := some b15) (off := 2 + 0) rfl rfl rfl rfl (fun h => nomatch h) (by rw [RcptC.C_length]; omega) (fun w m => v22.rd w (Z105 hΦ 2 m rfl)) (Z102 _) (Z129 _) (v22.zero (by decide)) rfl ?_))))
       refine OW.cells (⟨a0, true, (cpV (Vector.replicate 32 0#8) 0 (x17.take (min x17.length (32 - 0)))), 0#64, 0#64, (Vector.replicate 256 0#8), .slice none 0 0⟩ : RcptC).C (by rw [u8s_take]; exact RcptC.C_root_cpy _ (by rw [List.length_take]; omega)) ?_
       refine Z6 (Z1 (Z4 (Z2 (Z0 (Z22 rfl Zh rfl rfl rfl rfl (RcptC.C_length _)) rfl (OW.rot1 (Z28 (Z103 rfl rfl rfl (RcptC.C_one _ rfl) rfl (RcptC.C_length _) (RcptC.C_length _)) (Z0 (Z5 rfl) rfl (Z6 (Z1 (CW.ret (Z8 ?_)))))))))))
       have er0 := Zi hf
       obtain ⟨e0, er1⟩ := Prod.mk.inj er0
       clear er0
       subst e0
       subst er1
       refine Z104 (rs := [.cell 4 30, .tmp 5]) ([.agg (⟨a0, true, (cpV (Vector.replicate 32 0#8) 0 (x17.take (min x17.length (32 - 0)))), 0#64, 0#64, (Vector.replicate 256 0#8), .slice none 0 0⟩ : RcptC).C.toArray, .bool true]) ((some b14, blk (⟨a0, true, (cpV (Vector.replicate 32 0#8) 0 (x17.take (min x17.length (32 - 0)))), 0#64, 0#64, (Vector.replicate 256 0#8), .slice none 0 0⟩ : RcptC).C 30) :: (some b15, blk (⟨a0, true, (cpV (Vector.replicate 32 0#8) 0 (x17.take (min x17.length (32 - 0)))), 0#64, 0#64, (Vector.replicate 256 0#8), .slice none 0 0⟩ : RcptC).C 30) :: (B19 ++ [])) rfl ?_ rfl ?_ ?_ _ (.inl rfl)
       ·exact ⟨⟨_, _, _, _, rfl, Zh, rfl, rfl, (congrArg some (RcptC.C_length _).symm), rfl⟩, rfl, trivial⟩
       ·exact ⟨rfl, (by dsimp only; omega), rfl⟩
       ·exact (fun w m => m)
      ·replace hf := if_f hf h47
       refine Z14 rfl (Bool.eq_false_iff.2 h47) (CW.skip (Z1 (Z4 (Z2 (Z0 (Z22 rfl Zh rfl rfl rfl rfl (RcptC.C_length _)) rfl (OW.rot1 (Z28 (Z103 rfl rfl rfl (RcptC.C_one _ rfl) rfl (RcptC.C_length _) (RcptC.C_length _)) (Z0 (Z5 rfl) rfl (Z6 (Z1 (CW.ret ?_)))))))))))
       have er0 := Zi hf
       obtain ⟨e0, er1⟩ := Prod.mk.inj er0
       clear er0
       subst e0
       subst er1
       refine Z104 (rs := [.cell 4 30, .tmp 5]) ([.agg (⟨a0, false, (Vector.replicate 32 0#8), 0#64, 0#64, (Vector.replicate 256 0#8), .slice none 0 0⟩ : RcptC).C.toArray, .bool false]) ((some b14, blk (⟨a0, false, (Vector.replicate 32 0#8), 0#64, 0#64, (Vector.replicate 256 0#8), .slice none 0 0⟩ : RcptC).C 30) :: (some b15, blk (⟨a0, false, (Vector.replicate 32 0#8), 0#64, 0#64, (Vector.replicate 256 0#8), .slice none 0 0⟩ : RcptC).C 30) :: (B19 ++ [])) rfl ?_ rfl ?_ ?_ _ (.inl rfl)
       ·exact ⟨⟨_, _, _, _, rfl, Zh, rfl, rfl, (congrArg some (RcptC.C_length _).symm), rfl⟩, rfl, trivial⟩
       ·exact ⟨rfl, (by dsimp only; omega), rfl⟩
       ·exact (fun w m => m)
     ·skip
      refine Z2 (Z0 (Z3 rfl) rfl (Z0 (RV.eql rfl rfl) rfl (Z0 (Z3 rfl) rfl ?_)))
      by_cases h48 : a0 = (0 : Int)
      ·replace hq40 := if_t hq40 h48
       refine Z7 (.bool true) (congrArg Value.bool (decide_eq_true h48)) (Z24 rfl (Z0 (Z3 rfl) rfl (Z24 rfl (Z0 (RV.len rfl rfl) rfl (Z24 rfl (Z0 (RV.eql rfl rfl) rfl (Z7 (.bool (decide (x17.length = 32))) (congrArg Value.bool (decide_eq_decide.2 (by omega))) ?_)))))))
       refine Z0 (Z108 rfl rfl rfl) rfl (Z6 ?_)
       exact QW.join ⟨(decide (x17.length = 32)), (Zi hq40).symm, rfl, rfl⟩ ⟨rfl, rfl, rfl, rfl, trivial⟩ (fun w m => m.pick [0, 1] 2 rfl rfl)
      ·replace hq40 := if_f hq40 h48
       refine Z7 (.bool false) (congrArg Value.bool (decide_eq_false h48)) (Z23 rfl rfl rfl (Z23 rfl rfl rfl (Z23 rfl rfl rfl (Z0 (Z106 rfl rfl rfl) rfl (Z6 ?_)))))
       exact QW.join ⟨false, (Zi hq40).symm, rfl, rfl⟩ ⟨rfl, rfl, rfl, rfl, trivial⟩ (fun w m => m.pick [0, 1] 2 rfl rfl)
   ·skip
    refine Z2 (Z0 (Z3 rfl) rfl (Z0 (RV.len rfl rfl) rfl (Z0 (RV.eql rfl rfl) rfl (Z7 (.bool (decide (x17.length = 1))) (congrArg Value.bool (decide_eq_decide.2 (by omega))) (Z0 (Z3 rfl) rfl ?_)))))
    by_cases h49 : x17.length = 1
    ·replace hq31 := if_t hq31 h49
     refine Z7 (.bool true) (congrArg Value.bool (decide_eq_true h49)) (Z24 rfl (Z0 (Z3 rfl) rfl (Z24 rfl ?_)))
     obtain ⟨x50, hx51, hq31⟩ := Z100 hq31
     have hl52 := Z111 hx51
     refine Z0 (Z131 (0) rfl rfl rfl rfl rfl (v22.isSome (by decide) hl52) (by omega)) rfl (Z24 rfl (Z0 (Z21 rfl rfl rfl (fun w m => v22.cell (Z105 hΦ 3 m rfl) (Z148 hx51))) rfl (Z24 rfl (Z0 (RV.eql8 rfl (by first | rfl | exact lit8 _ rfl) rfl (by first | rfl | exact lit8 _ rfl)) rfl (Z0 (Z108 rfl rfl rfl) rfl (Z6 ?_))))))
     exact QW.join ⟨(decide (x50 = 1#8)), (Zi hq31).symm, rfl, rfl⟩ ⟨rfl, rfl, rfl, rfl, rfl, trivial⟩ (fun w m => m.pick [0, 1] 3 rfl rfl)
    ·replace hq31 := if_f hq31 h49
     refine Z7 (.bool false) (congrArg Value.bool (decide_eq_false h49)) (Z23 rfl rfl rfl (Z23 rfl rfl rfl (Z23 rfl rfl rfl (Z23 rfl rfl rfl (Z0 (Z106 rfl rfl rfl) rfl (Z6 ?_))))))
     exact QW.join ⟨false, (Zi hq31).symm, rfl, rfl⟩ ⟨rfl, rfl, rfl, rfl, rfl, trivial⟩ (fun w m => m.pick [0, 1] 3 rfl rfl)
 ·replace hf := if_f hf h28
  refine Z13 rfl (congrArg (fun b => !b) (Bool.eq_false_iff.2 h28)) (Z4 (Z2 (Z0 (Z22 rfl Zh rfl rfl rfl rfl (RcptC.C_length _)) rfl (OW.rot1 (Z28 (Z103 rfl rfl rfl (RcptC.C_one _ rfl) rfl (RcptC.C_length _) (RcptC.C_length _)) (Z0 (Z5 rfl) rfl (Z6 (Z1 (CW.ret (Z8 ?_))))))))))
  have er0 := Zi hf
  obtain ⟨e0, er1⟩ := Prod.mk.inj er0
  clear er0
  subst e0
  subst er1
  refine Z104 (rs := [.cell 4 30, .tmp 5]) ([.agg (⟨a0, false, (Vector.replicate 32 0#8), 0#64, 0#64, (Vector.replicate 256 0#8), .slice none 0 0⟩ : RcptC).C.toArray, .bool false]) ((some b14, blk (⟨a0, false, (Vector.replicate 32 0#8), 0#64, 0#64, (Vector.replicate 256 0#8), .slice none 0 0⟩ : RcptC).C 30) :: (some b15, blk (⟨a0, false, (Vector.replicate 32 0#8), 0#64, 0#64, (Vector.replicate 256 0#8), .slice none 0 0⟩ : RcptC).C 30) :: (some b13, blk [.bool (a1.list), .slice A1 a1.data.length c2, .slice A4 a1.items.length c5] 89) :: (B19 ++ [])) rfl ?_ rfl ?_ ?_ _ (.inl rfl)
  ·exact ⟨⟨_, _, _, _, rfl, Zh, rfl, rfl, (congrArg some (RcptC.C_length _).symm), rfl⟩, rfl, trivial⟩
  ·exact ⟨rfl, (by dsimp only; omega), rfl⟩
  ·exact (fun w m => m)
theorem waybillref17_ParseLog_does (w0 : World) (Φ : Ctx) (N : List Ent) (hΦ : ∀ w, Mem w0 w N → Φ w) (cs0_ : List Value) (a0 : It) (res0 : Log) (res1 : Nat) (ha0 : ItRd Φ cs0_ a0) (hf : waybillref17_ParseLog a0 = some (res0, res1)) : DoesG Tryd.prog 103 [.agg cs0_.toArray] w0 [] N (fun v G => ∃ B : List Ent, ∃ cr0 : List Value, (LogRd (More w0 Φ B) cr0 res0) ∧ (res1 ≤ 9223372036854775807) ∧ v = .tuple #[.agg cr0.toArray, .int .i64 ((res1 : Nat) : Int)] ∧ G = B) := by
 unfold waybillref17_ParseLog at hf
 replace ha0 := ItRd.mono (Ψ := More w0 Φ []) (fun w q => q.1) _ _ ha0
 have h10 := ha0
 obtain ⟨A1, c2, A4, c5, cs7, e9, v3, v6, h8⟩ := ItRd.opn ha0
 subst e9
 have m11 := v3.mx
 have m12 := v6.mx
 refine DoesG.enter Tryd.func103 rfl Tryd.ntmps103 rfl (M := (([] ++ N))) rfl (Z4 (Z2 (Z130 rfl rfl (fun b13 => (OW.alloc (l := (⟨(Vector.replicate 20 0#8), .slice none 0 0, .slice none 0 0⟩ : LogC).C) rfl (by kernel_rfl) rfl (fun b14 => (Z0 (Z5 rfl) rfl (Z6 (Z1 (Z4 (Z2 (Z0 (Z22 rfl (List.Mem.tail _ Zh) rfl rfl rfl rfl rfl) rfl ?_))))))))))))
 obtain ⟨⟨x16, x17⟩, hx15, hf⟩ := Z100 hf
 try dsimp only at hf
 refine Z12 Tryd.call73 rfl (Z141 w0 (More w0 Φ []) ((some b14, blk (⟨(Vector.replicate 20 0#8), .slice none 0 0, .slice none 0 0⟩ : LogC).C 63) :: (some b13, blk [.bool (a0.list), .slice A1 a0.data.length c2, .slice A4 a0.items.length c5] 89) :: ([] ++ N)) (fun w m => Z105 hΦ 2 m rfl) [.bool (a0.list), .slice A1 a0.data.length c2, .slice A4 a0.items.length c5] a0 x16 x17 h10 hx15) rfl rfl ?_
 rintro L24 M25 ⟨B18, cs19, A21, c22, h20, v23, e26, e27⟩
 rw [e26, e27]
 clear e26 e27 L24 M25
 refine Z20 (M' := ((some b14, blk (⟨(Vector.replicate 20 0#8), .slice none 0 0, .slice none 0 0⟩ : LogC).C 63) :: (some b13, blk [.bool (a0.list), .slice A1 a0.data.length c2, .slice A4 a0.items.length c5] 89) :: ((B18 ++ []) ++ N))) (fun w m => by have h := Z113 (A := B18) m 0 2 rfl rfl; exact h) ?_
 have gq1 : ∀ w, More w0 Φ (B18 ++ []) w → More w0 Φ [] w := fun w q => More.mono (fun w m => (m).appR) q
 replace h10 := ItRd.mono gq1 _ _ h10
 replace v3 := v3.mono gq1
 replace v6 := v6.mono gq1
 replace h8 := h8.mono (ItRd.mono gq1)
 replace v23 := v23.mono (Ψ := (More w0 Φ (B18 ++ []))) (fun w q => Z128 q)
 replace h20 := h20.mono (ItRd.mono (Ψ := (More w0 Φ (B18 ++ []))) (fun w q => Z128 q))
 have m28 := v23.mx
 refine Z0 (Z3 rfl) rfl (Z0 (Z17 rfl rfl) rfl (Z7 (.slice A21 x16.length c22) (rfl) (Z0 (Z17 rfl rfl) rfl (Z7 (.bool (x17)) (rfl) (Z0 (Z5 rfl) rfl (Z0 (Z5 rfl) rfl (Z6 (Z1 (Z4 (Z4 ?_))))))))))
 obtain ⟨q29, hq30, hf⟩ := Z100 hf
 refine Z115 (fun L' M' => ∃ p31 : Bool, q29 = p31 ∧ L' = [(2, ptr (some b14) 0), (4, .slice A21 x16.length c22), (28, .bool (p31))] ∧ M' = ((some b14, blk (⟨(Vector.replicate 20 0#8), .slice none 0 0, .slice none 0 0⟩ : LogC).C 63) :: ((B18 ++ []) ++ N))) ?_ ?_
 ·rintro L33 M34 ⟨p31, e32, e35, e36⟩
  rw [e35, e36]
  clear e35 e36 L33 M34
  clear hq30
  rw [e32] at hf
  clear e32
  try dsimp only at hf
  refine Z1 ?_
  by_cases h37 : p31 = true
  ·replace hf := if_t hf h37
   refine Z13 rfl (h37) (Z4 (Z2 (Z0 (Z107 (l := (⟨(Vector.replicate 20 0#8), .slice none 0 0, .slice none 0 0⟩ : LogC).C) (cs := (⟨(Vector.replicate 20 0#8), .slice none 0 0, .slice none 0 0⟩ : LogC).C) [] rfl rfl rfl (by kernel_rfl) rfl rfl rfl) rfl (Z28 (Z103 rfl rfl rfl (LogC.C_one _ rfl rfl) rfl (LogC.C_length _) (LogC.C_length _)) (Z0 (Z5 rfl) rfl (Z6 (Z1 (CW.ret (Z8 ?_)))))))))
   have er0 := Zi hf
   obtain ⟨e0, er1⟩ := Prod.mk.inj er0
   clear er0
   subst e0
   subst er1
   have v38 : View (More w0 Φ (B18 ++ [])) none ([] : List (Vector (BitVec 8) 32)).length 0 32 [] := View.nil
   have v39 : View (More w0 Φ (B18 ++ [])) none ([] : List (BitVec 8)).length 0 1 (u8s []) := View.nil
   refine Z104 (rs := [.cell 2 63, .tmp 3]) ([.agg (⟨(Vector.replicate 20 0#8), .slice none 0 0, .slice none 0 0⟩ : LogC).C.toArray, .int .i64 (172 : Int)]) ((B18 ++ [])) rfl ?_ rfl ?_ ?_ _ (.inl rfl)
   ·exact ⟨⟨_, _, _, _, rfl, Zh, rfl, rfl, (congrArg some (LogC.C_length _).symm), rfl⟩, rfl, trivial⟩
   ·exact ⟨(B18 ++ []), (⟨(Vector.replicate 20 0#8), .slice none 0 0, .slice none 0 0⟩ : LogC).C, (LogRd.mk v38 (Reps.nil) v39), (by omega), rfl, rfl⟩
   ·exact (fun w m => m.pick [] 1 rfl rfl)
  ·replace hf := if_f hf h37
   refine Z14 rfl (Bool.eq_false_iff.2 h37) (CW.skip (Z1 (Z4 (Z2 (OW.alloc (l := (⟨(Vector.replicate 20 0#8), .slice none 0 0, .slice none 0 0⟩ : LogC).C) rfl (by kernel_rfl) rfl (fun b40 => (Z6 (Z1 (Z4 (Z2 (Z0 (Z3 rfl) rfl ?_)))))))))))
   obtain ⟨x41, hx42, hf⟩ := Z100 hf
   have hl43 := Z111 hx42
   refine Z0 (Z117 (0) rfl rfl rfl rfl rfl (v23.isSome (by decide) hl43) (by omega)) rfl ?_
   obtain ⟨cs44, h45, h46⟩ := h20.get ItRd.len hx42
   have h56 := h45
   obtain ⟨A47, c48, A50, c51, cs53, e55, v49, v52, h54⟩ := ItRd.opn h45
   subst e55
   have m57 := v49.mx
   have m58 := v52.mx
   refine Z0 (Z124 rfl rfl rfl rfl (fun w m => v23.load (Z105 hΦ 2 m rfl) h46) rfl) rfl ?_
   obtain ⟨⟨x60, x61⟩, hx59, hf⟩ := Z100 hf
   try dsimp only at hf
   refine Z12 Tryd.call102 rfl (Z147 w0 (More w0 Φ (B18 ++ [])) ((some b40, blk (⟨(Vector.replicate 20 0#8), .slice none 0 0, .slice none 0 0⟩ : LogC).C 63) :: (some b14, blk (⟨(Vector.replicate 20 0#8), .slice none 0 0, .slice none 0 0⟩ : LogC).C 63) :: ((B18 ++ []) ++ N)) (fun w m => Z105 hΦ 2 m rfl) [.bool (x41.list), .slice A47 x41.data.length c48, .slice A50 x41.items.length c51] x41 (20 : Int) x60 x61 h56 (by omega) hx59) rfl rfl ?_
   rintro L66 M67 ⟨B62, A63, c64, v65, e68, e69⟩
   rw [e68, e69]
   clear e68 e69 L66 M67
   refine Z20 (M' := ((some b40, blk (⟨(Vector.replicate 20 0#8), .slice none 0 0, .slice none 0 0⟩ : LogC).C 63) :: (some b14, blk (⟨(Vector.replicate 20 0#8), .slice none 0 0, .slice none 0 0⟩ : LogC).C 63) :: ((B62 ++ (B18 ++ [])) ++ N))) (fun w m => by have h := Z113 (A := B62) m 0 2 rfl rfl; exact h) ?_
   have gq2 : ∀ w, More w0 Φ (B62 ++ (B18 ++ [])) w → More w0 Φ (B18 ++ []) w := fun w q => More.mono (fun w m => (m).appR) q
   replace v23 := v23.mono gq2
   replace h20 := h20.mono (ItRd.mono gq2)
   replace h56 := ItRd.mono gq2 _ _ h56
   replace v49 := v49.mono gq2
   replace v52 := v52.mono gq2
   replace h54 := h54.mono (ItRd.mono gq2)
   replace v65 := v65.mono (Ψ := (More w0 Φ (B62 ++ (B18 ++ [])))) (fun w q => Z128 q)
   have m70 := v65.mx
   refine Z0 (Z3 rfl) rfl (Z0 (Z17 rfl rfl) rfl (Z7 (.slice A63 x60.length c64) (rfl) (Z0 (Z17 rfl rfl) rfl (Z7 (.bool (x61)) (rfl) (Z0 (Z5 rfl) rfl (Z0 (Z5 rfl) rfl (Z6 (Z1 (Z4 (Z2 ?_))))))))))
   refine Z0 (Z3 rfl) rfl ?_
   obtain ⟨x71, hx72, hf⟩ := Z100 hf
   have hl73 := Z111 hx72
   refine Z0 (Z117 (1) rfl rfl rfl rfl rfl (v23.isSome (by decide) hl73) (by omega)) rfl ?_
   obtain ⟨cs74, h75, h76⟩ := h20.get ItRd.len hx72
   have h86 := h75
   obtain ⟨A77, c78, A80, c81, cs83, e85, v79, v82, h84⟩ := ItRd.opn h75
   subst e85
   have m87 := v79.mx
   have m88 := v82.mx
   refine Z0 (Z124 rfl rfl rfl rfl (fun w m => v23.load (Z105 hΦ 2 m rfl) h76) rfl) rfl ?_
   obtain ⟨⟨x90, x91⟩, hx89, hf⟩ := Z100 hf
   try dsimp only at hf
   refine Z12 Tryd.call73 rfl (Z141 w0 (More w0 Φ (B62 ++ (B18 ++ []))) ((some b40, blk (⟨(Vector.replicate 20 0#8), .slice none 0 0, .slice none 0 0⟩ : LogC).C 63) :: (some b14, blk (⟨(Vector.replicate 20 0#8), .slice none 0 0, .slice none 0 0⟩ : LogC).C 63) :: ((B62 ++ (B18 ++ [])) ++ N)) (fun w m => Z105 hΦ 2 m rfl) [.bool (x71.list), .slice A77 x71.data.length c78, .slice A80 x71.items.length c81] x71 x90 x91 h86 hx89) rfl rfl ?_
   rintro L98 M99 ⟨B92, cs93, A95, c96, h94, v97, e100, e101⟩
   rw [e100, e101]
   clear e100 e101 L98 M99
   refine Z20 (M' := ((some b40, blk (⟨(Vector.replicate 20 0#8), .slice none 0 0, .slice none 0 0⟩ : LogC).C 63) :: (some b14, blk (⟨(Vector.replicate 20 0#8), .slice none 0 0, .slice none 0 0⟩ : LogC).C 63) :: ((B92 ++ (B62 ++ (B18 ++ []))) ++ N))) (fun w m => by have h := Z113 (A := B92) m 0 2 rfl rfl; exact h) ?_
   have gq3 : ∀ w, More w0 Φ (B92 ++ (B62 ++ (B18 ++ []))) w → More w0 Φ (B62 ++ (B18 ++ [])) w := fun w q => More.mono (fun w m => (m).appR) q
   replace v23 := v23.mono gq3
   replace h20 := h20.mono (ItRd.mono gq3)
   replace h56 := ItRd.mono gq3 _ _ h56
   replace v49 := v49.mono gq3
   replace v52 := v52.mono gq3
   replace h54 := h54.mono (ItRd.mono gq3)
   replace v65 := v65.mono gq3
   replace h86 := ItRd.mono gq3 _ _ h86
   replace v79 := v79.mono gq3
   replace v82 := v82.mono gq3
   replace h84 := h84.mono (ItRd.mono gq3)
   replace v97 := v97.mono (Ψ := (More w0 Φ (B92 ++ (B62 ++ (B18 ++ []))))) (fun w q => Z128 q)
   replace h94 := h94.mono (ItRd.mono (Ψ := (More w0 Φ (B92 ++ (B62 ++ (B18 ++ []))))) (fun w q => Z128 q))
   have m102 := v97.mx
   refine Z0 (Z3 rfl) rfl (Z0 (Z17 rfl rfl) rfl (Z7 (.slice A95 x90.length c96) (rfl) (Z0 (Z17 rfl rfl) rfl (Z7 (.bool (x91)) (rfl) (Z0 (Z5 rfl) rfl (Z0 (Z5 rfl) rfl (Z6 (Z1 (Z4 (Z2 ?_))))))))))
   refine Z0 (Z3 rfl) rfl ?_
   obtain ⟨x103, hx104, hf⟩ := Z100 hf
   have hl105 := Z111 hx104
   refine Z0 (Z117 (2) rfl rfl rfl rfl rfl (v23.isSome (by decide) hl105) (by omega)) rfl ?_
   obtain ⟨cs106, h107, h108⟩ := h20.get ItRd.len hx104
   have h118 := h107
   obtain ⟨A109, c110, A112, c113, cs115, e117, v111, v114, h116⟩ := ItRd.opn h107
   subst e117
   have m119 := v111.mx
   have m120 := v114.mx
   refine Z0 (Z124 rfl rfl rfl rfl (fun w m => v23.load (Z105 hΦ 2 m rfl) h108) rfl) rfl ?_
   obtain ⟨⟨x122, x123⟩, hx121, hf⟩ := Z100 hf
   try dsimp only at hf
   refine Z12 Tryd.call126 rfl (Z140 w0 (More w0 Φ (B92 ++ (B62 ++ (B18 ++ [])))) ((some b40, blk (⟨(Vector.replicate 20 0#8), .slice none 0 0, .slice none 0 0⟩ : LogC).C 63) :: (some b14, blk (⟨(Vector.replicate 20 0#8), .slice none 0 0, .slice none 0 0⟩ : LogC).C 63) :: ((B92 ++ (B62 ++ (B18 ++ []))) ++ N)) (fun w m => Z105 hΦ 2 m rfl) [.bool (x103.list), .slice A109 x103.data.length c110, .slice A112 x103.items.length c113] x103 x122 x123 h118 hx121) rfl rfl ?_
   rintro L128 M129 ⟨B124, A125, c126, v127, e130, e131⟩
   rw [e130, e131]
   clear e130 e131 L128 M129
   refine Z20 (M' := ((some b40, blk (⟨(Vector.replicate 20 0#8), .slice none 0 0, .slice none 0 0⟩ : LogC).C 63) :: (some b14, blk (⟨(Vector.replicate 20 0#8), .slice none 0 0, .slice none 0 0⟩ : LogC).C 63) :: ((B124 ++ (B92 ++ (B62 ++ (B18 ++ [])))) ++ N))) (fun w m => by have h := Z113 (A := B124) m 0 2 rfl rfl; exact h) ?_
   have gq4 : ∀ w, More w0 Φ (B124 ++ (B92 ++ (B62 ++ (B18 ++ [])))) w → More w0 Φ (B92 ++ (B62 ++ (B18 ++ []))) w := fun w q => More.mono (fun w m => (m).appR) q
   replace v23 := v23.mono gq4
   replace h20 := h20.mono (ItRd.mono gq4)
   replace h56 := ItRd.mono gq4 _ _ h56
   replace v49 := v49.mono gq4
   replace v52 := v52.mono gq4
   replace h54 := h54.mono (ItRd.mono gq4)
   replace v65 := v65.mono gq4
   replace h86 := ItRd.mono gq4 _ _ h86
   replace v79 := v79.mono gq4
   replace v82 := v82.mono gq4
   replace h84 := h84.mono (ItRd.mono gq4)
   replace v97 := v97.mono gq4
   replace h94 := h94.mono (ItRd.mono gq4)
   replace h118 := ItRd.mono gq4 _ _ h118
   replace v111 := v111.mono gq4
   replace v114 := v114.mono gq4
   replace h116 := h116.mono (ItRd.mono gq4)
   replace v127 := v127.mono (Ψ := (More w0 Φ (B124 ++ (B92 ++ (B62 ++ (B18 ++ [])))))) (fun w q => Z128 q)
   have m132 := v127.mx
   refine Z0 (Z3 rfl) rfl (Z0 (Z17 rfl rfl) rfl (Z7 (.slice A125 x122.length c126) (rfl) (Z0 (Z17 rfl rfl) rfl (Z7 (.bool (x123)) (rfl) (Z0 (Z5 rfl) rfl (Z0 (Z5 rfl) rfl (Z6 (Z1 (Z4 (Z4 ?_))))))))))
   obtain ⟨q133, hq134, hf⟩ := Z100 hf
   refine Z115 (fun L' M' => ∃ p135 : Bool, q133 = p135 ∧ L' = [(2, ptr (some b14) 0), (6, ptr (some b40) 0), (7, .slice A63 x60.length c64), (9, .slice A95 x90.length c96), (11, .slice A125 x122.length c126), (60, .bool (p135))] ∧ M' = ((some b40, blk (⟨(Vector.replicate 20 0#8), .slice none 0 0, .slice none 0 0⟩ : LogC).C 63) :: (some b14, blk (⟨(Vector.replicate 20 0#8), .slice none 0 0, .slice none 0 0⟩ : LogC).C 63) :: ((B124 ++ (B92 ++ (B62 ++ (B18 ++ [])))) ++ N))) ?_ ?_
   ·rintro L137 M138 ⟨p135, e136, e139, e140⟩
    rw [e139, e140]
    clear e139 e140 L137 M138
    clear hq134
    rw [e136] at hf
    clear e136
    try dsimp only at hf
    refine Z1 ?_
    by_cases h141 : p135 = true
    ·replace hf := if_t hf h141
     refine Z13 rfl (h141) (Z4 (Z2 (Z0 (Z107 (l := (⟨(Vector.replicate 20 0#8), .slice none 0 0, .slice none 0 0⟩ : LogC).C) (cs := (⟨(Vector.replicate 20 0#8), .slice none 0 0, .slice none 0 0⟩ : LogC).C) [] rfl rfl rfl (by kernel_rfl) rfl rfl rfl) rfl (OW.rot1 (Z28 (Z103 rfl rfl rfl (LogC.C_one _ rfl rfl) rfl (LogC.C_length _) (LogC.C_length _)) (Z0 (Z5 rfl) rfl (Z6 (Z1 (CW.ret (Z8 ?_))))))))))
     have er0 := Zi hf
     obtain ⟨e0, er1⟩ := Prod.mk.inj er0
     clear er0
     subst e0
     subst er1
     have v142 : View (More w0 Φ (B124 ++ (B92 ++ (B62 ++ (B18 ++ []))))) none ([] : List (Vector (BitVec 8) 32)).length 0 32 [] := View.nil
     have v143 : View (More w0 Φ (B124 ++ (B92 ++ (B62 ++ (B18 ++ []))))) none ([] : List (BitVec 8)).length 0 1 (u8s []) := View.nil
     refine Z104 (rs := [.cell 2 63, .tmp 3]) ([.agg (⟨(Vector.replicate 20 0#8), .slice none 0 0, .slice none 0 0⟩ : LogC).C.toArray, .int .i64 (172 : Int)]) ((B124 ++ (B92 ++ (B62 ++ (B18 ++ []))))) rfl ?_ rfl ?_ ?_ _ (.inl rfl)
     ·exact ⟨⟨_, _, _, _, rfl, Zh, rfl, rfl, (congrArg some (LogC.C_length _).symm), rfl⟩, rfl, trivial⟩
     ·exact ⟨(B124 ++ (B92 ++ (B62 ++ (B18 ++ [])))), (⟨(Vector.replicate 20 0#8), .slice none 0 0, .slice none 0 0⟩ : LogC).C, (LogRd.mk v142 (Reps.nil) v143), (by omega), rfl, rfl⟩
     ·exact (fun w m => m.pick [] 2 rfl rfl)
    ·replace hf := if_f hf h141
     refine Z14 rfl (Bool.eq_false_iff.2 h141) (CW.skip (Z1 (Z4 (Z2 (Z0 (Z30 rfl rfl rfl rfl) rfl (Z7 (ptr (some b40) 0) rfl (Z0 (RV.arr_all rfl rfl rfl) rfl (Z7 (sl (some b40) (0 + 0) (20 - 0) (20 - 0)) (rfl) (Z0 (Z3 rfl) rfl (OW.copy (ob := some b40) (off := 0 + 0) rfl rfl rfl rfl (fun h => nomatch h) (by rw [LogC.C_length]; omega) (fun w m => v65.rd w (Z105 hΦ 2 m rfl)) (Z102 _) (Z129 _) (v65.zero (by decide)) rfl ?_))))))))))
     refine OW.cells (⟨(cpV (Vector.replicate 20 0#8) 0 (x60.take (min x60.length (20 - 0)))), .slice none 0 0, .slice none 0 0⟩ : LogC).C (by rw [u8s_take]; exact LogC.C_address_cpy _ (by rw [List.length_take]; omega)) ?_
     refine Z6 (Z1 (Z4 (Z4 (Z2 (Z0 (Z5 rfl) rfl (Z6 (Z1 ?_)))))))
     obtain ⟨q144, hq145, hf⟩ := Z100 hf
     refine Z115 (fun L' M' => ∃ w148 : Vector (BitVec 8) 20, ∃ l149 : List (Vector (BitVec 8) 32), ∃ l156 : List (BitVec 8), ∃ B146 : List Ent, ∃ cs150 : List Value, ∃ ob152 : Option Nat, ∃ c153 : Nat, ∃ r154 : List Value, ∃ ob157 : Option Nat, ∃ c158 : Nat, ∃ r159 : List Value, q144 = Lp.go (w148, l149, l156) ∧ (∀ w, Mem w0 w B146 → Mem w0 w (B124 ++ (B92 ++ (B62 ++ (B18 ++ []))))) ∧ (Reps (Ar8Rd (More w0 Φ B146)) cs150 l149) ∧ (OwnS ob152 l149.length c153 32 cs150 r154) ∧ (OwnS ob157 l156.length c158 1 (u8s l156) r159) ∧ L' = [(2, ptr (some b14) 0), (6, ptr (some b40) 0), (11, .slice A125 x122.length c126)] ∧ M' = ((ob152, blk (cs150 ++ r154) 24) :: (ob157, blk ((u8s l156) ++ r159) 5) :: (some b40, blk (⟨w148, sl ob152 0 l149.length c153, sl ob157 0 l156.length c158⟩ : LogC).C 63) :: (some b14, blk (⟨(Vector.replicate 20 0#8), .slice none 0 0, .slice none 0 0⟩ : LogC).C 63) :: (B146 ++ N))) ?_ ?_
     ·rintro L162 M163 ⟨w148, l149, l156, B146, cs150, ob152, c153, r154, ob157, c158, r159, e161, hB147, h151, o155, o160, e164, e165⟩
      rw [e164, e165]
      clear e164 e165 L162 M163
      clear hq145
      rw [e161] at hf
      clear e161
      try dsimp only at hf
      have gq7 : ∀ w, More w0 Φ B146 w → More w0 Φ (B124 ++ (B92 ++ (B62 ++ (B18 ++ [])))) w := fun w q => More.mono (fun w m => hB147 w (m)) q
      replace v127 := v127.mono gq7
      have m166 := o155.mx
      have m167 := o160.mx
      refine Z1 (Z4 (Z4 (Z2 (Z0 (Z30 rfl rfl rfl rfl) rfl (Z7 (ptr (some b40) 20) rfl (Z0 (Z29 rfl (List.Mem.tail _ (List.Mem.tail _ Zh)) rfl rfl rfl (Z122 (⟨w148, sl ob152 0 l149.length c153, sl ob157 0 l156.length c158⟩ : LogC))) rfl (Z0 (RV.len rfl rfl) rfl (Z0 (RV.gtr rfl rfl) rfl (Z7 (.bool (decide (4 < l149.length))) (congrArg Value.bool (decide_eq_decide.2 (by omega))) (Z6 (Z1 ?_)))))))))))
      by_cases h168 : 4 < l149.length
      ·replace hf := if_t hf h168
       refine Z13 rfl (decide_eq_true h168) (Z4 (Z2 (Z0 (Z107 (l := (⟨(Vector.replicate 20 0#8), .slice none 0 0, .slice none 0 0⟩ : LogC).C) (cs := (⟨(Vector.replicate 20 0#8), .slice none 0 0, .slice none 0 0⟩ : LogC).C) [] rfl rfl rfl (by kernel_rfl) rfl rfl rfl) rfl (OW.rot3 (Z28 (Z103 rfl rfl rfl (LogC.C_one _ rfl rfl) rfl (LogC.C_length _) (LogC.C_length _)) (Z0 (Z5 rfl) rfl (Z6 (Z1 (CW.ret (Z8 ?_))))))))))
       have er0 := Zi hf
       obtain ⟨e0, er1⟩ := Prod.mk.inj er0
       clear er0
       subst e0
       subst er1
       have v169 : View (More w0 Φ B146) none ([] : List (Vector (BitVec 8) 32)).length 0 32 [] := View.nil
       have v170 : View (More w0 Φ B146) none ([] : List (BitVec 8)).length 0 1 (u8s []) := View.nil
       refine Z104 (rs := [.cell 2 63, .tmp 3]) ([.agg (⟨(Vector.replicate 20 0#8), .slice none 0 0, .slice none 0 0⟩ : LogC).C.toArray, .int .i64 (174 : Int)]) (B146) rfl ?_ rfl ?_ ?_ _ (.inl rfl)
       ·exact ⟨⟨_, _, _, _, rfl, Zh, rfl, rfl, (congrArg some (LogC.C_length _).symm), rfl⟩, rfl, trivial⟩
       ·exact ⟨B146, (⟨(Vector.replicate 20 0#8), .slice none 0 0, .slice none 0 0⟩ : LogC).C, (LogRd.mk v169 (Reps.nil) v170), (by omega), rfl, rfl⟩
       ·exact (fun w m => m.pick [] 4 rfl rfl)
      ·replace hf := if_f hf h168
       refine Z14 rfl (decide_eq_false h168) (CW.skip (Z1 (Z4 (Z2 (Z0 (Z30 rfl rfl rfl rfl) rfl (Z7 (ptr (some b40) 21) rfl (Z0 (Z29 rfl (List.Mem.tail _ (List.Mem.tail _ Zh)) rfl rfl rfl (LogC.C_data (⟨w148, sl ob152 0 l149.length c153, sl ob157 0 l156.length c158⟩ : LogC))) rfl (Z0 (Z3 rfl) rfl (OW.rot1 ?_)))))))))
       obtain ⟨g171, hf⟩ := Z112 hf
       refine OW.appendOwn (s := 1) rfl rfl rfl rfl rfl rfl o160 (fun w m => v127.rd w (Z105 hΦ 4 m rfl)) v127.n (Z129 _) (v127.zero (by decide)) (by decide) (by decide) (by first | omega | (simp only [i5, List.length_nil]; omega)) rfl rfl ((l156 ++ x122).length) (u8s (l156 ++ x122)) (List.length_append ..).symm (u8s_app _ _) (fun ob172 r173 c174 o175 => ?_)
       have m176 := o175.mx
       refine Z0 (Z30 rfl rfl rfl rfl) rfl (Z7 (ptr (some b40) 21) rfl (OW.rot2 (Z28 (SV.store rfl rfl rfl rfl rfl (by rw [LogC.C_length]; omega)) (OW.cells (⟨w148, sl ob152 0 l149.length c153, sl ob172 0 (l156 ++ x122).length c174⟩ : LogC).C (LogC.C_data_set _ (sl ob172 0 (l156 ++ x122).length c174)) (Z6 (Z1 (Z4 (Z2 (Z0 (Z22 rfl Zh rfl rfl rfl rfl (LogC.C_length _)) rfl (OW.rot3 ?_))))))))))
       refine Z28 (Z103 rfl rfl rfl (LogC.C_one _ rfl rfl) rfl (LogC.C_length _) (LogC.C_length _)) (Z0 (Z5 rfl) rfl (Z6 (Z1 (CW.ret (QW.mem (M' := (some b14, blk (⟨w148, sl ob152 0 l149.length c153, sl ob172 0 (l156 ++ x122).length c174⟩ : LogC).C 63) :: (some b40, blk (⟨w148, sl ob152 0 l149.length c153, sl ob172 0 (l156 ++ x122).length c174⟩ : LogC).C 63) :: (ob172, blk ((u8s (l156 ++ x122)) ++ r173) 5) :: (((ob152, blk (cs150 ++ r154) 24) :: B146) ++ N)) (fun w m => m.pick [0, 1, 2, 3] 4 rfl rfl) ?_)))))
       have gq8 : ∀ w, More w0 Φ ((ob152, blk (cs150 ++ r154) 24) :: B146) w → More w0 Φ B146 w := fun w q => More.mono (fun w m => (m).tail) q
       replace v127 := v127.mono gq8
       replace h151 := h151.mono (Ar8Rd.mono gq8)
       have v177 : View (More w0 Φ ((ob152, blk (cs150 ++ r154) 24) :: B146)) ((ob152).map fun k => ⟨k, 0, none⟩) l149.length c153 32 cs150 := o155.view (by decide) (fun w q => q.2.sublist (List.singleton_sublist.2 (List.mem_cons_self ..)))
       refine QW.mem (M' := (some b14, blk (⟨w148, .slice ((ob152).map fun k => ⟨k, 0, none⟩) l149.length c153, sl ob172 0 (l156 ++ x122).length c174⟩ : LogC).C 63) :: (some b40, blk (⟨w148, .slice ((ob152).map fun k => ⟨k, 0, none⟩) l149.length c153, sl ob172 0 (l156 ++ x122).length c174⟩ : LogC).C 63) :: (((ob172, blk ((u8s (l156 ++ x122)) ++ r173) 5) :: ((ob152, blk (cs150 ++ r154) 24) :: B146)) ++ N)) (fun w m => m.pick [0, 1, 2] 3 rfl rfl) ?_
       have gq9 : ∀ w, More w0 Φ ((ob172, blk ((u8s (l156 ++ x122)) ++ r173) 5) :: ((ob152, blk (cs150 ++ r154) 24) :: B146)) w → More w0 Φ ((ob152, blk (cs150 ++ r154) 24) :: B146) w := fun w q => More.mono (fun w m => (m).tail) q
       replace v127 := v127.mono gq9
       replace v177 := v177.mono gq9
       replace h151 := h151.mono (Ar8Rd.mono gq9)
       have v178 : View (More w0 Φ ((ob172, blk ((u8s (l156 ++ x122)) ++ r173) 5) :: ((ob152, blk (cs150 ++ r154) 24) :: B146))) ((ob172).map fun k => ⟨k, 0, none⟩) (l156 ++ x122).length c174 1 (u8s (l156 ++ x122)) := o175.view (by decide) (fun w q => q.2.sublist (List.singleton_sublist.2 (List.mem_cons_self ..)))
       have er0 := Zi hf
       obtain ⟨e0, er1⟩ := Prod.mk.inj er0
       clear er0
       subst e0
       subst er1
       refine Z104 (rs := [.cell 2 63, .tmp 3]) ([.agg (⟨w148, .slice ((ob152).map fun k => ⟨k, 0, none⟩) l149.length c153, .slice ((ob172).map fun k => ⟨k, 0, none⟩) (l156 ++ x122).length c174⟩ : LogC).C.toArray, .int .i64 (0 : Int)]) (((ob172, blk ((u8s (l156 ++ x122)) ++ r173) 5) :: ((ob152, blk (cs150 ++ r154) 24) :: B146))) rfl ?_ rfl ?_ ?_ _ (.inl rfl)
       ·exact ⟨⟨_, _, _, _, rfl, Zh, rfl, rfl, (congrArg some (LogC.C_length _).symm), rfl⟩, rfl, trivial⟩
       ·exact ⟨((ob172, blk ((u8s (l156 ++ x122)) ++ r173) 5) :: ((ob152, blk (cs150 ++ r154) 24) :: B146)), (⟨w148, .slice ((ob152).map fun k => ⟨k, 0, none⟩) l149.length c153, .slice ((ob172).map fun k => ⟨k, 0, none⟩) (l156 ++ x122).length c174⟩ : LogC).C, (LogRd.mk v177 h151 v178), (by omega), rfl, rfl⟩
       ·exact (fun w m => m.pick [] 2 rfl rfl)
     ·skip
      refine CW.block (CW.mem (M' := ((none, blk ([] ++ []) 24) :: (some b40, blk (⟨(cpV (Vector.replicate 20 0#8) 0 (x60.take (min x60.length (20 - 0)))), .slice none 0 0, .slice none 0 0⟩ : LogC).C 63) :: (some b14, blk (⟨(Vector.replicate 20 0#8), .slice none 0 0, .slice none 0 0⟩ : LogC).C 63) :: ((B124 ++ (B92 ++ (B62 ++ (B18 ++ [])))) ++ N))) (fun w m => m.nil_ent _) (CW.mem (M' := ((none, blk ((u8s ([] : List (BitVec 8))) ++ []) 5) :: (none, blk ([] ++ []) 24) :: (some b40, blk (⟨(cpV (Vector.replicate 20 0#8) 0 (x60.take (min x60.length (20 - 0)))), .slice none 0 0, .slice none 0 0⟩ : LogC).C 63) :: (some b14, blk (⟨(Vector.replicate 20 0#8), .slice none 0 0, .slice none 0 0⟩ : LogC).C 63) :: ((B124 ++ (B92 ++ (B62 ++ (B18 ++ [])))) ++ N))) (fun w m => m.nil_ent _) (Z121 (fun k L' M' => ∃ n181 : Nat, ∃ w183 : Vector (BitVec 8) 20, ∃ l184 : List (Vector (BitVec 8) 32), ∃ l191 : List (BitVec 8), ∃ B179 : List Ent, ∃ cs185 : List Value, ∃ ob187 : Option Nat, ∃ c188 : Nat, ∃ r189 : List Value, ∃ ob192 : Option Nat, ∃ c193 : Nat, ∃ r194 : List Value, (waybillref17_ParseLog.l1 x90 k n181 w183 l184 l191) = some q144 ∧ (∀ w, Mem w0 w B179 → Mem w0 w (B124 ++ (B92 ++ (B62 ++ (B18 ++ []))))) ∧ (n181 ≤ 9223372036854775807) ∧ (Reps (Ar8Rd (More w0 Φ B179)) cs185 l184) ∧ (OwnS ob187 l184.length c188 32 cs185 r189) ∧ (OwnS ob192 l191.length c193 1 (u8s l191) r194) ∧ L' = [(2, ptr (some b14) 0), (6, ptr (some b40) 0), (9, .slice A95 x90.length c96), (11, .slice A125 x122.length c126), (13, .int .i64 ((n181 : Nat) : Int))] ∧ M' = ((ob187, blk (cs185 ++ r189) 24) :: (ob192, blk ((u8s l191) ++ r194) 5) :: (some b40, blk (⟨w183, sl ob187 0 l184.length c188, sl ob192 0 l191.length c193⟩ : LogC).C 63) :: (some b14, blk (⟨(Vector.replicate 20 0#8), .slice none 0 0, .slice none 0 0⟩ : LogC).C 63) :: (B179 ++ N))) (k0 := (x90.length - 0 + 2)) ⟨0, (cpV (Vector.replicate 20 0#8) 0 (x60.take (min x60.length (20 - 0)))), ([] : List (Vector (BitVec 8) 32)), ([] : List (BitVec 8)), (B124 ++ (B92 ++ (B62 ++ (B18 ++ [])))), [], none, 0, [], none, 0, [], hq145, (fun w m => m), (by omega), Reps.nil, OwnS.nil, OwnS.nil, rfl, rfl⟩ ⟨rfl, rfl, rfl, rfl, rfl, trivial⟩ (fun w m => m.pick [1, 0, 2, 3] 4 rfl rfl) ?_)))
      clear hq145
      rintro k196 L199 M200 ⟨n181, w183, l184, l191, B179, cs185, ob187, c188, r189, ob192, c193, r194, hl197, hB180, b182, h186, o190, o195, e201, e202⟩
      rw [e201, e202]
      clear e201 e202 L199 M200
      rcases k196 with _ | k196
      ·rw [waybillref17_ParseLog.l1] at hl197; cases hl197
      rw [waybillref17_ParseLog.l1] at hl197
      have gq10 : ∀ w, More w0 Φ B179 w → More w0 Φ (B124 ++ (B92 ++ (B62 ++ (B18 ++ [])))) w := fun w q => More.mono (fun w m => hB180 w (m)) q
      replace v97 := v97.mono gq10
      replace h94 := h94.mono (ItRd.mono gq10)
      replace v127 := v127.mono gq10
      have m203 := o190.mx
      have m204 := o195.mx
      refine Z4 (Z4 (Z2 (Z0 (Z3 rfl) rfl (Z0 (Z3 rfl) rfl (Z0 (RV.len rfl rfl) rfl (Z0 (RV.lss rfl rfl) rfl (Z7 (.bool (decide (n181 < x90.length))) (congrArg Value.bool (decide_eq_decide.2 (by omega))) (Z6 (Z1 ?_)))))))))
      by_cases h205 : n181 < x90.length
      ·replace hl197 := if_t hl197 h205
       refine Z13 rfl (decide_eq_true h205) (CW.skip (Z1 (Z4 (CW.block (Z4 (Z2 (Z0 (Z3 rfl) rfl (Z0 (Z3 rfl) rfl ?_))))))))
       obtain ⟨x206, hx207, hl197⟩ := Z100 hl197
       have hl208 := Z111 hx207
       refine Z0 (Z117 (n181) rfl rfl rfl rfl rfl (v97.isSome (by decide) hl208) (by omega)) rfl ?_
       obtain ⟨cs209, h210, h211⟩ := h94.get ItRd.len hx207
       have h221 := h210
       obtain ⟨A212, c213, A215, c216, cs218, e220, v214, v217, h219⟩ := ItRd.opn h210
       subst e220
       have m222 := v214.mx
       have m223 := v217.mx
       refine Z0 (Z124 rfl rfl rfl rfl (fun w m => v97.load (Z105 hΦ 4 m rfl) h211) rfl) rfl ?_
       obtain ⟨⟨x225, x226⟩, hx224, hl197⟩ := Z100 hl197
       try dsimp only at hl197
       refine Z12 Tryd.call102 rfl (Z147 w0 (More w0 Φ B179) ((ob187, blk (cs185 ++ r189) 24) :: (ob192, blk ((u8s l191) ++ r194) 5) :: (some b40, blk (⟨w183, sl ob187 0 l184.length c188, sl ob192 0 l191.length c193⟩ : LogC).C 63) :: (some b14, blk (⟨(Vector.replicate 20 0#8), .slice none 0 0, .slice none 0 0⟩ : LogC).C 63) :: (B179 ++ N)) (fun w m => Z105 hΦ 4 m rfl) [.bool (x206.list), .slice A212 x206.data.length c213, .slice A215 x206.items.length c216] x206 (32 : Int) x225 x226 h221 (by omega) hx224) rfl rfl ?_
       rintro L231 M232 ⟨B227, A228, c229, v230, e233, e234⟩
       rw [e233, e234]
       clear e233 e234 L231 M232
       refine Z20 (M' := ((ob187, blk (cs185 ++ r189) 24) :: (ob192, blk ((u8s l191) ++ r194) 5) :: (some b40, blk (⟨w183, sl ob187 0 l184.length c188, sl ob192 0 l191.length c193⟩ : LogC).C 63) :: (some b14, blk (⟨(Vector.replicate 20 0#8), .slice none 0 0, .slice none 0 0⟩ : LogC).C 63) :: ((B227 ++ B179) ++ N))) (fun w m => by have h := Z113 (A := B227) m 0 4 rfl rfl; exact h) ?_
       have gq11 : ∀ w, More w0 Φ (B227 ++ B179) w → More w0 Φ B179 w := fun w q => More.mono (fun w m => (m).appR) q
       replace v97 := v97.mono gq11
       replace h94 := h94.mono (ItRd.mono gq11)
       replace v127 := v127.mono gq11
       replace h221 := ItRd.mono gq11 _ _ h221
       replace v214 := v214.mono gq11
       replace v217 := v217.mono gq11
       replace h219 := h219.mono (ItRd.mono gq11)
       replace h186 := h186.mono (Ar8Rd.mono gq11)
       replace v230 := v230.mono (Ψ := (More w0 Φ (B227 ++ B179))) (fun w q => Z128 q)
       have m235 := v230.mx
       refine Z0 (Z3 rfl) rfl (Z0 (Z17 rfl rfl) rfl (Z7 (.slice A228 x225.length c229) (rfl) (Z0 (Z17 rfl rfl) rfl (Z7 (.bool (x226)) (rfl) (Z0 (Z5 rfl) rfl (Z0 (Z5 rfl) rfl (Z6 (Z1 (Z4 (Z4 (Z2 ?_)))))))))))
       refine Z0 (Z3 rfl) rfl (Z0 (RV.not rfl) rfl (Z6 (Z1 ?_)))
       by_cases h236 : x226 = true
       ·replace hl197 := if_t hl197 h236
        refine Z14 rfl (congrArg (fun b => !b) (h236)) (CW.skip (Z1 (Z4 (Z2 (OW.alloc (l := (u8s (Vector.replicate 32 0#8).toList)) rfl (by rw [Vector.toList_replicate, ← Z135]; rfl) rfl (fun b237 => (Z6 (Z1 (Z4 (Z2 (Z0 (RV.arr_all rfl rfl rfl) rfl (Z7 (sl (some b237) (0 + 0) (32 - 0) (32 - 0)) (rfl) (Z0 (Z3 rfl) rfl (OW.copy (ob := some b237) (off := 0 + 0) rfl rfl rfl rfl (fun h => nomatch h) (by rw [Z102, Zv]; omega) (fun w m => v230.rd w (Z105 hΦ 5 m rfl)) (Z102 _) (Z129 _) (v230.zero (by decide)) rfl ?_))))))))))))))
        refine OW.cells (u8s (cpV (Vector.replicate 32 0#8) 0 (x225.take (min x225.length (32 - 0)))).toList) (by rw [u8s_take]; exact u8s_cpV _ (by rw [List.length_take]; omega)) ?_
        refine Z6 (Z1 (Z2 (Z0 (Z30 rfl rfl rfl rfl) rfl (Z7 (ptr (some b40) 20) rfl (Z0 (Z29 rfl (List.Mem.tail _ (List.Mem.tail _ (List.Mem.tail _ Zh))) rfl rfl rfl (Z122 (⟨w183, sl ob187 0 l184.length c188, sl ob192 0 l191.length c193⟩ : LogC))) rfl (Z0 (Z22 rfl Zh rfl rfl rfl rfl ((Z102 _).trans Zv)) rfl ?_))))))
        refine OW.ofN (NV.bsA rfl rfl (by intro x hx; simp at hx; subst hx; exact (Z102 _).trans Zv) rfl rfl rfl (by decide) (by decide) rfl) rfl (fun b238 => ?_)
        have h241 : Reps (Ar8Rd (More w0 Φ (B227 ++ B179))) (((u8s (cpV (Vector.replicate 32 0#8) 0 (x225.take (min x225.length (32 - 0)))).toList) : List Value)) [(cpV (Vector.replicate 32 0#8) 0 (x225.take (min x225.length (32 - 0))))] := Reps.one Ar8Rd.mk
        refine Z20 (M' := (((some b238), blk ((((u8s (cpV (Vector.replicate 32 0#8) 0 (x225.take (min x225.length (32 - 0)))).toList) : List Value)) ++ []) 24) :: (some b237, blk (u8s (cpV (Vector.replicate 32 0#8) 0 (x225.take (min x225.length (32 - 0)))).toList) 24) :: (ob187, blk (cs185 ++ r189) 24) :: (ob192, blk ((u8s l191) ++ r194) 5) :: (some b40, blk (⟨w183, sl ob187 0 l184.length c188, sl ob192 0 l191.length c193⟩ : LogC).C 63) :: (some b14, blk (⟨(Vector.replicate 20 0#8), .slice none 0 0, .slice none 0 0⟩ : LogC).C 63) :: ((B227 ++ B179) ++ N))) (fun w m => by simpa only [List.flatten_cons, List.flatten_nil, List.append_nil, List.append_assoc] using m) ?_
        have o239 : OwnS (some b238) ([(cpV (Vector.replicate 32 0#8) 0 (x225.take (min x225.length (32 - 0))))] : List (Vector (BitVec 8) 32)).length 1 32 (((u8s (cpV (Vector.replicate 32 0#8) 0 (x225.take (min x225.length (32 - 0)))).toList) : List Value)) [] := ⟨by simp [Ar8Rd], by simp [Ar8Rd], (fun h => nomatch h), by simp⟩
        have mx_o239 := o239.mx
        refine Z7 (sl (some b238) 0 ([(cpV (Vector.replicate 32 0#8) 0 (x225.take (min x225.length (32 - 0))))] : List (Vector (BitVec 8) 32)).length 1) (rfl) (OW.rot2 ?_)
        obtain ⟨g242, hl197⟩ := Z112 hl197
        have h247 := h186.app h241
        refine OW.appendOwn (s := 32) rfl rfl rfl rfl rfl rfl o190 (fun w m => m.rd0 (List.Mem.tail _ Zh) (fun e => o239.nilc (by decide) e)) o239.n (h241.cell1 Ar8Rd.one) (o239.zeroO (by decide)) (by decide) (by decide) (by first | omega | (simp only [i24, List.length_nil]; omega)) rfl rfl ((l184 ++ ([(cpV (Vector.replicate 32 0#8) 0 (x225.take (min x225.length (32 - 0))))] : List (Vector (BitVec 8) 32))).length) (cs185 ++ (((u8s (cpV (Vector.replicate 32 0#8) 0 (x225.take (min x225.length (32 - 0)))).toList) : List Value))) (List.length_append ..).symm rfl (fun ob243 r244 c245 o246 => ?_)
        have m248 := o246.mx
        refine Z0 (Z30 rfl rfl rfl rfl) rfl (Z7 (ptr (some b40) 20) rfl (OW.rot4 (Z28 (SV.store rfl rfl rfl rfl rfl (by rw [LogC.C_length]; omega)) (OW.cells (⟨w183, sl ob243 0 (l184 ++ ([(cpV (Vector.replicate 32 0#8) 0 (x225.take (min x225.length (32 - 0))))] : List (Vector (BitVec 8) 32))).length c245, sl ob192 0 l191.length c193⟩ : LogC).C (LogC.C_topics_set _ (sl ob243 0 (l184 ++ ([(cpV (Vector.replicate 32 0#8) 0 (x225.take (min x225.length (32 - 0))))] : List (Vector (BitVec 8) 32))).length c245)) (Z6 (Z27 (Z1 (Z2 (Z0 (Z3 rfl) rfl (Z0 (RV.add rfl rfl (by omega)) rfl ?_))))))))))
        refine Z7 (.int .i64 (((n181 + 1) : Nat) : Int)) (by first | rfl | (congr 1) | (congr 1; omega)) (Z0 (Z5 rfl) rfl (Z6 ?_))
        exact Z114 (k' := k196) (Nat.lt_succ_self _) ⟨(n181 + 1), w183, (l184 ++ ([(cpV (Vector.replicate 32 0#8) 0 (x225.take (min x225.length (32 - 0))))] : List (Vector (BitVec 8) 32))), l191, (B227 ++ B179), (cs185 ++ (((u8s (cpV (Vector.replicate 32 0#8) 0 (x225.take (min x225.length (32 - 0)))).toList) : List Value))), ob243, c245, r244, ob192, c193, r194, hl197, (fun w m => hB180 w ((m).appR)), (by omega), h247, o246, o195, rfl, rfl⟩ ⟨rfl, rfl, rfl, rfl, rfl, trivial⟩ (fun w m => m.pick [1, 4, 0, 5] 6 rfl rfl)
       ·replace hl197 := if_f hl197 h236
        refine Z13 rfl (congrArg (fun b => !b) (Bool.eq_false_iff.2 h236)) (Z4 (Z2 (Z0 (Z107 (l := (⟨(Vector.replicate 20 0#8), .slice none 0 0, .slice none 0 0⟩ : LogC).C) (cs := (⟨(Vector.replicate 20 0#8), .slice none 0 0, .slice none 0 0⟩ : LogC).C) [] rfl rfl rfl (by kernel_rfl) rfl rfl rfl) rfl (OW.rot3 (Z28 (Z103 rfl rfl rfl (LogC.C_one _ rfl rfl) rfl (LogC.C_length _) (LogC.C_length _)) (Z0 (Z5 rfl) rfl (Z6 (Z1 (CW.ret (Z8 (Z16 (Z8 (Z8 (Z16 (Z8 ?_)))))))))))))))
        have hc := Zi hl197
        subst hc
        try dsimp only at hf
        refine Z8 ?_
        have er0 := Zi hf
        obtain ⟨e0, er1⟩ := Prod.mk.inj er0
        clear er0
        subst e0
        subst er1
        have v249 : View (More w0 Φ (B227 ++ B179)) none ([] : List (Vector (BitVec 8) 32)).length 0 32 [] := View.nil
        have v250 : View (More w0 Φ (B227 ++ B179)) none ([] : List (BitVec 8)).length 0 1 (u8s []) := View.nil
        refine Z104 (rs := [.cell 2 63, .tmp 3]) ([.agg (⟨(Vector.replicate 20 0#8), .slice none 0 0, .slice none 0 0⟩ : LogC).C.toArray, .int .i64 (172 : Int)]) ((B227 ++ B179)) rfl ?_ rfl ?_ ?_ _ (.inl rfl)
        ·exact ⟨⟨_, _, _, _, rfl, Zh, rfl, rfl, (congrArg some (LogC.C_length _).symm), rfl⟩, rfl, trivial⟩
        ·exact ⟨(B227 ++ B179), (⟨(Vector.replicate 20 0#8), .slice none 0 0, .slice none 0 0⟩ : LogC).C, (LogRd.mk v249 (Reps.nil) v250), (by omega), rfl, rfl⟩
        ·exact (fun w m => m.pick [] 4 rfl rfl)
      ·replace hl197 := if_f hl197 h205
       refine Z14 rfl (decide_eq_false h205) (CW.exit (Z9 (Z9 (Z15 ?_))))
       exact QW.join ⟨w183, l184, l191, B179, cs185, ob187, c188, r189, ob192, c193, r194, (Zi hl197).symm, (fun w m => hB180 w (m)), h186, o190, o195, rfl, rfl⟩ ⟨rfl, rfl, rfl, trivial⟩ (fun w m => m.pick [0, 1, 2, 3] 4 rfl rfl)
   ·skip
    refine Z2 (Z0 (Z3 rfl) rfl (Z0 (RV.not rfl) rfl (Z0 (Z3 rfl) rfl ?_)))
    by_cases h251 : x61 = true
    ·replace hq134 := if_t hq134 h251
     refine Z7 (.bool false) (congrArg Value.bool (congrArg (fun b => !b) (h251))) (Z24 rfl (Z0 (Z3 rfl) rfl (Z24 rfl (Z0 (RV.not rfl) rfl (Z0 (Z106 rfl rfl rfl) rfl (Z0 (Z3 rfl) rfl ?_))))))
     by_cases h252 : x91 = true
     ·replace hq134 := if_t hq134 h252
      refine Z7 (.bool false) (congrArg Value.bool (congrArg (fun b => !b) (h252))) (Z24 rfl (Z0 (Z3 rfl) rfl (Z24 rfl (Z0 (RV.not rfl) rfl (Z0 (Z106 rfl rfl rfl) rfl (Z6 ?_))))))
      exact QW.join ⟨(!x123), (Zi hq134).symm, rfl, rfl⟩ ⟨rfl, rfl, rfl, rfl, rfl, rfl, trivial⟩ (fun w m => m.pick [0, 1] 2 rfl rfl)
     ·replace hq134 := if_f hq134 h252
      refine Z7 (.bool true) (congrArg Value.bool (congrArg (fun b => !b) (Bool.eq_false_iff.2 h252))) (Z23 rfl rfl rfl (Z23 rfl rfl rfl (Z0 (Z108 rfl rfl rfl) rfl (Z6 ?_))))
      exact QW.join ⟨true, (Zi hq134).symm, rfl, rfl⟩ ⟨rfl, rfl, rfl, rfl, rfl, rfl, trivial⟩ (fun w m => m.pick [0, 1] 2 rfl rfl)
    ·replace hq134 := if_f hq134 h251
     refine Z7 (.bool true) (congrArg Value.bool (congrArg (fun b => !b) (Bool.eq_false_iff.2 h251))) (Z23 rfl rfl rfl (Z23 rfl rfl rfl (Z0 (Z108 rfl rfl rfl) rfl (Z0 (Z3 rfl) rfl (Z23 rfl rfl rfl (Z23 rfl rfl rfl (Z0 (Z108 rfl rfl rfl) rfl ?_)))))))
     refine Z6 ?_
     exact QW.join ⟨true, (Zi hq134).symm, rfl, rfl⟩ ⟨rfl, rfl, rfl, rfl, rfl, rfl, trivial⟩ (fun w m => m.pick [0, 1] 2 rfl rfl)
 ·skip
  refine Z2 (Z0 (Z3 rfl) rfl (Z0 (RV.not rfl) rfl (Z0 (Z3 rfl) rfl ?_)))
  by_cases h253 : x17 = true
  ·replace hq30 := if_t hq30 h253
   refine Z7 (.bool false) (congrArg Value.bool (congrArg (fun b => !b) (h253))) (Z24 rfl (Z0 (Z3 rfl) rfl (Z24 rfl (Z0 (RV.len rfl rfl) rfl (Z24 rfl (Z0 (RV.neq rfl rfl) rfl (Z7 (.bool (!decide (x16.length = 3))) (congrArg (fun b => Value.bool (!b)) (decide_eq_decide.2 (by omega))) ?_)))))))
   refine Z0 (Z106 rfl rfl rfl) rfl (Z6 ?_)
   exact QW.join ⟨(!decide (x16.length = 3)), (Zi hq30).symm, rfl, rfl⟩ ⟨rfl, rfl, rfl, trivial⟩ (fun w m => m.pick [0] 2 rfl rfl)
  ·replace hq30 := if_f hq30 h253
   refine Z7 (.bool true) (congrArg Value.bool (congrArg (fun b => !b) (Bool.eq_false_iff.2 h253))) (Z23 rfl rfl rfl (Z23 rfl rfl rfl (Z23 rfl rfl rfl (Z0 (Z108 rfl rfl rfl) rfl (Z6 ?_)))))
   exact QW.join ⟨true, (Zi hq30).symm, rfl, rfl⟩ ⟨rfl, rfl, rfl, trivial⟩ (fun w m => m.pick [0] 2 rfl rfl)
theorem waybillref17_fields_does (w0 : World) (Φ : Ctx) (N : List Ent) (hΦ : ∀ w, Mem w0 w N → Φ w) (a0 : Int) (A1_ : Option Addr) (c1_ : Nat) (cs1_ : List Value) (a1 : List (It)) (res0 : Rcpt) (res1 : Nat) (ba0 : -9223372036854775808 ≤ a0 ∧ a0 ≤ 9223372036854775807) (va1 : View Φ A1_ a1.length c1_ 3 cs1_) (ha1 : Reps (ItRd Φ) cs1_ a1) (hf : waybillref17_fields a0 a1 = some (res0, res1)) : DoesG Tryd.prog 74 [.int .i64 a0, .slice A1_ a1.length c1_] w0 [] N (fun v G => ∃ B : List Ent, ∃ cr0 : List Value, (RcptRd (More w0 Φ B) cr0 res0) ∧ (res1 ≤ 9223372036854775807) ∧ v = .tuple #[.agg cr0.toArray, .int .i64 ((res1 : Nat) : Int)] ∧ G = B) := by
 unfold waybillref17_fields at hf
 replace va1 := va1.mono (Ψ := More w0 Φ []) (fun w q => q.1)
 replace ha1 := ha1.mono (ItRd.mono (Ψ := More w0 Φ []) (fun w q => q.1))
 have m1 := va1.mx
 refine DoesG.enter Tryd.func74 rfl Tryd.ntmps74 rfl (M := (([] ++ N))) rfl (Z4 (Z2 (OW.alloc (l := (⟨(0 : Int), false, (Vector.replicate 32 0#8), 0#64, 0#64, (Vector.replicate 256 0#8), .slice none 0 0⟩ : RcptC).C) rfl (by kernel_rfl) rfl (fun b2 => (Z0 (Z5 rfl) rfl (Z6 (Z1 (Z4 (Z2 (Z0 (Z3 rfl) rfl (Z0 (Z3 rfl) rfl ?_)))))))))))
 obtain ⟨x3, hx4, hf⟩ := Z100 hf
 have hl5 := Z111 hx4
 refine Z0 (Z117 (0) rfl rfl rfl rfl rfl (va1.isSome (by decide) hl5) (by omega)) rfl ?_
 obtain ⟨cs6, h7, h8⟩ := ha1.get ItRd.len hx4
 have h18 := h7
 obtain ⟨A9, c10, A12, c13, cs15, e17, v11, v14, h16⟩ := ItRd.opn h7
 subst e17
 have m19 := v11.mx
 have m20 := v14.mx
 refine Z0 (Z124 rfl rfl rfl rfl (fun w m => va1.load (Z105 hΦ 1 m rfl) h8) rfl) rfl ?_
 obtain ⟨⟨x22, x23⟩, hx21, hf⟩ := Z100 hf
 try dsimp only at hf
 refine Z12 Tryd.call100 rfl (waybillref17_first_does w0 (More w0 Φ []) ((some b2, blk (⟨(0 : Int), false, (Vector.replicate 32 0#8), 0#64, 0#64, (Vector.replicate 256 0#8), .slice none 0 0⟩ : RcptC).C 30) :: ([] ++ N)) (fun w m => Z105 hΦ 1 m rfl) a0 [.bool (x3.list), .slice A9 x3.data.length c10, .slice A12 x3.items.length c13] x3 x22 x23 (by omega) h18 hx21) rfl rfl ?_
 rintro _ G26 ⟨hn24, b25, rfl⟩
 refine Z20 (M' := ((some b2, blk (⟨(0 : Int), false, (Vector.replicate 32 0#8), 0#64, 0#64, (Vector.replicate 256 0#8), .slice none 0 0⟩ : RcptC).C 30) :: ([] ++ N))) (fun w m => m.appR) (Z0 (Z3 rfl) rfl (Z0 (Z17 rfl rfl) rfl (Z7 (.agg (⟨x22.kind, (x22.rooted), x22.root, x22.status, x22.used, x22.bloom, .slice none 0 0⟩ : RcptC).C.toArray) (rfl) (Z0 (Z17 rfl rfl) rfl (Z7 (.bool (x23)) (rfl) (OW.alloc (l := (⟨(0 : Int), false, (Vector.replicate 32 0#8), 0#64, 0#64, (Vector.replicate 256 0#8), .slice none 0 0⟩ : RcptC).C) rfl (by kernel_rfl) rfl (fun b28 => (Z28 (Z103 rfl rfl rfl (RcptC.C_one _ rfl) rfl (RcptC.C_length _) (RcptC.C_length _)) ?_))))))))
 refine Z0 (Z5 rfl) rfl (Z6 (Z1 (Z4 (Z4 (Z2 (Z0 (Z3 rfl) rfl (Z0 (RV.not rfl) rfl (Z6 (Z1 ?_)))))))))
 by_cases h29 : x23 = true
 ·replace hf := if_t hf h29
  refine Z14 rfl (congrArg (fun b => !b) (h29)) (CW.skip (Z1 (Z4 (Z2 (Z0 (Z3 rfl) rfl ?_)))))
  obtain ⟨x30, hx31, hf⟩ := Z100 hf
  have hl32 := Z111 hx31
  refine Z0 (Z117 (1) rfl rfl rfl rfl rfl (va1.isSome (by decide) hl32) (by omega)) rfl ?_
  obtain ⟨cs33, h34, h35⟩ := ha1.get ItRd.len hx31
  have h45 := h34
  obtain ⟨A36, c37, A39, c40, cs42, e44, v38, v41, h43⟩ := ItRd.opn h34
  subst e44
  have m46 := v38.mx
  have m47 := v41.mx
  refine Z0 (Z124 rfl rfl rfl rfl (fun w m => va1.load (Z105 hΦ 2 m rfl) h35) rfl) rfl ?_
  obtain ⟨⟨x49, x50⟩, hx48, hf⟩ := Z100 hf
  try dsimp only at hf
  refine Z12 Tryd.call101 rfl (waybillref14_Scalar_does w0 (More w0 Φ []) ((some b28, blk (⟨x22.kind, (x22.rooted), x22.root, x22.status, x22.used, x22.bloom, .slice none 0 0⟩ : RcptC).C 30) :: (some b2, blk (⟨(0 : Int), false, (Vector.replicate 32 0#8), 0#64, 0#64, (Vector.replicate 256 0#8), .slice none 0 0⟩ : RcptC).C 30) :: ([] ++ N)) (fun w m => Z105 hΦ 2 m rfl) [.bool (x30.list), .slice A36 x30.data.length c37, .slice A39 x30.items.length c40] x30 (8 : Int) x49 x50 h45 (by omega) hx48) rfl rfl ?_
  rintro _ G51 rfl
  refine Z20 (M' := ((some b28, blk (⟨x22.kind, (x22.rooted), x22.root, x22.status, x22.used, x22.bloom, .slice none 0 0⟩ : RcptC).C 30) :: (some b2, blk (⟨(0 : Int), false, (Vector.replicate 32 0#8), 0#64, 0#64, (Vector.replicate 256 0#8), .slice none 0 0⟩ : RcptC).C 30) :: ([] ++ N))) (fun w m => m.appR) (Z0 (Z3 rfl) rfl (Z0 (Z17 rfl rfl) rfl (Z7 (.agg (u64s x49.toList).toArray) (rfl) (Z0 (Z17 rfl rfl) rfl (Z7 (.bool (x50)) (rfl) (OW.alloc (l := (u64s (Vector.replicate 4 0#64).toList)) rfl (by rw [Vector.toList_replicate, ← Z116]; rfl) rfl (fun b53 => (Z28 (Z103 rfl rfl rfl (Z118 _) rfl ((Z101 _).trans Zv) ((Z101 _).trans Zv)) ?_))))))))
  refine Z0 (Z5 rfl) rfl (Z6 (Z1 (Z4 (Z2 (Z0 (Z3 rfl) rfl ?_)))))
  obtain ⟨x54, hx55, hf⟩ := Z100 hf
  have hl56 := Z111 hx55
  refine Z0 (Z117 (2) rfl rfl rfl rfl rfl (va1.isSome (by decide) hl56) (by omega)) rfl ?_
  obtain ⟨cs57, h58, h59⟩ := ha1.get ItRd.len hx55
  have h69 := h58
  obtain ⟨A60, c61, A63, c64, cs66, e68, v62, v65, h67⟩ := ItRd.opn h58
  subst e68
  have m70 := v62.mx
  have m71 := v65.mx
  refine Z0 (Z124 rfl rfl rfl rfl (fun w m => va1.load (Z105 hΦ 3 m rfl) h59) rfl) rfl ?_
  obtain ⟨⟨x73, x74⟩, hx72, hf⟩ := Z100 hf
  try dsimp only at hf
  refine Z12 Tryd.call102 rfl (Z147 w0 (More w0 Φ []) ((some b53, blk (u64s x49.toList) 128) :: (some b28, blk (⟨x22.kind, (x22.rooted), x22.root, x22.status, x22.used, x22.bloom, .slice none 0 0⟩ : RcptC).C 30) :: (some b2, blk (⟨(0 : Int), false, (Vector.replicate 32 0#8), 0#64, 0#64, (Vector.replicate 256 0#8), .slice none 0 0⟩ : RcptC).C 30) :: ([] ++ N)) (fun w m => Z105 hΦ 3 m rfl) [.bool (x54.list), .slice A60 x54.data.length c61, .slice A63 x54.items.length c64] x54 (256 : Int) x73 x74 h69 (by omega) hx72) rfl rfl ?_
  rintro L79 M80 ⟨B75, A76, c77, v78, e81, e82⟩
  rw [e81, e82]
  clear e81 e82 L79 M80
  refine Z20 (M' := ((some b53, blk (u64s x49.toList) 128) :: (some b28, blk (⟨x22.kind, (x22.rooted), x22.root, x22.status, x22.used, x22.bloom, .slice none 0 0⟩ : RcptC).C 30) :: (some b2, blk (⟨(0 : Int), false, (Vector.replicate 32 0#8), 0#64, 0#64, (Vector.replicate 256 0#8), .slice none 0 0⟩ : RcptC).C 30) :: ((B75 ++ []) ++ N))) (fun w m => by have h := Z113 (A := B75) m 0 3 rfl rfl; exact h) ?_
  have gq1 : ∀ w, More w0 Φ (B75 ++ []) w → More w0 Φ [] w := fun w q => More.mono (fun w m => (m).appR) q
  replace va1 := va1.mono gq1
  replace ha1 := ha1.mono (ItRd.mono gq1)
  replace h18 := ItRd.mono gq1 _ _ h18
  replace v11 := v11.mono gq1
  replace v14 := v14.mono gq1
  replace h16 := h16.mono (ItRd.mono gq1)
  replace h45 := ItRd.mono gq1 _ _ h45
  replace v38 := v38.mono gq1
  replace v41 := v41.mono gq1
  replace h43 := h43.mono (ItRd.mono gq1)
  replace h69 := ItRd.mono gq1 _ _ h69
  replace v62 := v62.mono gq1
  replace v65 := v65.mono gq1
  replace h67 := h67.mono (ItRd.mono gq1)
  replace v78 := v78.mono (Ψ := (More w0 Φ (B75 ++ []))) (fun w q => Z128 q)
  have m83 := v78.mx
  refine Z0 (Z3 rfl) rfl (Z0 (Z17 rfl rfl) rfl (Z7 (.slice A76 x73.length c77) (rfl) (Z0 (Z17 rfl rfl) rfl (Z7 (.bool (x74)) (rfl) (Z0 (Z5 rfl) rfl (Z0 (Z5 rfl) rfl (Z6 (Z1 (Z4 (Z2 ?_))))))))))
  refine Z0 (Z3 rfl) rfl ?_
  obtain ⟨x84, hx85, hf⟩ := Z100 hf
  have hl86 := Z111 hx85
  refine Z0 (Z117 (3) rfl rfl rfl rfl rfl (va1.isSome (by decide) hl86) (by omega)) rfl ?_
  obtain ⟨cs87, h88, h89⟩ := ha1.get ItRd.len hx85
  have h99 := h88
  obtain ⟨A90, c91, A93, c94, cs96, e98, v92, v95, h97⟩ := ItRd.opn h88
  subst e98
  have m100 := v92.mx
  have m101 := v95.mx
  refine Z0 (Z124 rfl rfl rfl rfl (fun w m => va1.load (Z105 hΦ 3 m rfl) h89) rfl) rfl ?_
  obtain ⟨⟨x103, x104⟩, hx102, hf⟩ := Z100 hf
  try dsimp only at hf
  refine Z12 Tryd.call73 rfl (Z141 w0 (More w0 Φ (B75 ++ [])) ((some b53, blk (u64s x49.toList) 128) :: (some b28, blk (⟨x22.kind, (x22.rooted), x22.root, x22.status, x22.used, x22.bloom, .slice none 0 0⟩ : RcptC).C 30) :: (some b2, blk (⟨(0 : Int), false, (Vector.replicate 32 0#8), 0#64, 0#64, (Vector.replicate 256 0#8), .slice none 0 0⟩ : RcptC).C 30) :: ((B75 ++ []) ++ N)) (fun w m => Z105 hΦ 3 m rfl) [.bool (x84.list), .slice A90 x84.data.length c91, .slice A93 x84.items.length c94] x84 x103 x104 h99 hx102) rfl rfl ?_
  rintro L111 M112 ⟨B105, cs106, A108, c109, h107, v110, e113, e114⟩
  rw [e113, e114]
  clear e113 e114 L111 M112
  refine Z20 (M' := ((some b53, blk (u64s x49.toList) 128) :: (some b28, blk (⟨x22.kind, (x22.rooted), x22.root, x22.status, x22.used, x22.bloom, .slice none 0 0⟩ : RcptC).C 30) :: (some b2, blk (⟨(0 : Int), false, (Vector.replicate 32 0#8), 0#64, 0#64, (Vector.replicate 256 0#8), .slice none 0 0⟩ : RcptC).C 30) :: ((B105 ++ (B75 ++ [])) ++ N))) (fun w m => by have h := Z113 (A := B105) m 0 3 rfl rfl; exact h) ?_
  have gq2 : ∀ w, More w0 Φ (B105 ++ (B75 ++ [])) w → More w0 Φ (B75 ++ []) w := fun w q => More.mono (fun w m => (m).appR) q
  replace va1 := va1.mono gq2
  replace ha1 := ha1.mono (ItRd.mono gq2)
  replace h18 := ItRd.mono gq2 _ _ h18
  replace v11 := v11.mono gq2
  replace v14 := v14.mono gq2
  replace h16 := h16.mono (ItRd.mono gq2)
  replace h45 := ItRd.mono gq2 _ _ h45
  replace v38 := v38.mono gq2
  replace v41 := v41.mono gq2
  replace h43 := h43.mono (ItRd.mono gq2)
  replace h69 := ItRd.mono gq2 _ _ h69
  replace v62 := v62.mono gq2
  replace v65 := v65.mono gq2
  replace h67 := h67.mono (ItRd.mono gq2)
  replace v78 := v78.mono gq2
  replace h99 := ItRd.mono gq2 _ _ h99
  replace v92 := v92.mono gq2
  replace v95 := v95.mono gq2
  replace h97 := h97.mono (ItRd.mono gq2)
  replace v110 := v110.mono (Ψ := (More w0 Φ (B105 ++ (B75 ++ [])))) (fun w q => Z128 q)
  replace h107 := h107.mono (ItRd.mono (Ψ := (More w0 Φ (B105 ++ (B75 ++ [])))) (fun w q => Z128 q))
  have m115 := v110.mx
  refine Z0 (Z3 rfl) rfl (Z0 (Z17 rfl rfl) rfl (Z7 (.slice A108 x103.length c109) (rfl) (Z0 (Z17 rfl rfl) rfl (Z7 (.bool (x104)) (rfl) (Z0 (Z5 rfl) rfl (Z0 (Z5 rfl) rfl (Z6 (Z1 (Z4 (Z4 ?_))))))))))
  obtain ⟨q116, hq117, hf⟩ := Z100 hf
  refine Z115 (fun L' M' => ∃ p118 : Bool, q116 = p118 ∧ L' = [(4, ptr (some b2) 0), (6, ptr (some b28) 0), (8, ptr (some b53) 0), (10, .slice A76 x73.length c77), (12, .slice A108 x103.length c109), (58, .bool (p118))] ∧ M' = ((some b53, blk (u64s x49.toList) 128) :: (some b28, blk (⟨x22.kind, (x22.rooted), x22.root, x22.status, x22.used, x22.bloom, .slice none 0 0⟩ : RcptC).C 30) :: (some b2, blk (⟨(0 : Int), false, (Vector.replicate 32 0#8), 0#64, 0#64, (Vector.replicate 256 0#8), .slice none 0 0⟩ : RcptC).C 30) :: ((B105 ++ (B75 ++ [])) ++ N))) ?_ ?_
  ·rintro L120 M121 ⟨p118, e119, e122, e123⟩
   rw [e122, e123]
   clear e122 e123 L120 M121
   clear hq117
   rw [e119] at hf
   clear e119
   try dsimp only at hf
   refine Z1 ?_
   by_cases h124 : p118 = true
   ·replace hf := if_t hf h124
    refine Z13 rfl (h124) (Z4 (Z2 (Z0 (Z22 rfl (List.Mem.tail _ Zh) rfl rfl rfl rfl (RcptC.C_length _)) rfl (OW.rot2 (Z28 (Z103 rfl rfl rfl (RcptC.C_one _ rfl) rfl (RcptC.C_length _) (RcptC.C_length _)) (Z0 (Z5 rfl) rfl (Z6 (Z1 (CW.ret (Z8 ?_))))))))))
    have er0 := Zi hf
    obtain ⟨e0, er1⟩ := Prod.mk.inj er0
    clear er0
    subst e0
    subst er1
    have v125 : View (More w0 Φ (B105 ++ (B75 ++ []))) none ([] : List (Log)).length 0 22 [] := View.nil
    have h126 : RcptRd (More w0 Φ (B105 ++ (B75 ++ []))) (⟨x22.kind, (x22.rooted), x22.root, x22.status, x22.used, x22.bloom, .slice none 0 0⟩ : RcptC).C (Rcpt.mk x22.kind (x22.rooted) x22.root x22.status x22.used x22.bloom ([] : List (Log))) := by refine RcptRd.mk ?_ v125 (Reps.nil) <;> (first | omega | (dsimp only; omega)| (simp; done) | (show 0 ≤ 9223372036854775807; omega))
    refine Z104 (rs := [.cell 4 30, .tmp 5]) ([.agg (⟨x22.kind, (x22.rooted), x22.root, x22.status, x22.used, x22.bloom, .slice none 0 0⟩ : RcptC).C.toArray, .int .i64 (172 : Int)]) ((B105 ++ (B75 ++ []))) rfl ?_ rfl ?_ ?_ _ (.inl rfl)
    ·exact ⟨⟨_, _, _, _, rfl, Zh, rfl, rfl, (congrArg some (RcptC.C_length _).symm), rfl⟩, rfl, trivial⟩
    ·exact ⟨(B105 ++ (B75 ++ [])), (⟨x22.kind, (x22.rooted), x22.root, x22.status, x22.used, x22.bloom, .slice none 0 0⟩ : RcptC).C, h126, (by omega), rfl, rfl⟩
    ·exact (fun w m => m.pick [] 3 rfl rfl)
   ·replace hf := if_f hf h124
    refine Z14 rfl (Bool.eq_false_iff.2 h124) (CW.skip (Z1 (Z4 (Z2 (Z0 (Z109 (0) rfl rfl rfl rfl rfl (by omega)) rfl (Z0 (Z29 rfl Zh rfl rfl rfl (u64s_at (vat' (by decide)))) rfl (Z0 (Z30 rfl rfl rfl rfl) rfl (Z7 (ptr (some b28) 35) rfl (OW.rot1 (Z28 (SV.store rfl rfl rfl rfl rfl (by rw [RcptC.C_length]; omega)) ?_))))))))))
    refine OW.cells (⟨x22.kind, (x22.rooted), x22.root, x22.status, x49[0], x22.bloom, .slice none 0 0⟩ : RcptC).C (RcptC.C_used_set _ (x49[0])) (Z6 (Z1 (Z4 (Z2 (Z0 (Z30 rfl rfl rfl rfl) rfl (Z7 (ptr (some b28) 36) rfl (Z0 (RV.arr_all rfl rfl rfl) rfl (Z7 (sl (some b28) (36 + 0) (256 - 0) (256 - 0)) (rfl) (Z0 (Z3 rfl) rfl (OW.copy (ob := some b28) (off := 36 + 0) rfl rfl rfl rfl (fun h => nomatch h) (by rw [RcptC.C_length]; omega) (fun w m => v78.rd w (Z105 hΦ 3 m rfl)) (Z102 _) (Z129 _) (v78.zero (by decide)) rfl ?_))))))))))
    refine OW.cells (⟨x22.kind, (x22.rooted), x22.root, x22.status, x49[0], (cpV x22.bloom 0 (x73.take (min x73.length (256 - 0)))), .slice none 0 0⟩ : RcptC).C (by rw [u8s_take]; exact RcptC.C_bloom_cpy _ (by rw [List.length_take]; omega)) ?_
    refine Z6 (Z1 (Z4 (Z4 (Z2 (Z0 (Z5 rfl) rfl (Z6 (Z1 ?_)))))))
    obtain ⟨q127, hq128, hf⟩ := Z100 hf
    refine Z115 (fun L' M' => ∃ z131 : Int, ∃ p133 : Bool, ∃ w134 : Vector (BitVec 8) 32, ∃ w135 : BitVec 64, ∃ w136 : BitVec 64, ∃ w137 : Vector (BitVec 8) 256, ∃ l138 : List (Log), ∃ B129 : List Ent, ∃ cs139 : List Value, ∃ ob141 : Option Nat, ∃ c142 : Nat, ∃ r143 : List Value, q127 = Lp.go (z131, p133, w134, w135, w136, w137, l138) ∧ (∀ w, Mem w0 w B129 → Mem w0 w (B105 ++ (B75 ++ []))) ∧ (-9223372036854775808 ≤ z131 ∧ z131 ≤ 9223372036854775807) ∧ (Reps (LogRd (More w0 Φ B129)) cs139 l138) ∧ (OwnS ob141 l138.length c142 22 cs139 r143) ∧ L' = [(4, ptr (some b2) 0), (6, ptr (some b28) 0)] ∧ M' = ((ob141, blk (cs139 ++ r143) 63) :: (some b28, blk (⟨z131, (p133), w134, w135, w136, w137, sl ob141 0 l138.length c142⟩ : RcptC).C 30) :: (some b2, blk (⟨(0 : Int), false, (Vector.replicate 32 0#8), 0#64, 0#64, (Vector.replicate 256 0#8), .slice none 0 0⟩ : RcptC).C 30) :: (B129 ++ N))) ?_ ?_
    ·rintro L146 M147 ⟨z131, p133, w134, w135, w136, w137, l138, B129, cs139, ob141, c142, r143, e145, hB130, b132, h140, o144, e148, e149⟩
     rw [e148, e149]
     clear e148 e149 L146 M147
     clear hq128
     rw [e145] at hf
     clear e145
     try dsimp only at hf
     have m150 := o144.mx
     refine Z1 (Z4 (Z2 (Z0 (Z22 rfl (List.Mem.tail _ Zh) rfl rfl rfl rfl (RcptC.C_length _)) rfl (OW.rot2 (Z28 (Z103 rfl rfl rfl (RcptC.C_one _ rfl) rfl (RcptC.C_length _) (RcptC.C_length _)) (Z0 (Z5 rfl) rfl (Z6 (Z1 (CW.ret (QW.mem (M' := (some b2, blk (⟨z131, (p133), w134, w135, w136, w137, sl ob141 0 l138.length c142⟩ : RcptC).C 30) :: (some b28, blk (⟨z131, (p133), w134, w135, w136, w137, sl ob141 0 l138.length c142⟩ : RcptC).C 30) :: (((ob141, blk (cs139 ++ r143) 63) :: B129) ++ N)) (fun w m => m.pick [0, 2, 1] 3 rfl rfl) ?_))))))))))
     have gq5 : ∀ w, More w0 Φ ((ob141, blk (cs139 ++ r143) 63) :: B129) w → More w0 Φ B129 w := fun w q => More.mono (fun w m => (m).tail) q
     replace h140 := h140.mono (LogRd.mono gq5)
     have v151 : View (More w0 Φ ((ob141, blk (cs139 ++ r143) 63) :: B129)) ((ob141).map fun k => ⟨k, 0, none⟩) l138.length c142 22 cs139 := o144.view (by decide) (fun w q => q.2.sublist (List.singleton_sublist.2 (List.mem_cons_self ..)))
     have er0 := Zi hf
     obtain ⟨e0, er1⟩ := Prod.mk.inj er0
     clear er0
     subst e0
     subst er1
     have h152 : RcptRd (More w0 Φ ((ob141, blk (cs139 ++ r143) 63) :: B129)) (⟨z131, (p133), w134, w135, w136, w137, .slice ((ob141).map fun k => ⟨k, 0, none⟩) l138.length c142⟩ : RcptC).C (Rcpt.mk z131 (p133) w134 w135 w136 w137 l138) := by refine RcptRd.mk ?_ v151 h140 <;> (first | omega | (dsimp only; omega)| (simp; done) | (show 0 ≤ 9223372036854775807; omega))
     refine Z104 (rs := [.cell 4 30, .tmp 5]) ([.agg (⟨z131, (p133), w134, w135, w136, w137, .slice ((ob141).map fun k => ⟨k, 0, none⟩) l138.length c142⟩ : RcptC).C.toArray, .int .i64 (0 : Int)]) (((ob141, blk (cs139 ++ r143) 63) :: B129)) rfl ?_ rfl ?_ ?_ _ (.inl rfl)
     ·exact ⟨⟨_, _, _, _, rfl, Zh, rfl, rfl, (congrArg some (RcptC.C_length _).symm), rfl⟩, rfl, trivial⟩
     ·exact ⟨((ob141, blk (cs139 ++ r143) 63) :: B129), (⟨z131, (p133), w134, w135, w136, w137, .slice ((ob141).map fun k => ⟨k, 0, none⟩) l138.length c142⟩ : RcptC).C, h152, (by omega), rfl, rfl⟩
     ·exact (fun w m => m.pick [] 2 rfl rfl)
    ·skip
     refine CW.block (CW.mem (M' := ((none, blk ([] ++ []) 63) :: (some b28, blk (⟨x22.kind, (x22.rooted), x22.root, x22.status, x49[0], (cpV x22.bloom 0 (x73.take (min x73.length (256 - 0)))), .slice none 0 0⟩ : RcptC).C 30) :: (some b53, blk (u64s x49.toList) 128) :: (some b2, blk (⟨(0 : Int), false, (Vector.replicate 32 0#8), 0#64, 0#64, (Vector.replicate 256 0#8), .slice none 0 0⟩ : RcptC).C 30) :: ((B105 ++ (B75 ++ [])) ++ N))) (fun w m => m.nil_ent _) (Z121 (fun k L' M' => ∃ n155 : Nat, ∃ z157 : Int, ∃ p159 : Bool, ∃ w160 : Vector (BitVec 8) 32, ∃ w161 : BitVec 64, ∃ w162 : BitVec 64, ∃ w163 : Vector (BitVec 8) 256, ∃ l164 : List (Log), ∃ B153 : List Ent, ∃ cs165 : List Value, ∃ ob167 : Option Nat, ∃ c168 : Nat, ∃ r169 : List Value, (waybillref17_fields.l1 x103 k n155 z157 p159 w160 w161 w162 w163 l164) = some q127 ∧ (∀ w, Mem w0 w B153 → Mem w0 w (B105 ++ (B75 ++ []))) ∧ (n155 ≤ 9223372036854775807) ∧ (-9223372036854775808 ≤ z157 ∧ z157 ≤ 9223372036854775807) ∧ (Reps (LogRd (More w0 Φ B153)) cs165 l164) ∧ (OwnS ob167 l164.length c168 22 cs165 r169) ∧ L' = [(4, ptr (some b2) 0), (6, ptr (some b28) 0), (12, .slice A108 x103.length c109), (14, .int .i64 ((n155 : Nat) : Int))] ∧ M' = ((ob167, blk (cs165 ++ r169) 63) :: (some b28, blk (⟨z157, (p159), w160, w161, w162, w163, sl ob167 0 l164.length c168⟩ : RcptC).C 30) :: (some b2, blk (⟨(0 : Int), false, (Vector.replicate 32 0#8), 0#64, 0#64, (Vector.replicate 256 0#8), .slice none 0 0⟩ : RcptC).C 30) :: (B153 ++ N))) (k0 := (x103.length - 0 + 2)) ⟨0, x22.kind, (x22.rooted), x22.root, x22.status, x49[0], (cpV x22.bloom 0 (x73.take (min x73.length (256 - 0)))), ([] : List (Log)), (B105 ++ (B75 ++ [])), [], none, 0, [], hq128, (fun w m => m), (by omega), (by omega), Reps.nil, OwnS.nil, rfl, rfl⟩ ⟨rfl, rfl, rfl, rfl, trivial⟩ (fun w m => m.pick [0, 1, 3] 4 rfl rfl) ?_))
     clear hq128
     rintro k171 L174 M175 ⟨n155, z157, p159, w160, w161, w162, w163, l164, B153, cs165, ob167, c168, r169, hl172, hB154, b156, b158, h166, o170, e176, e177⟩
     rw [e176, e177]
     clear e176 e177 L174 M175
     rcases k171 with _ | k171
     ·rw [waybillref17_fields.l1] at hl172; cases hl172
     rw [waybillref17_fields.l1] at hl172
     have gq6 : ∀ w, More w0 Φ B153 w → More w0 Φ (B105 ++ (B75 ++ [])) w := fun w q => More.mono (fun w m => hB154 w (m)) q
     replace v110 := v110.mono gq6
     replace h107 := h107.mono (ItRd.mono gq6)
     have m178 := o170.mx
     refine Z4 (Z4 (Z2 (Z0 (Z3 rfl) rfl (Z0 (Z3 rfl) rfl (Z0 (RV.len rfl rfl) rfl (Z0 (RV.lss rfl rfl) rfl (Z7 (.bool (decide (n155 < x103.length))) (congrArg Value.bool (decide_eq_decide.2 (by omega))) (Z6 (Z1 ?_)))))))))
     by_cases h179 : n155 < x103.length
     ·replace hl172 := if_t hl172 h179
      refine Z13 rfl (decide_eq_true h179) (CW.skip (Z1 (Z4 (CW.block (Z4 (Z2 (Z0 (Z3 rfl) rfl (Z0 (Z3 rfl) rfl ?_))))))))
      obtain ⟨x180, hx181, hl172⟩ := Z100 hl172
      have hl182 := Z111 hx181
      refine Z0 (Z117 (n155) rfl rfl rfl rfl rfl (v110.isSome (by decide) hl182) (by omega)) rfl ?_
      obtain ⟨cs183, h184, h185⟩ := h107.get ItRd.len hx181
      have h195 := h184
      obtain ⟨A186, c187, A189, c190, cs192, e194, v188, v191, h193⟩ := ItRd.opn h184
      subst e194
      have m196 := v188.mx
      have m197 := v191.mx
      refine Z0 (Z124 rfl rfl rfl rfl (fun w m => v110.load (Z105 hΦ 3 m rfl) h185) rfl) rfl ?_
      obtain ⟨⟨x199, x200⟩, hx198, hl172⟩ := Z100 hl172
      try dsimp only at hl172
      refine Z12 Tryd.call103 rfl (waybillref17_ParseLog_does w0 (More w0 Φ B153) ((ob167, blk (cs165 ++ r169) 63) :: (some b28, blk (⟨z157, (p159), w160, w161, w162, w163, sl ob167 0 l164.length c168⟩ : RcptC).C 30) :: (some b2, blk (⟨(0 : Int), false, (Vector.replicate 32 0#8), 0#64, 0#64, (Vector.replicate 256 0#8), .slice none 0 0⟩ : RcptC).C 30) :: (B153 ++ N)) (fun w m => Z105 hΦ 3 m rfl) [.bool (x180.list), .slice A186 x180.data.length c187, .slice A189 x180.items.length c190] x180 x199 x200 h195 hx198) rfl rfl ?_
      rintro L205 M206 ⟨B201, cs202, h203, b204, e207, e208⟩
      rw [e207, e208]
      clear e207 e208 L205 M206
      refine Z20 (M' := ((ob167, blk (cs165 ++ r169) 63) :: (some b28, blk (⟨z157, (p159), w160, w161, w162, w163, sl ob167 0 l164.length c168⟩ : RcptC).C 30) :: (some b2, blk (⟨(0 : Int), false, (Vector.replicate 32 0#8), 0#64, 0#64, (Vector.replicate 256 0#8), .slice none 0 0⟩ : RcptC).C 30) :: ((B201 ++ B153) ++ N))) (fun w m => by have h := Z113 (A := B201) m 0 3 rfl rfl; exact h) ?_
      have gq7 : ∀ w, More w0 Φ (B201 ++ B153) w → More w0 Φ B153 w := fun w q => More.mono (fun w m => (m).appR) q
      replace v110 := v110.mono gq7
      replace h107 := h107.mono (ItRd.mono gq7)
      replace h195 := ItRd.mono gq7 _ _ h195
      replace v188 := v188.mono gq7
      replace v191 := v191.mono gq7
      replace h193 := h193.mono (ItRd.mono gq7)
      replace h166 := h166.mono (LogRd.mono gq7)
      replace h203 := LogRd.mono (Ψ := (More w0 Φ (B201 ++ B153))) (fun w q => Z128 q) _ _ h203
      have h218 := h203
      obtain ⟨A209, c210, cs212, A214, c215, e217, v211, h213, v216⟩ := LogRd.opn h203
      subst e217
      have m219 := v211.mx
      have m220 := v216.mx
      have m221 := v211.mx
      have m222 := v216.mx
      refine Z0 (Z3 rfl) rfl (Z0 (Z17 rfl rfl) rfl (Z7 (.agg (⟨x199.address, .slice A209 x199.topics.length c210, .slice A214 x199.data.length c215⟩ : LogC).C.toArray) (rfl) (Z0 (Z17 rfl rfl) rfl (Z7 (.int .i64 ((x200 : Nat) : Int)) (rfl) (OW.alloc (l := (⟨(Vector.replicate 20 0#8), .slice none 0 0, .slice none 0 0⟩ : LogC).C) rfl (by kernel_rfl) rfl (fun b223 => (Z28 (Z103 rfl rfl rfl (LogC.C_one _ rfl rfl) rfl (LogC.C_length _) (LogC.C_length _)) (Z0 (Z5 rfl) rfl ?_))))))))
      refine Z6 (Z1 (Z4 (Z4 (Z2 (Z0 (Z3 rfl) rfl (Z0 (RV.neq rfl rfl) rfl (Z7 (.bool (!decide (x200 = 0))) (congrArg (fun b => Value.bool (!b)) (decide_eq_decide.2 (by omega))) (Z6 (Z1 ?_)))))))))
      by_cases h224 : x200 = 0
      ·replace hl172 := if_t hl172 h224
       refine Z14 rfl (congrArg (fun b => !b) (decide_eq_true h224)) (CW.skip (Z1 (Z2 (Z0 (Z30 rfl rfl rfl rfl) rfl (Z7 (ptr (some b28) 292) rfl (Z0 (Z29 rfl (List.Mem.tail _ (List.Mem.tail _ Zh)) rfl rfl rfl (Z151 (⟨z157, (p159), w160, w161, w162, w163, sl ob167 0 l164.length c168⟩ : RcptC))) rfl (Z0 (Z22 rfl Zh rfl rfl rfl rfl (LogC.C_length _)) rfl ?_)))))))
       refine OW.ofN (NV.bsA rfl rfl (by intro x hx; simp at hx; subst hx; exact (LogC.C_length _)) rfl rfl rfl (by decide) (by decide) rfl) rfl (fun b225 => ?_)
       have h228 : Reps (LogRd (More w0 Φ (B201 ++ B153))) (((⟨x199.address, .slice A209 x199.topics.length c210, .slice A214 x199.data.length c215⟩ : LogC).C : List Value)) [x199] := Reps.one h218
       refine Z20 (M' := (((some b225), blk ((((⟨x199.address, .slice A209 x199.topics.length c210, .slice A214 x199.data.length c215⟩ : LogC).C : List Value)) ++ []) 63) :: (some b223, blk (⟨x199.address, .slice A209 x199.topics.length c210, .slice A214 x199.data.length c215⟩ : LogC).C 63) :: (ob167, blk (cs165 ++ r169) 63) :: (some b28, blk (⟨z157, (p159), w160, w161, w162, w163, sl ob167 0 l164.length c168⟩ : RcptC).C 30) :: (some b2, blk (⟨(0 : Int), false, (Vector.replicate 32 0#8), 0#64, 0#64, (Vector.replicate 256 0#8), .slice none 0 0⟩ : RcptC).C 30) :: ((B201 ++ B153) ++ N))) (fun w m => m) ?_
       have o226 : OwnS (some b225) ([x199] : List (Log)).length 1 22 (((⟨x199.address, .slice A209 x199.topics.length c210, .slice A214 x199.data.length c215⟩ : LogC).C : List Value)) [] := ⟨by simp [LogC.C_length], by simp [LogC.C_length], (fun h => nomatch h), by simp⟩
       have mx_o226 := o226.mx
       refine Z7 (sl (some b225) 0 ([x199] : List (Log)).length 1) (rfl) (OW.rot2 ?_)
       obtain ⟨g229, hl172⟩ := Z112 hl172
       have h234 := h166.app h228
       refine OW.appendOwn (s := 22) rfl rfl rfl rfl rfl rfl o170 (fun w m => m.rd0 (List.Mem.tail _ Zh) (fun e => o226.nilc (by decide) e)) o226.n (h228.cell1 LogRd.one) (o226.zeroO (by decide)) (by decide) (by decide) (by first | omega | (simp only [i63, List.length_nil]; omega)) rfl rfl ((l164 ++ ([x199] : List (Log))).length) (cs165 ++ (((⟨x199.address, .slice A209 x199.topics.length c210, .slice A214 x199.data.length c215⟩ : LogC).C : List Value))) (List.length_append ..).symm rfl (fun ob230 r231 c232 o233 => ?_)
       have m235 := o233.mx
       refine Z0 (Z30 rfl rfl rfl rfl) rfl (Z7 (ptr (some b28) 292) rfl (OW.rot3 (Z28 (SV.store rfl rfl rfl rfl rfl (by rw [RcptC.C_length]; omega)) (OW.cells (⟨z157, (p159), w160, w161, w162, w163, sl ob230 0 (l164 ++ ([x199] : List (Log))).length c232⟩ : RcptC).C (RcptC.C_logs_set _ (sl ob230 0 (l164 ++ ([x199] : List (Log))).length c232)) (Z6 (Z27 (Z1 (Z2 (Z0 (Z3 rfl) rfl (Z0 (RV.add rfl rfl (by omega)) rfl ?_))))))))))
       refine Z7 (.int .i64 (((n155 + 1) : Nat) : Int)) (by first | rfl | (congr 1) | (congr 1; omega)) (Z0 (Z5 rfl) rfl (Z6 ?_))
       exact Z114 (k' := k171) (Nat.lt_succ_self _) ⟨(n155 + 1), z157, (p159), w160, w161, w162, w163, (l164 ++ ([x199] : List (Log))), (B201 ++ B153), (cs165 ++ (((⟨x199.address, .slice A209 x199.topics.length c210, .slice A214 x199.data.length c215⟩ : LogC).C : List Value))), ob230, c232, r231, hl172, (fun w m => hB154 w ((m).appR)), (by omega), (by omega), h234, o233, rfl, rfl⟩ ⟨rfl, rfl, rfl, rfl, trivial⟩ (fun w m => m.pick [1, 0, 4] 5 rfl rfl)
      ·replace hl172 := if_f hl172 h224
       refine Z13 rfl (congrArg (fun b => !b) (decide_eq_false h224)) (Z4 (Z2 (Z0 (Z22 rfl (List.Mem.tail _ (List.Mem.tail _ Zh)) rfl rfl rfl rfl (RcptC.C_length _)) rfl (Z0 (Z3 rfl) rfl (OW.rot3 (Z28 (Z103 rfl rfl rfl (RcptC.C_one _ rfl) rfl (RcptC.C_length _) (RcptC.C_length _)) (Z0 (Z5 rfl) rfl (Z6 (Z1 (CW.ret (Z8 (Z16 (Z8 (Z8 (Z16 (Z8 ?_))))))))))))))))
       have hc := Zi hl172
       subst hc
       try dsimp only at hf
       refine Z8 (QW.mem (M' := (some b2, blk (⟨z157, (p159), w160, w161, w162, w163, sl ob167 0 l164.length c168⟩ : RcptC).C 30) :: (some b223, blk (⟨x199.address, .slice A209 x199.topics.length c210, .slice A214 x199.data.length c215⟩ : LogC).C 63) :: (some b28, blk (⟨z157, (p159), w160, w161, w162, w163, sl ob167 0 l164.length c168⟩ : RcptC).C 30) :: (((ob167, blk (cs165 ++ r169) 63) :: (B201 ++ B153)) ++ N)) (fun w m => m.pick [0, 1, 3, 2] 4 rfl rfl) ?_)
       have gq8 : ∀ w, More w0 Φ ((ob167, blk (cs165 ++ r169) 63) :: (B201 ++ B153)) w → More w0 Φ (B201 ++ B153) w := fun w q => More.mono (fun w m => (m).tail) q
       replace v110 := v110.mono gq8
       replace h107 := h107.mono (ItRd.mono gq8)
       replace h195 := ItRd.mono gq8 _ _ h195
       replace v188 := v188.mono gq8
       replace v191 := v191.mono gq8
       replace h193 := h193.mono (ItRd.mono gq8)
       replace h218 := LogRd.mono gq8 _ _ h218
       replace v211 := v211.mono gq8
       replace h213 := h213.mono (Ar8Rd.mono gq8)
       replace v216 := v216.mono gq8
       replace h166 := h166.mono (LogRd.mono gq8)
       have v236 : View (More w0 Φ ((ob167, blk (cs165 ++ r169) 63) :: (B201 ++ B153))) ((ob167).map fun k => ⟨k, 0, none⟩) l164.length c168 22 cs165 := o170.view (by decide) (fun w q => q.2.sublist (List.singleton_sublist.2 (List.mem_cons_self ..)))
       have er0 := Zi hf
       obtain ⟨e0, er1⟩ := Prod.mk.inj er0
       clear er0
       subst e0
       subst er1
       have h237 : RcptRd (More w0 Φ ((ob167, blk (cs165 ++ r169) 63) :: (B201 ++ B153))) (⟨z157, (p159), w160, w161, w162, w163, .slice ((ob167).map fun k => ⟨k, 0, none⟩) l164.length c168⟩ : RcptC).C (Rcpt.mk z157 (p159) w160 w161 w162 w163 l164) := by refine RcptRd.mk ?_ v236 h166 <;> (first | omega | (dsimp only; omega)| (simp; done) | (show 0 ≤ 9223372036854775807; omega))
       refine Z104 (rs := [.cell 4 30, .tmp 5]) ([.agg (⟨z157, (p159), w160, w161, w162, w163, .slice ((ob167).map fun k => ⟨k, 0, none⟩) l164.length c168⟩ : RcptC).C.toArray, .int .i64 ((x200 : Nat) : Int)]) (((ob167, blk (cs165 ++ r169) 63) :: (B201 ++ B153))) rfl ?_ rfl ?_ ?_ _ (.inl rfl)
       ·exact ⟨⟨_, _, _, _, rfl, Zh, rfl, rfl, (congrArg some (RcptC.C_length _).symm), rfl⟩, rfl, trivial⟩
       ·exact ⟨((ob167, blk (cs165 ++ r169) 63) :: (B201 ++ B153)), (⟨z157, (p159), w160, w161, w162, w163, .slice ((ob167).map fun k => ⟨k, 0, none⟩) l164.length c168⟩ : RcptC).C, h237, (by omega), rfl, rfl⟩
       ·exact (fun w m => m.pick [] 3 rfl rfl)
     ·replace hl172 := if_f hl172 h179
      refine Z14 rfl (decide_eq_false h179) (CW.exit (Z9 (Z9 (Z15 ?_))))
      exact QW.join ⟨z157, (p159), w160, w161, w162, w163, l164, B153, cs165, ob167, c168, r169, (Zi hl172).symm, (fun w m => hB154 w (m)), (by omega), h166, o170, rfl, rfl⟩ ⟨rfl, rfl, trivial⟩ (fun w m => m.pick [0, 1, 2] 3 rfl rfl)
  ·skip
   refine Z2 (Z0 (Z3 rfl) rfl (Z0 (RV.not rfl) rfl (Z0 (Z3 rfl) rfl ?_)))
   by_cases h238 : x50 = true
   ·replace hq117 := if_t hq117 h238
    refine Z7 (.bool false) (congrArg Value.bool (congrArg (fun b => !b) (h238))) (Z24 rfl (Z0 (Z3 rfl) rfl (Z24 rfl (Z0 (RV.not rfl) rfl (Z0 (Z106 rfl rfl rfl) rfl (Z0 (Z3 rfl) rfl ?_))))))
    by_cases h239 : x74 = true
    ·replace hq117 := if_t hq117 h239
     refine Z7 (.bool false) (congrArg Value.bool (congrArg (fun b => !b) (h239))) (Z24 rfl (Z0 (Z3 rfl) rfl (Z24 rfl (Z0 (RV.not rfl) rfl (Z0 (Z106 rfl rfl rfl) rfl (Z6 ?_))))))
     exact QW.join ⟨(!x104), (Zi hq117).symm, rfl, rfl⟩ ⟨rfl, rfl, rfl, rfl, rfl, rfl, trivial⟩ (fun w m => m.pick [0, 1, 2] 3 rfl rfl)
    ·replace hq117 := if_f hq117 h239
     refine Z7 (.bool true) (congrArg Value.bool (congrArg (fun b => !b) (Bool.eq_false_iff.2 h239))) (Z23 rfl rfl rfl (Z23 rfl rfl rfl (Z0 (Z108 rfl rfl rfl) rfl (Z6 ?_))))
     exact QW.join ⟨true, (Zi hq117).symm, rfl, rfl⟩ ⟨rfl, rfl, rfl, rfl, rfl, rfl, trivial⟩ (fun w m => m.pick [0, 1, 2] 3 rfl rfl)
   ·replace hq117 := if_f hq117 h238
    refine Z7 (.bool true) (congrArg Value.bool (congrArg (fun b => !b) (Bool.eq_false_iff.2 h238))) (Z23 rfl rfl rfl (Z23 rfl rfl rfl (Z0 (Z108 rfl rfl rfl) rfl (Z0 (Z3 rfl) rfl (Z23 rfl rfl rfl (Z23 rfl rfl rfl (Z0 (Z108 rfl rfl rfl) rfl ?_)))))))
    refine Z6 ?_
    exact QW.join ⟨true, (Zi hq117).symm, rfl, rfl⟩ ⟨rfl, rfl, rfl, rfl, rfl, rfl, trivial⟩ (fun w m => m.pick [0, 1, 2] 3 rfl rfl)
 ·replace hf := if_f hf h29
  refine Z13 rfl (congrArg (fun b => !b) (Bool.eq_false_iff.2 h29)) (Z4 (Z2 (Z0 (Z22 rfl Zh rfl rfl rfl rfl (RcptC.C_length _)) rfl (OW.rot1 (Z28 (Z103 rfl rfl rfl (RcptC.C_one _ rfl) rfl (RcptC.C_length _) (RcptC.C_length _)) (Z0 (Z5 rfl) rfl (Z6 (Z1 (CW.ret (Z8 ?_))))))))))
  have er0 := Zi hf
  obtain ⟨e0, er1⟩ := Prod.mk.inj er0
  clear er0
  subst e0
  subst er1
  have v240 : View (More w0 Φ []) none ([] : List (Log)).length 0 22 [] := View.nil
  have h241 : RcptRd (More w0 Φ []) (⟨x22.kind, (x22.rooted), x22.root, x22.status, x22.used, x22.bloom, .slice none 0 0⟩ : RcptC).C (Rcpt.mk x22.kind (x22.rooted) x22.root x22.status x22.used x22.bloom ([] : List (Log))) := by refine RcptRd.mk ?_ v240 (Reps.nil) <;> (first | omega | (dsimp only; omega)| (simp; done) | (show 0 ≤ 9223372036854775807; omega))
  refine Z104 (rs := [.cell 4 30, .tmp 5]) ([.agg (⟨x22.kind, (x22.rooted), x22.root, x22.status, x22.used, x22.bloom, .slice none 0 0⟩ : RcptC).C.toArray, .int .i64 (172 : Int)]) ([]) rfl ?_ rfl ?_ ?_ _ (.inl rfl)
  ·exact ⟨⟨_, _, _, _, rfl, Zh, rfl, rfl, (congrArg some (RcptC.C_length _).symm), rfl⟩, rfl, trivial⟩
  ·exact ⟨[], (⟨x22.kind, (x22.rooted), x22.root, x22.status, x22.used, x22.bloom, .slice none 0 0⟩ : RcptC).C, h241, (by omega), rfl, rfl⟩
  ·exact (fun w m => m.pick [] 2 rfl rfl)
theorem Z162 (w0 : World) (Φ : Ctx) (N : List Ent) (hΦ : ∀ w, Mem w0 w N → Φ w) (A0_ : Option Addr) (c0_ : Nat) (a0 : List (BitVec 8)) (res0 : Rcpt) (res1 : Nat) (va0 : View Φ A0_ a0.length c0_ 1 (u8s a0)) (hTn : ∀ i, i < 25 → w0.cell? ⟨4, i, none⟩ = some (.int .i64 (turnsL.getD i 0))) (hRn : ∀ i, i < 24 → w0.cell? ⟨3, i, none⟩ = some (U64 (g64 roundsL i))) (hf : waybillref17_Decode a0 = some (res0, res1)) : DoesG Tryd.prog 40 [.slice A0_ a0.length c0_] w0 [] N (fun v G => ∃ B : List Ent, ∃ cr0 : List Value, (RcptRd (More w0 Φ B) cr0 res0) ∧ (res1 ≤ 9223372036854775807) ∧ v = .tuple #[.agg cr0.toArray, .int .i64 ((res1 : Nat) : Int)] ∧ G = B) := by
 unfold waybillref17_Decode at hf
 replace va0 := va0.mono (Ψ := More w0 Φ []) (fun w q => q.1)
 have m1 := va0.mx
 refine DoesG.enter Tryd.func40 rfl Tryd.ntmps40 rfl (M := (([] ++ N))) rfl (Z4 (Z2 (OW.alloc (l := (⟨(0 : Int), false, (Vector.replicate 32 0#8), 0#64, 0#64, (Vector.replicate 256 0#8), .slice none 0 0⟩ : RcptC).C) rfl (by kernel_rfl) rfl (fun b2 => (Z0 (Z5 rfl) rfl (Z6 (Z1 (Z4 (Z4 (Z2 (Z0 (Z3 rfl) rfl (Z0 (RV.len rfl rfl) rfl (Z0 (RV.gtr rfl rfl) rfl ?_)))))))))))))
 refine Z7 (.bool (decide (16777216 < a0.length))) (congrArg Value.bool (decide_eq_decide.2 (by omega))) (Z6 (Z1 ?_))
 by_cases h3 : 16777216 < a0.length
 ·replace hf := if_t hf h3
  refine Z13 rfl (decide_eq_true h3) (Z4 (Z2 (Z0 (Z107 (l := (⟨(0 : Int), false, (Vector.replicate 32 0#8), 0#64, 0#64, (Vector.replicate 256 0#8), .slice none 0 0⟩ : RcptC).C) (cs := (⟨(0 : Int), false, (Vector.replicate 32 0#8), 0#64, 0#64, (Vector.replicate 256 0#8), .slice none 0 0⟩ : RcptC).C) [] rfl rfl rfl (by kernel_rfl) rfl rfl rfl) rfl (Z28 (Z103 rfl rfl rfl (RcptC.C_one _ rfl) rfl (RcptC.C_length _) (RcptC.C_length _)) (Z0 (Z5 rfl) rfl (Z6 (Z1 (CW.ret (Z8 ?_)))))))))
  have er0 := Zi hf
  obtain ⟨e0, er1⟩ := Prod.mk.inj er0
  clear er0
  subst e0
  subst er1
  have v4 : View (More w0 Φ []) none ([] : List (Log)).length 0 22 [] := View.nil
  have h5 : RcptRd (More w0 Φ []) (⟨(0 : Int), false, (Vector.replicate 32 0#8), 0#64, 0#64, (Vector.replicate 256 0#8), .slice none 0 0⟩ : RcptC).C (Rcpt.mk (0 : Int) false (Vector.replicate 32 0#8) (0#64) (0#64) (Vector.replicate 256 0#8) ([] : List (Log))) := by refine RcptRd.mk ?_ v4 (Reps.nil) <;> (first | omega | (dsimp only; omega)| (simp; done) | (show 0 ≤ 9223372036854775807; omega))
  refine Z104 (rs := [.cell 2 30, .tmp 3]) ([.agg (⟨(0 : Int), false, (Vector.replicate 32 0#8), 0#64, 0#64, (Vector.replicate 256 0#8), .slice none 0 0⟩ : RcptC).C.toArray, .int .i64 (2 : Int)]) ([]) rfl ?_ rfl ?_ ?_ _ (.inl rfl)
  ·exact ⟨⟨_, _, _, _, rfl, Zh, rfl, rfl, (congrArg some (RcptC.C_length _).symm), rfl⟩, rfl, trivial⟩
  ·exact ⟨[], (⟨(0 : Int), false, (Vector.replicate 32 0#8), 0#64, 0#64, (Vector.replicate 256 0#8), .slice none 0 0⟩ : RcptC).C, h5, (by omega), rfl, rfl⟩
  ·exact (fun w m => m.pick [] 1 rfl rfl)
 ·replace hf := if_f hf h3
  refine Z14 rfl (decide_eq_false h3) (CW.skip (Z1 (Z4 (Z4 (Z2 (Z0 (Z3 rfl) rfl (Z0 (RV.len rfl rfl) rfl (Z0 (RV.eql rfl rfl) rfl (Z7 (.bool (decide (a0.length = 0))) (congrArg Value.bool (decide_eq_decide.2 (by omega))) (Z6 (Z1 ?_)))))))))))
  by_cases h6 : a0.length = 0
  ·replace hf := if_t hf h6
   refine Z13 rfl (decide_eq_true h6) (Z4 (Z2 (Z0 (Z107 (l := (⟨(0 : Int), false, (Vector.replicate 32 0#8), 0#64, 0#64, (Vector.replicate 256 0#8), .slice none 0 0⟩ : RcptC).C) (cs := (⟨(0 : Int), false, (Vector.replicate 32 0#8), 0#64, 0#64, (Vector.replicate 256 0#8), .slice none 0 0⟩ : RcptC).C) [] rfl rfl rfl (by kernel_rfl) rfl rfl rfl) rfl (Z28 (Z103 rfl rfl rfl (RcptC.C_one _ rfl) rfl (RcptC.C_length _) (RcptC.C_length _)) (Z0 (Z5 rfl) rfl (Z6 (Z1 (CW.ret (Z8 ?_)))))))))
   have er0 := Zi hf
   obtain ⟨e0, er1⟩ := Prod.mk.inj er0
   clear er0
   subst e0
   subst er1
   have v7 : View (More w0 Φ []) none ([] : List (Log)).length 0 22 [] := View.nil
   have h8 : RcptRd (More w0 Φ []) (⟨(0 : Int), false, (Vector.replicate 32 0#8), 0#64, 0#64, (Vector.replicate 256 0#8), .slice none 0 0⟩ : RcptC).C (Rcpt.mk (0 : Int) false (Vector.replicate 32 0#8) (0#64) (0#64) (Vector.replicate 256 0#8) ([] : List (Log))) := by refine RcptRd.mk ?_ v7 (Reps.nil) <;> (first | omega | (dsimp only; omega)| (simp; done) | (show 0 ≤ 9223372036854775807; omega))
   refine Z104 (rs := [.cell 2 30, .tmp 3]) ([.agg (⟨(0 : Int), false, (Vector.replicate 32 0#8), 0#64, 0#64, (Vector.replicate 256 0#8), .slice none 0 0⟩ : RcptC).C.toArray, .int .i64 (70 : Int)]) ([]) rfl ?_ rfl ?_ ?_ _ (.inl rfl)
   ·exact ⟨⟨_, _, _, _, rfl, Zh, rfl, rfl, (congrArg some (RcptC.C_length _).symm), rfl⟩, rfl, trivial⟩
   ·exact ⟨[], (⟨(0 : Int), false, (Vector.replicate 32 0#8), 0#64, 0#64, (Vector.replicate 256 0#8), .slice none 0 0⟩ : RcptC).C, h8, (by omega), rfl, rfl⟩
   ·exact (fun w m => m.pick [] 1 rfl rfl)
  ·replace hf := if_f hf h6
   refine Z14 rfl (decide_eq_false h6) (CW.skip (Z1 (Z4 (Z2 (Z0 (Z5 rfl) rfl (Z6 (Z1 (Z4 (Z2 (Z0 (Z5 rfl) rfl (Z6 (Z1 (Z4 (Z4 ?_))))))))))))))
   obtain ⟨q9, hq10, hf⟩ := Z100 hf
   refine Z115 (fun L' M' => ∃ p11 : Bool, q9 = p11 ∧ L' = [(0, .slice A0_ a0.length c0_), (2, ptr (some b2) 0), (4, .int .i64 (0 : Int)), (5, .int .i64 (0 : Int)), (28, .bool (p11))] ∧ M' = ((some b2, blk (⟨(0 : Int), false, (Vector.replicate 32 0#8), 0#64, 0#64, (Vector.replicate 256 0#8), .slice none 0 0⟩ : RcptC).C 30) :: ([] ++ N))) ?_ ?_
   ·rintro L13 M14 ⟨p11, e12, e15, e16⟩
    rw [e15, e16]
    clear e15 e16 L13 M14
    clear hq10
    rw [e12] at hf
    clear e12
    try dsimp only at hf
    refine Z1 ?_
    obtain ⟨q17, hq18, hf⟩ := Z100 hf
    refine Z115 (fun L' M' => ∃ n19 : Nat, ∃ n21 : Nat, q17 = Lp.go (n19, n21) ∧ (n19 ≤ 9223372036854775807) ∧ (n21 ≤ 9223372036854775807) ∧ L' = [(0, .slice A0_ a0.length c0_), (2, ptr (some b2) 0), (4, .int .i64 ((n19 : Nat) : Int)), (5, .int .i64 ((n21 : Nat) : Int))] ∧ M' = ((some b2, blk (⟨(0 : Int), false, (Vector.replicate 32 0#8), 0#64, 0#64, (Vector.replicate 256 0#8), .slice none 0 0⟩ : RcptC).C 30) :: ([] ++ N))) ?_ ?_
    ·rintro L24 M25 ⟨n19, n21, e23, b20, b22, e26, e27⟩
     rw [e26, e27]
     clear e26 e27 L24 M25
     clear hq18
     rw [e23] at hf
     clear e23
     try dsimp only at hf
     refine Z1 (Z4 (Z2 (Z0 (Z3 rfl) rfl (Z0 (Z3 rfl) rfl ?_))))
     obtain ⟨g29, hf⟩ := Z112 hf
     refine Z0 (RV.cut_lo (s := 1) (n21) rfl rfl (by omega) rfl rfl (by omega)) rfl (Z7 (.slice (subA A0_ c0_ n21 1) (a0.drop n21).length (c0_ - n21)) (by rw [show ((a0.drop n21)).length = (a0).length - (n21) from List.length_drop]) ?_)
     have v28 : View (More w0 Φ []) (subA A0_ c0_ n21 1) (a0.drop n21).length (c0_ - n21) 1 (u8s (a0.drop n21)) := va0.lo8 (by omega)
     have m30 := v28.mx
     obtain ⟨⟨x32, x33⟩, hx31, hf⟩ := Z100 hf
     try dsimp only at hf
     refine Z12 Tryd.call72 rfl (waybillref07_Decode_does w0 (More w0 Φ []) ((some b2, blk (⟨(0 : Int), false, (Vector.replicate 32 0#8), 0#64, 0#64, (Vector.replicate 256 0#8), .slice none 0 0⟩ : RcptC).C 30) :: ([] ++ N)) (fun w m => Z105 hΦ 1 m rfl) (subA A0_ c0_ n21 1) (c0_ - n21) (a0.drop n21) x32 x33 v28 hx31) rfl rfl ?_
     rintro L38 M39 ⟨B34, cs35, h36, b37, e40, e41⟩
     rw [e40, e41]
     clear e40 e41 L38 M39
     refine Z20 (M' := ((some b2, blk (⟨(0 : Int), false, (Vector.replicate 32 0#8), 0#64, 0#64, (Vector.replicate 256 0#8), .slice none 0 0⟩ : RcptC).C 30) :: ((B34 ++ []) ++ N))) (fun w m => by have h := Z113 (A := B34) m 0 1 rfl rfl; exact h) ?_
     have gq1 : ∀ w, More w0 Φ (B34 ++ []) w → More w0 Φ [] w := fun w q => More.mono (fun w m => (m).appR) q
     replace va0 := va0.mono gq1
     replace v28 := v28.mono gq1
     replace h36 := ItRd.mono (Ψ := (More w0 Φ (B34 ++ []))) (fun w q => Z128 q) _ _ h36
     have h51 := h36
     obtain ⟨A42, c43, A45, c46, cs48, e50, v44, v47, h49⟩ := ItRd.opn h36
     subst e50
     have m52 := v44.mx
     have m53 := v47.mx
     have m54 := v44.mx
     have m55 := v47.mx
     refine Z0 (Z3 rfl) rfl (Z0 (Z17 rfl rfl) rfl (Z7 (.agg [.bool (x32.list), .slice A42 x32.data.length c43, .slice A45 x32.items.length c46].toArray) (rfl) (Z0 (Z17 rfl rfl) rfl (Z7 (.int .i64 ((x33 : Nat) : Int)) (rfl) (OW.alloc (l := [.bool false, .slice none 0 0, .slice none 0 0]) rfl rfl rfl (fun b56 => ?_))))))
     refine Z28 (Z103 rfl rfl rfl (by intro u hu; simp at hu; rcases hu with rfl | rfl | rfl <;> rfl) rfl rfl rfl) ?_
     refine Z0 (Z5 rfl) rfl (Z6 (Z1 (Z4 (Z4 (Z2 (Z0 (Z3 rfl) rfl (Z0 (RV.neq rfl rfl) rfl (Z7 (.bool (!decide (x33 = 0))) (congrArg (fun b => Value.bool (!b)) (decide_eq_decide.2 (by omega))) (Z6 (Z1 ?_))))))))))
     by_cases h57 : x33 = 0
     ·replace hf := if_t hf h57
      refine Z14 rfl (congrArg (fun b => !b) (decide_eq_true h57)) (CW.skip (Z1 (Z4 (Z2 (Z0 (Z22 rfl Zh rfl rfl rfl rfl rfl) rfl ?_)))))
      obtain ⟨⟨x59, x60⟩, hx58, hf⟩ := Z100 hf
      try dsimp only at hf
      refine Z12 Tryd.call73 rfl (Z141 w0 (More w0 Φ (B34 ++ [])) ((some b56, blk [.bool (x32.list), .slice A42 x32.data.length c43, .slice A45 x32.items.length c46] 89) :: (some b2, blk (⟨(0 : Int), false, (Vector.replicate 32 0#8), 0#64, 0#64, (Vector.replicate 256 0#8), .slice none 0 0⟩ : RcptC).C 30) :: ((B34 ++ []) ++ N)) (fun w m => Z105 hΦ 2 m rfl) [.bool (x32.list), .slice A42 x32.data.length c43, .slice A45 x32.items.length c46] x32 x59 x60 h51 hx58) rfl rfl ?_
      rintro L67 M68 ⟨B61, cs62, A64, c65, h63, v66, e69, e70⟩
      rw [e69, e70]
      clear e69 e70 L67 M68
      refine Z20 (M' := ((some b56, blk [.bool (x32.list), .slice A42 x32.data.length c43, .slice A45 x32.items.length c46] 89) :: (some b2, blk (⟨(0 : Int), false, (Vector.replicate 32 0#8), 0#64, 0#64, (Vector.replicate 256 0#8), .slice none 0 0⟩ : RcptC).C 30) :: ((B61 ++ (B34 ++ [])) ++ N))) (fun w m => by have h := Z113 (A := B61) m 0 2 rfl rfl; exact h) ?_
      have gq2 : ∀ w, More w0 Φ (B61 ++ (B34 ++ [])) w → More w0 Φ (B34 ++ []) w := fun w q => More.mono (fun w m => (m).appR) q
      replace va0 := va0.mono gq2
      replace v28 := v28.mono gq2
      replace h51 := ItRd.mono gq2 _ _ h51
      replace v44 := v44.mono gq2
      replace v47 := v47.mono gq2
      replace h49 := h49.mono (ItRd.mono gq2)
      replace v66 := v66.mono (Ψ := (More w0 Φ (B61 ++ (B34 ++ [])))) (fun w q => Z128 q)
      replace h63 := h63.mono (ItRd.mono (Ψ := (More w0 Φ (B61 ++ (B34 ++ [])))) (fun w q => Z128 q))
      have m71 := v66.mx
      refine Z0 (Z3 rfl) rfl (Z0 (Z17 rfl rfl) rfl (Z7 (.slice A64 x59.length c65) (rfl) (Z0 (Z17 rfl rfl) rfl (Z7 (.bool (x60)) (rfl) (Z0 (Z5 rfl) rfl (Z0 (Z5 rfl) rfl (Z6 (Z1 (Z4 (Z4 ?_))))))))))
      obtain ⟨q72, hq73, hf⟩ := Z100 hf
      refine Z115 (fun L' M' => ∃ p74 : Bool, q72 = p74 ∧ L' = [(2, ptr (some b2) 0), (4, .int .i64 ((n19 : Nat) : Int)), (8, .slice A64 x59.length c65), (60, .bool (p74))] ∧ M' = ((some b2, blk (⟨(0 : Int), false, (Vector.replicate 32 0#8), 0#64, 0#64, (Vector.replicate 256 0#8), .slice none 0 0⟩ : RcptC).C 30) :: ((B61 ++ (B34 ++ [])) ++ N))) ?_ ?_
      ·rintro L76 M77 ⟨p74, e75, e78, e79⟩
       rw [e78, e79]
       clear e78 e79 L76 M77
       clear hq73
       rw [e75] at hf
       clear e75
       try dsimp only at hf
       refine Z1 ?_
       by_cases h80 : p74 = true
       ·replace hf := if_t hf h80
        refine Z13 rfl (h80) (Z4 (Z2 (Z0 (Z107 (l := (⟨(0 : Int), false, (Vector.replicate 32 0#8), 0#64, 0#64, (Vector.replicate 256 0#8), .slice none 0 0⟩ : RcptC).C) (cs := (⟨(0 : Int), false, (Vector.replicate 32 0#8), 0#64, 0#64, (Vector.replicate 256 0#8), .slice none 0 0⟩ : RcptC).C) [] rfl rfl rfl (by kernel_rfl) rfl rfl rfl) rfl (Z28 (Z103 rfl rfl rfl (RcptC.C_one _ rfl) rfl (RcptC.C_length _) (RcptC.C_length _)) (Z0 (Z5 rfl) rfl (Z6 (Z1 (CW.ret (Z8 ?_)))))))))
        have er0 := Zi hf
        obtain ⟨e0, er1⟩ := Prod.mk.inj er0
        clear er0
        subst e0
        subst er1
        have v81 : View (More w0 Φ (B61 ++ (B34 ++ []))) none ([] : List (Log)).length 0 22 [] := View.nil
        have h82 : RcptRd (More w0 Φ (B61 ++ (B34 ++ []))) (⟨(0 : Int), false, (Vector.replicate 32 0#8), 0#64, 0#64, (Vector.replicate 256 0#8), .slice none 0 0⟩ : RcptC).C (Rcpt.mk (0 : Int) false (Vector.replicate 32 0#8) (0#64) (0#64) (Vector.replicate 256 0#8) ([] : List (Log))) := by refine RcptRd.mk ?_ v81 (Reps.nil) <;> (first | omega | (dsimp only; omega)| (simp; done) | (show 0 ≤ 9223372036854775807; omega))
        refine Z104 (rs := [.cell 2 30, .tmp 3]) ([.agg (⟨(0 : Int), false, (Vector.replicate 32 0#8), 0#64, 0#64, (Vector.replicate 256 0#8), .slice none 0 0⟩ : RcptC).C.toArray, .int .i64 (171 : Int)]) ((B61 ++ (B34 ++ []))) rfl ?_ rfl ?_ ?_ _ (.inl rfl)
        ·exact ⟨⟨_, _, _, _, rfl, Zh, rfl, rfl, (congrArg some (RcptC.C_length _).symm), rfl⟩, rfl, trivial⟩
        ·exact ⟨(B61 ++ (B34 ++ [])), (⟨(0 : Int), false, (Vector.replicate 32 0#8), 0#64, 0#64, (Vector.replicate 256 0#8), .slice none 0 0⟩ : RcptC).C, h82, (by omega), rfl, rfl⟩
        ·exact (fun w m => m.pick [] 1 rfl rfl)
       ·replace hf := if_f hf h80
        refine Z14 rfl (Bool.eq_false_iff.2 h80) (CW.skip (Z1 (Z4 (Z2 (Z0 (Z3 rfl) rfl (Z0 (Z3 rfl) rfl ?_))))))
        obtain ⟨⟨x84, x85⟩, hx83, hf⟩ := Z100 hf
        try dsimp only at hf
        refine Z12 Tryd.call74 rfl (waybillref17_fields_does w0 (More w0 Φ (B61 ++ (B34 ++ []))) ((some b2, blk (⟨(0 : Int), false, (Vector.replicate 32 0#8), 0#64, 0#64, (Vector.replicate 256 0#8), .slice none 0 0⟩ : RcptC).C 30) :: ((B61 ++ (B34 ++ [])) ++ N)) (fun w m => Z105 hΦ 1 m rfl) ((n19 : Nat) : Int) A64 c65 cs62 x59 x84 x85 (by omega) v66 h63 hx83) rfl rfl ?_
        rintro L90 M91 ⟨B86, cs87, h88, b89, e92, e93⟩
        rw [e92, e93]
        clear e92 e93 L90 M91
        refine Z20 (M' := ((some b2, blk (⟨(0 : Int), false, (Vector.replicate 32 0#8), 0#64, 0#64, (Vector.replicate 256 0#8), .slice none 0 0⟩ : RcptC).C 30) :: ((B86 ++ (B61 ++ (B34 ++ []))) ++ N))) (fun w m => by have h := Z113 (A := B86) m 0 1 rfl rfl; exact h) ?_
        have gq3 : ∀ w, More w0 Φ (B86 ++ (B61 ++ (B34 ++ []))) w → More w0 Φ (B61 ++ (B34 ++ [])) w := fun w q => More.mono (fun w m => (m).appR) q
        replace v66 := v66.mono gq3
        replace h63 := h63.mono (ItRd.mono gq3)
        replace h88 := RcptRd.mono (Ψ := (More w0 Φ (B86 ++ (B61 ++ (B34 ++ []))))) (fun w q => Z128 q) _ _ h88
        have h101 := h88
        obtain ⟨A95, c96, cs98, e100, b94, v97, h99⟩ := RcptRd.opn h88
        subst e100
        have m102 := v97.mx
        have m103 := v97.mx
        refine Z0 (Z3 rfl) rfl (Z0 (Z17 rfl rfl) rfl (Z7 (.agg (⟨x84.kind, (x84.rooted), x84.root, x84.status, x84.used, x84.bloom, .slice A95 x84.logs.length c96⟩ : RcptC).C.toArray) (rfl) (Z0 (Z17 rfl rfl) rfl (Z7 (.int .i64 ((x85 : Nat) : Int)) (rfl) (OW.alloc (l := (⟨(0 : Int), false, (Vector.replicate 32 0#8), 0#64, 0#64, (Vector.replicate 256 0#8), .slice none 0 0⟩ : RcptC).C) rfl (by kernel_rfl) rfl (fun b104 => (Z28 (Z103 rfl rfl rfl (RcptC.C_one _ rfl) rfl (RcptC.C_length _) (RcptC.C_length _)) (Z0 (Z5 rfl) rfl ?_))))))))
        refine Z6 (Z1 (Z4 (Z4 (Z2 (Z0 (Z3 rfl) rfl (Z0 (RV.neq rfl rfl) rfl (Z7 (.bool (!decide (x85 = 0))) (congrArg (fun b => Value.bool (!b)) (decide_eq_decide.2 (by omega))) (Z6 (Z1 ?_)))))))))
        by_cases h105 : x85 = 0
        ·replace hf := if_t hf h105
         refine Z14 rfl (congrArg (fun b => !b) (decide_eq_true h105)) (CW.skip (Z1 (Z4 (Z4 (Z138 6 mixed (by kernel_rfl) rfl (Z18 0 rfl (by kernel_rfl) rfl (Z30 rfl rfl rfl rfl) rfl (UW.slot (ptr (some b104) 36) rfl (Z18 1 rfl (by kernel_rfl) rfl (RV.loadAo rfl Zh rfl rfl rfl rfl (Z146 (⟨x84.kind, (x84.rooted), x84.root, x84.status, x84.used, x84.bloom, .slice A95 x84.logs.length c96⟩ : RcptC)) ((Z102 _).trans Zv)) rfl (Z18 2 rfl (by kernel_rfl) rfl (Z30 rfl rfl rfl rfl) rfl (UW.slot (ptr (some b104) 292) rfl ?_))))))))))
         refine Z18 3 rfl (by kernel_rfl) rfl (Z29 rfl Zh rfl rfl rfl (Z151 (⟨x84.kind, (x84.rooted), x84.root, x84.status, x84.used, x84.bloom, .slice A95 x84.logs.length c96⟩ : RcptC))) rfl ?_
         obtain ⟨x107, hx106, hf⟩ := Z100 hf
         refine Z25 4 rfl (by kernel_rfl) rfl Tryd.call29 rfl (fun N' hN' => waybillref17_BloomOf_does w0 (More w0 Φ (B86 ++ (B61 ++ (B34 ++ [])))) N' (fun w m => Z105 hΦ 2 (hN' w m) rfl) A95 c96 cs98 x84.logs x107 v97 h99 hTn hRn hx106) rfl ?_
         rintro _ G108 rfl
         refine UW.mem (M' := ((some b104, blk (⟨x84.kind, (x84.rooted), x84.root, x84.status, x84.used, x84.bloom, .slice A95 x84.logs.length c96⟩ : RcptC).C 30) :: (some b2, blk (⟨(0 : Int), false, (Vector.replicate 32 0#8), 0#64, 0#64, (Vector.replicate 256 0#8), .slice none 0 0⟩ : RcptC).C 30) :: ((B86 ++ (B61 ++ (B34 ++ []))) ++ N))) (fun w m => m.appR) (Z18 5 rfl (by kernel_rfl) rfl (RV.neA8 rfl rfl rfl rfl rfl rfl (Zv) (Zv)) rfl (UW.slot (.bool (!decide (x84.bloom = x107))) (congrArg (fun b => Value.bool (!b)) (decide_eq_decide.2 Vector.toList_inj)) (UW.nil (by kernel_rfl) (Z6 (Z1 ?_)))))
         by_cases h110 : x84.bloom = x107
         ·replace hf := if_t hf h110
          refine Z14 rfl (congrArg (fun b => !b) (decide_eq_true h110)) (CW.skip (Z1 (Z4 (Z2 (Z0 (Z22 rfl Zh rfl rfl rfl rfl (RcptC.C_length _)) rfl (OW.rot1 (Z28 (Z103 rfl rfl rfl (RcptC.C_one _ rfl) rfl (RcptC.C_length _) (RcptC.C_length _)) (Z0 (Z5 rfl) rfl (Z6 (Z1 (CW.ret ?_)))))))))))
          have er0 := Zi hf
          obtain ⟨e0, er1⟩ := Prod.mk.inj er0
          clear er0
          subst e0
          subst er1
          refine Z104 (rs := [.cell 2 30, .tmp 3]) ([.agg (⟨x84.kind, (x84.rooted), x84.root, x84.status, x84.used, x84.bloom, .slice A95 x84.logs.length c96⟩ : RcptC).C.toArray, .int .i64 (0 : Int)]) ((B86 ++ (B61 ++ (B34 ++ [])))) rfl ?_ rfl ?_ ?_ _ (.inl rfl)
          ·exact ⟨⟨_, _, _, _, rfl, Zh, rfl, rfl, (congrArg some (RcptC.C_length _).symm), rfl⟩, rfl, trivial⟩
          ·exact ⟨(B86 ++ (B61 ++ (B34 ++ []))), (⟨x84.kind, (x84.rooted), x84.root, x84.status, x84.used, x84.bloom, .slice A95 x84.logs.length c96⟩ : RcptC).C, h101, (by omega), rfl, rfl⟩
          ·exact (fun w m => m.pick [] 2 rfl rfl)
         ·replace hf := if_f hf h110
          refine Z13 rfl (congrArg (fun b => !b) (decide_eq_false h110)) (Z4 (Z2 (Z0 (Z107 (l := (⟨(0 : Int), false, (Vector.replicate 32 0#8), 0#64, 0#64, (Vector.replicate 256 0#8), .slice none 0 0⟩ : RcptC).C) (cs := (⟨(0 : Int), false, (Vector.replicate 32 0#8), 0#64, 0#64, (Vector.replicate 256 0#8), .slice none 0 0⟩ : RcptC).C) [] rfl rfl rfl (by kernel_rfl) rfl rfl rfl) rfl (OW.rot1 (Z28 (Z103 rfl rfl rfl (RcptC.C_one _ rfl) rfl (RcptC.C_length _) (RcptC.C_length _)) (Z0 (Z5 rfl) rfl (Z6 (Z1 (CW.ret (Z8 ?_))))))))))
          have er0 := Zi hf
          obtain ⟨e0, er1⟩ := Prod.mk.inj er0
          clear er0
          subst e0
          subst er1
          have v111 : View (More w0 Φ (B86 ++ (B61 ++ (B34 ++ [])))) none ([] : List (Log)).length 0 22 [] := View.nil
          have h112 : RcptRd (More w0 Φ (B86 ++ (B61 ++ (B34 ++ [])))) (⟨(0 : Int), false, (Vector.replicate 32 0#8), 0#64, 0#64, (Vector.replicate 256 0#8), .slice none 0 0⟩ : RcptC).C (Rcpt.mk (0 : Int) false (Vector.replicate 32 0#8) (0#64) (0#64) (Vector.replicate 256 0#8) ([] : List (Log))) := by refine RcptRd.mk ?_ v111 (Reps.nil) <;> (first | omega | (dsimp only; omega)| (simp; done) | (show 0 ≤ 9223372036854775807; omega))
          refine Z104 (rs := [.cell 2 30, .tmp 3]) ([.agg (⟨(0 : Int), false, (Vector.replicate 32 0#8), 0#64, 0#64, (Vector.replicate 256 0#8), .slice none 0 0⟩ : RcptC).C.toArray, .int .i64 (173 : Int)]) ((B86 ++ (B61 ++ (B34 ++ [])))) rfl ?_ rfl ?_ ?_ _ (.inl rfl)
          ·exact ⟨⟨_, _, _, _, rfl, Zh, rfl, rfl, (congrArg some (RcptC.C_length _).symm), rfl⟩, rfl, trivial⟩
          ·exact ⟨(B86 ++ (B61 ++ (B34 ++ []))), (⟨(0 : Int), false, (Vector.replicate 32 0#8), 0#64, 0#64, (Vector.replicate 256 0#8), .slice none 0 0⟩ : RcptC).C, h112, (by omega), rfl, rfl⟩
          ·exact (fun w m => m.pick [] 2 rfl rfl)
        ·replace hf := if_f hf h105
         refine Z13 rfl (congrArg (fun b => !b) (decide_eq_false h105)) (Z4 (Z2 (Z0 (Z107 (l := (⟨(0 : Int), false, (Vector.replicate 32 0#8), 0#64, 0#64, (Vector.replicate 256 0#8), .slice none 0 0⟩ : RcptC).C) (cs := (⟨(0 : Int), false, (Vector.replicate 32 0#8), 0#64, 0#64, (Vector.replicate 256 0#8), .slice none 0 0⟩ : RcptC).C) [] rfl rfl rfl (by kernel_rfl) rfl rfl rfl) rfl (Z0 (Z3 rfl) rfl (OW.rot1 (Z28 (Z103 rfl rfl rfl (RcptC.C_one _ rfl) rfl (RcptC.C_length _) (RcptC.C_length _)) (Z0 (Z5 rfl) rfl (Z6 (Z1 (CW.ret (Z8 ?_)))))))))))
         have er0 := Zi hf
         obtain ⟨e0, er1⟩ := Prod.mk.inj er0
         clear er0
         subst e0
         subst er1
         have v113 : View (More w0 Φ (B86 ++ (B61 ++ (B34 ++ [])))) none ([] : List (Log)).length 0 22 [] := View.nil
         have h114 : RcptRd (More w0 Φ (B86 ++ (B61 ++ (B34 ++ [])))) (⟨(0 : Int), false, (Vector.replicate 32 0#8), 0#64, 0#64, (Vector.replicate 256 0#8), .slice none 0 0⟩ : RcptC).C (Rcpt.mk (0 : Int) false (Vector.replicate 32 0#8) (0#64) (0#64) (Vector.replicate 256 0#8) ([] : List (Log))) := by refine RcptRd.mk ?_ v113 (Reps.nil) <;> (first | omega | (dsimp only; omega)| (simp; done) | (show 0 ≤ 9223372036854775807; omega))
         refine Z104 (rs := [.cell 2 30, .tmp 3]) ([.agg (⟨(0 : Int), false, (Vector.replicate 32 0#8), 0#64, 0#64, (Vector.replicate 256 0#8), .slice none 0 0⟩ : RcptC).C.toArray, .int .i64 ((x85 : Nat) : Int)]) ((B86 ++ (B61 ++ (B34 ++ [])))) rfl ?_ rfl ?_ ?_ _ (.inl rfl)
         ·exact ⟨⟨_, _, _, _, rfl, Zh, rfl, rfl, (congrArg some (RcptC.C_length _).symm), rfl⟩, rfl, trivial⟩
         ·exact ⟨(B86 ++ (B61 ++ (B34 ++ []))), (⟨(0 : Int), false, (Vector.replicate 32 0#8), 0#64, 0#64, (Vector.replicate 256 0#8), .slice none 0 0⟩ : RcptC).C, h114, (by omega), rfl, rfl⟩
         ·exact (fun w m => m.pick [] 2 rfl rfl)
      ·skip
       refine Z2 (Z0 (Z3 rfl) rfl (Z0 (RV.not rfl) rfl (Z0 (Z3 rfl) rfl ?_)))
       by_cases h115 : x60 = true
       ·replace hq73 := if_t hq73 h115
        refine Z7 (.bool false) (congrArg Value.bool (congrArg (fun b => !b) (h115))) (Z24 rfl (Z0 (Z3 rfl) rfl (Z24 rfl (Z0 (RV.len rfl rfl) rfl (Z24 rfl (Z0 (RV.neq rfl rfl) rfl (Z7 (.bool (!decide (x59.length = 4))) (congrArg (fun b => Value.bool (!b)) (decide_eq_decide.2 (by omega))) ?_)))))))
        refine Z0 (Z106 rfl rfl rfl) rfl (Z6 ?_)
        exact QW.join ⟨(!decide (x59.length = 4)), (Zi hq73).symm, rfl, rfl⟩ ⟨rfl, rfl, rfl, rfl, trivial⟩ (fun w m => m.pick [1] 2 rfl rfl)
       ·replace hq73 := if_f hq73 h115
        refine Z7 (.bool true) (congrArg Value.bool (congrArg (fun b => !b) (Bool.eq_false_iff.2 h115))) (Z23 rfl rfl rfl (Z23 rfl rfl rfl (Z23 rfl rfl rfl (Z0 (Z108 rfl rfl rfl) rfl (Z6 ?_)))))
        exact QW.join ⟨true, (Zi hq73).symm, rfl, rfl⟩ ⟨rfl, rfl, rfl, rfl, trivial⟩ (fun w m => m.pick [1] 2 rfl rfl)
     ·replace hf := if_f hf h57
      refine Z13 rfl (congrArg (fun b => !b) (decide_eq_false h57)) (Z4 (Z2 (Z0 (Z107 (l := (⟨(0 : Int), false, (Vector.replicate 32 0#8), 0#64, 0#64, (Vector.replicate 256 0#8), .slice none 0 0⟩ : RcptC).C) (cs := (⟨(0 : Int), false, (Vector.replicate 32 0#8), 0#64, 0#64, (Vector.replicate 256 0#8), .slice none 0 0⟩ : RcptC).C) [] rfl rfl rfl (by kernel_rfl) rfl rfl rfl) rfl (Z0 (Z3 rfl) rfl (OW.rot1 (Z28 (Z103 rfl rfl rfl (RcptC.C_one _ rfl) rfl (RcptC.C_length _) (RcptC.C_length _)) (Z0 (Z5 rfl) rfl (Z6 (Z1 (CW.ret (Z8 ?_)))))))))))
      have er0 := Zi hf
      obtain ⟨e0, er1⟩ := Prod.mk.inj er0
      clear er0
      subst e0
      subst er1
      have v116 : View (More w0 Φ (B34 ++ [])) none ([] : List (Log)).length 0 22 [] := View.nil
      have h117 : RcptRd (More w0 Φ (B34 ++ [])) (⟨(0 : Int), false, (Vector.replicate 32 0#8), 0#64, 0#64, (Vector.replicate 256 0#8), .slice none 0 0⟩ : RcptC).C (Rcpt.mk (0 : Int) false (Vector.replicate 32 0#8) (0#64) (0#64) (Vector.replicate 256 0#8) ([] : List (Log))) := by refine RcptRd.mk ?_ v116 (Reps.nil) <;> (first | omega | (dsimp only; omega)| (simp; done) | (show 0 ≤ 9223372036854775807; omega))
      refine Z104 (rs := [.cell 2 30, .tmp 3]) ([.agg (⟨(0 : Int), false, (Vector.replicate 32 0#8), 0#64, 0#64, (Vector.replicate 256 0#8), .slice none 0 0⟩ : RcptC).C.toArray, .int .i64 ((x33 : Nat) : Int)]) ((B34 ++ [])) rfl ?_ rfl ?_ ?_ _ (.inl rfl)
      ·exact ⟨⟨_, _, _, _, rfl, Zh, rfl, rfl, (congrArg some (RcptC.C_length _).symm), rfl⟩, rfl, trivial⟩
      ·exact ⟨(B34 ++ []), (⟨(0 : Int), false, (Vector.replicate 32 0#8), 0#64, 0#64, (Vector.replicate 256 0#8), .slice none 0 0⟩ : RcptC).C, h117, (by omega), rfl, rfl⟩
      ·exact (fun w m => m.pick [] 2 rfl rfl)
    ·skip
     by_cases h118 : p11 = true
     ·replace hq18 := if_t hq18 h118
      refine Z13 rfl (h118) (Z4 (Z2 (Z0 (Z3 rfl) rfl ?_)))
      obtain ⟨x119, hx120, hq18⟩ := Z100 hq18
      have hl121 := Z111 hx120
      refine Z0 (Z131 (0) rfl rfl rfl rfl rfl (va0.isSome (by decide) hl121) (by omega)) rfl (Z0 (Z21 rfl rfl rfl (fun w m => va0.cell (Z105 hΦ 1 m rfl) (Z148 hx120))) rfl (Z0 (Z167 rfl (by first | rfl | exact lit8 _ rfl) rfl rfl) rfl ?_))
      have m122 := (x119).isLt
      refine Z0 (Z5 rfl) rfl (Z6 (Z1 (Z2 (Z0 (Z5 rfl) rfl (Z6 ?_)))))
      exact QW.join ⟨x119.toNat, 1, (Zi hq18).symm, (by omega), (by omega), rfl, rfl⟩ ⟨rfl, rfl, rfl, rfl, trivial⟩ (fun w m => m.pick [0] 1 rfl rfl)
     ·replace hq18 := if_f hq18 h118
      refine Z14 rfl (Bool.eq_false_iff.2 h118) (Z4 (Z2 (Z0 (Z3 rfl) rfl ?_)))
      obtain ⟨x123, hx124, hq18⟩ := Z100 hq18
      have hl125 := Z111 hx124
      refine Z0 (Z131 (0) rfl rfl rfl rfl rfl (va0.isSome (by decide) hl125) (by omega)) rfl (Z0 (Z21 rfl rfl rfl (fun w m => va0.cell (Z105 hΦ 1 m rfl) (Z148 hx124))) rfl (Z0 (RV.lss rfl rfl) rfl (Z7 (.bool (decide (x123.toNat < 192))) (congrArg Value.bool (decide_eq_decide.2 (by first | omega | (simp; omega) | simp))) (Z6 (Z1 ?_)))))
      by_cases h126 : x123.toNat < 192
      ·replace hq18 := if_t hq18 h126
       refine Z13 rfl (decide_eq_true h126) (Z4 (Z2 (Z0 (Z107 (l := (⟨(0 : Int), false, (Vector.replicate 32 0#8), 0#64, 0#64, (Vector.replicate 256 0#8), .slice none 0 0⟩ : RcptC).C) (cs := (⟨(0 : Int), false, (Vector.replicate 32 0#8), 0#64, 0#64, (Vector.replicate 256 0#8), .slice none 0 0⟩ : RcptC).C) [] rfl rfl rfl (by kernel_rfl) rfl rfl rfl) rfl (Z28 (Z103 rfl rfl rfl (RcptC.C_one _ rfl) rfl (RcptC.C_length _) (RcptC.C_length _)) (Z0 (Z5 rfl) rfl (Z6 (Z1 (CW.ret (Z8 ?_)))))))))
       have hc := Zi hq18
       subst hc
       try dsimp only at hf
       refine Z8 ?_
       have er0 := Zi hf
       obtain ⟨e0, er1⟩ := Prod.mk.inj er0
       clear er0
       subst e0
       subst er1
       have v127 : View (More w0 Φ []) none ([] : List (Log)).length 0 22 [] := View.nil
       have h128 : RcptRd (More w0 Φ []) (⟨(0 : Int), false, (Vector.replicate 32 0#8), 0#64, 0#64, (Vector.replicate 256 0#8), .slice none 0 0⟩ : RcptC).C (Rcpt.mk (0 : Int) false (Vector.replicate 32 0#8) (0#64) (0#64) (Vector.replicate 256 0#8) ([] : List (Log))) := by refine RcptRd.mk ?_ v127 (Reps.nil) <;> (first | omega | (dsimp only; omega)| (simp; done) | (show 0 ≤ 9223372036854775807; omega))
       refine Z104 (rs := [.cell 2 30, .tmp 3]) ([.agg (⟨(0 : Int), false, (Vector.replicate 32 0#8), 0#64, 0#64, (Vector.replicate 256 0#8), .slice none 0 0⟩ : RcptC).C.toArray, .int .i64 (170 : Int)]) ([]) rfl ?_ rfl ?_ ?_ _ (.inl rfl)
       ·exact ⟨⟨_, _, _, _, rfl, Zh, rfl, rfl, (congrArg some (RcptC.C_length _).symm), rfl⟩, rfl, trivial⟩
       ·exact ⟨[], (⟨(0 : Int), false, (Vector.replicate 32 0#8), 0#64, 0#64, (Vector.replicate 256 0#8), .slice none 0 0⟩ : RcptC).C, h128, (by omega), rfl, rfl⟩
       ·exact (fun w m => m.pick [] 1 rfl rfl)
      ·replace hq18 := if_f hq18 h126
       refine Z14 rfl (decide_eq_false h126) (CW.skip ?_)
       exact QW.join ⟨0, 0, (Zi hq18).symm, (by omega), (by omega), rfl, rfl⟩ ⟨rfl, rfl, rfl, rfl, trivial⟩ (fun w m => m.pick [0] 1 rfl rfl)
   ·skip
    refine Z2 (Z0 (Z3 rfl) rfl ?_)
    obtain ⟨x129, hx130, hq10⟩ := Z100 hq10
    have hl131 := Z111 hx130
    refine Z0 (Z131 (0) rfl rfl rfl rfl rfl (va0.isSome (by decide) hl131) (by omega)) rfl (Z0 (Z21 rfl rfl rfl (fun w m => va0.cell (Z105 hΦ 1 m rfl) (Z148 hx130))) rfl (Z0 (RV.geq rfl rfl) rfl (Z7 (.bool (decide (1 ≤ x129.toNat))) (congrArg Value.bool (decide_eq_decide.2 (by first | omega | (simp; omega) | simp))) (Z0 (Z3 rfl) rfl ?_))))
    by_cases h132 : 1 ≤ x129.toNat
    ·replace hq10 := if_t hq10 h132
     refine Z7 (.bool true) (congrArg Value.bool (decide_eq_true h132)) (Z24 rfl (Z0 (Z3 rfl) rfl (Z24 rfl ?_)))
     obtain ⟨x133, hx134, hq10⟩ := Z100 hq10
     have hl135 := Z111 hx134
     refine Z0 (Z131 (0) rfl rfl rfl rfl rfl (va0.isSome (by decide) hl135) (by omega)) rfl (Z24 rfl (Z0 (Z21 rfl rfl rfl (fun w m => va0.cell (Z105 hΦ 1 m rfl) (Z148 hx134))) rfl (Z24 rfl (Z0 (RV.leq rfl rfl) rfl (Z7 (.bool (decide (x133.toNat ≤ 4))) (congrArg Value.bool (decide_eq_decide.2 (by first | omega | (simp; omega) | simp))) (Z0 (Z108 rfl rfl rfl) rfl (Z6 ?_)))))))
     exact QW.join ⟨(decide (x133.toNat ≤ 4)), (Zi hq10).symm, rfl, rfl⟩ ⟨rfl, rfl, rfl, rfl, rfl, trivial⟩ (fun w m => m.pick [0] 1 rfl rfl)
    ·replace hq10 := if_f hq10 h132
     refine Z7 (.bool false) (congrArg Value.bool (decide_eq_false h132)) (Z23 rfl rfl rfl (Z23 rfl rfl rfl (Z23 rfl rfl rfl (Z23 rfl rfl rfl (Z0 (Z106 rfl rfl rfl) rfl (Z6 ?_))))))
     exact QW.join ⟨false, (Zi hq10).symm, rfl, rfl⟩ ⟨rfl, rfl, rfl, rfl, rfl, trivial⟩ (fun w m => m.pick [0] 1 rfl rfl)
end Go.Fw.Tryd
