/- Part of a proof: rules that its law uses. -/
import Derived.Test.YtojnakdlnlcmiaaDoorT2
set_option linter.unusedVariables false
set_option linter.unusedSimpArgs false
set_option linter.unusedSectionVars false
set_option maxRecDepth 100000
set_option maxHeartbeats 1000000
namespace Go.Fw.Tryd
open Go Go.Proofs Go.Fw
theorem waybilllaw17_num_does (w0 : World) (Φ : Ctx) (N : List Ent) (hΦ : ∀ w, Mem w0 w N → Φ w) (a0 : Int) (res0 : Int) (ba0 : -9223372036854775808 ≤ a0 ∧ a0 ≤ 9223372036854775807) (hf : waybilllaw17_num a0 = some res0) : DoesG Tryd.prog 15 [.int .i64 a0] w0 [] N (fun v G => (-9223372036854775808 ≤ res0 ∧ res0 ≤ 9223372036854775807) ∧ v = .int .i64 res0) := by
 unfold waybilllaw17_num at hf
 refine DoesG.enter Tryd.func15 rfl Tryd.ntmps15 rfl (M := (([] ++ N))) rfl (Z4 (Z2 (Z0 (Z5 rfl) rfl (Z6 (Z1 (Z4 (Z2 (Z0 (Z3 rfl) rfl (Z0 (Z5 rfl) rfl (Z6 (Z1 (CW.ret ?_))))))))))))
 have e0 := Zi hf
 subst e0
 refine Z109 (rs := [.tmp 2]) ([.int .i64 a0]) ([]) rfl ?_ rfl ?_ ?_ _ (.inl rfl)
 ·exact ⟨rfl, trivial⟩
 ·exact ⟨(by omega), rfl⟩
 ·exact (fun w m => m)
theorem receipt_Gas_does (w0 : World) (Φ : Ctx) (N : List Ent) (hΦ : ∀ w, Mem w0 w N → Φ w) (A0_ : Option Addr) (c0_ : Nat) (cs0_ : List Value) (a0 : List (Rcpt)) (res0 : List (BitVec 64)) (res1 : Nat) (va0 : View Φ A0_ a0.length c0_ 293 cs0_) (ha0 : Reps (RcptRd Φ) cs0_ a0) (hf : receipt_Gas a0 = some (res0, res1)) : DoesG Tryd.prog 13 [.slice A0_ a0.length c0_] w0 [] N (fun v G => ∃ B : List Ent, ∃ or0 : Option Nat, ∃ kr0 : Nat, ∃ rr0 : List Value, (OwnS or0 res0.length kr0 1 (u64s res0) rr0) ∧ (res1 ≤ 9223372036854775807) ∧ v = .tuple #[sl or0 0 res0.length kr0, .int .i64 ((res1 : Nat) : Int)] ∧ G = (or0, blk ((u64s res0) ++ rr0) 25) :: B) := by
 unfold receipt_Gas at hf
 replace va0 := va0.mono (Ψ := More w0 Φ []) (fun w q => q.1)
 replace ha0 := ha0.mono (RcptRd.mono (Ψ := More w0 Φ []) (fun w q => q.1))
 have m1 := va0.mx
 refine DoesG.enter Tryd.func13 rfl Tryd.ntmps13 rfl (M := (([] ++ N))) rfl (Z4 (Z2 (Z0 (Z5 rfl) rfl (Z0 (Z5 rfl) rfl (Z6 (Z1 (Z4 (Z2 (Z0 (Z5 rfl) rfl (Z6 (Z1 (Z4 (Z2 (Z0 (Z5 rfl) rfl ?_))))))))))))))
 refine Z6 (Z1 (Z4 (Z4 (Z2 (Z0 (Z3 rfl) rfl (Z0 (RV.len rfl rfl) rfl (Z0 (Z3 rfl) rfl (Z6 (Z1 ?_)))))))))
 obtain ⟨q2, hq3, hf⟩ := Z102 hf
 refine CW.cutJ (fun L' M' => ∃ l4 : List (BitVec 64), ∃ ob5 : Option Nat, ∃ c6 : Nat, ∃ r7 : List Value, q2 = Lp.go l4 ∧ (OwnS ob5 l4.length c6 1 (u64s l4) r7) ∧ L' = [(4, sl ob5 0 l4.length c6)] ∧ M' = ((ob5, blk ((u64s l4) ++ r7) 25) :: ([] ++ N))) ?_ ?_
 ·rintro L10 M11 ⟨l4, ob5, c6, r7, e9, o8, e12, e13⟩
  rw [e12, e13]
  clear e12 e13 L10 M11
  clear hq3
  rw [e9] at hf
  clear e9
  try dsimp only at hf
  have m14 := o8.mx
  refine Z1 (Z4 (Z2 (Z0 (Z3 rfl) rfl (Z0 (Z5 rfl) rfl (Z0 (Z5 rfl) rfl (Z6 (Z1 (CW.ret ?_))))))))
  have er0 := Zi hf
  obtain ⟨e0, er1⟩ := Prod.mk.inj er0
  clear er0
  subst e0
  subst er1
  refine Z109 (rs := [.tmp 2, .tmp 3]) ([sl ob5 0 l4.length c6, .int .i64 (0 : Int)]) ((ob5, blk ((u64s l4) ++ r7) 25) :: []) rfl ?_ rfl ?_ ?_ _ (.inl rfl)
  ·exact ⟨rfl, rfl, trivial⟩
  ·exact ⟨[], ob5, c6, r7, o8, (by omega), rfl, rfl⟩
  ·exact (fun w m => m.pick [0] 1 rfl rfl)
 ·skip
  refine CW.block (CW.mem (M' := ((none, blk ((u64s ([] : List (BitVec 64))) ++ []) 25) :: ([] ++ N))) (fun w m => m.nil_ent _) (Z115 (fun k L' M' => ∃ l15 : List (BitVec 64), ∃ w20 : BitVec 64, ∃ n21 : Nat, ∃ ob16 : Option Nat, ∃ c17 : Nat, ∃ r18 : List Value, (receipt_Gas.l1 a0 k l15 w20 n21) = some q2 ∧ (OwnS ob16 l15.length c17 1 (u64s l15) r18) ∧ (n21 ≤ 9223372036854775807) ∧ L' = [(4, sl ob16 0 l15.length c17), (5, U64 w20), (8, .slice A0_ a0.length c0_), (9, .int .i64 ((a0.length : Nat) : Int)), (10, .int .i64 ((n21 : Nat) : Int))] ∧ M' = ((ob16, blk ((u64s l15) ++ r18) 25) :: ([] ++ N))) (k0 := (a0.length - 0 + 2)) ⟨([] : List (BitVec 64)), 0#64, 0, none, 0, [], hq3, OwnS.nil, (by omega), rfl, rfl⟩ ⟨rfl, rfl, rfl, rfl, rfl, trivial⟩ (fun w m => m.pick [0] 1 rfl rfl) ?_))
  clear hq3
  rintro k23 L26 M27 ⟨l15, w20, n21, ob16, c17, r18, hl24, o19, b22, e28, e29⟩
  rw [e28, e29]
  clear e28 e29 L26 M27
  rcases k23 with _ | k23
  ·rw [receipt_Gas.l1] at hl24; cases hl24
  rw [receipt_Gas.l1] at hl24
  have m30 := o19.mx
  refine Z4 (Z2 (Z0 (RV.lss rfl rfl) rfl (Z7 (.bool (decide (n21 < a0.length))) (congrArg Value.bool (decide_eq_decide.2 (by omega))) (Z6 (Z1 (Z4 ?_))))))
  by_cases h31 : n21 < a0.length
  ·replace hl24 := if_t hl24 h31
   refine Z13 rfl (decide_eq_true h31) (CW.skip (Z1 (Z4 (CW.block (Z4 (Z2 ?_))))))
   obtain ⟨x32, hx33, hl24⟩ := Z102 hl24
   have hl34 := lt_of_at hx33
   refine Z0 (Z103 (n21) rfl rfl rfl rfl rfl (va0.isSome (by decide) hl34) (by omega)) rfl ?_
   obtain ⟨cs35, h36, h37⟩ := ha0.get RcptRd.len hx33
   have h45 := h36
   obtain ⟨A39, c40, cs42, e44, b38, v41, h43⟩ := RcptRd.opn h36
   subst e44
   have m46 := v41.mx
   refine Z0 (Z104 rfl rfl rfl rfl (fun w m => va0.load (Z118 hΦ 1 m rfl) h37) (RcptC.C_length _)) rfl (OW.alloc (l := (⟨(0 : Int), false, (Vector.replicate 32 0#8), 0#64, 0#64, (Vector.replicate 256 0#8), .slice none 0 0⟩ : RcptC).C) rfl (by kernel_rfl) rfl (fun b47 => (Z28 (SV.storeW rfl rfl rfl (RcptC.C_one _ rfl) rfl (RcptC.C_length _) (RcptC.C_length _)) (Z6 (Z1 (Z4 (Z4 (Z2 (Z0 (Z30 rfl rfl rfl rfl) rfl (Z7 (ptr (some b47) 35) rfl (Z0 (Z29 rfl Zh rfl rfl rfl (Z110 (⟨x32.kind, (x32.rooted), x32.root, x32.status, x32.used, x32.bloom, .slice A39 x32.logs.length c40⟩ : RcptC))) rfl (Z0 (Z3 rfl) rfl ?_))))))))))))
   refine Z0 (RV.lss rfl rfl) rfl (Z7 (.bool (decide (x32.used.toNat < w20.toNat))) (congrArg Value.bool (decide_eq_decide.2 (by first | omega | (simp; omega) | simp))) (Z6 (Z1 ?_)))
   by_cases h48 : x32.used.toNat < w20.toNat
   ·replace hl24 := if_t hl24 h48
    refine Z13 rfl (decide_eq_true h48) (Z4 (Z2 (Z0 (Z5 rfl) rfl (Z0 (Z5 rfl) rfl (Z6 (Z1 (CW.ret (Z8 (Z16 (Z8 (Z8 (Z16 (Z8 ?_)))))))))))))
    have hc := Zi hl24
    subst hc
    try dsimp only at hf
    refine Z8 (QW.mem (M' := ((none, blk ((u64s ([] : List (BitVec 64))) ++ []) 25) :: (some b47, blk (⟨x32.kind, (x32.rooted), x32.root, x32.status, x32.used, x32.bloom, .slice A39 x32.logs.length c40⟩ : RcptC).C 30) :: (ob16, blk ((u64s l15) ++ r18) 25) :: ([] ++ N))) (fun w m => m.nil_ent _) ?_)
    have er0 := Zi hf
    obtain ⟨e0, er1⟩ := Prod.mk.inj er0
    clear er0
    subst e0
    subst er1
    refine Z109 (rs := [.tmp 2, .tmp 3]) ([sl none 0 ([] : List (BitVec 64)).length 0, .int .i64 (172 : Int)]) ((none, blk ((u64s ([] : List (BitVec 64))) ++ []) 25) :: []) rfl ?_ rfl ?_ ?_ _ (.inl rfl)
    ·exact ⟨rfl, rfl, trivial⟩
    ·exact ⟨[], none, 0, [], OwnS.nil, (by omega), rfl, rfl⟩
    ·exact (fun w m => m.pick [0] 3 rfl rfl)
   ·replace hl24 := if_f hl24 h48
    refine Z14 rfl (decide_eq_false h48) (CW.skip (Z1 (Z4 (Z2 (Z0 (Z3 rfl) rfl (Z0 (Z30 rfl rfl rfl rfl) rfl (Z7 (ptr (some b47) 35) rfl (Z0 (Z29 rfl Zh rfl rfl rfl (Z110 (⟨x32.kind, (x32.rooted), x32.root, x32.status, x32.used, x32.bloom, .slice A39 x32.logs.length c40⟩ : RcptC))) rfl (Z0 (Z3 rfl) rfl (Z0 (RV.sub64 rfl (by first | rfl | exact lit64 _ rfl) rfl (by first | rfl | exact lit64 _ rfl)) rfl ?_))))))))))
    refine OW.ofN (NV.bs1 rfl rfl rfl rfl rfl rfl) rfl (fun b49 => (Z20 (M' := (((some b49), blk ((u64s ([(x32.used - w20)] : List (BitVec 64))) ++ []) 25) :: (some b47, blk (⟨x32.kind, (x32.rooted), x32.root, x32.status, x32.used, x32.bloom, .slice A39 x32.logs.length c40⟩ : RcptC).C 30) :: (ob16, blk ((u64s l15) ++ r18) 25) :: ([] ++ N))) (fun w m => by first | exact m | simpa [u64s] using m) ?_))
    have o50 : OwnS (some b49) ([(x32.used - w20)] : List (BitVec 64)).length 1 1 (u64s ([(x32.used - w20)] : List (BitVec 64))) [] := ⟨by simp [u64s], by simp [u64s], (fun h => nomatch h), by simp⟩
    have mx_o50 := o50.mx
    refine Z7 (sl (some b49) 0 ([(x32.used - w20)] : List (BitVec 64)).length 1) (rfl) (OW.rot2 ?_)
    obtain ⟨g51, hl24⟩ := some_if hl24
    refine OW.appendOwn (s := 1) rfl rfl rfl rfl rfl rfl o19 (fun w m => m.rd0 (List.Mem.tail _ Zh) (fun e => o50.nilc (by decide) e)) o50.n (u64s_one _) (o50.zeroO (by decide)) (by decide) (by decide) (by first | omega | (simp only [i25, List.length_nil]; omega)) rfl rfl ((l15 ++ ([(x32.used - w20)] : List (BitVec 64))).length) (u64s (l15 ++ ([(x32.used - w20)] : List (BitVec 64)))) (List.length_append ..).symm (u64s_app _ _) (fun ob52 r53 c54 o55 => ?_)
    have m56 := o55.mx
    refine Z0 (Z5 rfl) rfl (Z6 (Z1 (Z2 (Z0 (Z30 rfl rfl rfl rfl) rfl (Z7 (ptr (some b47) 35) rfl (Z0 (Z29 rfl (List.Mem.tail _ (List.Mem.tail _ Zh)) rfl rfl rfl (Z110 (⟨x32.kind, (x32.rooted), x32.root, x32.status, x32.used, x32.bloom, .slice A39 x32.logs.length c40⟩ : RcptC))) rfl (Z0 (Z5 rfl) rfl (Z6 (Z27 (Z1 (Z2 (Z0 (RV.add rfl rfl (by omega)) rfl ?_))))))))))))
    refine Z7 (.int .i64 (((n21 + 1) : Nat) : Int)) (by first | rfl | (congr 1) | (congr 1; omega)) (Z0 (Z3 rfl) rfl (Z6 ?_))
    exact Z113 (k' := k23) (Nat.lt_succ_self _) ⟨(l15 ++ ([(x32.used - w20)] : List (BitVec 64))), x32.used, (n21 + 1), ob52, c54, r53, hl24, o55, (by omega), rfl, rfl⟩ ⟨rfl, rfl, rfl, rfl, rfl, trivial⟩ (fun w m => m.pick [0] 3 rfl rfl)
  ·replace hl24 := if_f hl24 h31
   refine Z14 rfl (decide_eq_false h31) (CW.exit (Z9 (Z9 (Z15 ?_))))
   exact QW.join ⟨l15, ob16, c17, r18, (Zi hl24).symm, o19, rfl, rfl⟩ ⟨rfl, trivial⟩ (fun w m => m.pick [0] 1 rfl rfl)
theorem waybillref17_Gas_does (w0 : World) (Φ : Ctx) (N : List Ent) (hΦ : ∀ w, Mem w0 w N → Φ w) (A0_ : Option Addr) (c0_ : Nat) (cs0_ : List Value) (a0 : List (Rcpt)) (res0 : List (BitVec 64)) (res1 : Nat) (va0 : View Φ A0_ a0.length c0_ 293 cs0_) (ha0 : Reps (RcptRd Φ) cs0_ a0) (hf : waybillref17_Gas a0 = some (res0, res1)) : DoesG Tryd.prog 14 [.slice A0_ a0.length c0_] w0 [] N (fun v G => ∃ B : List Ent, ∃ or0 : Option Nat, ∃ kr0 : Nat, ∃ rr0 : List Value, (OwnS or0 res0.length kr0 1 (u64s res0) rr0) ∧ (res1 ≤ 9223372036854775807) ∧ v = .tuple #[sl or0 0 res0.length kr0, .int .i64 ((res1 : Nat) : Int)] ∧ G = (or0, blk ((u64s res0) ++ rr0) 25) :: B) := by
 unfold waybillref17_Gas at hf
 replace va0 := va0.mono (Ψ := More w0 Φ []) (fun w q => q.1)
 replace ha0 := ha0.mono (RcptRd.mono (Ψ := More w0 Φ []) (fun w q => q.1))
 have m1 := va0.mx
 refine DoesG.enter Tryd.func14 rfl Tryd.ntmps14 rfl (M := (([] ++ N))) rfl (Z4 (Z2 (Z0 (Z5 rfl) rfl (Z0 (Z5 rfl) rfl (Z6 (Z1 (Z4 (Z2 (Z0 (Z5 rfl) rfl (Z6 (Z1 (Z4 (Z2 (Z0 (Z5 rfl) rfl ?_))))))))))))))
 refine Z6 (Z1 (Z4 (Z4 (Z2 (Z0 (Z5 rfl) rfl (Z6 (Z1 ?_)))))))
 obtain ⟨q2, hq3, hf⟩ := Z102 hf
 refine CW.cutJ (fun L' M' => ∃ l4 : List (BitVec 64), ∃ ob5 : Option Nat, ∃ c6 : Nat, ∃ r7 : List Value, q2 = Lp.go l4 ∧ (OwnS ob5 l4.length c6 1 (u64s l4) r7) ∧ L' = [(4, sl ob5 0 l4.length c6)] ∧ M' = ((ob5, blk ((u64s l4) ++ r7) 25) :: ([] ++ N))) ?_ ?_
 ·rintro L10 M11 ⟨l4, ob5, c6, r7, e9, o8, e12, e13⟩
  rw [e12, e13]
  clear e12 e13 L10 M11
  clear hq3
  rw [e9] at hf
  clear e9
  try dsimp only at hf
  have m14 := o8.mx
  refine Z1 (Z4 (Z2 (Z0 (Z3 rfl) rfl (Z0 (Z5 rfl) rfl (Z0 (Z5 rfl) rfl (Z6 (Z1 (CW.ret ?_))))))))
  have er0 := Zi hf
  obtain ⟨e0, er1⟩ := Prod.mk.inj er0
  clear er0
  subst e0
  subst er1
  refine Z109 (rs := [.tmp 2, .tmp 3]) ([sl ob5 0 l4.length c6, .int .i64 (0 : Int)]) ((ob5, blk ((u64s l4) ++ r7) 25) :: []) rfl ?_ rfl ?_ ?_ _ (.inl rfl)
  ·exact ⟨rfl, rfl, trivial⟩
  ·exact ⟨[], ob5, c6, r7, o8, (by omega), rfl, rfl⟩
  ·exact (fun w m => m.pick [0] 1 rfl rfl)
 ·skip
  refine CW.block (CW.mem (M' := ((none, blk ((u64s ([] : List (BitVec 64))) ++ []) 25) :: ([] ++ N))) (fun w m => m.nil_ent _) (Z115 (fun k L' M' => ∃ l15 : List (BitVec 64), ∃ w20 : BitVec 64, ∃ n21 : Nat, ∃ ob16 : Option Nat, ∃ c17 : Nat, ∃ r18 : List Value, (waybillref17_Gas.l1 a0 k l15 w20 n21) = some q2 ∧ (OwnS ob16 l15.length c17 1 (u64s l15) r18) ∧ (n21 ≤ 9223372036854775807) ∧ L' = [(0, .slice A0_ a0.length c0_), (4, sl ob16 0 l15.length c17), (5, U64 w20), (6, .int .i64 ((n21 : Nat) : Int))] ∧ M' = ((ob16, blk ((u64s l15) ++ r18) 25) :: ([] ++ N))) (k0 := (a0.length - 0 + 2)) ⟨([] : List (BitVec 64)), 0#64, 0, none, 0, [], hq3, OwnS.nil, (by omega), rfl, rfl⟩ ⟨rfl, rfl, rfl, rfl, trivial⟩ (fun w m => m.pick [0] 1 rfl rfl) ?_))
  clear hq3
  rintro k23 L26 M27 ⟨l15, w20, n21, ob16, c17, r18, hl24, o19, b22, e28, e29⟩
  rw [e28, e29]
  clear e28 e29 L26 M27
  rcases k23 with _ | k23
  ·rw [waybillref17_Gas.l1] at hl24; cases hl24
  rw [waybillref17_Gas.l1] at hl24
  have m30 := o19.mx
  refine Z4 (Z4 (Z2 (Z0 (Z3 rfl) rfl (Z0 (Z3 rfl) rfl (Z0 (RV.len rfl rfl) rfl (Z0 (RV.lss rfl rfl) rfl (Z7 (.bool (decide (n21 < a0.length))) (congrArg Value.bool (decide_eq_decide.2 (by omega))) (Z6 (Z1 ?_)))))))))
  by_cases h31 : n21 < a0.length
  ·replace hl24 := if_t hl24 h31
   refine Z13 rfl (decide_eq_true h31) (CW.skip (Z1 (Z4 (CW.block (Z4 (Z4 (Z2 (Z0 (Z3 rfl) rfl (Z0 (Z3 rfl) rfl ?_)))))))))
   obtain ⟨x32, hx33, hl24⟩ := Z102 hl24
   have hl34 := lt_of_at hx33
   refine Z0 (Z103 (n21) rfl rfl rfl rfl rfl (va0.isSome (by decide) hl34) (by omega)) rfl ?_
   obtain ⟨cs35, h36, h37⟩ := ha0.get RcptRd.len hx33
   have h45 := h36
   obtain ⟨A39, c40, cs42, e44, b38, v41, h43⟩ := RcptRd.opn h36
   subst e44
   have m46 := v41.mx
   refine Z0 (Z31 rfl rfl rfl rfl) rfl (Z0 (Z21 rfl rfl rfl (fun w m => va0.load_fld (Z118 hΦ 1 m rfl) h37 (Z110 (⟨x32.kind, (x32.rooted), x32.root, x32.status, x32.used, x32.bloom, .slice A39 x32.logs.length c40⟩ : RcptC)))) rfl (Z0 (Z3 rfl) rfl (Z0 (RV.lss rfl rfl) rfl (Z7 (.bool (decide (x32.used.toNat < w20.toNat))) (congrArg Value.bool (decide_eq_decide.2 (by first | omega | (simp; omega) | simp))) (Z6 (Z1 ?_))))))
   by_cases h47 : x32.used.toNat < w20.toNat
   ·replace hl24 := if_t hl24 h47
    refine Z13 rfl (decide_eq_true h47) (Z4 (Z2 (Z0 (Z5 rfl) rfl (Z0 (Z5 rfl) rfl (Z6 (Z1 (CW.ret (Z8 (Z16 (Z8 (Z8 (Z16 (Z8 ?_)))))))))))))
    have hc := Zi hl24
    subst hc
    try dsimp only at hf
    refine Z8 (QW.mem (M' := ((none, blk ((u64s ([] : List (BitVec 64))) ++ []) 25) :: (ob16, blk ((u64s l15) ++ r18) 25) :: ([] ++ N))) (fun w m => m.nil_ent _) ?_)
    have er0 := Zi hf
    obtain ⟨e0, er1⟩ := Prod.mk.inj er0
    clear er0
    subst e0
    subst er1
    refine Z109 (rs := [.tmp 2, .tmp 3]) ([sl none 0 ([] : List (BitVec 64)).length 0, .int .i64 (172 : Int)]) ((none, blk ((u64s ([] : List (BitVec 64))) ++ []) 25) :: []) rfl ?_ rfl ?_ ?_ _ (.inl rfl)
    ·exact ⟨rfl, rfl, trivial⟩
    ·exact ⟨[], none, 0, [], OwnS.nil, (by omega), rfl, rfl⟩
    ·exact (fun w m => m.pick [0] 2 rfl rfl)
   ·replace hl24 := if_f hl24 h47
    refine Z14 rfl (decide_eq_false h47) (CW.skip (Z1 (Z4 (Z2 (Z0 (Z3 rfl) rfl (Z0 (Z3 rfl) rfl (Z0 (Z3 rfl) rfl ?_)))))))
    obtain ⟨x48, hx49, hl24⟩ := Z102 hl24
    have hl50 := lt_of_at hx49
    refine Z0 (Z103 (n21) rfl rfl rfl rfl rfl (va0.isSome (by decide) hl50) (by omega)) rfl ?_
    obtain ⟨cs51, h52, h53⟩ := ha0.get RcptRd.len hx49
    have h61 := h52
    obtain ⟨A55, c56, cs58, e60, b54, v57, h59⟩ := RcptRd.opn h52
    subst e60
    have m62 := v57.mx
    refine Z0 (Z31 rfl rfl rfl rfl) rfl (Z0 (Z21 rfl rfl rfl (fun w m => va0.load_fld (Z118 hΦ 1 m rfl) h53 (Z110 (⟨x48.kind, (x48.rooted), x48.root, x48.status, x48.used, x48.bloom, .slice A55 x48.logs.length c56⟩ : RcptC)))) rfl (Z0 (Z3 rfl) rfl (Z0 (RV.sub64 rfl (by first | rfl | exact lit64 _ rfl) rfl (by first | rfl | exact lit64 _ rfl)) rfl (OW.ofN (NV.bs1 rfl rfl rfl rfl rfl rfl) rfl (fun b63 => (Z20 (M' := (((some b63), blk ((u64s ([(x48.used - w20)] : List (BitVec 64))) ++ []) 25) :: (ob16, blk ((u64s l15) ++ r18) 25) :: ([] ++ N))) (fun w m => by first | exact m | simpa [u64s] using m) ?_))))))
    have o64 : OwnS (some b63) ([(x48.used - w20)] : List (BitVec 64)).length 1 1 (u64s ([(x48.used - w20)] : List (BitVec 64))) [] := ⟨by simp [u64s], by simp [u64s], (fun h => nomatch h), by simp⟩
    have mx_o64 := o64.mx
    refine Z7 (sl (some b63) 0 ([(x48.used - w20)] : List (BitVec 64)).length 1) (rfl) (OW.rot1 ?_)
    obtain ⟨g65, hl24⟩ := some_if hl24
    refine OW.appendOwn (s := 1) rfl rfl rfl rfl rfl rfl o19 (fun w m => m.rd0 (List.Mem.tail _ Zh) (fun e => o64.nilc (by decide) e)) o64.n (u64s_one _) (o64.zeroO (by decide)) (by decide) (by decide) (by first | omega | (simp only [i25, List.length_nil]; omega)) rfl rfl ((l15 ++ ([(x48.used - w20)] : List (BitVec 64))).length) (u64s (l15 ++ ([(x48.used - w20)] : List (BitVec 64)))) (List.length_append ..).symm (u64s_app _ _) (fun ob66 r67 c68 o69 => ?_)
    have m70 := o69.mx
    refine Z0 (Z5 rfl) rfl (Z6 (Z1 (Z2 (Z0 (Z3 rfl) rfl (Z0 (Z3 rfl) rfl ?_)))))
    obtain ⟨x71, hx72, hl24⟩ := Z102 hl24
    have hl73 := lt_of_at hx72
    refine Z0 (Z103 (n21) rfl rfl rfl rfl rfl (va0.isSome (by decide) hl73) (by omega)) rfl ?_
    obtain ⟨cs74, h75, h76⟩ := ha0.get RcptRd.len hx72
    have h84 := h75
    obtain ⟨A78, c79, cs81, e83, b77, v80, h82⟩ := RcptRd.opn h75
    subst e83
    have m85 := v80.mx
    refine Z0 (Z31 rfl rfl rfl rfl) rfl (Z0 (Z21 rfl rfl rfl (fun w m => va0.load_fld (Z118 hΦ 2 m rfl) h76 (Z110 (⟨x71.kind, (x71.rooted), x71.root, x71.status, x71.used, x71.bloom, .slice A78 x71.logs.length c79⟩ : RcptC)))) rfl (Z0 (Z5 rfl) rfl (Z6 (Z27 (Z1 (Z2 (Z0 (Z3 rfl) rfl (Z0 (RV.add rfl rfl (by omega)) rfl (Z7 (.int .i64 (((n21 + 1) : Nat) : Int)) (by first | rfl | (congr 1) | (congr 1; omega)) (Z0 (Z5 rfl) rfl ?_))))))))))
    refine Z6 ?_
    exact Z113 (k' := k23) (Nat.lt_succ_self _) ⟨(l15 ++ ([(x48.used - w20)] : List (BitVec 64))), x71.used, (n21 + 1), ob66, c68, r67, hl24, o69, (by omega), rfl, rfl⟩ ⟨rfl, rfl, rfl, rfl, trivial⟩ (fun w m => m.pick [0] 2 rfl rfl)
  ·replace hl24 := if_f hl24 h31
   refine Z14 rfl (decide_eq_false h31) (CW.exit (Z9 (Z9 (Z15 ?_))))
   exact QW.join ⟨l15, ob16, c17, r18, (Zi hl24).symm, o19, rfl, rfl⟩ ⟨rfl, trivial⟩ (fun w m => m.pick [0] 1 rfl rfl)
theorem waybilllaw17_same_does (w0 : World) (Φ : Ctx) (N : List Ent) (hΦ : ∀ w, Mem w0 w N → Φ w) (A0_ : Option Addr) (c0_ : Nat) (a0 : List (BitVec 8)) (A1_ : Option Addr) (c1_ : Nat) (a1 : List (BitVec 8)) (res0 : Bool) (va0 : View Φ A0_ a0.length c0_ 1 (u8s a0)) (va1 : View Φ A1_ a1.length c1_ 1 (u8s a1)) (hf : waybilllaw17_same a0 a1 = some res0) : DoesG Tryd.prog 35 [.slice A0_ a0.length c0_, .slice A1_ a1.length c1_] w0 [] N (fun v G => v = .bool res0) := by
 unfold waybilllaw17_same at hf
 replace va0 := va0.mono (Ψ := More w0 Φ []) (fun w q => q.1)
 replace va1 := va1.mono (Ψ := More w0 Φ []) (fun w q => q.1)
 have m1 := va0.mx
 have m2 := va1.mx
 refine DoesG.enter Tryd.func35 rfl Tryd.ntmps35 rfl (M := (([] ++ N))) rfl (Z4 (Z2 (Z0 (Z5 rfl) rfl (Z6 (Z1 (Z4 (Z4 (Z2 (Z0 (Z3 rfl) rfl (Z0 (RV.len rfl rfl) rfl (Z0 (Z3 rfl) rfl (Z0 (RV.len rfl rfl) rfl ?_))))))))))))
 refine Z0 (RV.neq rfl rfl) rfl (Z7 (.bool (!decide (a0.length = a1.length))) (congrArg (fun b => Value.bool (!b)) (decide_eq_decide.2 (by omega))) (Z6 (Z1 ?_)))
 by_cases h3 : a0.length = a1.length
 ·replace hf := if_t hf h3
  refine Z14 rfl (congrArg (fun b => !b) (decide_eq_true h3)) (CW.skip (Z1 (Z4 (Z4 (Z2 (Z0 (Z5 rfl) rfl (Z6 (Z1 ?_))))))))
  obtain ⟨q4, hq5, hf⟩ := Z102 hf
  refine CW.cutJ (fun L' M' => q4 = Lp.go () ∧ L' = [] ∧ M' = (([] ++ N))) ?_ ?_
  ·rintro L7 M8 ⟨e6, e9, e10⟩
   rw [e9, e10]
   clear e9 e10 L7 M8
   clear hq5
   rw [e6] at hf
   clear e6
   try dsimp only at hf
   refine Z1 (Z4 (Z2 (Z0 (Z5 rfl) rfl (Z6 (Z1 (CW.ret ?_))))))
   have e0 := Zi hf
   subst e0
   refine Z109 (rs := [.tmp 4]) ([.bool true]) ([]) rfl ?_ rfl ?_ ?_ _ (.inl rfl)
   ·exact ⟨rfl, trivial⟩
   ·exact rfl
   ·exact (fun w m => m)
  ·skip
   refine CW.block (Z115 (fun k L' M' => ∃ n11 : Nat, (waybilllaw17_same.l1 a0 a1 k n11) = some q4 ∧ (n11 ≤ 9223372036854775807) ∧ L' = [(0, .slice A0_ a0.length c0_), (1, .slice A1_ a1.length c1_), (5, .int .i64 ((n11 : Nat) : Int))] ∧ M' = (([] ++ N))) (k0 := (a0.length - 0 + 2)) ⟨0, hq5, (by omega), rfl, rfl⟩ ⟨rfl, rfl, rfl, trivial⟩ (fun w m => m.pick [] 0 rfl rfl) ?_)
   clear hq5
   rintro k13 L16 M17 ⟨n11, hl14, b12, e18, e19⟩
   rw [e18, e19]
   clear e18 e19 L16 M17
   rcases k13 with _ | k13
   ·rw [waybilllaw17_same.l1] at hl14; cases hl14
   rw [waybilllaw17_same.l1] at hl14
   refine Z4 (Z4 (Z2 (Z0 (Z3 rfl) rfl (Z0 (Z3 rfl) rfl (Z0 (RV.len rfl rfl) rfl (Z0 (RV.lss rfl rfl) rfl (Z7 (.bool (decide (n11 < a0.length))) (congrArg Value.bool (decide_eq_decide.2 (by omega))) (Z6 (Z1 ?_)))))))))
   by_cases h20 : n11 < a0.length
   ·replace hl14 := if_t hl14 h20
    refine Z13 rfl (decide_eq_true h20) (CW.skip (Z1 (Z4 (CW.block (Z4 (CW.drawsU 9 mixed (by kernel_rfl) rfl (Z18 0 rfl (by kernel_rfl) rfl (Z3 rfl) rfl (Z18 1 rfl (by kernel_rfl) rfl (Z3 rfl) rfl ?_))))))))
    obtain ⟨x21, hx22, hl14⟩ := Z102 hl14
    have hl23 := lt_of_at hx22
    refine Z18 2 rfl (by kernel_rfl) rfl (RV.idx_r (n11) rfl rfl rfl rfl rfl (va0.isSome (by decide) hl23) (by omega)) rfl (Z18 3 rfl (by kernel_rfl) rfl (Z21 rfl rfl rfl (fun w m => va0.cell (Z118 hΦ 0 m rfl) (u8s_at hx22))) rfl (Z18 4 rfl (by kernel_rfl) rfl (Z3 rfl) rfl (Z18 5 rfl (by kernel_rfl) rfl (Z3 rfl) rfl ?_)))
    obtain ⟨x24, hx25, hl14⟩ := Z102 hl14
    have hl26 := lt_of_at hx25
    refine Z18 6 rfl (by kernel_rfl) rfl (RV.idx_r (n11) rfl rfl rfl rfl rfl (va1.isSome (by decide) hl26) (by omega)) rfl (Z18 7 rfl (by kernel_rfl) rfl (Z21 rfl rfl rfl (fun w m => va1.cell (Z118 hΦ 0 m rfl) (u8s_at hx25))) rfl (Z18 8 rfl (by kernel_rfl) rfl (RV.neq8 rfl (by first | rfl | exact lit8 _ rfl) rfl (by first | rfl | exact lit8 _ rfl)) rfl (UW.nil (by kernel_rfl) (Z6 (Z1 ?_)))))
    by_cases h27 : x21 = x24
    ·replace hl14 := if_t hl14 h27
     refine Z14 rfl (congrArg (fun b => !b) (decide_eq_true h27)) (CW.skip (Z27 (Z1 (Z2 (Z0 (Z3 rfl) rfl (Z0 (RV.add rfl rfl (by omega)) rfl (Z7 (.int .i64 (((n11 + 1) : Nat) : Int)) (by first | rfl | (congr 1) | (congr 1; omega)) (Z0 (Z5 rfl) rfl (Z6 ?_)))))))))
     exact Z113 (k' := k13) (Nat.lt_succ_self _) ⟨(n11 + 1), hl14, (by omega), rfl, rfl⟩ ⟨rfl, rfl, rfl, trivial⟩ (fun w m => m.pick [] 0 rfl rfl)
    ·replace hl14 := if_f hl14 h27
     refine Z13 rfl (congrArg (fun b => !b) (decide_eq_false h27)) (Z4 (Z2 (Z0 (Z5 rfl) rfl (Z6 (Z1 (CW.ret (Z16 (Z8 (Z8 (Z16 (Z8 ?_)))))))))))
     have hc := Zi hl14
     subst hc
     try dsimp only at hf
     refine Z8 ?_
     have e0 := Zi hf
     subst e0
     refine Z109 (rs := [.tmp 4]) ([.bool false]) ([]) rfl ?_ rfl ?_ ?_ _ (.inl rfl)
     ·exact ⟨rfl, trivial⟩
     ·exact rfl
     ·exact (fun w m => m)
   ·replace hl14 := if_f hl14 h20
    refine Z14 rfl (decide_eq_false h20) (CW.exit (Z9 (Z9 (Z15 ?_))))
    exact QW.join ⟨(Zi hl14).symm, rfl, rfl⟩ trivial (fun w m => m.pick [] 0 rfl rfl)
 ·replace hf := if_f hf h3
  refine Z13 rfl (congrArg (fun b => !b) (decide_eq_false h3)) (Z4 (Z2 (Z0 (Z5 rfl) rfl (Z6 (Z1 (CW.ret (Z8 ?_)))))))
  have e0 := Zi hf
  subst e0
  refine Z109 (rs := [.tmp 4]) ([.bool false]) ([]) rfl ?_ rfl ?_ ?_ _ (.inl rfl)
  ·exact ⟨rfl, trivial⟩
  ·exact rfl
  ·exact (fun w m => m)
theorem waybilllaw17_sameLog_does (w0 : World) (Φ : Ctx) (N : List Ent) (hΦ : ∀ w, Mem w0 w N → Φ w) (cs0_ : List Value) (a0 : Log) (cs1_ : List Value) (a1 : Log) (res0 : Bool) (ha0 : LogRd Φ cs0_ a0) (ha1 : LogRd Φ cs1_ a1) (hf : waybilllaw17_sameLog a0 a1 = some res0) : DoesG Tryd.prog 76 [.agg cs0_.toArray, .agg cs1_.toArray] w0 [] N (fun v G => v = .bool res0) := by
 unfold waybilllaw17_sameLog at hf
 replace ha0 := LogRd.mono (Ψ := More w0 Φ []) (fun w q => q.1) _ _ ha0
 have h10 := ha0
 obtain ⟨A1, c2, cs4, A6, c7, e9, v3, h5, v8⟩ := LogRd.opn ha0
 subst e9
 have m11 := v3.mx
 have m12 := v8.mx
 replace ha1 := LogRd.mono (Ψ := More w0 Φ []) (fun w q => q.1) _ _ ha1
 have h22 := ha1
 obtain ⟨A13, c14, cs16, A18, c19, e21, v15, h17, v20⟩ := LogRd.opn ha1
 subst e21
 have m23 := v15.mx
 have m24 := v20.mx
 refine DoesG.enter Tryd.func76 rfl Tryd.ntmps76 rfl (M := (([] ++ N))) rfl (Z4 (Z2 (OW.boxA rfl rfl (fun b25 => (OW.boxA rfl rfl (fun b26 => (Z0 (Z5 rfl) rfl (Z6 (Z1 (Z4 (Z4 ?_)))))))))))
 obtain ⟨q27, hq28, hf⟩ := Z102 hf
 refine CW.cutJ (fun L' M' => ∃ p29 : Bool, q27 = p29 ∧ L' = [(2, ptr (some b25) 0), (3, ptr (some b26) 0), (19, .bool (p29))] ∧ M' = ((some b26, blk (⟨a1.address, .slice A13 a1.topics.length c14, .slice A18 a1.data.length c19⟩ : LogC).C 63) :: (some b25, blk (⟨a0.address, .slice A1 a0.topics.length c2, .slice A6 a0.data.length c7⟩ : LogC).C 63) :: ([] ++ N))) ?_ ?_
 ·rintro L31 M32 ⟨p29, e30, e33, e34⟩
  rw [e33, e34]
  clear e33 e34 L31 M32
  clear hq28
  rw [e30] at hf
  clear e30
  try dsimp only at hf
  refine Z1 ?_
  by_cases h35 : p29 = true
  ·replace hf := if_t hf h35
   refine Z13 rfl (h35) (Z4 (Z2 (Z0 (Z5 rfl) rfl (Z6 (Z1 (CW.ret (Z8 ?_)))))))
   have e0 := Zi hf
   subst e0
   refine Z109 (rs := [.tmp 4]) ([.bool false]) ((some b26, blk (⟨a1.address, .slice A13 a1.topics.length c14, .slice A18 a1.data.length c19⟩ : LogC).C 63) :: (some b25, blk (⟨a0.address, .slice A1 a0.topics.length c2, .slice A6 a0.data.length c7⟩ : LogC).C 63) :: []) rfl ?_ rfl ?_ ?_ _ (.inl rfl)
   ·exact ⟨rfl, trivial⟩
   ·exact rfl
   ·exact (fun w m => m)
  ·replace hf := if_f hf h35
   refine Z14 rfl (Bool.eq_false_iff.2 h35) (CW.skip (Z1 (Z4 (Z4 (Z2 (Z0 (Z5 rfl) rfl (Z6 (Z1 ?_))))))))
   obtain ⟨q36, hq37, hf⟩ := Z102 hf
   refine CW.cutJ (fun L' M' => q36 = Lp.go () ∧ L' = [(2, ptr (some b25) 0), (3, ptr (some b26) 0)] ∧ M' = ((some b26, blk (⟨a1.address, .slice A13 a1.topics.length c14, .slice A18 a1.data.length c19⟩ : LogC).C 63) :: (some b25, blk (⟨a0.address, .slice A1 a0.topics.length c2, .slice A6 a0.data.length c7⟩ : LogC).C 63) :: ([] ++ N))) ?_ ?_
   ·rintro L39 M40 ⟨e38, e41, e42⟩
    rw [e41, e42]
    clear e41 e42 L39 M40
    clear hq37
    rw [e38] at hf
    clear e38
    try dsimp only at hf
    refine Z1 (Z4 (Z2 (Z0 (Z30 rfl rfl rfl rfl) rfl (Z7 (ptr (some b25) 21) rfl (Z0 (Z29 rfl (List.Mem.tail _ Zh) rfl rfl rfl (LogC.C_data (⟨a0.address, .slice A1 a0.topics.length c2, .slice A6 a0.data.length c7⟩ : LogC))) rfl (Z0 (Z30 rfl rfl rfl rfl) rfl (Z7 (ptr (some b26) 21) rfl (Z0 (Z29 rfl Zh rfl rfl rfl (LogC.C_data (⟨a1.address, .slice A13 a1.topics.length c14, .slice A18 a1.data.length c19⟩ : LogC))) rfl ?_))))))))
    obtain ⟨x44, hx43, hf⟩ := Z102 hf
    refine Z12 Tryd.call35 rfl (waybilllaw17_same_does w0 (More w0 Φ []) ((some b26, blk (⟨a1.address, .slice A13 a1.topics.length c14, .slice A18 a1.data.length c19⟩ : LogC).C 63) :: (some b25, blk (⟨a0.address, .slice A1 a0.topics.length c2, .slice A6 a0.data.length c7⟩ : LogC).C 63) :: ([] ++ N)) (fun w m => Z118 hΦ 2 m rfl) A6 c7 a0.data A18 c19 a1.data x44 v8 v20 hx43) rfl rfl ?_
    rintro _ G45 rfl
    refine Z20 (M' := ((some b26, blk (⟨a1.address, .slice A13 a1.topics.length c14, .slice A18 a1.data.length c19⟩ : LogC).C 63) :: (some b25, blk (⟨a0.address, .slice A1 a0.topics.length c2, .slice A6 a0.data.length c7⟩ : LogC).C 63) :: ([] ++ N))) (fun w m => m.appR) (Z0 (Z5 rfl) rfl (Z6 (Z1 (CW.ret ?_))))
    have e0 := Zi hf
    subst e0
    refine Z109 (rs := [.tmp 4]) ([.bool (x44)]) ((some b26, blk (⟨a1.address, .slice A13 a1.topics.length c14, .slice A18 a1.data.length c19⟩ : LogC).C 63) :: (some b25, blk (⟨a0.address, .slice A1 a0.topics.length c2, .slice A6 a0.data.length c7⟩ : LogC).C 63) :: []) rfl ?_ rfl ?_ ?_ _ (.inl rfl)
    ·exact ⟨rfl, trivial⟩
    ·exact rfl
    ·exact (fun w m => m)
   ·skip
    refine CW.block (Z115 (fun k L' M' => ∃ n47 : Nat, (waybilllaw17_sameLog.l1 a0 a1 k n47) = some q36 ∧ (n47 ≤ 9223372036854775807) ∧ L' = [(2, ptr (some b25) 0), (3, ptr (some b26) 0), (5, .int .i64 ((n47 : Nat) : Int))] ∧ M' = ((some b26, blk (⟨a1.address, .slice A13 a1.topics.length c14, .slice A18 a1.data.length c19⟩ : LogC).C 63) :: (some b25, blk (⟨a0.address, .slice A1 a0.topics.length c2, .slice A6 a0.data.length c7⟩ : LogC).C 63) :: ([] ++ N))) (k0 := (a0.topics.length - 0 + 2)) ⟨0, hq37, (by omega), rfl, rfl⟩ ⟨rfl, rfl, rfl, trivial⟩ (fun w m => m.pick [0, 1] 2 rfl rfl) ?_)
    clear hq37
    rintro k49 L52 M53 ⟨n47, hl50, b48, e54, e55⟩
    rw [e54, e55]
    clear e54 e55 L52 M53
    rcases k49 with _ | k49
    ·rw [waybilllaw17_sameLog.l1] at hl50; cases hl50
    rw [waybilllaw17_sameLog.l1] at hl50
    refine Z4 (Z4 (Z2 (Z0 (Z3 rfl) rfl (Z0 (Z30 rfl rfl rfl rfl) rfl (Z7 (ptr (some b25) 20) rfl (Z0 (Z29 rfl (List.Mem.tail _ Zh) rfl rfl rfl (Z111 (⟨a0.address, .slice A1 a0.topics.length c2, .slice A6 a0.data.length c7⟩ : LogC))) rfl (Z0 (RV.len rfl rfl) rfl (Z0 (RV.lss rfl rfl) rfl (Z7 (.bool (decide (n47 < a0.topics.length))) (congrArg Value.bool (decide_eq_decide.2 (by omega))) ?_)))))))))
    refine Z6 (Z1 ?_)
    by_cases h56 : n47 < a0.topics.length
    ·replace hl50 := if_t hl50 h56
     refine Z13 rfl (decide_eq_true h56) (CW.skip (Z1 (Z4 (CW.block (Z4 (CW.drawsU 11 mixed (by kernel_rfl) rfl (Z18 0 rfl (by kernel_rfl) rfl (Z30 rfl rfl rfl rfl) rfl (UW.slot (ptr (some b25) 20) rfl (Z18 1 rfl (by kernel_rfl) rfl (Z29 rfl (List.Mem.tail _ Zh) rfl rfl rfl (Z111 (⟨a0.address, .slice A1 a0.topics.length c2, .slice A6 a0.data.length c7⟩ : LogC))) rfl (Z18 2 rfl (by kernel_rfl) rfl (Z3 rfl) rfl ?_))))))))))
     obtain ⟨x57, hx58, hl50⟩ := Z102 hl50
     have hl59 := lt_of_at hx58
     refine Z18 3 rfl (by kernel_rfl) rfl (Z103 (n47) rfl rfl rfl rfl rfl (v3.isSome (by decide) hl59) (by omega)) rfl ?_
     obtain ⟨cs60, h61, h62⟩ := h5.get Ar8Rd.len hx58
     have h61a := h61
     subst h61a
     refine Z18 4 rfl (by kernel_rfl) rfl (Z104 rfl rfl rfl rfl (fun w m => v3.load (Z118 hΦ 2 m rfl) h62) ((Z100 _).trans Zv)) rfl (Z18 5 rfl (by kernel_rfl) rfl (Z30 rfl rfl rfl rfl) rfl (UW.slot (ptr (some b26) 20) rfl (Z18 6 rfl (by kernel_rfl) rfl (Z29 rfl Zh rfl rfl rfl (Z111 (⟨a1.address, .slice A13 a1.topics.length c14, .slice A18 a1.data.length c19⟩ : LogC))) rfl (Z18 7 rfl (by kernel_rfl) rfl (Z3 rfl) rfl ?_))))
     obtain ⟨x63, hx64, hl50⟩ := Z102 hl50
     have hl65 := lt_of_at hx64
     refine Z18 8 rfl (by kernel_rfl) rfl (Z103 (n47) rfl rfl rfl rfl rfl (v15.isSome (by decide) hl65) (by omega)) rfl ?_
     obtain ⟨cs66, h67, h68⟩ := h17.get Ar8Rd.len hx64
     have h67a := h67
     subst h67a
     refine Z18 9 rfl (by kernel_rfl) rfl (Z104 rfl rfl rfl rfl (fun w m => v15.load (Z118 hΦ 2 m rfl) h68) ((Z100 _).trans Zv)) rfl (Z18 10 rfl (by kernel_rfl) rfl (RV.neA8 rfl rfl rfl rfl rfl rfl (Zv) (Zv)) rfl (UW.slot (.bool (!decide (x57 = x63))) (congrArg (fun b => Value.bool (!b)) (decide_eq_decide.2 Vector.toList_inj)) (UW.nil (by kernel_rfl) (Z6 (Z1 ?_)))))
     by_cases h69 : x57 = x63
     ·replace hl50 := if_t hl50 h69
      refine Z14 rfl (congrArg (fun b => !b) (decide_eq_true h69)) (CW.skip (Z27 (Z1 (Z2 (Z0 (Z3 rfl) rfl (Z0 (RV.add rfl rfl (by omega)) rfl (Z7 (.int .i64 (((n47 + 1) : Nat) : Int)) (by first | rfl | (congr 1) | (congr 1; omega)) (Z0 (Z5 rfl) rfl (Z6 ?_)))))))))
      exact Z113 (k' := k49) (Nat.lt_succ_self _) ⟨(n47 + 1), hl50, (by omega), rfl, rfl⟩ ⟨rfl, rfl, rfl, trivial⟩ (fun w m => m.pick [0, 1] 2 rfl rfl)
     ·replace hl50 := if_f hl50 h69
      refine Z13 rfl (congrArg (fun b => !b) (decide_eq_false h69)) (Z4 (Z2 (Z0 (Z5 rfl) rfl (Z6 (Z1 (CW.ret (Z16 (Z8 (Z8 (Z16 (Z8 ?_)))))))))))
      have hc := Zi hl50
      subst hc
      try dsimp only at hf
      refine Z8 ?_
      have e0 := Zi hf
      subst e0
      refine Z109 (rs := [.tmp 4]) ([.bool false]) ((some b26, blk (⟨a1.address, .slice A13 a1.topics.length c14, .slice A18 a1.data.length c19⟩ : LogC).C 63) :: (some b25, blk (⟨a0.address, .slice A1 a0.topics.length c2, .slice A6 a0.data.length c7⟩ : LogC).C 63) :: []) rfl ?_ rfl ?_ ?_ _ (.inl rfl)
      ·exact ⟨rfl, trivial⟩
      ·exact rfl
      ·exact (fun w m => m)
    ·replace hl50 := if_f hl50 h56
     refine Z14 rfl (decide_eq_false h56) (CW.exit (Z9 (Z9 (Z15 ?_))))
     exact QW.join ⟨(Zi hl50).symm, rfl, rfl⟩ ⟨rfl, rfl, trivial⟩ (fun w m => m.pick [0, 1] 2 rfl rfl)
 ·skip
  refine Z2 (Z0 (Z30 rfl rfl rfl rfl) rfl (Z7 (ptr (some b25) 0) rfl (Z0 (RV.loadAo rfl (List.Mem.tail _ Zh) rfl rfl rfl rfl (Z106 (⟨a0.address, .slice A1 a0.topics.length c2, .slice A6 a0.data.length c7⟩ : LogC)) ((Z100 _).trans Zv)) rfl (Z0 (Z30 rfl rfl rfl rfl) rfl (Z7 (ptr (some b26) 0) rfl (Z0 (RV.loadAo rfl Zh rfl rfl rfl rfl (Z106 (⟨a1.address, .slice A13 a1.topics.length c14, .slice A18 a1.data.length c19⟩ : LogC)) ((Z100 _).trans Zv)) rfl (Z0 (RV.neA8 rfl rfl rfl rfl rfl rfl (Zv) (Zv)) rfl ?_)))))))
  refine Z7 (.bool (!decide (a0.address = a1.address))) (congrArg (fun b => Value.bool (!b)) (decide_eq_decide.2 Vector.toList_inj)) (Z0 (Z3 rfl) rfl ?_)
  by_cases h70 : a0.address = a1.address
  ·replace hq28 := if_t hq28 h70
   refine Z7 (.bool false) (congrArg Value.bool (congrArg (fun b => !b) (decide_eq_true h70))) (Z24 rfl (Z0 (Z30 rfl rfl rfl rfl) rfl (Z7 (ptr (some b25) 20) rfl (Z24 rfl (Z0 (Z29 rfl (List.Mem.tail _ Zh) rfl rfl rfl (Z111 (⟨a0.address, .slice A1 a0.topics.length c2, .slice A6 a0.data.length c7⟩ : LogC))) rfl (Z24 rfl (Z0 (RV.len rfl rfl) rfl ?_)))))))
   refine Z24 rfl (Z0 (Z30 rfl rfl rfl rfl) rfl (Z7 (ptr (some b26) 20) rfl (Z24 rfl (Z0 (Z29 rfl Zh rfl rfl rfl (Z111 (⟨a1.address, .slice A13 a1.topics.length c14, .slice A18 a1.data.length c19⟩ : LogC))) rfl (Z24 rfl (Z0 (RV.len rfl rfl) rfl (Z24 rfl ?_)))))))
   refine Z0 (RV.neq rfl rfl) rfl (Z7 (.bool (!decide (a0.topics.length = a1.topics.length))) (congrArg (fun b => Value.bool (!b)) (decide_eq_decide.2 (by omega))) (Z0 (Z114 rfl rfl rfl) rfl (Z6 ?_)))
   exact QW.join ⟨(!decide (a0.topics.length = a1.topics.length)), (Zi hq28).symm, rfl, rfl⟩ ⟨rfl, rfl, rfl, trivial⟩ (fun w m => m.pick [0, 1] 2 rfl rfl)
  ·replace hq28 := if_f hq28 h70
   refine Z7 (.bool true) (congrArg Value.bool (congrArg (fun b => !b) (decide_eq_false h70))) (Z23 rfl rfl rfl (Z23 rfl rfl rfl (Z23 rfl rfl rfl (Z23 rfl rfl rfl (Z23 rfl rfl rfl (Z23 rfl rfl rfl (Z23 rfl rfl rfl ?_)))))))
   refine Z0 (Z112 rfl rfl rfl) rfl (Z6 ?_)
   exact QW.join ⟨true, (Zi hq28).symm, rfl, rfl⟩ ⟨rfl, rfl, rfl, trivial⟩ (fun w m => m.pick [0, 1] 2 rfl rfl)
theorem waybilllaw17_sameLogs_does (w0 : World) (Φ : Ctx) (N : List Ent) (hΦ : ∀ w, Mem w0 w N → Φ w) (A0_ : Option Addr) (c0_ : Nat) (cs0_ : List Value) (a0 : List (Log)) (A1_ : Option Addr) (c1_ : Nat) (cs1_ : List Value) (a1 : List (Log)) (res0 : Bool) (va0 : View Φ A0_ a0.length c0_ 22 cs0_) (ha0 : Reps (LogRd Φ) cs0_ a0) (va1 : View Φ A1_ a1.length c1_ 22 cs1_) (ha1 : Reps (LogRd Φ) cs1_ a1) (hf : waybilllaw17_sameLogs a0 a1 = some res0) : DoesG Tryd.prog 45 [.slice A0_ a0.length c0_, .slice A1_ a1.length c1_] w0 [] N (fun v G => v = .bool res0) := by
 unfold waybilllaw17_sameLogs at hf
 replace va0 := va0.mono (Ψ := More w0 Φ []) (fun w q => q.1)
 replace va1 := va1.mono (Ψ := More w0 Φ []) (fun w q => q.1)
 replace ha0 := ha0.mono (LogRd.mono (Ψ := More w0 Φ []) (fun w q => q.1))
 replace ha1 := ha1.mono (LogRd.mono (Ψ := More w0 Φ []) (fun w q => q.1))
 have m1 := va0.mx
 have m2 := va1.mx
 refine DoesG.enter Tryd.func45 rfl Tryd.ntmps45 rfl (M := (([] ++ N))) rfl (Z4 (Z2 (Z0 (Z5 rfl) rfl (Z6 (Z1 (Z4 (Z4 (Z2 (Z0 (Z3 rfl) rfl (Z0 (RV.len rfl rfl) rfl (Z0 (Z3 rfl) rfl (Z0 (RV.len rfl rfl) rfl ?_))))))))))))
 refine Z0 (RV.neq rfl rfl) rfl (Z7 (.bool (!decide (a0.length = a1.length))) (congrArg (fun b => Value.bool (!b)) (decide_eq_decide.2 (by omega))) (Z6 (Z1 ?_)))
 by_cases h3 : a0.length = a1.length
 ·replace hf := if_t hf h3
  refine Z14 rfl (congrArg (fun b => !b) (decide_eq_true h3)) (CW.skip (Z1 (Z4 (Z4 (Z2 (Z0 (Z5 rfl) rfl (Z6 (Z1 ?_))))))))
  obtain ⟨q4, hq5, hf⟩ := Z102 hf
  refine CW.cutJ (fun L' M' => q4 = Lp.go () ∧ L' = [] ∧ M' = (([] ++ N))) ?_ ?_
  ·rintro L7 M8 ⟨e6, e9, e10⟩
   rw [e9, e10]
   clear e9 e10 L7 M8
   clear hq5
   rw [e6] at hf
   clear e6
   try dsimp only at hf
   refine Z1 (Z4 (Z2 (Z0 (Z5 rfl) rfl (Z6 (Z1 (CW.ret ?_))))))
   have e0 := Zi hf
   subst e0
   refine Z109 (rs := [.tmp 4]) ([.bool true]) ([]) rfl ?_ rfl ?_ ?_ _ (.inl rfl)
   ·exact ⟨rfl, trivial⟩
   ·exact rfl
   ·exact (fun w m => m)
  ·skip
   refine CW.block (Z115 (fun k L' M' => ∃ n11 : Nat, (waybilllaw17_sameLogs.l1 a0 a1 k n11) = some q4 ∧ (n11 ≤ 9223372036854775807) ∧ L' = [(0, .slice A0_ a0.length c0_), (1, .slice A1_ a1.length c1_), (5, .int .i64 ((n11 : Nat) : Int))] ∧ M' = (([] ++ N))) (k0 := (a0.length - 0 + 2)) ⟨0, hq5, (by omega), rfl, rfl⟩ ⟨rfl, rfl, rfl, trivial⟩ (fun w m => m.pick [] 0 rfl rfl) ?_)
   clear hq5
   rintro k13 L16 M17 ⟨n11, hl14, b12, e18, e19⟩
   rw [e18, e19]
   clear e18 e19 L16 M17
   rcases k13 with _ | k13
   ·rw [waybilllaw17_sameLogs.l1] at hl14; cases hl14
   rw [waybilllaw17_sameLogs.l1] at hl14
   refine Z4 (Z4 (Z2 (Z0 (Z3 rfl) rfl (Z0 (Z3 rfl) rfl (Z0 (RV.len rfl rfl) rfl (Z0 (RV.lss rfl rfl) rfl (Z7 (.bool (decide (n11 < a0.length))) (congrArg Value.bool (decide_eq_decide.2 (by omega))) (Z6 (Z1 ?_)))))))))
   by_cases h20 : n11 < a0.length
   ·replace hl14 := if_t hl14 h20
    refine Z13 rfl (decide_eq_true h20) (CW.skip (Z1 (Z4 (CW.block (Z4 (CW.drawsU 10 mixed (by kernel_rfl) rfl (Z18 0 rfl (by kernel_rfl) rfl (Z3 rfl) rfl (Z18 1 rfl (by kernel_rfl) rfl (Z3 rfl) rfl ?_))))))))
    obtain ⟨x21, hx22, hl14⟩ := Z102 hl14
    have hl23 := lt_of_at hx22
    refine Z18 2 rfl (by kernel_rfl) rfl (Z103 (n11) rfl rfl rfl rfl rfl (va0.isSome (by decide) hl23) (by omega)) rfl ?_
    obtain ⟨cs24, h25, h26⟩ := ha0.get LogRd.len hx22
    have h36 := h25
    obtain ⟨A27, c28, cs30, A32, c33, e35, v29, h31, v34⟩ := LogRd.opn h25
    subst e35
    have m37 := v29.mx
    have m38 := v34.mx
    refine Z18 3 rfl (by kernel_rfl) rfl (Z104 rfl rfl rfl rfl (fun w m => va0.load (Z118 hΦ 0 m rfl) h26) (LogC.C_length _)) rfl (Z18 4 rfl (by kernel_rfl) rfl (Z3 rfl) rfl (Z18 5 rfl (by kernel_rfl) rfl (Z3 rfl) rfl ?_))
    obtain ⟨x39, hx40, hl14⟩ := Z102 hl14
    have hl41 := lt_of_at hx40
    refine Z18 6 rfl (by kernel_rfl) rfl (Z103 (n11) rfl rfl rfl rfl rfl (va1.isSome (by decide) hl41) (by omega)) rfl ?_
    obtain ⟨cs42, h43, h44⟩ := ha1.get LogRd.len hx40
    have h54 := h43
    obtain ⟨A45, c46, cs48, A50, c51, e53, v47, h49, v52⟩ := LogRd.opn h43
    subst e53
    have m55 := v47.mx
    have m56 := v52.mx
    refine Z18 7 rfl (by kernel_rfl) rfl (Z104 rfl rfl rfl rfl (fun w m => va1.load (Z118 hΦ 0 m rfl) h44) (LogC.C_length _)) rfl ?_
    obtain ⟨x58, hx57, hl14⟩ := Z102 hl14
    refine Z25 8 rfl (by kernel_rfl) rfl Tryd.call76 rfl (fun N' hN' => waybilllaw17_sameLog_does w0 (More w0 Φ []) N' (fun w m => Z118 hΦ 0 (hN' w m) rfl) (⟨x21.address, .slice A27 x21.topics.length c28, .slice A32 x21.data.length c33⟩ : LogC).C x21 (⟨x39.address, .slice A45 x39.topics.length c46, .slice A50 x39.data.length c51⟩ : LogC).C x39 x58 h36 h54 hx57) rfl ?_
    rintro _ G59 rfl
    refine UW.mem (M' := (([] ++ N))) (fun w m => m.appR) (Z18 9 rfl (by kernel_rfl) rfl (Z5 rfl) rfl (UW.nil (by kernel_rfl) (Z6 (Z1 (Z4 (Z2 (Z0 (Z3 rfl) rfl (Z0 (RV.not rfl) rfl (Z6 (Z1 ?_))))))))))
    by_cases h61 : x58 = true
    ·replace hl14 := if_t hl14 h61
     refine Z14 rfl (congrArg (fun b => !b) (h61)) (CW.skip (Z27 (Z1 (Z2 (Z0 (Z3 rfl) rfl (Z0 (RV.add rfl rfl (by omega)) rfl (Z7 (.int .i64 (((n11 + 1) : Nat) : Int)) (by first | rfl | (congr 1) | (congr 1; omega)) (Z0 (Z5 rfl) rfl (Z6 ?_)))))))))
     exact Z113 (k' := k13) (Nat.lt_succ_self _) ⟨(n11 + 1), hl14, (by omega), rfl, rfl⟩ ⟨rfl, rfl, rfl, trivial⟩ (fun w m => m.pick [] 0 rfl rfl)
    ·replace hl14 := if_f hl14 h61
     refine Z13 rfl (congrArg (fun b => !b) (Bool.eq_false_iff.2 h61)) (Z4 (Z2 (Z0 (Z5 rfl) rfl (Z6 (Z1 (CW.ret (Z16 (Z8 (Z8 (Z16 (Z8 ?_)))))))))))
     have hc := Zi hl14
     subst hc
     try dsimp only at hf
     refine Z8 ?_
     have e0 := Zi hf
     subst e0
     refine Z109 (rs := [.tmp 4]) ([.bool false]) ([]) rfl ?_ rfl ?_ ?_ _ (.inl rfl)
     ·exact ⟨rfl, trivial⟩
     ·exact rfl
     ·exact (fun w m => m)
   ·replace hl14 := if_f hl14 h20
    refine Z14 rfl (decide_eq_false h20) (CW.exit (Z9 (Z9 (Z15 ?_))))
    exact QW.join ⟨(Zi hl14).symm, rfl, rfl⟩ trivial (fun w m => m.pick [] 0 rfl rfl)
 ·replace hf := if_f hf h3
  refine Z13 rfl (congrArg (fun b => !b) (decide_eq_false h3)) (Z4 (Z2 (Z0 (Z5 rfl) rfl (Z6 (Z1 (CW.ret (Z8 ?_)))))))
  have e0 := Zi hf
  subst e0
  refine Z109 (rs := [.tmp 4]) ([.bool false]) ([]) rfl ?_ rfl ?_ ?_ _ (.inl rfl)
  ·exact ⟨rfl, trivial⟩
  ·exact rfl
  ·exact (fun w m => m)
theorem waybilllaw17_sameReceipt_does (w0 : World) (Φ : Ctx) (N : List Ent) (hΦ : ∀ w, Mem w0 w N → Φ w) (cs0_ : List Value) (a0 : Rcpt) (cs1_ : List Value) (a1 : Rcpt) (res0 : Bool) (ha0 : RcptRd Φ cs0_ a0) (ha1 : RcptRd Φ cs1_ a1) (hf : waybilllaw17_sameReceipt a0 a1 = some res0) : DoesG Tryd.prog 16 [.agg cs0_.toArray, .agg cs1_.toArray] w0 [] N (fun v G => v = .bool res0) := by
 unfold waybilllaw17_sameReceipt at hf
 replace ha0 := RcptRd.mono (Ψ := More w0 Φ []) (fun w q => q.1) _ _ ha0
 have h8 := ha0
 obtain ⟨A2, c3, cs5, e7, b1, v4, h6⟩ := RcptRd.opn ha0
 subst e7
 have m9 := v4.mx
 replace ha1 := RcptRd.mono (Ψ := More w0 Φ []) (fun w q => q.1) _ _ ha1
 have h17 := ha1
 obtain ⟨A11, c12, cs14, e16, b10, v13, h15⟩ := RcptRd.opn ha1
 subst e16
 have m18 := v13.mx
 refine DoesG.enter Tryd.func16 rfl Tryd.ntmps16 rfl (M := (([] ++ N))) rfl (Z4 (Z2 (OW.boxA rfl rfl (fun b19 => (OW.boxA rfl rfl (fun b20 => (Z0 (Z5 rfl) rfl (Z6 (Z1 (Z4 (Z4 ?_)))))))))))
 obtain ⟨q21, hq22, hf⟩ := Z102 hf
 refine CW.cutJ (fun L' M' => ∃ p23 : Bool, q21 = p23 ∧ L' = [(2, ptr (some b19) 0), (3, ptr (some b20) 0), (37, .bool (p23))] ∧ M' = ((some b20, blk (⟨a1.kind, (a1.rooted), a1.root, a1.status, a1.used, a1.bloom, .slice A11 a1.logs.length c12⟩ : RcptC).C 30) :: (some b19, blk (⟨a0.kind, (a0.rooted), a0.root, a0.status, a0.used, a0.bloom, .slice A2 a0.logs.length c3⟩ : RcptC).C 30) :: ([] ++ N))) ?_ ?_
 ·rintro L25 M26 ⟨p23, e24, e27, e28⟩
  rw [e27, e28]
  clear e27 e28 L25 M26
  clear hq22
  rw [e24] at hf
  clear e24
  try dsimp only at hf
  refine Z1 ?_
  by_cases h29 : p23 = true
  ·replace hf := if_t hf h29
   refine Z13 rfl (h29) (Z4 (Z2 (Z0 (Z5 rfl) rfl (Z6 (Z1 (CW.ret (Z8 ?_)))))))
   have e0 := Zi hf
   subst e0
   refine Z109 (rs := [.tmp 4]) ([.bool false]) ((some b20, blk (⟨a1.kind, (a1.rooted), a1.root, a1.status, a1.used, a1.bloom, .slice A11 a1.logs.length c12⟩ : RcptC).C 30) :: (some b19, blk (⟨a0.kind, (a0.rooted), a0.root, a0.status, a0.used, a0.bloom, .slice A2 a0.logs.length c3⟩ : RcptC).C 30) :: []) rfl ?_ rfl ?_ ?_ _ (.inl rfl)
   ·exact ⟨rfl, trivial⟩
   ·exact rfl
   ·exact (fun w m => m)
  ·replace hf := if_f hf h29
   refine Z14 rfl (Bool.eq_false_iff.2 h29) (CW.skip (Z1 (Z4 ?_)))
   obtain ⟨q30, hq31, hf⟩ := Z102 hf
   refine CW.cutJ (fun L' M' => ∃ p32 : Bool, q30 = p32 ∧ L' = [(4, .bool (p32))] ∧ M' = (([] ++ N))) ?_ ?_
   ·rintro L34 M35 ⟨p32, e33, e36, e37⟩
    rw [e36, e37]
    clear e36 e37 L34 M35
    clear hq31
    rw [e33] at hf
    clear e33
    try dsimp only at hf
    refine Z1 (CW.ret ?_)
    have e0 := Zi hf
    subst e0
    refine Z109 (rs := [.tmp 4]) ([.bool (p32)]) ([]) rfl ?_ rfl ?_ ?_ _ (.inl rfl)
    ·exact ⟨rfl, trivial⟩
    ·exact rfl
    ·exact (fun w m => m)
   ·skip
    refine Z2 (Z0 (Z30 rfl rfl rfl rfl) rfl (Z7 (ptr (some b19) 36) rfl (Z0 (RV.loadAo rfl (List.Mem.tail _ Zh) rfl rfl rfl rfl (RcptC.C_bloom_all (⟨a0.kind, (a0.rooted), a0.root, a0.status, a0.used, a0.bloom, .slice A2 a0.logs.length c3⟩ : RcptC)) ((Z100 _).trans Zv)) rfl (Z0 (Z30 rfl rfl rfl rfl) rfl (Z7 (ptr (some b20) 36) rfl (Z0 (RV.loadAo rfl Zh rfl rfl rfl rfl (RcptC.C_bloom_all (⟨a1.kind, (a1.rooted), a1.root, a1.status, a1.used, a1.bloom, .slice A11 a1.logs.length c12⟩ : RcptC)) ((Z100 _).trans Zv)) rfl (Z0 (RV.eqA8 rfl rfl rfl rfl rfl rfl (Zv) (Zv)) rfl ?_)))))))
    refine Z7 (.bool (decide (a0.bloom = a1.bloom))) (congrArg Value.bool (decide_eq_decide.2 Vector.toList_inj)) (Z0 (Z3 rfl) rfl ?_)
    by_cases h38 : a0.bloom = a1.bloom
    ·replace hq31 := if_t hq31 h38
     refine Z7 (.bool true) (congrArg Value.bool (decide_eq_true h38)) (Z24 rfl (Z0 (Z30 rfl rfl rfl rfl) rfl (Z7 (ptr (some b19) 292) rfl (Z24 rfl (Z0 (Z29 rfl (List.Mem.tail _ Zh) rfl rfl rfl (Z105 (⟨a0.kind, (a0.rooted), a0.root, a0.status, a0.used, a0.bloom, .slice A2 a0.logs.length c3⟩ : RcptC))) rfl (Z24 rfl (Z0 (Z30 rfl rfl rfl rfl) rfl ?_)))))))
     refine Z7 (ptr (some b20) 292) rfl (Z24 rfl (Z0 (Z29 rfl Zh rfl rfl rfl (Z105 (⟨a1.kind, (a1.rooted), a1.root, a1.status, a1.used, a1.bloom, .slice A11 a1.logs.length c12⟩ : RcptC))) rfl (Z24 rfl ?_)))
     obtain ⟨x40, hx39, hq31⟩ := Z102 hq31
     refine Z12 Tryd.call45 rfl (waybilllaw17_sameLogs_does w0 (More w0 Φ []) ((some b20, blk (⟨a1.kind, (a1.rooted), a1.root, a1.status, a1.used, a1.bloom, .slice A11 a1.logs.length c12⟩ : RcptC).C 30) :: (some b19, blk (⟨a0.kind, (a0.rooted), a0.root, a0.status, a0.used, a0.bloom, .slice A2 a0.logs.length c3⟩ : RcptC).C 30) :: ([] ++ N)) (fun w m => Z118 hΦ 2 m rfl) A2 c3 cs5 a0.logs A11 c12 cs14 a1.logs x40 v4 h6 v13 h15 hx39) rfl rfl ?_
     rintro _ G41 rfl
     refine Z20 (M' := ((some b20, blk (⟨a1.kind, (a1.rooted), a1.root, a1.status, a1.used, a1.bloom, .slice A11 a1.logs.length c12⟩ : RcptC).C 30) :: (some b19, blk (⟨a0.kind, (a0.rooted), a0.root, a0.status, a0.used, a0.bloom, .slice A2 a0.logs.length c3⟩ : RcptC).C 30) :: ([] ++ N))) (fun w m => m.appR) (Z0 (Z112 rfl rfl rfl) rfl (Z0 (Z5 rfl) rfl (Z6 ?_)))
     exact QW.join ⟨(x40), (Zi hq31).symm, rfl, rfl⟩ ⟨rfl, trivial⟩ (fun w m => m.pick [] 2 rfl rfl)
    ·replace hq31 := if_f hq31 h38
     refine Z7 (.bool false) (congrArg Value.bool (decide_eq_false h38)) (Z23 rfl rfl rfl (Z23 rfl rfl rfl (Z23 rfl rfl rfl (Z23 rfl rfl rfl (Z23 rfl rfl rfl (Z0 (Z114 rfl rfl rfl) rfl (Z0 (Z5 rfl) rfl ?_)))))))
     refine Z6 ?_
     exact QW.join ⟨false, (Zi hq31).symm, rfl, rfl⟩ ⟨rfl, trivial⟩ (fun w m => m.pick [] 2 rfl rfl)
 ·skip
  refine Z2 (Z0 (Z30 rfl rfl rfl rfl) rfl (Z7 (ptr (some b19) 0) rfl (Z0 (Z29 rfl (List.Mem.tail _ Zh) rfl rfl rfl (RcptC.C_kind (⟨a0.kind, (a0.rooted), a0.root, a0.status, a0.used, a0.bloom, .slice A2 a0.logs.length c3⟩ : RcptC))) rfl (Z0 (Z30 rfl rfl rfl rfl) rfl (Z7 (ptr (some b20) 0) rfl (Z0 (Z29 rfl Zh rfl rfl rfl (RcptC.C_kind (⟨a1.kind, (a1.rooted), a1.root, a1.status, a1.used, a1.bloom, .slice A11 a1.logs.length c12⟩ : RcptC))) rfl (Z0 (RV.neq rfl rfl) rfl ?_)))))))
  refine Z0 (Z3 rfl) rfl ?_
  by_cases h43 : a0.kind = a1.kind
  ·replace hq22 := if_t hq22 h43
   refine Z7 (.bool false) (congrArg Value.bool (congrArg (fun b => !b) (decide_eq_true h43))) (Z24 rfl (Z0 (Z30 rfl rfl rfl rfl) rfl (Z7 (ptr (some b19) 1) rfl (Z24 rfl (Z0 (Z29 rfl (List.Mem.tail _ Zh) rfl rfl rfl (RcptC.C_rooted (⟨a0.kind, (a0.rooted), a0.root, a0.status, a0.used, a0.bloom, .slice A2 a0.logs.length c3⟩ : RcptC))) rfl (Z24 rfl (Z0 (Z30 rfl rfl rfl rfl) rfl ?_)))))))
   refine Z7 (ptr (some b20) 1) rfl (Z24 rfl (Z0 (Z29 rfl Zh rfl rfl rfl (RcptC.C_rooted (⟨a1.kind, (a1.rooted), a1.root, a1.status, a1.used, a1.bloom, .slice A11 a1.logs.length c12⟩ : RcptC))) rfl (Z24 rfl (Z0 (RV.neqB rfl rfl rfl) rfl (Z7 (.bool (!decide ((a0.rooted) = (a1.rooted)))) (by first | rfl | (congr 1) | simp) (Z0 (Z114 rfl rfl rfl) rfl (Z0 (Z3 rfl) rfl ?_)))))))
   by_cases h44 : (a0.rooted) = (a1.rooted)
   ·replace hq22 := if_t hq22 h44
    refine Z7 (.bool false) (congrArg Value.bool (congrArg (fun b => !b) (decide_eq_true h44))) (Z24 rfl (Z0 (Z30 rfl rfl rfl rfl) rfl (Z7 (ptr (some b19) 2) rfl (Z24 rfl (Z0 (RV.loadAo rfl (List.Mem.tail _ Zh) rfl rfl rfl rfl (RcptC.C_root_all (⟨a0.kind, (a0.rooted), a0.root, a0.status, a0.used, a0.bloom, .slice A2 a0.logs.length c3⟩ : RcptC)) ((Z100 _).trans Zv)) rfl (Z24 rfl (Z0 (Z30 rfl rfl rfl rfl) rfl ?_)))))))
    refine Z7 (ptr (some b20) 2) rfl (Z24 rfl (Z0 (RV.loadAo rfl Zh rfl rfl rfl rfl (RcptC.C_root_all (⟨a1.kind, (a1.rooted), a1.root, a1.status, a1.used, a1.bloom, .slice A11 a1.logs.length c12⟩ : RcptC)) ((Z100 _).trans Zv)) rfl (Z24 rfl (Z0 (RV.neA8 rfl rfl rfl rfl rfl rfl (Zv) (Zv)) rfl (Z7 (.bool (!decide (a0.root = a1.root))) (congrArg (fun b => Value.bool (!b)) (decide_eq_decide.2 Vector.toList_inj)) (Z0 (Z114 rfl rfl rfl) rfl (Z0 (Z3 rfl) rfl ?_)))))))
    by_cases h45 : a0.root = a1.root
    ·replace hq22 := if_t hq22 h45
     refine Z7 (.bool false) (congrArg Value.bool (congrArg (fun b => !b) (decide_eq_true h45))) (Z24 rfl (Z0 (Z30 rfl rfl rfl rfl) rfl (Z7 (ptr (some b19) 34) rfl (Z24 rfl (Z0 (Z29 rfl (List.Mem.tail _ Zh) rfl rfl rfl (RcptC.C_status (⟨a0.kind, (a0.rooted), a0.root, a0.status, a0.used, a0.bloom, .slice A2 a0.logs.length c3⟩ : RcptC))) rfl (Z24 rfl (Z0 (Z30 rfl rfl rfl rfl) rfl ?_)))))))
     refine Z7 (ptr (some b20) 34) rfl (Z24 rfl (Z0 (Z29 rfl Zh rfl rfl rfl (RcptC.C_status (⟨a1.kind, (a1.rooted), a1.root, a1.status, a1.used, a1.bloom, .slice A11 a1.logs.length c12⟩ : RcptC))) rfl (Z24 rfl (Z0 (RV.neq64 rfl (by first | rfl | exact lit64 _ rfl) rfl (by first | rfl | exact lit64 _ rfl)) rfl (Z0 (Z114 rfl rfl rfl) rfl (Z0 (Z3 rfl) rfl ?_))))))
     by_cases h46 : a0.status = a1.status
     ·replace hq22 := if_t hq22 h46
      refine Z7 (.bool false) (congrArg Value.bool (congrArg (fun b => !b) (decide_eq_true h46))) (Z24 rfl (Z0 (Z30 rfl rfl rfl rfl) rfl (Z7 (ptr (some b19) 35) rfl (Z24 rfl (Z0 (Z29 rfl (List.Mem.tail _ Zh) rfl rfl rfl (Z110 (⟨a0.kind, (a0.rooted), a0.root, a0.status, a0.used, a0.bloom, .slice A2 a0.logs.length c3⟩ : RcptC))) rfl (Z24 rfl (Z0 (Z30 rfl rfl rfl rfl) rfl ?_)))))))
      refine Z7 (ptr (some b20) 35) rfl (Z24 rfl (Z0 (Z29 rfl Zh rfl rfl rfl (Z110 (⟨a1.kind, (a1.rooted), a1.root, a1.status, a1.used, a1.bloom, .slice A11 a1.logs.length c12⟩ : RcptC))) rfl (Z24 rfl (Z0 (RV.neq64 rfl (by first | rfl | exact lit64 _ rfl) rfl (by first | rfl | exact lit64 _ rfl)) rfl (Z0 (Z114 rfl rfl rfl) rfl (Z6 ?_))))))
      exact QW.join ⟨(!decide (a0.used = a1.used)), (Zi hq22).symm, rfl, rfl⟩ ⟨rfl, rfl, rfl, trivial⟩ (fun w m => m.pick [0, 1] 2 rfl rfl)
     ·replace hq22 := if_f hq22 h46
      refine Z7 (.bool true) (congrArg Value.bool (congrArg (fun b => !b) (decide_eq_false h46))) (Z23 rfl rfl rfl (Z23 rfl rfl rfl (Z23 rfl rfl rfl (Z23 rfl rfl rfl (Z23 rfl rfl rfl (Z0 (Z112 rfl rfl rfl) rfl (Z6 ?_)))))))
      exact QW.join ⟨true, (Zi hq22).symm, rfl, rfl⟩ ⟨rfl, rfl, rfl, trivial⟩ (fun w m => m.pick [0, 1] 2 rfl rfl)
    ·replace hq22 := if_f hq22 h45
     refine Z7 (.bool true) (congrArg Value.bool (congrArg (fun b => !b) (decide_eq_false h45))) (Z23 rfl rfl rfl (Z23 rfl rfl rfl (Z23 rfl rfl rfl (Z23 rfl rfl rfl (Z23 rfl rfl rfl (Z0 (Z112 rfl rfl rfl) rfl (Z0 (Z3 rfl) rfl ?_)))))))
     refine Z23 rfl rfl rfl (Z23 rfl rfl rfl (Z23 rfl rfl rfl (Z23 rfl rfl rfl (Z23 rfl rfl rfl (Z0 (Z112 rfl rfl rfl) rfl (Z6 ?_))))))
     exact QW.join ⟨true, (Zi hq22).symm, rfl, rfl⟩ ⟨rfl, rfl, rfl, trivial⟩ (fun w m => m.pick [0, 1] 2 rfl rfl)
   ·replace hq22 := if_f hq22 h44
    refine Z7 (.bool true) (congrArg Value.bool (congrArg (fun b => !b) (decide_eq_false h44))) (Z23 rfl rfl rfl (Z23 rfl rfl rfl (Z23 rfl rfl rfl (Z23 rfl rfl rfl (Z23 rfl rfl rfl (Z0 (Z112 rfl rfl rfl) rfl (Z0 (Z3 rfl) rfl ?_)))))))
    refine Z23 rfl rfl rfl (Z23 rfl rfl rfl (Z23 rfl rfl rfl (Z23 rfl rfl rfl (Z23 rfl rfl rfl (Z0 (Z112 rfl rfl rfl) rfl (Z0 (Z3 rfl) rfl (Z23 rfl rfl rfl ?_)))))))
    refine Z23 rfl rfl rfl (Z23 rfl rfl rfl (Z23 rfl rfl rfl (Z23 rfl rfl rfl (Z0 (Z112 rfl rfl rfl) rfl (Z6 ?_)))))
    exact QW.join ⟨true, (Zi hq22).symm, rfl, rfl⟩ ⟨rfl, rfl, rfl, trivial⟩ (fun w m => m.pick [0, 1] 2 rfl rfl)
  ·replace hq22 := if_f hq22 h43
   refine Z7 (.bool true) (congrArg Value.bool (congrArg (fun b => !b) (decide_eq_false h43))) (Z23 rfl rfl rfl (Z23 rfl rfl rfl (Z23 rfl rfl rfl (Z23 rfl rfl rfl (Z23 rfl rfl rfl (Z0 (Z112 rfl rfl rfl) rfl (Z0 (Z3 rfl) rfl ?_)))))))
   refine Z23 rfl rfl rfl (Z23 rfl rfl rfl (Z23 rfl rfl rfl (Z23 rfl rfl rfl (Z23 rfl rfl rfl (Z0 (Z112 rfl rfl rfl) rfl (Z0 (Z3 rfl) rfl (Z23 rfl rfl rfl ?_)))))))
   refine Z23 rfl rfl rfl (Z23 rfl rfl rfl (Z23 rfl rfl rfl (Z23 rfl rfl rfl (Z0 (Z112 rfl rfl rfl) rfl (Z0 (Z3 rfl) rfl (Z23 rfl rfl rfl (Z23 rfl rfl rfl ?_)))))))
   refine Z23 rfl rfl rfl (Z23 rfl rfl rfl (Z23 rfl rfl rfl (Z0 (Z112 rfl rfl rfl) rfl (Z6 ?_))))
   exact QW.join ⟨true, (Zi hq22).symm, rfl, rfl⟩ ⟨rfl, rfl, rfl, trivial⟩ (fun w m => m.pick [0, 1] 2 rfl rfl)
theorem waybillplay_Copy_does (w0 : World) (Φ : Ctx) (N : List Ent) (hΦ : ∀ w, Mem w0 w N → Φ w) (A0_ : Option Addr) (c0_ : Nat) (a0 : List (BitVec 8)) (res0 : List (BitVec 8)) (va0 : View Φ A0_ a0.length c0_ 1 (u8s a0)) (hf : waybillplay_Copy a0 = some res0) : DoesG Tryd.prog 75 [.slice A0_ a0.length c0_] w0 [] N (fun v G => ∃ B : List Ent, ∃ or0 : Option Nat, ∃ kr0 : Nat, ∃ rr0 : List Value, (OwnS or0 res0.length kr0 1 (u8s res0) rr0) ∧ v = sl or0 0 res0.length kr0 ∧ G = (or0, blk ((u8s res0) ++ rr0) 5) :: B) := by
 unfold waybillplay_Copy at hf
 replace va0 := va0.mono (Ψ := More w0 Φ []) (fun w q => q.1)
 have m1 := va0.mx
 refine DoesG.enter Tryd.func75 rfl Tryd.ntmps75 rfl (M := (([] ++ N))) rfl (Z4 (Z2 (Z0 (Z5 rfl) rfl (Z6 (Z1 (Z4 (Z2 (Z0 (Z5 rfl) rfl (Z6 (Z1 (Z4 (Z2 (Z0 (Z3 rfl) rfl (Z0 (Z3 rfl) rfl ?_))))))))))))))
 refine Z20 (M' := ((none, blk ((u8s ([] : List (BitVec 8))) ++ []) 5) :: ([] ++ N))) (fun w m => m.nil_ent _) (OW.appendOwn (s := 1) rfl rfl rfl rfl rfl rfl OwnS.nil (fun w m => va0.rd w (Z118 hΦ 1 m rfl)) va0.n (u8s_one _) (va0.zero (by decide)) (by decide) (by decide) (by first | omega | (simp only [i5, List.length_nil]; omega)) rfl rfl (a0.length) (u8s a0) (Nat.zero_add _) rfl (fun ob2 r3 c4 o5 => ?_))
 have m6 := o5.mx
 refine Z0 (Z5 rfl) rfl (Z6 (Z1 (Z4 (Z2 (Z0 (Z3 rfl) rfl (Z0 (Z5 rfl) rfl (Z6 (Z1 (CW.ret ?_)))))))))
 have e0 := Zi hf
 subst e0
 refine Z109 (rs := [.tmp 2]) ([sl ob2 0 a0.length c4]) ((ob2, blk ((u8s a0) ++ r3) 5) :: []) rfl ?_ rfl ?_ ?_ _ (.inl rfl)
 ·exact ⟨rfl, trivial⟩
 ·exact ⟨[], ob2, c4, r3, o5, rfl, rfl⟩
 ·exact (fun w m => m.pick [0] 1 rfl rfl)
theorem waybillplay_Lent_does (w0 : World) (Φ : Ctx) (N : List Ent) (hΦ : ∀ w, Mem w0 w N → Φ w) (A0_ : Option Addr) (c0_ : Nat) (a0 : List (BitVec 8)) (res0 : List (BitVec 8)) (va0 : View Φ A0_ a0.length c0_ 1 (u8s a0)) (hf : waybillplay_Lent a0 = some res0) : DoesG Tryd.prog 44 [.slice A0_ a0.length c0_] w0 [] N (fun v G => ∃ B : List Ent, ∃ or0 : Option Nat, ∃ kr0 : Nat, ∃ rr0 : List Value, (OwnS or0 res0.length kr0 1 (u8s res0) (u8s (List.replicate 70 165#8) ++ rr0)) ∧ (res0.length + 70 ≤ 140737488355328) ∧ v = sl or0 0 res0.length kr0 ∧ G = (or0, blk ((u8s res0) ++ (u8s (List.replicate 70 165#8) ++ rr0)) 5) :: B) := by
 unfold waybillplay_Lent at hf
 replace va0 := va0.mono (Ψ := More w0 Φ []) (fun w q => q.1)
 have m1 := va0.mx
 refine DoesG.enter Tryd.func44 rfl Tryd.ntmps44 rfl (M := (([] ++ N))) rfl (Z4 (Z2 (Z0 (Z5 rfl) rfl (Z6 (Z1 (Z4 (Z2 (Z0 (Z3 rfl) rfl ?_))))))))
 obtain ⟨x3, hx2, hf⟩ := Z102 hf
 refine Z12 Tryd.call75 rfl (waybillplay_Copy_does w0 (More w0 Φ []) (([] ++ N)) (fun w m => Z118 hΦ 0 m rfl) A0_ c0_ a0 x3 va0 hx2) rfl rfl ?_
 rintro L9 M10 ⟨B4, ob5, c6, r7, o8, e11, e12⟩
 rw [e11, e12]
 clear e11 e12 L9 M10
 refine Z20 (M' := ((ob5, blk ((u8s x3) ++ r7) 5) :: ((B4 ++ []) ++ N))) (fun w m => by have h := Mem.sinkAt (A := B4) m 1 0 rfl rfl; exact h) ?_
 have gq1 : ∀ w, More w0 Φ (B4 ++ []) w → More w0 Φ [] w := fun w q => More.mono (fun w m => (m).appR) q
 replace va0 := va0.mono gq1
 have m13 := o8.mx
 refine Z0 (Z5 rfl) rfl (Z6 (Z1 (Z4 (Z4 (Z2 (Z0 (Z5 rfl) rfl (Z6 (Z1 ?_))))))))
 obtain ⟨q14, hq15, hf⟩ := Z102 hf
 refine CW.cutJ (fun L' M' => ∃ l16 : List (BitVec 8), ∃ ob17 : Option Nat, ∃ c18 : Nat, ∃ r19 : List Value, q14 = l16 ∧ (OwnS ob17 l16.length c18 1 (u8s l16) r19) ∧ L' = [(0, .slice A0_ a0.length c0_), (3, sl ob17 0 l16.length c18)] ∧ M' = ((ob17, blk ((u8s l16) ++ r19) 5) :: ((B4 ++ []) ++ N))) ?_ ?_
 ·rintro L22 M23 ⟨l16, ob17, c18, r19, e21, o20, e24, e25⟩
  rw [e24, e25]
  clear e24 e25 L22 M23
  clear hq15
  rw [e21] at hf
  clear e21
  try dsimp only at hf
  have m26 := o20.mx
  refine Z1 (Z4 (Z2 (Z0 (Z3 rfl) rfl (Z0 (Z3 rfl) rfl (Z0 (RV.len rfl rfl) rfl ?_)))))
  obtain ⟨g27, hf⟩ := some_if hf
  obtain ⟨g28, hf⟩ := some_if hf
  have hle := o20.le (by decide)
  refine Z0 (RV.cut_o (a0.length) rfl rfl (by omega) rfl rfl (by omega)) rfl ?_
  have o29 : OwnS ob17 (l16.take a0.length).length c18 1 (u8s (l16.take a0.length)) (u8s (List.replicate 70 165#8) ++ r19) := OwnS.shrink8 o20 (by omega) g28
  refine OW.cells (u8s (l16.take a0.length) ++ (u8s (List.replicate 70 165#8) ++ r19)) (shrink8 g28) (Z7 (sl ob17 0 (l16.take a0.length).length c18) (by rw [show ((l16.take a0.length)).length = a0.length from List.length_take.trans (Nat.min_eq_left (by omega))]) (Z0 (Z5 rfl) rfl (Z6 (Z1 (CW.ret ?_)))))
  have e0 := Zi hf
  subst e0
  refine Z109 (rs := [.tmp 2]) ([sl ob17 0 (l16.take a0.length).length c18]) ((ob17, blk ((u8s (l16.take a0.length)) ++ (u8s (List.replicate 70 165#8) ++ r19)) 5) :: (B4 ++ [])) rfl ?_ rfl ?_ ?_ _ (.inl rfl)
  ·exact ⟨rfl, trivial⟩
  ·exact ⟨(B4 ++ []), ob17, c18, r19, o29, (shrink_mx g28 o20.mx (by omega)), rfl, rfl⟩
  ·exact (fun w m => m.pick [0] 1 rfl rfl)
 ·skip
  refine CW.block (Z115 (fun k L' M' => ∃ l30 : List (BitVec 8), ∃ n35 : Nat, ∃ ob31 : Option Nat, ∃ c32 : Nat, ∃ r33 : List Value, (waybillplay_Lent.l1 k l30 n35) = some q14 ∧ (OwnS ob31 l30.length c32 1 (u8s l30) r33) ∧ (n35 ≤ 9223372036854775807) ∧ L' = [(0, .slice A0_ a0.length c0_), (3, sl ob31 0 l30.length c32), (4, .int .i64 ((n35 : Nat) : Int))] ∧ M' = ((ob31, blk ((u8s l30) ++ r33) 5) :: ((B4 ++ []) ++ N))) (k0 := (70 - 0 + 2)) ⟨x3, 0, ob5, c6, r7, hq15, o8, (by omega), rfl, rfl⟩ ⟨rfl, rfl, rfl, trivial⟩ (fun w m => m.pick [0] 1 rfl rfl) ?_)
  clear hq15
  rintro k37 L40 M41 ⟨l30, n35, ob31, c32, r33, hl38, o34, b36, e42, e43⟩
  rw [e42, e43]
  clear e42 e43 L40 M41
  rcases k37 with _ | k37
  ·rw [waybillplay_Lent.l1] at hl38; cases hl38
  rw [waybillplay_Lent.l1] at hl38
  have m44 := o34.mx
  refine Z4 (Z4 (Z2 (Z0 (Z3 rfl) rfl (Z0 (RV.lss rfl rfl) rfl (Z7 (.bool (decide (n35 < 70))) (congrArg Value.bool (decide_eq_decide.2 (by omega))) (Z6 (Z1 ?_)))))))
  by_cases h45 : n35 < 70
  ·replace hl38 := if_t hl38 h45
   refine Z13 rfl (decide_eq_true h45) (CW.skip (Z1 (Z4 (CW.block (Z2 (Z0 (Z3 rfl) rfl (OW.ofN (NV.bs1 rfl rfl rfl rfl rfl rfl) rfl (fun b46 => (Z20 (M' := (((some b46), blk ((u8s ([165#8] : List (BitVec 8))) ++ []) 5) :: (ob31, blk ((u8s l30) ++ r33) 5) :: ((B4 ++ []) ++ N))) (fun w m => by first | exact m | simpa [u8s] using m) ?_)))))))))
   have o47 : OwnS (some b46) ([165#8] : List (BitVec 8)).length 1 1 (u8s ([165#8] : List (BitVec 8))) [] := ⟨by simp [u8s], by simp [u8s], (fun h => nomatch h), by simp⟩
   have mx_o47 := o47.mx
   refine Z7 (sl (some b46) 0 ([165#8] : List (BitVec 8)).length 1) (rfl) (OW.rot1 ?_)
   obtain ⟨g48, hl38⟩ := some_if hl38
   refine OW.appendOwn (s := 1) rfl rfl rfl rfl rfl rfl o34 (fun w m => m.rd0 (List.Mem.tail _ Zh) (fun e => o47.nilc (by decide) e)) o47.n (u8s_one _) (o47.zeroO (by decide)) (by decide) (by decide) (by first | omega | (simp only [i5, List.length_nil]; omega)) rfl rfl ((l30 ++ ([165#8] : List (BitVec 8))).length) (u8s (l30 ++ ([165#8] : List (BitVec 8)))) (List.length_append ..).symm (u8s_app _ _) (fun ob49 r50 c51 o52 => ?_)
   have m53 := o52.mx
   refine Z0 (Z5 rfl) rfl (Z6 (Z27 (Z1 (Z2 (Z0 (Z3 rfl) rfl (Z0 (RV.add rfl rfl (by omega)) rfl (Z7 (.int .i64 (((n35 + 1) : Nat) : Int)) (by first | rfl | (congr 1) | (congr 1; omega)) (Z0 (Z5 rfl) rfl (Z6 ?_)))))))))
   exact Z113 (k' := k37) (Nat.lt_succ_self _) ⟨(l30 ++ ([165#8] : List (BitVec 8))), (n35 + 1), ob49, c51, r50, hl38, o52, (by omega), rfl, rfl⟩ ⟨rfl, rfl, rfl, trivial⟩ (fun w m => m.pick [0] 2 rfl rfl)
  ·replace hl38 := if_f hl38 h45
   refine Z14 rfl (decide_eq_false h45) (CW.exit (Z9 (Z9 (Z15 ?_))))
   exact QW.join ⟨l30, ob31, c32, r33, (Zi hl38).symm, o34, rfl, rfl⟩ ⟨rfl, rfl, trivial⟩ (fun w m => m.pick [0] 1 rfl rfl)
theorem waybillplay_Same_does (w0 : World) (Φ : Ctx) (N : List Ent) (hΦ : ∀ w, Mem w0 w N → Φ w) (A0_ : Option Addr) (c0_ : Nat) (a0 : List (BitVec 8)) (A1_ : Option Addr) (c1_ : Nat) (a1 : List (BitVec 8)) (res0 : Bool) (va0 : View Φ A0_ a0.length c0_ 1 (u8s a0)) (va1 : View Φ A1_ a1.length c1_ 1 (u8s a1)) (hf : waybillplay_Same a0 a1 = some res0) : DoesG Tryd.prog 77 [.slice A0_ a0.length c0_, .slice A1_ a1.length c1_] w0 [] N (fun v G => v = .bool res0) := by
 unfold waybillplay_Same at hf
 replace va0 := va0.mono (Ψ := More w0 Φ []) (fun w q => q.1)
 replace va1 := va1.mono (Ψ := More w0 Φ []) (fun w q => q.1)
 have m1 := va0.mx
 have m2 := va1.mx
 refine DoesG.enter Tryd.func77 rfl Tryd.ntmps77 rfl (M := (([] ++ N))) rfl (Z4 (Z2 (Z0 (Z5 rfl) rfl (Z6 (Z1 (Z4 (Z4 (Z2 (Z0 (Z3 rfl) rfl (Z0 (RV.len rfl rfl) rfl (Z0 (Z3 rfl) rfl (Z0 (RV.len rfl rfl) rfl ?_))))))))))))
 refine Z0 (RV.neq rfl rfl) rfl (Z7 (.bool (!decide (a0.length = a1.length))) (congrArg (fun b => Value.bool (!b)) (decide_eq_decide.2 (by omega))) (Z6 (Z1 ?_)))
 by_cases h3 : a0.length = a1.length
 ·replace hf := if_t hf h3
  refine Z14 rfl (congrArg (fun b => !b) (decide_eq_true h3)) (CW.skip (Z1 (Z4 (Z4 (Z2 (Z0 (Z5 rfl) rfl (Z6 (Z1 ?_))))))))
  obtain ⟨q4, hq5, hf⟩ := Z102 hf
  refine CW.cutJ (fun L' M' => q4 = Lp.go () ∧ L' = [] ∧ M' = (([] ++ N))) ?_ ?_
  ·rintro L7 M8 ⟨e6, e9, e10⟩
   rw [e9, e10]
   clear e9 e10 L7 M8
   clear hq5
   rw [e6] at hf
   clear e6
   try dsimp only at hf
   refine Z1 (Z4 (Z2 (Z0 (Z5 rfl) rfl (Z6 (Z1 (CW.ret ?_))))))
   have e0 := Zi hf
   subst e0
   refine Z109 (rs := [.tmp 4]) ([.bool true]) ([]) rfl ?_ rfl ?_ ?_ _ (.inl rfl)
   ·exact ⟨rfl, trivial⟩
   ·exact rfl
   ·exact (fun w m => m)
  ·skip
   refine CW.block (Z115 (fun k L' M' => ∃ n11 : Nat, (waybillplay_Same.l1 a0 a1 k n11) = some q4 ∧ (n11 ≤ 9223372036854775807) ∧ L' = [(0, .slice A0_ a0.length c0_), (1, .slice A1_ a1.length c1_), (5, .int .i64 ((n11 : Nat) : Int))] ∧ M' = (([] ++ N))) (k0 := (a0.length - 0 + 2)) ⟨0, hq5, (by omega), rfl, rfl⟩ ⟨rfl, rfl, rfl, trivial⟩ (fun w m => m.pick [] 0 rfl rfl) ?_)
   clear hq5
   rintro k13 L16 M17 ⟨n11, hl14, b12, e18, e19⟩
   rw [e18, e19]
   clear e18 e19 L16 M17
   rcases k13 with _ | k13
   ·rw [waybillplay_Same.l1] at hl14; cases hl14
   rw [waybillplay_Same.l1] at hl14
   refine Z4 (Z4 (Z2 (Z0 (Z3 rfl) rfl (Z0 (Z3 rfl) rfl (Z0 (RV.len rfl rfl) rfl (Z0 (RV.lss rfl rfl) rfl (Z7 (.bool (decide (n11 < a0.length))) (congrArg Value.bool (decide_eq_decide.2 (by omega))) (Z6 (Z1 ?_)))))))))
   by_cases h20 : n11 < a0.length
   ·replace hl14 := if_t hl14 h20
    refine Z13 rfl (decide_eq_true h20) (CW.skip (Z1 (Z4 (CW.block (Z4 (CW.drawsU 9 mixed (by kernel_rfl) rfl (Z18 0 rfl (by kernel_rfl) rfl (Z3 rfl) rfl (Z18 1 rfl (by kernel_rfl) rfl (Z3 rfl) rfl ?_))))))))
    obtain ⟨x21, hx22, hl14⟩ := Z102 hl14
    have hl23 := lt_of_at hx22
    refine Z18 2 rfl (by kernel_rfl) rfl (RV.idx_r (n11) rfl rfl rfl rfl rfl (va0.isSome (by decide) hl23) (by omega)) rfl (Z18 3 rfl (by kernel_rfl) rfl (Z21 rfl rfl rfl (fun w m => va0.cell (Z118 hΦ 0 m rfl) (u8s_at hx22))) rfl (Z18 4 rfl (by kernel_rfl) rfl (Z3 rfl) rfl (Z18 5 rfl (by kernel_rfl) rfl (Z3 rfl) rfl ?_)))
    obtain ⟨x24, hx25, hl14⟩ := Z102 hl14
    have hl26 := lt_of_at hx25
    refine Z18 6 rfl (by kernel_rfl) rfl (RV.idx_r (n11) rfl rfl rfl rfl rfl (va1.isSome (by decide) hl26) (by omega)) rfl (Z18 7 rfl (by kernel_rfl) rfl (Z21 rfl rfl rfl (fun w m => va1.cell (Z118 hΦ 0 m rfl) (u8s_at hx25))) rfl (Z18 8 rfl (by kernel_rfl) rfl (RV.neq8 rfl (by first | rfl | exact lit8 _ rfl) rfl (by first | rfl | exact lit8 _ rfl)) rfl (UW.nil (by kernel_rfl) (Z6 (Z1 ?_)))))
    by_cases h27 : x21 = x24
    ·replace hl14 := if_t hl14 h27
     refine Z14 rfl (congrArg (fun b => !b) (decide_eq_true h27)) (CW.skip (Z27 (Z1 (Z2 (Z0 (Z3 rfl) rfl (Z0 (RV.add rfl rfl (by omega)) rfl (Z7 (.int .i64 (((n11 + 1) : Nat) : Int)) (by first | rfl | (congr 1) | (congr 1; omega)) (Z0 (Z5 rfl) rfl (Z6 ?_)))))))))
     exact Z113 (k' := k13) (Nat.lt_succ_self _) ⟨(n11 + 1), hl14, (by omega), rfl, rfl⟩ ⟨rfl, rfl, rfl, trivial⟩ (fun w m => m.pick [] 0 rfl rfl)
    ·replace hl14 := if_f hl14 h27
     refine Z13 rfl (congrArg (fun b => !b) (decide_eq_false h27)) (Z4 (Z2 (Z0 (Z5 rfl) rfl (Z6 (Z1 (CW.ret (Z16 (Z8 (Z8 (Z16 (Z8 ?_)))))))))))
     have hc := Zi hl14
     subst hc
     try dsimp only at hf
     refine Z8 ?_
     have e0 := Zi hf
     subst e0
     refine Z109 (rs := [.tmp 4]) ([.bool false]) ([]) rfl ?_ rfl ?_ ?_ _ (.inl rfl)
     ·exact ⟨rfl, trivial⟩
     ·exact rfl
     ·exact (fun w m => m)
   ·replace hl14 := if_f hl14 h20
    refine Z14 rfl (decide_eq_false h20) (CW.exit (Z9 (Z9 (Z15 ?_))))
    exact QW.join ⟨(Zi hl14).symm, rfl, rfl⟩ trivial (fun w m => m.pick [] 0 rfl rfl)
 ·replace hf := if_f hf h3
  refine Z13 rfl (congrArg (fun b => !b) (decide_eq_false h3)) (Z4 (Z2 (Z0 (Z5 rfl) rfl (Z6 (Z1 (CW.ret (Z8 ?_)))))))
  have e0 := Zi hf
  subst e0
  refine Z109 (rs := [.tmp 4]) ([.bool false]) ([]) rfl ?_ rfl ?_ ?_ _ (.inl rfl)
  ·exact ⟨rfl, trivial⟩
  ·exact rfl
  ·exact (fun w m => m)
theorem waybillplay_Still_does (w0 : World) (Φ : Ctx) (N : List Ent) (hΦ : ∀ w, Mem w0 w N → Φ w) (A0_ : Option Addr) (c0_ : Nat) (a0 : List (BitVec 8)) (A1_ : Option Addr) (c1_ : Nat) (a1 : List (BitVec 8)) (res0 : Bool) (va0 : View Φ A0_ (a0 ++ List.replicate 70 165#8).length c0_ 1 (u8s (a0 ++ List.replicate 70 165#8))) (va1 : View Φ A1_ a1.length c1_ 1 (u8s a1)) (hf : waybillplay_Still a0 a1 = some res0) : DoesG Tryd.prog 46 [.slice A0_ a0.length c0_, .slice A1_ a1.length c1_] w0 [] N (fun v G => v = .bool res0) := by
 unfold waybillplay_Still at hf
 replace va0 := va0.mono (Ψ := More w0 Φ []) (fun w q => q.1)
 replace va1 := va1.mono (Ψ := More w0 Φ []) (fun w q => q.1)
 have hle := va0.mx
 have hle2 : (a0 ++ List.replicate 70 165#8).length = a0.length + 70 := by rw [List.length_append, List.length_replicate]
 have v1 : View (More w0 Φ []) A0_ a0.length c0_ 1 (u8s a0) := MRoom.view va0
 have m2 := v1.mx
 have m3 := va1.mx
 refine DoesG.enter Tryd.func46 rfl Tryd.ntmps46 rfl (M := (([] ++ N))) rfl (Z4 (Z2 (Z0 (Z5 rfl) rfl (Z6 (Z1 (Z4 (Z4 (Z2 (Z0 (Z3 rfl) rfl (Z0 (RV.len rfl rfl) rfl (Z0 (Z3 rfl) rfl (Z0 (RV.len rfl rfl) rfl ?_))))))))))))
 refine Z0 (RV.neq rfl rfl) rfl (Z7 (.bool (!decide (a0.length = a1.length))) (congrArg (fun b => Value.bool (!b)) (decide_eq_decide.2 (by omega))) (Z6 (Z1 ?_)))
 by_cases h4 : a0.length = a1.length
 ·replace hf := if_t hf h4
  refine Z14 rfl (congrArg (fun b => !b) (decide_eq_true h4)) (CW.skip (Z1 (Z4 (Z2 (Z0 (Z3 rfl) rfl (Z0 (Z3 rfl) rfl (Z0 (RV.len rfl rfl) rfl (Z0 (RV.add rfl rfl (by omega)) rfl (Z7 (.int .i64 (((a1.length + 70) : Nat) : Int)) (by first | rfl | (congr 1) | (congr 1; omega)) ?_)))))))))
  obtain ⟨g6, hf⟩ := some_if hf
  have hle := va0.le
  have hlen_ : (a0 ++ List.replicate 70 165#8).length = (a0 ++ List.replicate 70 165#8).length := rfl
  refine Z0 (RV.cut_hi ((a1.length + 70)) rfl rfl (by omega) rfl rfl (by omega)) rfl (Z7 (.slice A0_ ((a0 ++ List.replicate 70 165#8).take (a1.length + 70)).length c0_) (by rw [show (((a0 ++ List.replicate 70 165#8).take (a1.length + 70))).length = (a1.length + 70) from List.length_take.trans (Nat.min_eq_left (by omega))]) ?_)
  have v5 : View (More w0 Φ []) A0_ ((a0 ++ List.replicate 70 165#8).take (a1.length + 70)).length c0_ 1 (u8s ((a0 ++ List.replicate 70 165#8).take (a1.length + 70))) := va0.hi8 (by omega)
  have m7 := v5.mx
  refine Z0 (Z5 rfl) rfl (Z6 (Z1 (Z4 (Z4 (Z2 (Z0 (Z5 rfl) rfl (Z6 (Z1 ?_))))))))
  obtain ⟨q8, hq9, hf⟩ := Z102 hf
  refine CW.cutJ (fun L' M' => q8 = Lp.go () ∧ L' = [(0, .slice A0_ a0.length c0_), (1, .slice A1_ a1.length c1_)] ∧ M' = (([] ++ N))) ?_ ?_
  ·rintro L11 M12 ⟨e10, e13, e14⟩
   rw [e13, e14]
   clear e13 e14 L11 M12
   clear hq9
   rw [e10] at hf
   clear e10
   try dsimp only at hf
   refine Z1 (Z4 (Z2 (Z0 (Z3 rfl) rfl (Z0 (Z3 rfl) rfl ?_))))
   obtain ⟨x16, hx15, hf⟩ := Z102 hf
   refine Z12 Tryd.call77 rfl (waybillplay_Same_does w0 (More w0 Φ []) (([] ++ N)) (fun w m => Z118 hΦ 0 m rfl) A0_ c0_ a0 A1_ c1_ a1 x16 v1 va1 hx15) rfl rfl ?_
   rintro _ G17 rfl
   refine Z20 (M' := (([] ++ N))) (fun w m => m.appR) (Z0 (Z5 rfl) rfl (Z6 (Z1 (CW.ret ?_))))
   have e0 := Zi hf
   subst e0
   refine Z109 (rs := [.tmp 4]) ([.bool (x16)]) ([]) rfl ?_ rfl ?_ ?_ _ (.inl rfl)
   ·exact ⟨rfl, trivial⟩
   ·exact rfl
   ·exact (fun w m => m)
  ·skip
   refine CW.block (Z115 (fun k L' M' => ∃ n19 : Nat, (waybillplay_Still.l1 a0 a1 k n19) = some q8 ∧ (n19 ≤ 9223372036854775807) ∧ L' = [(0, .slice A0_ a0.length c0_), (1, .slice A1_ a1.length c1_), (5, .slice A0_ ((a0 ++ List.replicate 70 165#8).take (a1.length + 70)).length c0_), (6, .int .i64 ((n19 : Nat) : Int))] ∧ M' = (([] ++ N))) (k0 := (70 - 0 + 2)) ⟨0, hq9, (by omega), rfl, rfl⟩ ⟨rfl, rfl, rfl, rfl, trivial⟩ (fun w m => m.pick [] 0 rfl rfl) ?_)
   clear hq9
   rintro k21 L24 M25 ⟨n19, hl22, b20, e26, e27⟩
   rw [e26, e27]
   clear e26 e27 L24 M25
   rcases k21 with _ | k21
   ·rw [waybillplay_Still.l1] at hl22; cases hl22
   rw [waybillplay_Still.l1] at hl22
   refine Z4 (Z4 (Z2 (Z0 (Z3 rfl) rfl (Z0 (RV.lss rfl rfl) rfl (Z7 (.bool (decide (n19 < 70))) (congrArg Value.bool (decide_eq_decide.2 (by omega))) (Z6 (Z1 ?_)))))))
   by_cases h28 : n19 < 70
   ·replace hl22 := if_t hl22 h28
    refine Z13 rfl (decide_eq_true h28) (CW.skip (Z1 (Z4 (CW.block (Z4 (Z2 (Z0 (Z3 rfl) rfl (Z0 (Z3 rfl) rfl (Z0 (RV.len rfl rfl) rfl (Z0 (Z3 rfl) rfl (Z0 (RV.add rfl rfl (by omega)) rfl (Z7 (.int .i64 (((a1.length + n19) : Nat) : Int)) (by first | rfl | (congr 1) | (congr 1; omega)) ?_))))))))))))
    obtain ⟨x29, hx30, hl22⟩ := Z102 hl22
    have hl31 := lt_of_at hx30
    refine Z0 (RV.idx_r ((a1.length + n19)) rfl rfl rfl rfl rfl (v5.isSome (by decide) hl31) (by omega)) rfl (Z0 (Z21 rfl rfl rfl (fun w m => v5.cell (Z118 hΦ 0 m rfl) (u8s_at hx30))) rfl (Z0 (RV.neq8 rfl (by first | rfl | exact lit8 _ rfl) rfl (by first | rfl | exact lit8 _ rfl)) rfl (Z6 (Z1 ?_))))
    by_cases h32 : x29 = 165#8
    ·replace hl22 := if_t hl22 h32
     refine Z14 rfl (congrArg (fun b => !b) (decide_eq_true h32)) (CW.skip (Z27 (Z1 (Z2 (Z0 (Z3 rfl) rfl (Z0 (RV.add rfl rfl (by omega)) rfl (Z7 (.int .i64 (((n19 + 1) : Nat) : Int)) (by first | rfl | (congr 1) | (congr 1; omega)) (Z0 (Z5 rfl) rfl (Z6 ?_)))))))))
     exact Z113 (k' := k21) (Nat.lt_succ_self _) ⟨(n19 + 1), hl22, (by omega), rfl, rfl⟩ ⟨rfl, rfl, rfl, rfl, trivial⟩ (fun w m => m.pick [] 0 rfl rfl)
    ·replace hl22 := if_f hl22 h32
     refine Z13 rfl (congrArg (fun b => !b) (decide_eq_false h32)) (Z4 (Z2 (Z0 (Z5 rfl) rfl (Z6 (Z1 (CW.ret (Z16 (Z8 (Z8 (Z16 (Z8 ?_)))))))))))
     have hc := Zi hl22
     subst hc
     try dsimp only at hf
     refine Z8 ?_
     have e0 := Zi hf
     subst e0
     refine Z109 (rs := [.tmp 4]) ([.bool false]) ([]) rfl ?_ rfl ?_ ?_ _ (.inl rfl)
     ·exact ⟨rfl, trivial⟩
     ·exact rfl
     ·exact (fun w m => m)
   ·replace hl22 := if_f hl22 h28
    refine Z14 rfl (decide_eq_false h28) (CW.exit (Z9 (Z9 (Z15 ?_))))
    exact QW.join ⟨(Zi hl22).symm, rfl, rfl⟩ ⟨rfl, rfl, trivial⟩ (fun w m => m.pick [] 0 rfl rfl)
 ·replace hf := if_f hf h4
  refine Z13 rfl (congrArg (fun b => !b) (decide_eq_false h4)) (Z4 (Z2 (Z0 (Z5 rfl) rfl (Z6 (Z1 (CW.ret (Z8 ?_)))))))
  have e0 := Zi hf
  subst e0
  refine Z109 (rs := [.tmp 4]) ([.bool false]) ([]) rfl ?_ rfl ?_ ?_ _ (.inl rfl)
  ·exact ⟨rfl, trivial⟩
  ·exact rfl
  ·exact (fun w m => m)
theorem waybillplay_LentHashes_does (w0 : World) (Φ : Ctx) (N : List Ent) (hΦ : ∀ w, Mem w0 w N → Φ w) (A : Option Addr) (c : Nat) (x y : List (Vector (BitVec 8) 32)) (hg : ∀ j u, (u8s markH.toList)[j]? = some u → w0.cell? ⟨1, j, none⟩ = some u) (va : View Φ A x.length c 32 (ars x)) (hf : lentAr x = some y) :
  DoesG Tryd.prog 20 [.slice A x.length c] w0 [] N (fun v G => ∃ (ob : Option Nat) (k : Nat) (r : List Value), y = x ∧ OwnS ob (x.length + 2) k 32 (ars (x ++ [markH, markH])) r ∧ v = sl ob 0 x.length k ∧ ∃ B, G = (ob, blk (ars (x ++ [markH, markH]) ++ r) 24) :: B) := by
 have hm := va.mx
 unfold lentAr at hf
 obtain ⟨hb, hf⟩ := some_if hf
 obtain rfl := Zi hf
 refine DoesG.enter Tryd.func20 rfl Tryd.ntmps20 rfl (M := N) rfl (Z4 (Z2 (Z0 (Z5 rfl) rfl (Z6 ?_))))
 (refine Z1 ?_; refine Z4 ?_)
 refine Z2 (Z0 (Z5 rfl) rfl (Z6 ?_))
 (refine Z1 ?_; refine Z4 ?_)
 refine Z2 (Z0 (Z3 rfl) rfl (Z0 (Z3 rfl) rfl ?_))
 refine Z20 (M' := ((none, blk ([] ++ []) 24) :: N)) (fun w m => m.nil_ent _) ?_; refine OW.appendOwn (s := 32) rfl rfl rfl rfl rfl rfl OwnS.nil (fun w m => va.rd w (hΦ w (m.drop 1))) va.n (ars_one _) (va.zero (by decide)) (by decide) (by decide) (by simp only [i24]; omega) rfl rfl (x.length) (ars x) (Nat.zero_add _) rfl (fun ob1 r1 k1 o1 => ?_)
 refine Z0 (Z5 rfl) rfl (Z6 ?_)
 (refine Z1 ?_; refine Z4 ?_)
 refine Z2 (Z0 (Z3 rfl) rfl ?_)
 refine Z0 (Z104 (vs := u8s markH.toList) (a := ⟨1, 0, none⟩) rfl rfl rfl rfl (fun w m j u hj => by rw [Z101, Nat.zero_add]; exact m.oldSome (hg j u hj)) ((Z100 _).trans Zv)) rfl ?_
 refine Z0 (Z104 (vs := u8s markH.toList) (a := ⟨1, 0, none⟩) rfl rfl rfl rfl (fun w m j u hj => by rw [Z101, Nat.zero_add]; exact m.oldSome (hg j u hj)) ((Z100 _).trans Zv)) rfl ?_
 refine OW.ofN (NV.bsA (s := 32) (vss := [u8s markH.toList, u8s markH.toList]) (cs := ars [markH, markH]) rfl rfl (by intro q hq; simp only [List.mem_cons, List.not_mem_nil, or_false, or_self] at hq; subst hq; exact (Z100 _).trans Zv) rfl rfl rfl (by decide) (by decide) (by rw [ars_two]; simp)) rfl (fun b2 => ?_)
 refine OW.rot1 ?_; refine OW.appendOwn (s := 32) rfl rfl rfl rfl rfl rfl o1 (fun w m => m.rdl (List.Mem.tail _ Zh) (fun h => nomatch h)) (ars_length _) (ars_one _) (fun h => nomatch h) (by decide) (by decide) (by simp only [i24]; omega) rfl rfl (x.length + 2) (ars (x ++ [markH, markH])) rfl (ars_app ..).symm (fun ob3 r3 k3 o3 => ?_)
 refine Z0 (Z5 rfl) rfl (Z6 ?_)
 (refine Z1 ?_; refine Z4 ?_)
 have hle := o3.le (by decide)
 refine Z2 (Z0 (Z3 rfl) rfl (Z0 (Z3 rfl) rfl (Z0 (RV.len rfl rfl) rfl (Z0 (RV.cut_o _ rfl rfl rfl rfl rfl (by omega)) rfl (Z0 (Z5 rfl) rfl (Z6 ?_))))))
 (refine Z1 ?_; refine CW.ret ?_)
 refine Z109 (rs := [.tmp 2]) [sl ob3 0 x.length k3] ((ob3, blk (ars (x ++ [markH, markH]) ++ r3) 24) :: [(some b2, blk (ars [markH, markH]) 24)]) rfl ?_ rfl ⟨ob3, k3, r3, rfl, o3, rfl, _, rfl⟩ (fun w m => m) _ (.inl rfl)
 exact ⟨rfl, trivial⟩
theorem waybillplay_StillHashes_does (w0 : World) (Φ : Ctx) (N : List Ent) (hΦ : ∀ w, Mem w0 w N → Φ w) (A : Option Addr) (c : Nat) (A1 : Option Addr) (c1 : Nat) (x : List (Vector (BitVec 8) 32)) (hg : ∀ j u, (u8s markH.toList)[j]? = some u → w0.cell? ⟨1, j, none⟩ = some u) (va : HRoom markH Φ A c x) (v1 : View Φ A1 x.length c1 32 (ars x)) :
  DoesG Tryd.prog 23 [.slice A x.length c, .slice A1 x.length c1] w0 [] N (fun v G => v = .bool true) := by
 have hm := View.mx va
 have hle := View.le va
 have hs := View.isSome va (by decide) (i := 0) (by omega)
 refine DoesG.enter Tryd.func23 rfl Tryd.ntmps23 rfl (M := N) rfl (Z4 (Z2 (Z0 (Z5 rfl) rfl (Z6 ?_))))
 (refine Z1 ?_; refine Z4 ?_; refine Z4 ?_)
 refine Z2 (Z0 (Z3 rfl) rfl (Z0 (RV.len rfl rfl) rfl (Z0 (Z3 rfl) rfl (Z0 (RV.len rfl rfl) rfl (Z0 (RV.neq_f rfl rfl (by omega)) rfl (Z6 (Z1 (CW.cond_f rfl ?_))))))))
 (refine CW.skip ?_; refine Z1 ?_; refine Z4 ?_)
 refine Z2 (Z0 (Z3 rfl) rfl (Z0 (Z3 rfl) rfl (Z0 (RV.len rfl rfl) rfl (Z0 (RV.add rfl rfl (by omega)) rfl (Z0 (RV.cut_hi (x.length + 2) rfl rfl (by omega) rfl rfl (by omega)) rfl (Z0 (Z5 rfl) rfl (Z6 ?_)))))))
 (refine Z1 ?_; refine Z4 ?_; refine Z4 ?_)
 refine Z2 (Z0 (Z5 rfl) rfl (Z6 ?_))
 (refine Z1 ?_; refine CW.block ?_)
 refine Z115 (fun k L' M' => ∃ (i : Nat), k = x.length - i ∧ i ≤ x.length ∧ L' = [(1, .slice A1 x.length c1), (5, .slice A (x.length + 2) c), (6, .int .i64 (i : Int))] ∧
  M' = N) (k0 := x.length) ⟨0, rfl, by omega, rfl, rfl⟩ ⟨rfl, rfl, rfl, trivial⟩ (fun w m => m) ?_
 rintro k L' M' ⟨i, rfl, hi, rfl, hM⟩
 rw [hM]
 clear hM M'
 (refine Z4 ?_; refine Z4 ?_)
 refine Z2 (Z0 (Z3 rfl) rfl (Z0 (Z3 rfl) rfl (Z0 (RV.len rfl rfl) rfl (Z0 (RV.lss rfl rfl) rfl (Z6 (Z1 ?_))))))
 refine CW.cond_p rfl (fun hlt2 => ?_) (fun hlt2 => ?_)
 ·have h1 : i < x.length := by omega
  have hx : x[i]? = some x[i] := List.getElem?_eq_getElem h1
  have hx2 : (x ++ [markH, markH])[i]? = some x[i] := by rw [List.getElem?_append_left h1]; exact hx
  have hs1 := v1.isSome (by decide) h1
  (refine CW.skip ?_; refine Z1 ?_; refine Z4 ?_; refine CW.block ?_; refine Z4 ?_)
  refine CW.drawsX N [] (fun w m => m) mixed (by kernel_rfl) (Z10 0 rfl (by kernel_rfl) rfl (Z3 rfl) rfl (Z10 1 rfl (by kernel_rfl) rfl (Z3 rfl) rfl (Z10 2 rfl (by kernel_rfl) rfl (Z103 (i) rfl rfl rfl rfl rfl hs (by omega)) rfl (Z10 3 rfl (by kernel_rfl) rfl (Z104 (vs := u8s (x[i]).toList) rfl rfl rfl rfl (fun w m => View.load va (hΦ w m) (ars_get hx2)) ((Z100 _).trans Zv)) rfl (Z10 4 rfl (by kernel_rfl) rfl (Z3 rfl) rfl (Z10 5 rfl (by kernel_rfl) rfl (Z3 rfl) rfl (Z10 6 rfl (by kernel_rfl) rfl (Z103 (i) rfl rfl rfl rfl rfl hs1 (by omega)) rfl ?_)))))))
  refine Z10 7 rfl (by kernel_rfl) rfl (Z104 (vs := u8s (x[i]).toList) rfl rfl rfl rfl (fun w m => v1.load (hΦ w m) (ars_get hx)) ((Z100 _).trans Zv)) rfl (Z10 8 rfl (by kernel_rfl) rfl (RV.neA8_f rfl rfl rfl rfl rfl rfl (Zv) rfl) rfl (XW.nil (by kernel_rfl) (Z1 (CW.cond_f rfl ?_))))
  (refine CW.skip ?_; refine Z27 ?_; refine Z1 ?_)
  refine Z2 (Z0 (Z3 rfl) rfl (Z0 (RV.add rfl rfl (by omega)) rfl (Z0 (Z5 rfl) rfl (Z6 ?_))))
  refine Z113 (k' := x.length - (i + 1)) (by omega) ⟨i + 1, rfl, by omega, rfl, rfl⟩ ⟨rfl, rfl, rfl, trivial⟩ (fun w m => m)
 ·have hx1 : (x ++ [markH, markH])[x.length]? = some markH := by simp
  have hx2 : (x ++ [markH, markH])[x.length + 1]? = some markH := by simp
  (refine CW.exit ?_; refine Z9 ?_; refine Z9 ?_; refine Z15 ?_; refine Z1 ?_; refine Z4 ?_)
  refine CW.drawsX N [] (fun w m => m) mixed (by kernel_rfl) (Z10 0 rfl (by kernel_rfl) rfl (Z3 rfl) rfl (Z10 1 rfl (by kernel_rfl) rfl (Z3 rfl) rfl (Z10 2 rfl (by kernel_rfl) rfl (RV.len rfl rfl) rfl (Z10 3 rfl (by kernel_rfl) rfl (Z103 (x.length) rfl rfl rfl rfl rfl hs (by omega)) rfl (Z10 4 rfl (by kernel_rfl) rfl (Z104 (vs := u8s markH.toList) rfl rfl rfl rfl (fun w m => View.load va (hΦ w m) (ars_get hx1)) ((Z100 _).trans Zv)) rfl ?_)))))
  refine Z10 5 rfl (by kernel_rfl) rfl (Z104 (vs := u8s markH.toList) (a := ⟨1, 0, none⟩) rfl rfl rfl rfl (fun w m j u hj => by rw [Z101, Nat.zero_add]; exact m.oldSome (hg j u hj)) ((Z100 _).trans Zv)) rfl ?_
  refine Z10 6 rfl (by kernel_rfl) rfl (RV.eqA8_t rfl rfl rfl rfl rfl rfl (Zv) rfl) rfl (Z10 7 rfl (by kernel_rfl) rfl (Z3 rfl) rfl (Z10 8 rfl (by kernel_rfl) rfl (Z3 rfl) rfl (Z10 9 rfl (by kernel_rfl) rfl (Z3 rfl) rfl (Z10 10 rfl (by kernel_rfl) rfl (RV.len rfl rfl) rfl (Z10 11 rfl (by kernel_rfl) rfl (RV.add rfl rfl (by omega)) rfl (Z10 12 rfl (by kernel_rfl) rfl (Z103 (x.length + 1) rfl rfl (by omega) rfl rfl hs (by omega)) rfl (Z10 13 rfl (by kernel_rfl) rfl (Z104 (vs := u8s markH.toList) rfl rfl rfl rfl (fun w m => View.load va (hΦ w m) (ars_get hx2)) ((Z100 _).trans Zv)) rfl ?_)))))))
  refine Z10 14 rfl (by kernel_rfl) rfl (Z104 (vs := u8s markH.toList) (a := ⟨1, 0, none⟩) rfl rfl rfl rfl (fun w m j u hj => by rw [Z101, Nat.zero_add]; exact m.oldSome (hg j u hj)) ((Z100 _).trans Zv)) rfl ?_
  refine Z10 15 rfl (by kernel_rfl) rfl (RV.eqA8_t rfl rfl rfl rfl rfl rfl (Zv) rfl) rfl (Z10 16 rfl (by kernel_rfl) rfl (Z112 rfl rfl rfl) rfl (Z10 17 rfl (by kernel_rfl) rfl (Z5 rfl) rfl (XW.nil (by kernel_rfl) ?_)))
  (refine Z1 ?_; refine CW.ret ?_)
  refine Z109 (rs := [.tmp 4]) [.bool true] [] rfl ?_ rfl rfl (fun w m => m) _ (.inl rfl)
  exact ⟨rfl, trivial⟩
theorem waybillplay_LentReceipt_does (w0 : World) (Φ : Ctx) (N : List Ent) (hΦ : ∀ w, Mem w0 w N → Φ w) (cs0 : List Value) (r : Rcpt) (hr : RcptRd Φ cs0 r) (hfit : LgFit r)
  (hgH : ∀ j u, (u8s markH.toList)[j]? = some u → w0.cell? ⟨1, j, none⟩ = some u) (hgA : ∀ j u, (u8s markA.toList)[j]? = some u → w0.cell? ⟨0, j, none⟩ = some u) :
  DoesG Tryd.prog 12 [.agg cs0.toArray] w0 [] N (fun v G => ∃ cs', v = .agg cs'.toArray ∧ RgRd (fun w => Mem w0 w G) cs' r) := by
 obtain ⟨A, c, csl, rfl, hk, vl, rl0⟩ := hr.opn
 obtain ⟨hf1, hf2⟩ := hfit
 refine DoesG.enter Tryd.func12 rfl Tryd.ntmps12 rfl (M := N) rfl (Z4 (Z2 (OW.boxA rfl rfl (fun b1 => (OW.alloc (l := RcptZ.C) rfl (by kernel_rfl) rfl (fun b2 => (Z6 ?_)))))))
 (refine Z1 ?_; refine Z4 ?_)
 refine Z2 (Z0 (Z22 rfl (List.Mem.tail _ Zh) rfl rfl rfl rfl (RcptC.C_length _)) rfl (OW.alloc (l := RcptZ.C) rfl (by kernel_rfl) rfl (fun b3 => (Z28 (SV.storeW rfl rfl rfl (RcptC.C_one _ rfl) rfl (RcptC.C_length _) (RcptC.C_length _)) (Z6 ?_)))))
 (refine Z1 ?_; refine Z4 ?_)
 refine Z2 (Z0 (Z5 rfl) rfl (Z6 ?_))
 (refine Z1 ?_; refine Z4 ?_; refine Z4 ?_)
 refine Z2 (Z0 (Z5 rfl) rfl (Z6 ?_))
 (refine Z1 ?_; refine CW.block ?_)
 refine CW.mem (M' := (none, blk ([] ++ []) 63) :: (some b3, blk (⟨r.kind, r.rooted, r.root, r.status, r.used, r.bloom, .slice A r.logs.length c⟩ : RcptC).C 30) :: (some b2, blk RcptZ.C 30) :: (some b1, blk (⟨r.kind, r.rooted, r.root, r.status, r.used, r.bloom, .slice A r.logs.length c⟩ : RcptC).C 30) :: ([] ++ N)) (fun w m => m.nil_ent _) ?_
 refine Z115 (fun k L' M' => ∃ (i : Nat) (cs : List Value) (ol : Option Nat) (kl : Nat) (rl : List Value) (B : List Ent), k = r.logs.length - i ∧ i ≤ r.logs.length ∧ OwnS ol i kl 22 cs rl ∧ Reps (LmRd2 (fun w => Mem w0 w B)) cs (r.logs.take i) ∧ L' = [(1, ptr (some b1) 0), (2, ptr (some b2) 0), (3, ptr (some b3) 0), (4, sl ol 0 i kl), (5, .int .i64 (i : Int))] ∧
  M' = (ol, blk (cs ++ rl) 63) :: (some b3, blk (⟨r.kind, r.rooted, r.root, r.status, r.used, r.bloom, .slice A r.logs.length c⟩ : RcptC).C 30) :: (some b2, blk RcptZ.C 30) :: (some b1, blk (⟨r.kind, r.rooted, r.root, r.status, r.used, r.bloom, .slice A r.logs.length c⟩ : RcptC).C 30) :: (B ++ N)) (k0 := r.logs.length) ⟨0, [], none, 0, [], [], rfl, by omega, OwnS.nil, .nil, rfl, rfl⟩ ⟨rfl, rfl, rfl, rfl, rfl, trivial⟩ (fun w m => m) ?_
 rintro k L' M' ⟨i, cs, ol, kl, rl, B, rfl, hi, hol, hR, rfl, hM⟩
 rw [hM]
 clear hM M'
 (refine Z4 ?_; refine Z4 ?_)
 refine Z2 (Z0 (Z3 rfl) rfl ?_)
 refine Z0 (Z30 rfl rfl rfl rfl) rfl ?_; refine Z7 (ptr (some b1) 292) rfl ?_
 refine Z0 (Z29 rfl (List.Mem.tail _ (List.Mem.tail _ (List.Mem.tail _ Zh))) rfl rfl rfl (Z105 _)) rfl (Z0 (RV.len rfl rfl) rfl (Z0 (RV.lss rfl rfl) rfl (Z6 (Z1 ?_))))
 refine CW.cond_p rfl (fun hlt2 => ?_) (fun hlt2 => ?_)
 ·have h1 : i < r.logs.length := by omega
  have hx : r.logs[i]? = some r.logs[i] := List.getElem?_eq_getElem h1
  obtain ⟨ci, hci, hcc⟩ := rl0.get LogRd.len hx
  obtain ⟨At, ct, cst, Ad, cd, rfl, vt, ht, vd⟩ := LogRd.opn hci
  have hst := ars_of ht
  subst hst
  obtain ⟨hfx, hfd⟩ := hf2 _ (List.getElem_mem h1)
  have hsome := vl.isSome (by decide) h1
  generalize hlx : r.logs[i] = lx at *
  (refine CW.skip ?_; refine Z1 ?_; refine Z4 ?_; refine CW.block ?_; refine Z4 ?_)
  refine Z2 ?_
  refine Z0 (Z30 rfl rfl rfl rfl) rfl ?_; refine Z7 (ptr (some b1) 292) rfl ?_
  refine Z0 (Z29 rfl (List.Mem.tail _ (List.Mem.tail _ (List.Mem.tail _ Zh))) rfl rfl rfl (Z105 _)) rfl (Z0 (Z3 rfl) rfl (Z0 (Z103 (i) rfl rfl rfl rfl rfl hsome (by omega)) rfl (Z0 (Z104 rfl rfl rfl rfl (fun w m => vl.load (hΦ w (m.drop 4).appR) hcc) (LogC.C_length _)) rfl (OW.alloc (l := LogZ0.C) rfl (by kernel_rfl) rfl (fun b6 => (Z28 (SV.storeW rfl rfl rfl (LogC.C_one _ rfl rfl) rfl (LogC.C_length _) (LogC.C_length _)) (Z6 (Z1 (CW.mem (M' := (ol, blk (cs ++ rl) 63) :: (some b6, blk (⟨lx.address, .slice At lx.topics.length ct, .slice Ad lx.data.length cd⟩ : LogC).C 63) :: (some b3, blk (⟨r.kind, r.rooted, r.root, r.status, r.used, r.bloom, .slice A r.logs.length c⟩ : RcptC).C 30) :: (some b2, blk RcptZ.C 30) :: (some b1, blk (⟨r.kind, r.rooted, r.root, r.status, r.used, r.bloom, .slice A r.logs.length c⟩ : RcptC).C 30) :: (B ++ N)) (fun w m => m.pick [1, 0] 2 rfl rfl) ?_)))))))))
  refine CW.drawsX ((some b6, blk (⟨lx.address, .slice At lx.topics.length ct, .slice Ad lx.data.length cd⟩ : LogC).C 63) :: (some b3, blk (⟨r.kind, r.rooted, r.root, r.status, r.used, r.bloom, .slice A r.logs.length c⟩ : RcptC).C 30) :: (some b2, blk RcptZ.C 30) :: (some b1, blk (⟨r.kind, r.rooted, r.root, r.status, r.used, r.bloom, .slice A r.logs.length c⟩ : RcptC).C 30) :: (B ++ N)) [11] (fun w m => m.tail) mixed (by kernel_rfl) (Z10 0 rfl (by kernel_rfl) rfl (Z3 rfl) rfl (Z10 1 rfl (by kernel_rfl) rfl (Z30 rfl rfl rfl rfl) rfl (Z10 2 rfl (by kernel_rfl) rfl (RV.loadAo (vs := u8s lx.address.toList) rfl Zh rfl rfl rfl rfl (Z106 ⟨lx.address, .slice At lx.topics.length ct, .slice Ad lx.data.length cd⟩) ((Z100 _).trans Zv)) rfl (Z10 3 rfl (by kernel_rfl) rfl (Z30 rfl rfl rfl rfl) rfl (Z10 4 rfl (by kernel_rfl) rfl (Z29 rfl Zh rfl rfl rfl (Z111 _)) rfl (Z10 6 rfl (by kernel_rfl) rfl (Z30 rfl rfl rfl rfl) rfl (Z10 7 rfl (by kernel_rfl) rfl (Z29 rfl Zh rfl rfl rfl (LogC.C_data _)) rfl ?_)))))))
  refine Z11 5 rfl (by kernel_rfl) rfl Tryd.call20 rfl (fun N' hN' => waybillplay_LentHashes_does w0 Φ N' (fun w m => hΦ w ((hN' w m).drop 5).appR) At ct lx.topics lx.topics hgH vt (if_pos hfx)) rfl ?_
  rintro _ _ ⟨oh, kh, rh, _, owh, rfl, B4, rfl⟩
  refine Z11 8 rfl (by kernel_rfl) rfl Tryd.call44 rfl (fun N' hN' => waybillplay_Lent_does w0 Φ N' (fun w m => hΦ w ((hN' w m).appR.drop 5).appR) Ad cd lx.data lx.data vd (lentPlay_eq _ hfd)) rfl ?_
  rintro _ _ ⟨B5, od, kd, rd, owd, hbd, rfl, rfl⟩
  generalize hG1 : (((oh, blk (ars (lx.topics ++ [markH, markH]) ++ rh) 24) :: B4) : List Ent) = G1
  generalize hG2 : (((od, blk ((u8s lx.data) ++ (u8s (List.replicate 70 165#8) ++ rd)) 5) :: B5) : List Ent) = G2
  have hnew : LmRd2 (fun w => Mem w0 w (G2 ++ (G1 ++ B))) (⟨lx.address, sl oh 0 lx.topics.length kh, sl od 0 lx.data.length kd⟩ : LogC).C lx := by
   refine ⟨_, kh, _, kd, rfl, ?_, ?_⟩
   ·exact owh.view (te := 24) (w0 := w0) (by decide) (fun w q => by have q2 := (q.appR).appL; rw [← hG1] at q2; exact q2.sublist (List.singleton_sublist.2 (List.mem_cons_self ..)))
   ·exact OwnS.mroom (te := 5) (w0 := w0) owd (fun w q => by have q2 := q.appL; rw [← hG2] at q2; exact q2.sublist (List.singleton_sublist.2 (List.mem_cons_self ..))) (by rw [List.length_replicate]; omega)
  refine Z10 9 rfl (by kernel_rfl) rfl (RV.buildSt (l := LogZ0.C) (cs := (⟨lx.address, sl oh 0 lx.topics.length kh, sl od 0 lx.data.length kd⟩ : LogC).C) [(0, u8s lx.address.toList), (1, [sl oh 0 lx.topics.length kh]), (2, [sl od 0 lx.data.length kd])] rfl rfl rfl (by kernel_rfl) rfl rfl (by
   refine (fillL_cons rfl ((Z100 _).trans Zv) (by rw [LogC.C_length]; exact Nat.le_of_ble_eq_true rfl)).trans ?_; rw [LogC.C_address_spl]
   refine (fillL_cons rfl rfl (by rw [LogC.C_length]; exact Nat.le_of_ble_eq_true rfl)).trans ?_; rw [spl_one (by rw [LogC.C_length]; exact Nat.le_of_ble_eq_true rfl), LogC.C_topics_set]
   refine (fillL_cons rfl rfl (by rw [LogC.C_length]; exact Nat.le_of_ble_eq_true rfl)).trans ?_; rw [spl_one (by rw [LogC.C_length]; exact Nat.le_of_ble_eq_true rfl), LogC.C_data_set]
   rfl)) rfl ?_
  generalize hcx : (⟨lx.address, sl oh 0 lx.topics.length kh, sl od 0 lx.data.length kd⟩ : LogC).C = cx at hnew ⊢
  have hcxl : cx.length = 22 := by rw [← hcx]; exact LogC.C_length _
  have hcx1 : ∀ u ∈ cx, u.oneCell' = true := by rw [← hcx]; exact LogC.C_one _ rfl rfl
  refine XW.new 10 rfl (by kernel_rfl) rfl (NV.bsA (s := 22) (vss := [cx]) (cs := cx) rfl rfl (by intro q hq; obtain rfl := List.mem_singleton.1 hq; exact hcxl) rfl rfl rfl (by decide) (by decide) (List.append_nil _)) rfl (fun bn => ?_)
  refine Z19 (M' := (ol, blk (cs ++ rl) 63) :: (some bn, blk cx 63) :: (G2 ++ (G1 ++ ((some b6, blk (⟨lx.address, .slice At lx.topics.length ct, .slice Ad lx.data.length cd⟩ : LogC).C 63) :: (some b3, blk (⟨r.kind, r.rooted, r.root, r.status, r.used, r.bloom, .slice A r.logs.length c⟩ : RcptC).C 30) :: (some b2, blk RcptZ.C 30) :: (some b1, blk (⟨r.kind, r.rooted, r.root, r.status, r.used, r.bloom, .slice A r.logs.length c⟩ : RcptC).C 30) :: (B ++ N))))) (fun w m => by
   refine m.perm ?_
   have p1 : List.Perm (G1 ++ ((ol, blk (cs ++ rl) 63) :: ((some b6, blk (⟨lx.address, .slice At lx.topics.length ct, .slice Ad lx.data.length cd⟩ : LogC).C 63) :: (some b3, blk (⟨r.kind, r.rooted, r.root, r.status, r.used, r.bloom, .slice A r.logs.length c⟩ : RcptC).C 30) :: (some b2, blk RcptZ.C 30) :: (some b1, blk (⟨r.kind, r.rooted, r.root, r.status, r.used, r.bloom, .slice A r.logs.length c⟩ : RcptC).C 30) :: (B ++ N)))) ((ol, blk (cs ++ rl) 63) :: (G1 ++ ((some b6, blk (⟨lx.address, .slice At lx.topics.length ct, .slice Ad lx.data.length cd⟩ : LogC).C 63) :: (some b3, blk (⟨r.kind, r.rooted, r.root, r.status, r.used, r.bloom, .slice A r.logs.length c⟩ : RcptC).C 30) :: (some b2, blk RcptZ.C 30) :: (some b1, blk (⟨r.kind, r.rooted, r.root, r.status, r.used, r.bloom, .slice A r.logs.length c⟩ : RcptC).C 30) :: (B ++ N)))) := List.perm_middle
   have p2 : List.Perm (G2 ++ ((ol, blk (cs ++ rl) 63) :: (G1 ++ ((some b6, blk (⟨lx.address, .slice At lx.topics.length ct, .slice Ad lx.data.length cd⟩ : LogC).C 63) :: (some b3, blk (⟨r.kind, r.rooted, r.root, r.status, r.used, r.bloom, .slice A r.logs.length c⟩ : RcptC).C 30) :: (some b2, blk RcptZ.C 30) :: (some b1, blk (⟨r.kind, r.rooted, r.root, r.status, r.used, r.bloom, .slice A r.logs.length c⟩ : RcptC).C 30) :: (B ++ N))))) ((ol, blk (cs ++ rl) 63) :: (G2 ++ (G1 ++ ((some b6, blk (⟨lx.address, .slice At lx.topics.length ct, .slice Ad lx.data.length cd⟩ : LogC).C 63) :: (some b3, blk (⟨r.kind, r.rooted, r.root, r.status, r.used, r.bloom, .slice A r.logs.length c⟩ : RcptC).C 30) :: (some b2, blk RcptZ.C 30) :: (some b1, blk (⟨r.kind, r.rooted, r.root, r.status, r.used, r.bloom, .slice A r.logs.length c⟩ : RcptC).C 30) :: (B ++ N))))) := List.perm_middle
   exact (List.Perm.cons _ ((List.Perm.append_left G2 p1).trans p2)).trans (List.Perm.swap _ _ _)) (fun w m => (m.drop 2).appR.appR) ?_
  refine XW.appendOwn 11 (s := 22) rfl (by kernel_rfl) rfl rfl rfl rfl rfl rfl hol (fun w m => m.rdl (List.Mem.tail _ Zh) (fun e => nomatch e)) hcxl hcx1 (fun e => nomatch e) (by decide) (by decide) (by simp only [i63]; omega) rfl (i + 1) (cs ++ cx) rfl rfl (fun w m => m.tail.appR.appR) rfl (fun ol2 rl2 kl2 hol2 => (Z10 12 rfl (by kernel_rfl) rfl (Z5 rfl) rfl (XW.nil (by kernel_rfl) (QW.mem (M' := (ol2, blk ((cs ++ cx) ++ rl2) 63) :: (some b3, blk (⟨r.kind, r.rooted, r.root, r.status, r.used, r.bloom, .slice A r.logs.length c⟩ : RcptC).C 30) :: (some b2, blk RcptZ.C 30) :: (some b1, blk (⟨r.kind, r.rooted, r.root, r.status, r.used, r.bloom, .slice A r.logs.length c⟩ : RcptC).C 30) :: ((G2 ++ (G1 ++ B)) ++ N)) (fun w m => mem_re (C := [_, _, _]) m) ?_))))
  (refine Z27 ?_; refine Z1 ?_)
  refine Z2 (Z0 (Z3 rfl) rfl (Z0 (RV.add rfl rfl (by omega)) rfl (Z0 (Z5 rfl) rfl (Z6 ?_))))
  refine Z113 (k' := r.logs.length - (i + 1)) (by omega) ⟨i + 1, cs ++ cx, ol2, kl2, rl2, _, rfl, by omega, hol2, ?_, rfl, rfl⟩ ⟨rfl, rfl, rfl, rfl, rfl, trivial⟩ (fun w m => m)
  rw [List.take_add_one, hx]
  exact (hR.mono (LmRd2.mono (fun w m => m.appR.appR))).snoc hnew
 ·have hie : i = r.logs.length := by omega
  subst hie
  rw [List.take_length] at hR
  have hcsl := hR.len LmRd2.len
  (refine CW.exit ?_; refine Z9 ?_; refine Z9 ?_; refine Z15 ?_; refine Z1 ?_; refine Z4 ?_)
  refine Z2 (Z0 (Z3 rfl) rfl ?_)
  refine Z0 (Z104 (vs := u8s markA.toList) (a := ⟨0, 0, none⟩) rfl rfl rfl rfl (fun w m j u hj => by rw [Z101, Nat.zero_add]; exact m.oldSome (hgA j u hj)) ((Z100 _).trans Zv)) rfl ?_
  refine Z0 (RV.buildSt (l := LogZ0.C) (cs := LgMk2.C) [(0, u8s markA.toList)] rfl rfl rfl (by kernel_rfl) rfl rfl (by refine (fillL_cons rfl ((Z100 _).trans Zv) (by rw [LogC.C_length]; exact Nat.le_of_ble_eq_true rfl)).trans ?_; rw [LogC.C_address_spl]; rfl)) rfl ?_
  refine Z0 (Z104 (vs := u8s markA.toList) (a := ⟨0, 0, none⟩) rfl rfl rfl rfl (fun w m j u hj => by rw [Z101, Nat.zero_add]; exact m.oldSome (hgA j u hj)) ((Z100 _).trans Zv)) rfl ?_
  refine Z0 (RV.buildSt (l := LogZ0.C) (cs := LgMk2.C) [(0, u8s markA.toList)] rfl rfl rfl (by kernel_rfl) rfl rfl (by refine (fillL_cons rfl ((Z100 _).trans Zv) (by rw [LogC.C_length]; exact Nat.le_of_ble_eq_true rfl)).trans ?_; rw [LogC.C_address_spl]; rfl)) rfl ?_
  refine OW.ofN (NV.bsA (s := 22) (vss := [LgMk2.C, LgMk2.C]) (cs := LgMk2.C ++ LgMk2.C) rfl rfl (by intro q hq; simp only [List.mem_cons, List.not_mem_nil, or_false, or_self] at hq; subst hq; exact LogC.C_length _) rfl rfl rfl (by decide) (by decide) (by simp)) rfl (fun bn => ?_)
  refine OW.rot1 ?_; refine OW.appendOwn (s := 22) rfl rfl rfl rfl rfl rfl hol (fun w m => m.rdl (List.Mem.tail _ Zh) (fun h => nomatch h)) (by rw [List.length_append, LogC.C_length]) (by intro u hu; rcases List.mem_append.1 hu with hu | hu <;> exact LogC.C_one _ rfl rfl u hu) (fun h => nomatch h) (by decide) (by decide) (by simp only [i63]; omega) rfl rfl (r.logs.length + 2) (cs ++ (LgMk2.C ++ LgMk2.C)) rfl rfl (fun o3 r3 k3 ow3 => ?_)
  refine Z0 (Z5 rfl) rfl (Z6 ?_)
  (refine Z1 ?_; refine Z4 ?_)
  have hle3 := ow3.le (by decide)
  refine CW.mem (M' := (some b3, blk (⟨r.kind, r.rooted, r.root, r.status, r.used, r.bloom, .slice A r.logs.length c⟩ : RcptC).C 30) :: (o3, blk ((cs ++ (LgMk2.C ++ LgMk2.C)) ++ r3) 63) :: (some b2, blk RcptZ.C 30) :: (some b1, blk (⟨r.kind, r.rooted, r.root, r.status, r.used, r.bloom, .slice A r.logs.length c⟩ : RcptC).C 30) :: (B ++ N)) (fun w m => m.pick [2, 0, 3] 4 rfl rfl) (Z2 (Z0 (Z3 rfl) rfl ?_))
  refine Z0 (Z30 rfl rfl rfl rfl) rfl ?_; refine Z7 (ptr (some b1) 292) rfl ?_
  refine Z0 (Z29 rfl (List.Mem.tail _ (List.Mem.tail _ (List.Mem.tail _ Zh))) rfl rfl rfl (Z105 _)) rfl (Z0 (RV.len rfl rfl) rfl (Z0 (RV.cut_o (r.logs.length) rfl rfl rfl rfl rfl (by omega)) rfl ?_))
  refine Z0 (Z30 rfl rfl rfl rfl) rfl ?_; refine Z7 (ptr (some b3) 292) rfl ?_
  refine Z28 (SV.store rfl rfl rfl rfl rfl (by rw [RcptC.C_length]; omega)) ?_; refine OW.cells (⟨r.kind, r.rooted, r.root, r.status, r.used, r.bloom, sl o3 0 r.logs.length k3⟩ : RcptC).C (RcptC.C_logs_set _ _) ?_
  refine Z6 ?_
  (refine Z1 ?_; refine Z4 ?_)
  refine CW.mem (M' := (some b2, blk RcptZ.C 30) :: (some b3, blk (⟨r.kind, r.rooted, r.root, r.status, r.used, r.bloom, sl o3 0 r.logs.length k3⟩ : RcptC).C 30) :: (o3, blk ((cs ++ (LgMk2.C ++ LgMk2.C)) ++ r3) 63) :: (B ++ N)) (fun w m => m.pick [2, 0, 1] 4 rfl rfl) (Z2 (Z0 (Z22 rfl (List.Mem.tail _ Zh) rfl rfl rfl rfl (RcptC.C_length _)) rfl (Z28 (SV.storeW rfl rfl rfl (RcptC.C_one _ rfl) rfl (RcptC.C_length _) (RcptC.C_length _)) (Z6 ?_))))
  (refine Z1 ?_; refine CW.ret ?_)
  refine Z109 (rs := [.cell 2 30]) [.agg (⟨r.kind, r.rooted, r.root, r.status, r.used, r.bloom, sl o3 0 r.logs.length k3⟩ : RcptC).C.toArray] (((o3, blk ((cs ++ (LgMk2.C ++ LgMk2.C)) ++ r3) 63) :: B)) rfl ?_ rfl ⟨_, rfl, _, k3, rfl, hk, cs, ?_, hR.mono (LmRd2.mono (fun w m => m.tail))⟩ (fun w m => m.drop 2) _ (.inl rfl)
  ·exact ⟨⟨_, _, _, _, rfl, Zh, rfl, rfl, (congrArg some (RcptC.C_length _)).symm, rfl⟩, trivial⟩
  ·exact ow3.view (te := 63) (w0 := w0) (by decide) (fun w q => q.sublist (List.singleton_sublist.2 (List.mem_cons_self ..)))
theorem waybillplay_StillReceipt_does (w0 : World) (Φ : Ctx) (N : List Ent) (hΦ : ∀ w, Mem w0 w N → Φ w) (cs0 cs1 : List Value) (r : Rcpt) (hq : RgRd Φ cs0 r) (hr : RcptRd Φ cs1 r)
  (hgH : ∀ j u, (u8s markH.toList)[j]? = some u → w0.cell? ⟨1, j, none⟩ = some u) (hgA : ∀ j u, (u8s markA.toList)[j]? = some u → w0.cell? ⟨0, j, none⟩ = some u) :
  DoesG Tryd.prog 17 [.agg cs0.toArray, .agg cs1.toArray] w0 [] N (fun v G => v = .bool true) := by
 obtain ⟨A, c, rfl, hk, ml⟩ := hq
 obtain ⟨cl, vb, vl, rl⟩ := ml.opn
 obtain ⟨A1, c1, cl1, rfl, hk1, vl1, rl1⟩ := hr.opn
 have hm := vb.mx
 have hle := vb.le
 have hs := vb.isSome (by decide) (i := 0) (by omega)
 have hcl := rl.len LmRd2.len
 refine DoesG.enter Tryd.func17 rfl Tryd.ntmps17 rfl (M := N) rfl (Z4 (Z2 (OW.boxA rfl rfl (fun b2 => (OW.boxA rfl rfl (fun b3 => (Z0 (Z5 rfl) rfl (Z6 ?_))))))))
 (refine Z1 ?_; refine Z4 ?_; refine Z4 ?_)
 refine CW.mem (M' := (some b2, blk (⟨r.kind, r.rooted, r.root, r.status, r.used, r.bloom, .slice A r.logs.length c⟩ : RcptC).C 30) :: (some b3, blk (⟨r.kind, r.rooted, r.root, r.status, r.used, r.bloom, .slice A1 r.logs.length c1⟩ : RcptC).C 30) :: N) (fun w m => m.pick [1, 0] 2 rfl rfl) (Z2 ?_)
 refine Z0 (Z30 rfl rfl rfl rfl) rfl ?_; refine Z7 (ptr (some b2) 292) rfl ?_
 refine Z0 (Z29 rfl Zh rfl rfl rfl (Z105 _)) rfl (Z0 (RV.len rfl rfl) rfl ?_)
 refine Z0 (Z30 rfl rfl rfl rfl) rfl ?_; refine Z7 (ptr (some b3) 292) rfl ?_
 refine Z0 (Z29 rfl (List.Mem.tail _ Zh) rfl rfl rfl (Z105 _)) rfl (Z0 (RV.len rfl rfl) rfl (Z0 (RV.neq_f rfl rfl (by omega)) rfl (Z6 (Z1 (CW.cond_f rfl ?_)))))
 (refine CW.skip ?_; refine Z1 ?_; refine Z4 ?_)
 refine Z2 ?_
 refine Z0 (Z30 rfl rfl rfl rfl) rfl ?_; refine Z7 (ptr (some b2) 292) rfl ?_
 refine Z0 (Z29 rfl Zh rfl rfl rfl (Z105 _)) rfl ?_
 refine Z0 (Z30 rfl rfl rfl rfl) rfl ?_; refine Z7 (ptr (some b3) 292) rfl ?_
 refine Z0 (Z29 rfl (List.Mem.tail _ Zh) rfl rfl rfl (Z105 _)) rfl (Z0 (RV.len rfl rfl) rfl (Z0 (RV.add rfl rfl (by omega)) rfl (Z0 (RV.cut_hi (r.logs.length + 2) rfl rfl (by omega) rfl rfl (by omega)) rfl (Z0 (Z5 rfl) rfl (Z6 ?_)))))
 (refine Z1 ?_; refine Z4 ?_; refine Z4 ?_)
 refine Z2 (Z0 (Z5 rfl) rfl (Z6 ?_))
 (refine Z1 ?_; refine CW.block ?_)
 refine Z115 (fun k L' M' => ∃ (i : Nat), k = r.logs.length - i ∧ i ≤ r.logs.length ∧ L' = [(2, ptr (some b2) 0), (3, ptr (some b3) 0), (5, .slice A (r.logs.length + 2) c), (6, .int .i64 (i : Int))] ∧
  M' = (some b2, blk (⟨r.kind, r.rooted, r.root, r.status, r.used, r.bloom, .slice A r.logs.length c⟩ : RcptC).C 30) :: (some b3, blk (⟨r.kind, r.rooted, r.root, r.status, r.used, r.bloom, .slice A1 r.logs.length c1⟩ : RcptC).C 30) :: N) (k0 := r.logs.length) ⟨0, rfl, by omega, rfl, rfl⟩ ⟨rfl, rfl, rfl, rfl, trivial⟩ (fun w m => m) ?_
 rintro k L' M' ⟨i, rfl, hi, rfl, hM⟩
 rw [hM]
 clear hM M'
 (refine Z4 ?_; refine Z4 ?_)
 refine Z2 (Z0 (Z3 rfl) rfl ?_)
 refine Z0 (Z30 rfl rfl rfl rfl) rfl ?_; refine Z7 (ptr (some b3) 292) rfl ?_
 refine Z0 (Z29 rfl (List.Mem.tail _ Zh) rfl rfl rfl (Z105 _)) rfl (Z0 (RV.len rfl rfl) rfl (Z0 (RV.lss rfl rfl) rfl (Z6 (Z1 ?_))))
 refine CW.cond_p rfl (fun hlt2 => ?_) (fun hlt2 => ?_)
 ·have h1 : i < r.logs.length := by omega
  have hx : r.logs[i]? = some r.logs[i] := List.getElem?_eq_getElem h1
  obtain ⟨ci, hci, hcc⟩ := rl1.get LogRd.len hx
  obtain ⟨At, ct, cst, Ad, cd, rfl, vt, ht, vd⟩ := LogRd.opn hci
  have hst := ars_of ht
  subst hst
  obtain ⟨cj, ⟨Bt, kt, Bd, kd, hcj, wt, wd⟩, hcd⟩ := rl.get LmRd2.len hx
  subst hcj
  have hs1 := vl1.isSome (by decide) h1
  have hcd2 : ∀ j u, (⟨(r.logs[i]).address, .slice Bt (r.logs[i]).topics.length kt, .slice Bd (r.logs[i]).data.length kd⟩ : LogC).C[j]? = some u → (cl ++ (LgMk2.C ++ LgMk2.C))[i * 22 + j]? = some u := fun j u hj => by
   have h2 := hcd j u hj
   rw [List.getElem?_append_left (List.getElem?_eq_some_iff.1 h2).1]; exact h2
  generalize hlx : r.logs[i] = lx at *
  (refine CW.skip ?_; refine Z1 ?_; refine Z4 ?_; refine CW.block ?_; refine Z4 ?_)
  refine CW.drawsX ((some b2, blk (⟨r.kind, r.rooted, r.root, r.status, r.used, r.bloom, .slice A r.logs.length c⟩ : RcptC).C 30) :: (some b3, blk (⟨r.kind, r.rooted, r.root, r.status, r.used, r.bloom, .slice A1 r.logs.length c1⟩ : RcptC).C 30) :: N) [] (fun w m => m) mixed (by kernel_rfl) (Z10 0 rfl (by kernel_rfl) rfl (Z3 rfl) rfl (Z10 1 rfl (by kernel_rfl) rfl (Z3 rfl) rfl (Z10 2 rfl (by kernel_rfl) rfl (Z103 (i) rfl rfl rfl rfl rfl hs (by omega)) rfl (Z10 3 rfl (by kernel_rfl) rfl (Z31 rfl rfl rfl rfl) rfl (Z10 4 rfl (by kernel_rfl) rfl (Z104 (vs := u8s lx.address.toList) rfl rfl rfl rfl (fun w m => vb.load_part (hΦ w (m.drop 2)) hcd2 (Z106 ⟨lx.address, .slice Bt lx.topics.length kt, .slice Bd lx.data.length kd⟩)) ((Z100 _).trans Zv)) rfl (Z10 5 rfl (by kernel_rfl) rfl (Z30 rfl rfl rfl rfl) rfl (XW.slot (ptr (some b3) 292) rfl ?_)))))))
  refine Z10 6 rfl (by kernel_rfl) rfl (Z29 rfl (List.Mem.tail _ Zh) rfl rfl rfl (Z105 _)) rfl (Z10 7 rfl (by kernel_rfl) rfl (Z3 rfl) rfl (Z10 8 rfl (by kernel_rfl) rfl (Z103 (i) rfl rfl rfl rfl rfl hs1 (by omega)) rfl (Z10 9 rfl (by kernel_rfl) rfl (Z31 rfl rfl rfl rfl) rfl (Z10 10 rfl (by kernel_rfl) rfl (Z104 (vs := u8s lx.address.toList) rfl rfl rfl rfl (fun w m => vl1.load_part (hΦ w (m.drop 2)) hcc (Z106 ⟨lx.address, .slice At lx.topics.length ct, .slice Ad lx.data.length cd⟩)) ((Z100 _).trans Zv)) rfl (Z10 11 rfl (by kernel_rfl) rfl (RV.neA8_f rfl rfl rfl rfl rfl rfl (Zv) rfl) rfl (Z10 12 rfl (by kernel_rfl) rfl (Z3 rfl) rfl (Z10 13 rfl (by kernel_rfl) rfl (Z3 rfl) rfl ?_)))))))
  refine Z10 14 rfl (by kernel_rfl) rfl (Z3 rfl) rfl (Z10 15 rfl (by kernel_rfl) rfl (Z103 (i) rfl rfl rfl rfl rfl hs (by omega)) rfl (Z10 16 rfl (by kernel_rfl) rfl (Z31 rfl rfl rfl rfl) rfl (Z10 17 rfl (by kernel_rfl) rfl (Z21 rfl rfl rfl (fun w m => vb.load_fld (hΦ w (m.drop 2)) hcd2 (Z111 _))) rfl (Z10 18 rfl (by kernel_rfl) rfl (Z30 rfl rfl rfl rfl) rfl (XW.slot (ptr (some b3) 292) rfl (Z10 19 rfl (by kernel_rfl) rfl (Z29 rfl (List.Mem.tail _ Zh) rfl rfl rfl (Z105 _)) rfl (Z10 20 rfl (by kernel_rfl) rfl (Z3 rfl) rfl ?_)))))))
  refine Z10 21 rfl (by kernel_rfl) rfl (Z103 (i) rfl rfl rfl rfl rfl hs1 (by omega)) rfl (Z10 22 rfl (by kernel_rfl) rfl (Z31 rfl rfl rfl rfl) rfl (Z10 23 rfl (by kernel_rfl) rfl (Z21 rfl rfl rfl (fun w m => vl1.load_fld (hΦ w (m.drop 2)) hcc (Z111 _))) rfl (Z11 24 rfl (by kernel_rfl) rfl Tryd.call23 rfl (fun N' hN' => waybillplay_StillHashes_does w0 Φ N' (fun w m => hΦ w ((hN' w m).drop 2)) Bt kt At ct lx.topics hgH wt vt) rfl ?_)))
  rintro _ G2 rfl
  refine Z19 (M' := (some b2, blk (⟨r.kind, r.rooted, r.root, r.status, r.used, r.bloom, .slice A r.logs.length c⟩ : RcptC).C 30) :: (some b3, blk (⟨r.kind, r.rooted, r.root, r.status, r.used, r.bloom, .slice A1 r.logs.length c1⟩ : RcptC).C 30) :: N) (fun w m => m.appR) (fun w m => m) (Z10 25 rfl (by kernel_rfl) rfl (RV.not rfl) rfl (Z10 26 rfl (by kernel_rfl) rfl (Z114 rfl rfl rfl) rfl (Z10 27 rfl (by kernel_rfl) rfl (Z3 rfl) rfl (Z10 28 rfl (by kernel_rfl) rfl (Z3 rfl) rfl (Z10 29 rfl (by kernel_rfl) rfl (Z3 rfl) rfl (Z10 30 rfl (by kernel_rfl) rfl (Z103 (i) rfl rfl rfl rfl rfl hs (by omega)) rfl (Z10 31 rfl (by kernel_rfl) rfl (Z31 rfl rfl rfl rfl) rfl ?_)))))))
  refine Z10 32 rfl (by kernel_rfl) rfl (Z21 rfl rfl rfl (fun w m => vb.load_fld (hΦ w (m.drop 2)) hcd2 (LogC.C_data _))) rfl (Z10 33 rfl (by kernel_rfl) rfl (Z30 rfl rfl rfl rfl) rfl (XW.slot (ptr (some b3) 292) rfl (Z10 34 rfl (by kernel_rfl) rfl (Z29 rfl (List.Mem.tail _ Zh) rfl rfl rfl (Z105 _)) rfl (Z10 35 rfl (by kernel_rfl) rfl (Z3 rfl) rfl (Z10 36 rfl (by kernel_rfl) rfl (Z103 (i) rfl rfl rfl rfl rfl hs1 (by omega)) rfl (Z10 37 rfl (by kernel_rfl) rfl (Z31 rfl rfl rfl rfl) rfl (Z10 38 rfl (by kernel_rfl) rfl (Z21 rfl rfl rfl (fun w m => vl1.load_fld (hΦ w (m.drop 2)) hcc (LogC.C_data _))) rfl ?_)))))))
  refine Z11 39 rfl (by kernel_rfl) rfl Tryd.call46 rfl (fun N' hN' => waybillplay_Still_does w0 Φ N' (fun w m => hΦ w ((hN' w m).drop 2)) Bd kd lx.data Ad cd lx.data true wd vd (stillPlay_eq _)) rfl ?_
  rintro _ G3 rfl
  refine Z19 (M' := (some b2, blk (⟨r.kind, r.rooted, r.root, r.status, r.used, r.bloom, .slice A r.logs.length c⟩ : RcptC).C 30) :: (some b3, blk (⟨r.kind, r.rooted, r.root, r.status, r.used, r.bloom, .slice A1 r.logs.length c1⟩ : RcptC).C 30) :: N) (fun w m => m.appR) (fun w m => m) (Z10 40 rfl (by kernel_rfl) rfl (RV.not rfl) rfl (Z10 41 rfl (by kernel_rfl) rfl (Z114 rfl rfl rfl) rfl (XW.nil (by kernel_rfl) (Z1 (CW.cond_f rfl ?_)))))
  (refine CW.skip ?_; refine Z27 ?_; refine Z1 ?_)
  refine Z2 (Z0 (Z3 rfl) rfl (Z0 (RV.add rfl rfl (by omega)) rfl (Z0 (Z5 rfl) rfl (Z6 ?_))))
  refine Z113 (k' := r.logs.length - (i + 1)) (by omega) ⟨i + 1, rfl, by omega, rfl, rfl⟩ ⟨rfl, rfl, rfl, rfl, trivial⟩ (fun w m => m)
 ·have hc1 : ∀ j u, (LgMk2.C)[j]? = some u → (cl ++ (LgMk2.C ++ LgMk2.C))[r.logs.length * 22 + j]? = some u := fun j u hj => by
   have hl := (List.getElem?_eq_some_iff.1 hj).1
   rw [List.getElem?_append_right (by omega), show r.logs.length * 22 + j - cl.length = j by omega, List.getElem?_append_left hl]; exact hj
  have hc2 : ∀ j u, (LgMk2.C)[j]? = some u → (cl ++ (LgMk2.C ++ LgMk2.C))[(r.logs.length + 1) * 22 + j]? = some u := fun j u hj => by
   rw [List.getElem?_append_right (by omega), List.getElem?_append_right (by rw [LogC.C_length]; omega), show (r.logs.length + 1) * 22 + j - cl.length - LgMk2.C.length = j by rw [LogC.C_length]; omega]; exact hj
  (refine CW.exit ?_; refine Z9 ?_; refine Z9 ?_; refine Z15 ?_; refine Z1 ?_; refine Z4 ?_)
  refine CW.drawsX ((some b2, blk (⟨r.kind, r.rooted, r.root, r.status, r.used, r.bloom, .slice A r.logs.length c⟩ : RcptC).C 30) :: (some b3, blk (⟨r.kind, r.rooted, r.root, r.status, r.used, r.bloom, .slice A1 r.logs.length c1⟩ : RcptC).C 30) :: N) [] (fun w m => m) mixed (by kernel_rfl) (Z10 0 rfl (by kernel_rfl) rfl (Z3 rfl) rfl (Z10 1 rfl (by kernel_rfl) rfl (Z30 rfl rfl rfl rfl) rfl (XW.slot (ptr (some b3) 292) rfl (Z10 2 rfl (by kernel_rfl) rfl (Z29 rfl (List.Mem.tail _ Zh) rfl rfl rfl (Z105 _)) rfl (Z10 3 rfl (by kernel_rfl) rfl (RV.len rfl rfl) rfl (Z10 4 rfl (by kernel_rfl) rfl (Z103 (r.logs.length) rfl rfl rfl rfl rfl hs (by omega)) rfl (Z10 5 rfl (by kernel_rfl) rfl (Z31 rfl rfl rfl rfl) rfl ?_)))))))
  refine Z10 6 rfl (by kernel_rfl) rfl (Z104 (vs := u8s markA.toList) rfl rfl rfl rfl (fun w m => vb.load_part (hΦ w (m.drop 2)) hc1 (Z106 LgMk2)) ((Z100 _).trans Zv)) rfl ?_
  refine Z10 7 rfl (by kernel_rfl) rfl (Z104 (vs := u8s markA.toList) (a := ⟨0, 0, none⟩) rfl rfl rfl rfl (fun w m j u hj => by rw [Z101, Nat.zero_add]; exact m.oldSome (hgA j u hj)) ((Z100 _).trans Zv)) rfl ?_
  refine Z10 8 rfl (by kernel_rfl) rfl (RV.eqA8_t rfl rfl rfl rfl rfl rfl (Zv) rfl) rfl (Z10 9 rfl (by kernel_rfl) rfl (Z3 rfl) rfl (Z10 10 rfl (by kernel_rfl) rfl (Z3 rfl) rfl (Z10 11 rfl (by kernel_rfl) rfl (Z30 rfl rfl rfl rfl) rfl (XW.slot (ptr (some b3) 292) rfl (Z10 12 rfl (by kernel_rfl) rfl (Z29 rfl (List.Mem.tail _ Zh) rfl rfl rfl (Z105 _)) rfl (Z10 13 rfl (by kernel_rfl) rfl (RV.len rfl rfl) rfl (Z10 14 rfl (by kernel_rfl) rfl (RV.add rfl rfl (by omega)) rfl ?_)))))))
  refine Z10 15 rfl (by kernel_rfl) rfl (Z103 (r.logs.length + 1) rfl rfl (by omega) rfl rfl hs (by omega)) rfl (Z10 16 rfl (by kernel_rfl) rfl (Z31 rfl rfl rfl rfl) rfl (Z10 17 rfl (by kernel_rfl) rfl (Z104 (vs := u8s markA.toList) rfl rfl rfl rfl (fun w m => vb.load_part (hΦ w (m.drop 2)) hc2 (Z106 LgMk2)) ((Z100 _).trans Zv)) rfl ?_))
  refine Z10 18 rfl (by kernel_rfl) rfl (Z104 (vs := u8s markA.toList) (a := ⟨0, 0, none⟩) rfl rfl rfl rfl (fun w m j u hj => by rw [Z101, Nat.zero_add]; exact m.oldSome (hgA j u hj)) ((Z100 _).trans Zv)) rfl ?_
  refine Z10 19 rfl (by kernel_rfl) rfl (RV.eqA8_t rfl rfl rfl rfl rfl rfl (Zv) rfl) rfl (Z10 20 rfl (by kernel_rfl) rfl (Z112 rfl rfl rfl) rfl (Z10 21 rfl (by kernel_rfl) rfl (Z5 rfl) rfl (XW.nil (by kernel_rfl) ?_)))
  (refine Z1 ?_; refine CW.ret ?_)
  refine Z109 (R := fun v G => v = .bool true) (N := N) (rs := [.tmp 4]) [.bool true] [] rfl ?_ rfl rfl (fun w m => m.tail.tail) _ (.inl rfl)
  exact ⟨rfl, trivial⟩
theorem waybilllaw17_ReceiptGas_does (w0 : World) (Φ : Ctx) (N : List Ent) (hΦ : ∀ w, Mem w0 w N → Φ w) (A0 : Option Addr) (c0 : Nat) (cs0 : List Value) (rs : List Rcpt) (res : List (BitVec 64)) (ec : Nat)
  (v0 : View Φ A0 rs.length c0 293 cs0) (r0 : Reps (RcptRd Φ) cs0 rs)
  (hgH : ∀ j u, (u8s markH.toList)[j]? = some u → w0.cell? ⟨1, j, none⟩ = some u) (hgA : ∀ j u, (u8s markA.toList)[j]? = some u → w0.cell? ⟨0, j, none⟩ = some u)
  (hfit : ∀ r ∈ rs, LgFit r) (hrl : (rs.length + 1) * 344 ≤ 140737488355328) (hf1 : receipt_Gas rs = some (res, ec)) (hf2 : waybillref17_Gas rs = some (res, ec)) (hec : ec ≤ 1000) (hle : res.length ≤ rs.length) (hs : ∀ j g, res[j]? = some g → ∃ x, rs[j]? = some x ∧ gasPrev rs j + g = x.used)
  (hsame : ∀ r ∈ rs, waybilllaw17_sameReceipt r r = some true) (hnum : waybilllaw17_num (ec : Int) = some (ec : Int)) :
  DoesG Tryd.prog 3 [.slice A0 rs.length c0] w0 [] N (fun v G => v = .bool true) := by
 have hm0 := v0.mx
 refine DoesG.enter Tryd.func3 rfl Tryd.ntmps3 rfl (M := N) rfl (Z4 (Z2 (Z0 (Z5 rfl) rfl (Z6 ?_))))
 (refine Z1 ?_; refine Z4 ?_)
 refine Z2 (Z0 (Z3 rfl) rfl (Z0 (RV.len rfl rfl) rfl (Z0 (RV.add rfl rfl (by omega)) rfl (OW.makeS (zs := RcptZ.C) (rs.length + 1) (rs.length + 1) rfl (by omega) rfl (by omega) rfl rfl rfl (by kernel_rfl) (RcptC.C_length _) (by omega) (by simp only [i30]; omega) (by omega) rfl (fun b3 => (Z0 (Z5 rfl) rfl (Z6 ?_)))))))
 (refine Z1 ?_; refine Z4 ?_; refine Z4 ?_)
 refine Z2 (Z0 (Z5 rfl) rfl (Z6 ?_))
 (refine Z1 ?_; refine CW.block ?_)
 refine Z115 (fun k L' M' => ∃ (i : Nat) (cs : List Value) (B : List Ent), k = rs.length - i ∧ i ≤ rs.length ∧ Reps (RgRd (fun w => Mem w0 w B)) cs (rs.take i) ∧ L' = [(0, .slice A0 rs.length c0), (3, sl (some b3) 0 (rs.length + 1) (rs.length + 1)), (4, .int .i64 (i : Int))] ∧
  M' = (some b3, blk (cs ++ rz (rs.length + 1 - i)) 30) :: (B ++ N)) (k0 := rs.length) ⟨0, [], [], rfl, by omega, .nil, rfl, rfl⟩ ⟨rfl, rfl, rfl, trivial⟩ (fun w m => m) ?_
 rintro k L' M' ⟨i, cs, B, rfl, hi, hR, rfl, hM⟩
 rw [hM]
 clear hM M'
 have hcl : cs.length = i * 293 := by have := hR.len RgRd.len; rw [List.length_take, Nat.min_eq_left hi] at this; exact this
 (refine Z4 ?_; refine Z4 ?_)
 refine Z2 (Z0 (Z3 rfl) rfl (Z0 (Z3 rfl) rfl (Z0 (RV.len rfl rfl) rfl (Z0 (RV.lss rfl rfl) rfl (Z6 (Z1 ?_))))))
 refine CW.cond_p rfl (fun hlt2 => ?_) (fun hlt2 => ?_)
 ·have h1 : i < rs.length := by omega
  have hx : rs[i]? = some rs[i] := List.getElem?_eq_getElem h1
  obtain ⟨ci, hci, hcc⟩ := r0.get RcptRd.len hx
  have hsome := v0.isSome (by decide) h1
  have hfx := hfit _ (List.getElem_mem h1)
  have hcil := RcptRd.len _ _ hci
  generalize hlx : rs[i] = lx at *
  (refine CW.skip ?_; refine Z1 ?_; refine Z4 ?_; refine CW.block ?_)
  refine Z2 (Z0 (Z3 rfl) rfl (Z0 (Z3 rfl) rfl (Z0 (Z3 rfl) rfl (Z0 (Z3 rfl) rfl (Z0 (Z103 (i) rfl rfl rfl rfl rfl hsome (by omega)) rfl (Z0 (Z104 (vs := ci) rfl rfl rfl rfl (fun w m => v0.load (hΦ w m.tail.appR) hcc) hcil) rfl ?_))))))
  refine Z12 Tryd.call12 rfl (waybillplay_LentReceipt_does w0 Φ ((some b3, blk (cs ++ rz (rs.length + 1 - i)) 30) :: (B ++ N)) (fun w m => hΦ w m.tail.appR) ci lx hci hfx hgH hgA) rfl rfl ?_; rintro _ G ⟨cn, rfl, hcn⟩; refine Z20 (M' := (some b3, blk (cs ++ rz (rs.length + 1 - i)) 30) :: ((G ++ B) ++ N)) (fun w m => by rw [List.append_assoc]; exact m.perm (List.perm_append_comm_assoc _ [_] _)) ?_
  refine Z0 (RV.idx_os (i) rfl rfl rfl rfl rfl rfl (by omega)) rfl ?_
  refine Z28 (SV.storeAs (vs := cn) rfl rfl rfl (RgRd.one _ _ hcn) rfl (RgRd.len _ _ hcn) (by show 0 + i * 293 + 293 ≤ (cs ++ rz (rs.length + 1 - i)).length; rw [List.length_append, rz_length]; omega)) ?_; refine OW.cells ((cs ++ cn) ++ rz (rs.length + 1 - (i + 1))) (by rw [show rs.length + 1 - i = (rs.length + 1 - (i + 1)) + 1 by omega]; exact rz_set (i := i) (by show 0 + i * 293 = i * 293; omega) hcl (RgRd.len _ _ hcn)) ?_
  refine Z6 ?_
  (refine Z27 ?_; refine Z1 ?_)
  refine Z2 (Z0 (Z3 rfl) rfl (Z0 (RV.add rfl rfl (by omega)) rfl (Z0 (Z5 rfl) rfl (Z6 ?_))))
  refine Z113 (k' := rs.length - (i + 1)) (by omega) ⟨i + 1, cs ++ cn, G ++ B, rfl, by omega, ?_, rfl, rfl⟩ ⟨rfl, rfl, rfl, trivial⟩ (fun w m => m)
  rw [List.take_add_one, hx]
  exact (hR.mono (RgRd.mono (fun w m => m.appR))).snoc (RgRd.mono (fun w m => m.appL) _ _ hcn)
 ·have hie : i = rs.length := by omega
  subst hie
  rw [List.take_length] at hR
  rw [show rs.length + 1 - rs.length = 0 + 1 by omega]
  (refine CW.exit ?_; refine Z9 ?_; refine Z9 ?_; refine Z15 ?_; refine Z1 ?_; refine Z4 ?_)
  refine Z2 (Z0 (Z3 rfl) rfl (Z0 (Z3 rfl) rfl (Z0 (RV.len rfl rfl) rfl ?_)))
  refine Z0 (RV.buildSt (l := RcptZ.C) (cs := RcptMk.C) [(4, [U64 77#64])] rfl rfl rfl (by kernel_rfl) rfl rfl (by refine (fillL_cons rfl rfl (by rw [RcptC.C_length]; exact Nat.le_of_ble_eq_true rfl)).trans ?_; rw [spl_one (by rw [RcptC.C_length]; exact Nat.le_of_ble_eq_true rfl), RcptC.C_used_set]; rfl)) rfl ?_
  refine Z0 (RV.idx_os (rs.length) rfl rfl rfl rfl rfl rfl (by omega)) rfl ?_
  refine Z28 (SV.storeAs (vs := RcptMk.C) rfl rfl rfl (RcptC.C_one _ rfl) rfl (RcptC.C_length _) (by show 0 + rs.length * 293 + 293 ≤ (cs ++ rz (0 + 1)).length; rw [List.length_append, rz_length]; omega)) ?_; refine OW.cells (cs ++ RcptMk.C) (by rw [rz_set (i := rs.length) (by show 0 + rs.length * 293 = rs.length * 293; omega) hcl (RcptC.C_length _)]; exact List.append_nil _) ?_
  refine Z6 ?_
  (refine Z1 ?_; refine Z4 ?_)
  generalize hM3 : ((some b3, blk (cs ++ RcptMk.C) 30) :: (B ++ N)) = M3
  have h3N : ∀ w, Mem w0 w M3 → Mem w0 w N := fun w m => by rw [← hM3] at m; exact m.tail.appR
  have h3Φ : ∀ w, Mem w0 w M3 → Φ w := fun w m => hΦ w (h3N w m)
  have oo : OwnS (some b3) (rs.length + 1) (rs.length + 1) 293 (cs ++ RcptMk.C) [] := ⟨by rw [List.length_append, hcl, RcptC.C_length]; omega, by rw [List.append_nil, List.length_append, hcl, RcptC.C_length]; omega, (fun h => nomatch h), by omega⟩
  have hin : View (fun w => Mem w0 w M3) (some ⟨b3, 0, none⟩) (rs.length + 1) (rs.length + 1) 293 (cs ++ RcptMk.C) := oo.view (te := 30) (w0 := w0) (by decide) (fun w q => by rw [List.append_nil]; rw [← hM3] at q; exact q.sublist (List.singleton_sublist.2 (List.mem_cons_self ..)))
  have hin1 : View (fun w => Mem w0 w M3) (some ⟨b3, 0, none⟩) rs.length (rs.length + 1) 293 cs := by
   have h1 := hin.hi (k := rs.length) (by omega)
   rw [List.take_append_of_le_length (by omega), List.take_of_length_le (by omega)] at h1
   exact h1
  have hR3 : Reps (RgRd (fun w => Mem w0 w M3)) cs rs := hR.mono (RgRd.mono (fun w m => by rw [← hM3] at m; exact m.tail.appL))
  have hR4 := hR3.mono RgRd.rcpt
  clear hR hM3
  refine Z2 (Z0 (Z3 rfl) rfl (Z0 (Z3 rfl) rfl (Z0 (RV.len rfl rfl) rfl (Z0 (RV.cut_o (rs.length) rfl rfl rfl rfl rfl (by omega)) rfl ?_))))
  refine Z12 Tryd.call13 rfl (receipt_Gas_does w0 (fun w => Mem w0 w M3) M3 (fun w m => m) (some ⟨b3, 0, none⟩) (rs.length + 1) cs rs res ec hin1 hR4 hf1) rfl rfl ?_; rintro _ GG ⟨B3, oa, ka, ra, owa, _, rfl, hG⟩; rw [hG]; clear hG GG
  refine Z0 (Z3 rfl) rfl (Z0 (Z17 rfl rfl) rfl (Z0 (Z17 rfl rfl) rfl (Z0 (Z5 rfl) rfl (Z0 (Z5 rfl) rfl (Z6 ?_)))))
  (refine Z1 ?_; refine Z4 ?_)
  generalize hM4 : ((oa, blk (u64s res ++ ra) 25) :: B3) ++ M3 = M4
  have h43 : ∀ w, Mem w0 w M4 → Mem w0 w M3 := fun w m => by rw [← hM4] at m; exact m.appR
  refine Z2 (Z0 (Z3 rfl) rfl (Z0 (Z3 rfl) rfl (Z0 (RV.len rfl rfl) rfl (Z0 (RV.cut_o (rs.length) rfl rfl rfl rfl rfl (by omega)) rfl ?_))))
  refine Z12 Tryd.call13 rfl (receipt_Gas_does w0 (fun w => Mem w0 w M4) M4 (fun w m => m) (some ⟨b3, 0, none⟩) (rs.length + 1) cs rs res ec (hin1.mono h43) (hR4.mono (RcptRd.mono h43)) hf1) rfl rfl ?_; rintro _ GG ⟨B4, ob, kb, rb, owb, _, rfl, hG⟩; rw [hG]; clear hG GG
  refine Z0 (Z3 rfl) rfl (Z0 (Z17 rfl rfl) rfl (Z0 (Z17 rfl rfl) rfl (Z0 (Z5 rfl) rfl (Z0 (Z5 rfl) rfl (Z6 ?_)))))
  (refine Z1 ?_; refine Z4 ?_)
  generalize hM5 : ((ob, blk (u64s res ++ rb) 25) :: B4) ++ M4 = M5
  have h54 : ∀ w, Mem w0 w M5 → Mem w0 w M4 := fun w m => by rw [← hM5] at m; exact m.appR
  have h5Φ : ∀ w, Mem w0 w M5 → Φ w := fun w m => h3Φ w (h43 w (h54 w m))
  refine Z2 (Z0 (Z3 rfl) rfl ?_)
  refine Z12 Tryd.call14 rfl (waybillref17_Gas_does w0 (fun w => Mem w0 w M5) M5 (fun w m => m) A0 c0 cs0 rs res ec (v0.mono h5Φ) (r0.mono (RcptRd.mono h5Φ)) hf2) rfl rfl ?_; rintro _ GG ⟨B5, oc, kc, rc, owc, _, rfl, hG⟩; rw [hG]; clear hG GG
  refine Z0 (Z3 rfl) rfl (Z0 (Z17 rfl rfl) rfl (Z0 (Z17 rfl rfl) rfl (Z0 (Z5 rfl) rfl (Z0 (Z5 rfl) rfl (Z6 ?_)))))
  (refine Z1 ?_; refine Z4 ?_; refine Z4 ?_)
  generalize hM6 : ((oc, blk (u64s res ++ rc) 25) :: B5) ++ M5 = M6
  have hma := owa.mx
  have hla := owa.le (by decide)
  refine Z2 (Z0 (Z3 rfl) rfl (Z0 (RV.len rfl rfl) rfl (Z0 (Z3 rfl) rfl (Z0 (RV.len rfl rfl) rfl (Z0 (RV.neq_f rfl rfl rfl) rfl (Z0 (Z3 rfl) rfl (Z24 rfl ?_)))))))
  refine Z0 (Z3 rfl) rfl (Z24 rfl (Z0 (RV.len rfl rfl) rfl (Z24 rfl (Z0 (Z3 rfl) rfl (Z24 rfl (Z0 (RV.len rfl rfl) rfl (Z24 rfl ?_)))))))
  refine Z0 (RV.neq_f rfl rfl rfl) rfl (Z0 (Z114 rfl rfl rfl) rfl (Z0 (Z3 rfl) rfl (Z24 rfl (Z0 (Z3 rfl) rfl (Z24 rfl (Z12 Tryd.call15 rfl (waybilllaw17_num_does w0 (fun w => Mem w0 w M6) M6 (fun w m => m) ec ec (by omega) hnum) rfl rfl ?_))))))
  rintro _ G3 ⟨_, rfl⟩
  refine Z20 (M' := M6) (fun w m => m.appR) (Z24 rfl (Z0 (Z3 rfl) rfl (Z24 rfl (Z0 (RV.neq_f rfl rfl rfl) rfl (Z0 (Z114 rfl rfl rfl) rfl (Z6 (Z1 (CW.cond_f rfl ?_))))))))
  refine CW.mem (M' := (oa, blk (u64s res ++ ra) 25) :: (ob, blk (u64s res ++ rb) 25) :: (oc, blk (u64s res ++ rc) 25) :: (B5 ++ (B4 ++ (B3 ++ M3)))) (fun w m => by
   rw [← hM6, ← hM5, ← hM4] at m
   have e : ((oc, blk (u64s res ++ rc) 25) :: B5) ++ (((ob, blk (u64s res ++ rb) 25) :: B4) ++ (((oa, blk (u64s res ++ ra) 25) :: B3) ++ M3)) = (oc, blk (u64s res ++ rc) 25) :: (B5 ++ ((ob, blk (u64s res ++ rb) 25) :: (B4 ++ ((oa, blk (u64s res ++ ra) 25) :: (B3 ++ M3))))) := by simp
   rw [e] at m
   have p : List.Perm ((oc, blk (u64s res ++ rc) 25) :: (B5 ++ ((ob, blk (u64s res ++ rb) 25) :: (B4 ++ ((oa, blk (u64s res ++ ra) 25) :: (B3 ++ M3)))))) ((oa, blk (u64s res ++ ra) 25) :: (ob, blk (u64s res ++ rb) 25) :: (oc, blk (u64s res ++ rc) 25) :: (B5 ++ (B4 ++ (B3 ++ M3)))) := by
    have q1 : List.Perm (B4 ++ ((oa, blk (u64s res ++ ra) 25) :: (B3 ++ M3))) ((oa, blk (u64s res ++ ra) 25) :: (B4 ++ (B3 ++ M3))) := List.perm_middle
    have q2 : List.Perm (B5 ++ ((ob, blk (u64s res ++ rb) 25) :: (B4 ++ ((oa, blk (u64s res ++ ra) 25) :: (B3 ++ M3))))) ((ob, blk (u64s res ++ rb) 25) :: (B5 ++ (B4 ++ ((oa, blk (u64s res ++ ra) 25) :: (B3 ++ M3))))) := List.perm_middle
    have q3 : List.Perm (B5 ++ ((oa, blk (u64s res ++ ra) 25) :: (B4 ++ (B3 ++ M3)))) ((oa, blk (u64s res ++ ra) 25) :: (B5 ++ (B4 ++ (B3 ++ M3)))) := List.perm_middle
    refine (List.Perm.cons _ q2).trans ?_
    refine (List.Perm.cons _ (List.Perm.cons _ (List.Perm.append_left B5 q1))).trans ?_
    refine (List.Perm.cons _ (List.Perm.cons _ q3)).trans ?_
    refine (List.Perm.cons _ (List.Perm.swap _ _ _)).trans ?_
    refine (List.Perm.swap _ _ _).trans ?_
    exact List.Perm.cons _ (List.Perm.swap _ _ _)
   exact m.perm p) ?_
  generalize hRR : B5 ++ (B4 ++ (B3 ++ M3)) = R
  have hR3' : ∀ w, Mem w0 w R → Mem w0 w M3 := fun w m => by rw [← hRR] at m; exact m.appR.appR.appR
  clear hRR hM4 hM5 hM6 h54 h43 h5Φ
  (refine CW.skip ?_; refine Z1 ?_; refine Z4 ?_)
  refine Z2 (Z0 (Z5 rfl) rfl (Z6 ?_))
  (refine Z1 ?_; refine Z4 ?_; refine Z4 ?_)
  refine Z2 (Z0 (Z5 rfl) rfl (Z6 ?_))
  (refine Z1 ?_; refine CW.block ?_)
  refine Z115 (fun k L' M' => ∃ (i : Nat), k = res.length - i ∧ i ≤ res.length ∧ L' = [(0, .slice A0 rs.length c0), (3, sl (some b3) 0 (rs.length + 1) (rs.length + 1)), (5, sl oa 0 res.length ka), (7, sl ob 0 res.length kb), (9, sl oc 0 res.length kc), (11, U64 (gasPrev rs i)), (12, .int .i64 (i : Int))] ∧
   M' = (oa, blk (u64s (List.replicate i 9#64 ++ res.drop i) ++ ra) 25) :: (ob, blk (u64s res ++ rb) 25) :: (oc, blk (u64s res ++ rc) 25) :: R) (k0 := res.length) ⟨0, rfl, by omega, rfl, rfl⟩ ⟨rfl, rfl, rfl, rfl, rfl, rfl, rfl, trivial⟩ (fun w m => m) ?_
  rintro k L' M' ⟨i, rfl, hi, rfl, hM⟩
  rw [hM]
  clear hM M'
  (refine Z4 ?_; refine Z4 ?_)
  refine Z2 (Z0 (Z3 rfl) rfl (Z0 (Z3 rfl) rfl (Z0 (RV.len rfl rfl) rfl (Z0 (RV.lss rfl rfl) rfl (Z6 (Z1 ?_))))))
  refine CW.cond_p rfl (fun hlt3 => ?_) (fun hlt3 => ?_)
  ·have h1 : i < res.length := by omega
   have hx : res[i]? = some res[i] := List.getElem?_eq_getElem h1
   have hxa : (List.replicate i 9#64 ++ res.drop i)[i]? = some res[i] := by rw [List.getElem?_append_right (by rw [List.length_replicate]; omega), List.length_replicate, Nat.sub_self, List.getElem?_drop, Nat.add_zero]; exact hx
   have hsa := owa.isSome (by decide) h1
   have hsb := owb.isSome (by decide) h1
   have hsc := owc.isSome (by decide) h1
   obtain ⟨xr, hxr, hsum⟩ := hs i _ hx
   obtain ⟨ci, hci, hcc⟩ := r0.get RcptRd.len hxr
   obtain ⟨Ag, cg, cgs, rfl, _, _, _⟩ := hci.opn
   have hsome := v0.isSome (by decide) (i := i) (by omega)
   have hnext := gasPrev_succ hxr
   (refine CW.skip ?_; refine Z1 ?_; refine Z4 ?_; refine CW.block ?_; refine Z4 ?_; refine Z4 ?_)
   refine CW.drawsX ((oa, blk (u64s (List.replicate i 9#64 ++ res.drop i) ++ ra) 25) :: (ob, blk (u64s res ++ rb) 25) :: (oc, blk (u64s res ++ rc) 25) :: R) [] (fun w m => m) mixed (by kernel_rfl) (Z10 0 rfl (by kernel_rfl) rfl (Z3 rfl) rfl (Z10 1 rfl (by kernel_rfl) rfl (Z3 rfl) rfl (Z10 2 rfl (by kernel_rfl) rfl (RV.idx_o (i) rfl rfl rfl rfl rfl hsa (by omega)) rfl (Z10 3 rfl (by kernel_rfl) rfl (Z29 rfl Zh hsa rfl rfl (own_at0 (u64s_at hxa))) rfl (Z10 4 rfl (by kernel_rfl) rfl (Z3 rfl) rfl (Z10 5 rfl (by kernel_rfl) rfl (Z3 rfl) rfl (Z10 6 rfl (by kernel_rfl) rfl (RV.idx_o (i) rfl rfl rfl rfl rfl hsc (by omega)) rfl ?_)))))))
   refine Z10 7 rfl (by kernel_rfl) rfl (Z29 rfl (List.Mem.tail _ (List.Mem.tail _ Zh)) hsc rfl rfl (own_at0 (u64s_at hx))) rfl (Z10 8 rfl (by kernel_rfl) rfl (RV.neq64_f rfl rfl rfl rfl rfl) rfl (Z10 9 rfl (by kernel_rfl) rfl (Z3 rfl) rfl (Z10 10 rfl (by kernel_rfl) rfl (Z3 rfl) rfl (Z10 11 rfl (by kernel_rfl) rfl (Z3 rfl) rfl (Z10 12 rfl (by kernel_rfl) rfl (RV.idx_o (i) rfl rfl rfl rfl rfl hsb (by omega)) rfl (Z10 13 rfl (by kernel_rfl) rfl (Z29 rfl (List.Mem.tail _ Zh) hsb rfl rfl (own_at0 (u64s_at hx))) rfl (Z10 14 rfl (by kernel_rfl) rfl (Z3 rfl) rfl ?_)))))))
   refine Z10 15 rfl (by kernel_rfl) rfl (Z3 rfl) rfl (Z10 16 rfl (by kernel_rfl) rfl (RV.idx_o (i) rfl rfl rfl rfl rfl hsc (by omega)) rfl (Z10 17 rfl (by kernel_rfl) rfl (Z29 rfl (List.Mem.tail _ (List.Mem.tail _ Zh)) hsc rfl rfl (own_at0 (u64s_at hx))) rfl (Z10 18 rfl (by kernel_rfl) rfl (RV.neq64_f rfl rfl rfl rfl rfl) rfl (Z10 19 rfl (by kernel_rfl) rfl (Z114 rfl rfl rfl) rfl (XW.nil (by kernel_rfl) (Z1 (CW.cond_f rfl ?_)))))))
   (refine CW.skip ?_; refine Z1 ?_; refine Z4 ?_)
   refine Z2 (Z0 (Z3 rfl) rfl (Z0 (Z3 rfl) rfl (Z0 (Z3 rfl) rfl (Z0 (RV.idx_o (i) rfl rfl rfl rfl rfl hsa (by omega)) rfl (Z0 (Z29 rfl Zh hsa rfl rfl (own_at0 (u64s_at hxa))) rfl ?_)))))
   refine Z0 (RV.add64 rfl rfl rfl rfl) rfl ?_; refine Z7 (U64 (gasPrev rs (i + 1))) (congrArg U64 (hsum.trans hnext.symm)) ?_
   refine Z0 (Z5 rfl) rfl (Z6 ?_)
   (refine Z1 ?_; refine Z4 ?_; refine Z4 ?_)
   refine Z2 (Z0 (Z3 rfl) rfl (Z0 (Z3 rfl) rfl (Z0 (Z3 rfl) rfl (Z0 (Z103 (i) rfl rfl rfl rfl rfl hsome (by omega)) rfl (Z0 (Z31 rfl rfl rfl rfl) rfl (Z0 (Z21 rfl rfl rfl (fun w m => v0.load_fld (h3Φ w (hR3' w (m.drop 3))) hcc (Z110 _))) rfl (Z0 (RV.neq64_f rfl rfl rfl rfl hnext) rfl ?_)))))))
   refine Z6 (Z1 (CW.cond_f rfl ?_))
   (refine CW.skip ?_; refine Z1 ?_)
   refine Z2 (Z0 (Z3 rfl) rfl (Z0 (Z3 rfl) rfl (Z0 (RV.idx_o (i) rfl rfl rfl rfl rfl hsa (by omega)) rfl ?_)))
   refine Z28 (SV.store (v := U64 9#64) rfl hsa rfl rfl rfl (by rw [List.length_append, u64s_length, List.length_append, List.length_replicate, List.length_drop]; omega)) ?_; refine OW.cells (u64s (List.replicate (i + 1) 9#64 ++ res.drop (i + 1)) ++ ra) (by rw [Nat.zero_add, List.set_append_left _ _ (by rw [u64s_length, List.length_append, List.length_replicate, List.length_drop]; omega), u64s_set', List.set_append_right _ _ (by rw [List.length_replicate]; omega), List.length_replicate, Nat.sub_self, List.drop_eq_getElem_cons h1, List.set_cons_zero, List.replicate_succ', List.append_assoc]; rfl) ?_
   refine Z6 ?_
   (refine Z27 ?_; refine Z1 ?_)
   refine Z2 (Z0 (Z3 rfl) rfl (Z0 (RV.add rfl rfl (by omega)) rfl (Z0 (Z5 rfl) rfl (Z6 ?_))))
   refine Z113 (k' := res.length - (i + 1)) (by omega) ⟨i + 1, rfl, by omega, rfl, rfl⟩ ⟨rfl, rfl, rfl, rfl, rfl, rfl, rfl, trivial⟩ (fun w m => m)
  ·have hie : i = res.length := by omega
   subst hie
   rw [List.drop_length, List.append_nil]
   have owa2 : OwnS oa res.length ka 1 (u64s (List.replicate res.length 9#64)) ra := ⟨by rw [u64s_length, List.length_replicate, Nat.mul_one], by have := owa.hr; rw [List.length_append, u64s_length] at this ⊢; rw [List.length_replicate]; exact this, owa.hn, owa.mx⟩
   (refine CW.exit ?_; refine Z9 ?_; refine Z9 ?_; refine Z15 ?_; refine Z1 ?_; refine Z4 ?_)
   refine Z2 (Z0 (Z3 rfl) rfl (OW.bsN (vs := u64s [8#64, 8#64, 8#64]) rfl rfl rfl (by decide) (by decide) rfl rfl rfl rfl rfl (fun bn => ?_)))
   refine OW.rot1 ?_; refine OW.appendOwn (s := 1) rfl rfl rfl rfl rfl rfl owa2 (fun w m => m.rdl (List.Mem.tail _ Zh) (fun h => nomatch h)) rfl (u64s_one _) (fun h => nomatch h) (by decide) (by decide) (by simp only [i25]; omega) rfl rfl (res.length + 3) (u64s (List.replicate res.length 9#64 ++ [8#64, 8#64, 8#64])) rfl (u64s_app ..) (fun om rm km owm => ?_)
   refine Z0 (Z5 rfl) rfl (Z6 ?_)
   (refine Z1 ?_; refine Z4 ?_; refine Z4 ?_)
   refine CW.mem (M' := (om, blk (u64s (List.replicate res.length 9#64 ++ [8#64, 8#64, 8#64]) ++ rm) 25) :: (ob, blk (u64s res ++ rb) 25) :: (oc, blk (u64s res ++ rc) 25) :: R) (fun w m => m.pick [0, 2, 3] 4 rfl rfl) (Z2 (Z0 (Z5 rfl) rfl (Z6 ?_)))
   (refine Z1 ?_; refine CW.block ?_)
   refine Z115 (fun k L' M' => ∃ (i : Nat), k = res.length - i ∧ i ≤ res.length ∧ L' = [(0, .slice A0 rs.length c0), (3, sl (some b3) 0 (rs.length + 1) (rs.length + 1)), (7, sl ob 0 res.length kb), (9, sl oc 0 res.length kc), (13, sl om 0 (res.length + 3) km), (14, .int .i64 (i : Int))] ∧
    M' = (om, blk (u64s (List.replicate res.length 9#64 ++ [8#64, 8#64, 8#64]) ++ rm) 25) :: (ob, blk (u64s res ++ rb) 25) :: (oc, blk (u64s res ++ rc) 25) :: R) (k0 := res.length) ⟨0, rfl, by omega, rfl, rfl⟩ ⟨rfl, rfl, rfl, rfl, rfl, rfl, trivial⟩ (fun w m => m) ?_
   rintro k L' M' ⟨i, rfl, hi, rfl, hM⟩
   rw [hM]
   clear hM M'
   (refine Z4 ?_; refine Z4 ?_)
   refine Z2 (Z0 (Z3 rfl) rfl (Z0 (Z3 rfl) rfl (Z0 (RV.len rfl rfl) rfl (Z0 (RV.lss rfl rfl) rfl (Z6 (Z1 ?_))))))
   refine CW.cond_p rfl (fun hlt4 => ?_) (fun hlt4 => ?_)
   ·have h1 : i < res.length := by omega
    have hx : res[i]? = some res[i] := List.getElem?_eq_getElem h1
    have hxm : (List.replicate res.length 9#64 ++ [8#64, 8#64, 8#64])[i]? = some 9#64 := by rw [List.getElem?_append_left (by rw [List.length_replicate]; omega), List.getElem?_replicate, if_pos h1]
    have hsm := owm.isSome (by decide) (i := i) (by omega)
    have hsb := owb.isSome (by decide) h1
    have hsc := owc.isSome (by decide) h1
    (refine CW.skip ?_; refine Z1 ?_; refine Z4 ?_; refine CW.block ?_; refine Z4 ?_)
    refine CW.drawsX ((om, blk (u64s (List.replicate res.length 9#64 ++ [8#64, 8#64, 8#64]) ++ rm) 25) :: (ob, blk (u64s res ++ rb) 25) :: (oc, blk (u64s res ++ rc) 25) :: R) [] (fun w m => m) mixed (by kernel_rfl) (Z10 0 rfl (by kernel_rfl) rfl (Z3 rfl) rfl (Z10 1 rfl (by kernel_rfl) rfl (Z3 rfl) rfl (Z10 2 rfl (by kernel_rfl) rfl (RV.idx_o (i) rfl rfl rfl rfl rfl hsb (by omega)) rfl (Z10 3 rfl (by kernel_rfl) rfl (Z29 rfl (List.Mem.tail _ Zh) hsb rfl rfl (own_at0 (u64s_at hx))) rfl (Z10 4 rfl (by kernel_rfl) rfl (Z3 rfl) rfl (Z10 5 rfl (by kernel_rfl) rfl (Z3 rfl) rfl (Z10 6 rfl (by kernel_rfl) rfl (RV.idx_o (i) rfl rfl rfl rfl rfl hsc (by omega)) rfl ?_)))))))
    refine Z10 7 rfl (by kernel_rfl) rfl (Z29 rfl (List.Mem.tail _ (List.Mem.tail _ Zh)) hsc rfl rfl (own_at0 (u64s_at hx))) rfl (Z10 8 rfl (by kernel_rfl) rfl (RV.neq64_f rfl rfl rfl rfl rfl) rfl (Z10 9 rfl (by kernel_rfl) rfl (Z3 rfl) rfl (Z10 10 rfl (by kernel_rfl) rfl (Z3 rfl) rfl (Z10 11 rfl (by kernel_rfl) rfl (Z3 rfl) rfl (Z10 12 rfl (by kernel_rfl) rfl (RV.idx_o (i) rfl rfl rfl rfl rfl hsm (by omega)) rfl (Z10 13 rfl (by kernel_rfl) rfl (Z29 rfl Zh hsm rfl rfl (own_at0 (u64s_at hxm))) rfl (Z10 14 rfl (by kernel_rfl) rfl (RV.neq64_f (p := 9#64) (q := 9#64) rfl rfl rfl rfl rfl) rfl ?_)))))))
    refine Z10 15 rfl (by kernel_rfl) rfl (Z114 rfl rfl rfl) rfl (XW.nil (by kernel_rfl) (Z1 (CW.cond_f rfl ?_)))
    (refine CW.skip ?_; refine Z27 ?_; refine Z1 ?_)
    refine Z2 (Z0 (Z3 rfl) rfl (Z0 (RV.add rfl rfl (by omega)) rfl (Z0 (Z5 rfl) rfl (Z6 ?_))))
    refine Z113 (k' := res.length - (i + 1)) (by omega) ⟨i + 1, rfl, by omega, rfl, rfl⟩ ⟨rfl, rfl, rfl, rfl, rfl, rfl, trivial⟩ (fun w m => m)
   ·skip
    refine CW.mem (M' := R) (fun w m => m.drop 3) ?_
    (repeat (first | refine Z4 ?_ | refine Z1 ?_ | refine CW.block ?_ | refine CW.ret ?_ | refine CW.skip ?_ | refine CW.exit ?_ | refine Z9 ?_ | refine Z8 ?_ | refine Z27 ?_ | refine Z15 ?_ | refine QW.block_xn rfl ?_ | refine Z16 ?_))
    refine Z2 (Z0 (Z5 rfl) rfl (Z6 ?_))
    (refine Z1 ?_; refine CW.block ?_)
    refine Z115 (fun k L' M' => ∃ (i : Nat), k = rs.length - i ∧ i ≤ rs.length ∧ L' = [(0, .slice A0 rs.length c0), (3, sl (some b3) 0 (rs.length + 1) (rs.length + 1)), (15, .int .i64 (i : Int))] ∧ M' = R) (k0 := rs.length) ⟨0, rfl, by omega, rfl, rfl⟩ ⟨rfl, rfl, rfl, trivial⟩ (fun w m => m) ?_
    rintro k L' M' ⟨i, rfl, hi, rfl, hM⟩
    rw [hM]
    clear hM M'
    (refine Z4 ?_; refine Z4 ?_)
    refine Z2 (Z0 (Z3 rfl) rfl (Z0 (Z3 rfl) rfl (Z0 (RV.len rfl rfl) rfl (Z0 (RV.lss rfl rfl) rfl (Z6 (Z1 ?_))))))
    refine CW.cond_p rfl (fun hlt5 => ?_) (fun hlt5 => ?_)
    ·have h1 : i < rs.length := by omega
     have hx : rs[i]? = some rs[i] := List.getElem?_eq_getElem h1
     obtain ⟨ci, hci, hcc⟩ := r0.get RcptRd.len hx
     obtain ⟨cj, hcj, hcd⟩ := hR3.get RgRd.len hx
     have hsx := hsame _ (List.getElem_mem h1)
     have hsome := v0.isSome (by decide) h1
     have hcil := RcptRd.len _ _ hci
     have hcjl := RgRd.len _ _ hcj
     generalize hlx : rs[i] = lx at *
     (refine CW.skip ?_; refine Z1 ?_; refine Z4 ?_; refine CW.block ?_; refine Z4 ?_)
     refine CW.drawsX R [] (fun w m => m) mixed (by kernel_rfl) (Z10 0 rfl (by kernel_rfl) rfl (Z3 rfl) rfl (Z10 1 rfl (by kernel_rfl) rfl (Z3 rfl) rfl (Z10 2 rfl (by kernel_rfl) rfl (Z103 (A := some ⟨b3, 0, none⟩) (i) rfl rfl rfl rfl rfl rfl (by omega)) rfl (Z10 3 rfl (by kernel_rfl) rfl (Z104 (vs := cj) rfl rfl rfl rfl (fun w m => hin1.load (hR3' w m) hcd) hcjl) rfl (Z10 4 rfl (by kernel_rfl) rfl (Z3 rfl) rfl (Z10 5 rfl (by kernel_rfl) rfl (Z3 rfl) rfl (Z10 6 rfl (by kernel_rfl) rfl (Z103 (i) rfl rfl rfl rfl rfl hsome (by omega)) rfl ?_)))))))
     refine Z10 7 rfl (by kernel_rfl) rfl (Z104 (vs := ci) rfl rfl rfl rfl (fun w m => v0.load (h3Φ w (hR3' w m)) hcc) hcil) rfl (Z11 8 rfl (by kernel_rfl) rfl Tryd.call16 rfl (fun N' hN' => waybilllaw17_sameReceipt_does w0 (fun w => Mem w0 w M3) N' (fun w m => hR3' w (hN' w m)) cj lx ci lx true hcj.rcpt (RcptRd.mono h3Φ _ _ hci) hsx) rfl ?_)
     rintro _ G2 rfl
     refine Z19 (M' := R) (fun w m => m.appR) (fun w m => m) (Z10 9 rfl (by kernel_rfl) rfl (Z3 rfl) rfl (Z10 10 rfl (by kernel_rfl) rfl (Z3 rfl) rfl (Z10 11 rfl (by kernel_rfl) rfl (Z3 rfl) rfl (Z10 12 rfl (by kernel_rfl) rfl (Z103 (A := some ⟨b3, 0, none⟩) (i) rfl rfl rfl rfl rfl rfl (by omega)) rfl (Z10 13 rfl (by kernel_rfl) rfl (Z104 (vs := cj) rfl rfl rfl rfl (fun w m => hin1.load (hR3' w m) hcd) hcjl) rfl (Z10 14 rfl (by kernel_rfl) rfl (Z3 rfl) rfl (Z10 15 rfl (by kernel_rfl) rfl (Z3 rfl) rfl ?_)))))))
     refine Z10 16 rfl (by kernel_rfl) rfl (Z103 (i) rfl rfl rfl rfl rfl hsome (by omega)) rfl (Z10 17 rfl (by kernel_rfl) rfl (Z104 (vs := ci) rfl rfl rfl rfl (fun w m => v0.load (h3Φ w (hR3' w m)) hcc) hcil) rfl (Z11 18 rfl (by kernel_rfl) rfl Tryd.call17 rfl (fun N' hN' => waybillplay_StillReceipt_does w0 (fun w => Mem w0 w M3) N' (fun w m => hR3' w (hN' w m)) cj ci lx hcj (RcptRd.mono h3Φ _ _ hci) hgH hgA) rfl ?_))
     rintro _ G4 rfl
     refine Z19 (M' := R) (fun w m => m.appR) (fun w m => m) (Z10 19 rfl (by kernel_rfl) rfl (Z112 rfl rfl rfl) rfl (Z10 20 rfl (by kernel_rfl) rfl (Z5 rfl) rfl (XW.nil (by kernel_rfl) ?_)))
     (refine Z1 ?_; refine Z4 ?_)
     refine Z2 (Z0 (Z3 rfl) rfl (Z0 (RV.not rfl) rfl (Z6 (Z1 (CW.cond_f rfl ?_)))))
     (refine CW.skip ?_; refine Z27 ?_; refine Z1 ?_)
     refine Z2 (Z0 (Z3 rfl) rfl (Z0 (RV.add rfl rfl (by omega)) rfl (Z0 (Z5 rfl) rfl (Z6 ?_))))
     refine Z113 (k' := rs.length - (i + 1)) (by omega) ⟨i + 1, rfl, by omega, rfl, rfl⟩ ⟨rfl, rfl, rfl, trivial⟩ (fun w m => m)
    ·have hlast : ∀ j u, RcptMk.C[j]? = some u → (cs ++ RcptMk.C)[rs.length * 293 + j]? = some u := fun j u hj => by rw [List.getElem?_append_right (by omega), show rs.length * 293 + j - cs.length = j by omega]; exact hj
     (refine CW.exit ?_; refine Z9 ?_; refine Z9 ?_; refine Z15 ?_; refine Z1 ?_; refine Z4 ?_)
     refine Z2 (Z0 (Z3 rfl) rfl (Z0 (Z3 rfl) rfl (Z0 (RV.len rfl rfl) rfl (Z0 (Z103 (A := some ⟨b3, 0, none⟩) (rs.length) rfl rfl rfl rfl rfl rfl (by omega)) rfl (Z0 (Z31 rfl rfl rfl rfl) rfl (Z0 (Z21 rfl rfl rfl (fun w m => hin.load_fld (hR3' w m) hlast (Z110 _))) rfl (Z0 (RV.eql64_t (p := 77#64) (q := 77#64) rfl rfl rfl rfl rfl) rfl ?_)))))))
     refine Z0 (Z5 rfl) rfl (Z6 ?_)
     (refine Z1 ?_; refine CW.ret ?_)
     refine Z109 (rs := [.tmp 2]) [.bool true] [] rfl ?_ rfl rfl (fun w m => h3N w (hR3' w m)) _ (.inl rfl)
     exact ⟨rfl, trivial⟩
end Go.Fw.Tryd
namespace Go.Fw
open Go Go.RowKit Go.Deep Go.WideShapes
section
variable {H : Type} {enc : TypeId × Value → H} {P : Program} {W : World} {tL tA tS tH tB t8 : TypeId}
structure RcptTypes (P : Program) (tR tN tO tH tU tM tLs tL t8 : TypeId) where
 fs : Array Field
 f0 : Field
 f1 : Field
 f2 : Field
 f3 : Field
 f4 : Field
 f5 : Field
 f6 : Field
 hR : P.underlying tR = some (.struct fs)
 h0 : fs[0]? = some f0
 o0 : f0.offset = 0
 y0 : f0.type = tN
 h1 : fs[1]? = some f1
 o1 : f1.offset = 1
 y1 : f1.type = tO
 h2 : fs[2]? = some f2
 o2 : f2.offset = 2
 y2 : f2.type = tH
 h3 : fs[3]? = some f3
 o3 : f3.offset = 34
 y3 : f3.type = tU
 h4 : fs[4]? = some f4
 o4 : f4.offset = 35
 y4 : f4.type = tU
 h5 : fs[5]? = some f5
 o5 : f5.offset = 36
 y5 : f5.type = tM
 h6 : fs[6]? = some f6
 o6 : f6.offset = 292
 y6 : f6.type = tLs
 uN : P.underlying tN = some (.int .i64)
 uO : P.underlying tO = some .bool
 uH : P.underlying tH = some (.array 32 t8)
 uU : P.underlying tU = some (.int .u64)
 uM : P.underlying tM = some (.array 256 t8)
 uL : P.underlying tLs = some (.slice tL)
 u8 : P.underlying t8 = some (.int .u8)
 cN : P.cellsOf tN = 1
 cO : P.cellsOf tO = 1
 cH : P.cellsOf tH = 32
 cU : P.cellsOf tU = 1
 cM : P.cellsOf tM = 256
 cLs : P.cellsOf tLs = 1
 c8 : P.cellsOf t8 = 1
 cR : P.cellsOf tR = 293
theorem seg_list (cs : List Value) (o n : Nat) : cs.drop o = (cs.drop o).take n ++ cs.drop (o + n) := by
 rw [← List.drop_drop, List.take_append_drop]
end
end Go.Fw
namespace Go.Fw
open Go Go.RowKit Go.Deep Go.WideShapes
section
variable {H : Type} {enc : TypeId × Value → H} {P : Program} {W : World} {tL tA tS tH tB t8 : TypeId}
theorem reads_rcpt {tR tN tO tU tM tLs : TypeId} (R : RcptTypes P tR tN tO tH tU tM tLs tL t8) (T : LogTypes P tL tA tS tH tB t8) {fuel : Nat} {cs : List Value} {d : DataW H} {ps : List MemPlace} (hl : cs.length = 293) (hr : reads enc P W fuel tR cs = some (d, ps)) (hz : Fits P tR d) :
  ∃ x : Rcpt, RcptRd (fun w => Mem W w []) cs x ∧ x.logs.length * 72 ≤ 140737488351232 ∧ ∀ y ∈ x.logs, y.topics.length * 32 ≤ 140737488351232 ∧ y.data.length ≤ 140737488351232 := by
 obtain ⟨xs, m, hn, hx, hcl, hxl, hf⟩ := DataW.trod_struct R.hR hr
 have g0 := hf 0 R.f0 R.h0
 rw [R.o0, R.y0, R.cN] at g0
 have hs0 : 0 < R.fs.size := (Array.getElem?_eq_some_iff.1 R.h0).1
 obtain ⟨x0, e0⟩ : ∃ x, xs[0]? = some x := ⟨_, List.getElem?_eq_getElem (by omega)⟩
 rw [e0] at g0
 have g1 := hf 1 R.f1 R.h1
 rw [R.o1, R.y1, R.cO] at g1
 have hs1 : 1 < R.fs.size := (Array.getElem?_eq_some_iff.1 R.h1).1
 obtain ⟨x1, e1⟩ : ∃ x, xs[1]? = some x := ⟨_, List.getElem?_eq_getElem (by omega)⟩
 rw [e1] at g1
 have g2 := hf 2 R.f2 R.h2
 rw [R.o2, R.y2, R.cH] at g2
 have hs2 : 2 < R.fs.size := (Array.getElem?_eq_some_iff.1 R.h2).1
 obtain ⟨x2, e2⟩ : ∃ x, xs[2]? = some x := ⟨_, List.getElem?_eq_getElem (by omega)⟩
 rw [e2] at g2
 have g3 := hf 3 R.f3 R.h3
 rw [R.o3, R.y3, R.cU] at g3
 have hs3 : 3 < R.fs.size := (Array.getElem?_eq_some_iff.1 R.h3).1
 obtain ⟨x3, e3⟩ : ∃ x, xs[3]? = some x := ⟨_, List.getElem?_eq_getElem (by omega)⟩
 rw [e3] at g3
 have g4 := hf 4 R.f4 R.h4
 rw [R.o4, R.y4, R.cU] at g4
 have hs4 : 4 < R.fs.size := (Array.getElem?_eq_some_iff.1 R.h4).1
 obtain ⟨x4, e4⟩ : ∃ x, xs[4]? = some x := ⟨_, List.getElem?_eq_getElem (by omega)⟩
 rw [e4] at g4
 have g5 := hf 5 R.f5 R.h5
 rw [R.o5, R.y5, R.cM] at g5
 have hs5 : 5 < R.fs.size := (Array.getElem?_eq_some_iff.1 R.h5).1
 obtain ⟨x5, e5⟩ : ∃ x, xs[5]? = some x := ⟨_, List.getElem?_eq_getElem (by omega)⟩
 rw [e5] at g5
 have g6 := hf 6 R.f6 R.h6
 rw [R.o6, R.y6, R.cLs] at g6
 have hs6 : 6 < R.fs.size := (Array.getElem?_eq_some_iff.1 R.h6).1
 obtain ⟨x6, e6⟩ : ∃ x, xs[6]? = some x := ⟨_, List.getElem?_eq_getElem (by omega)⟩
 rw [e6] at g6
 have hd2 : d = .agg (xs.map (·.1)) := congrArg Prod.fst hx
 subst hd2
 have hz6 : Fits P tLs x6.1 := by have := Fits.struct R.hR hz R.h6 (d := x6.1) (by simp [e6]); rwa [R.y6] at this
 obtain ⟨n0, a0, w0⟩ := reads_int R.uN g0
 obtain ⟨b1, a1, _⟩ := DataW.trod_bool R.uO g1
 obtain ⟨r2, a2, l2⟩ := reads_arr8 R.uH R.u8 T.c8 R.cH g2
 obtain ⟨s3, a3⟩ := reads_u64 R.uU g3
 obtain ⟨s4, a4⟩ := reads_u64 R.uU g4
 obtain ⟨m5, a5, l5⟩ := reads_arr8 R.uM R.u8 T.c8 R.cM g5
 obtain ⟨u6, a6⟩ : ∃ u, (cs.drop 292).take 1 = [u] := List.length_eq_one_iff.1 (by rw [List.length_take, List.length_drop]; omega)
 rw [a6] at g6
 obtain ⟨A, cap, cells, ls, el, sp, rfl, v6, r6, hel, hll, hm6, hs6', hq⟩ := reads_logs T R.uL g6 hz6
 obtain ⟨root, rfl⟩ : ∃ v : Vector (BitVec 8) 32, r2 = v.toList := ⟨⟨r2.toArray, by simpa using l2⟩, rfl⟩
 obtain ⟨bl, rfl⟩ : ∃ v : Vector (BitVec 8) 256, m5 = v.toList := ⟨⟨m5.toArray, by simpa using l5⟩, rfl⟩
 have hb : -9223372036854775808 ≤ n0 ∧ n0 ≤ 9223372036854775807 := wf_i64_in w0
 refine ⟨⟨n0, b1, root, s3, s4, bl, ls⟩, ?_, hm6, hs6'⟩
 have hc : cs = (⟨n0, b1, root, s3, s4, bl, .slice A ls.length cap⟩ : RcptC).C := by
  have h0 : cs = cs.drop 0 := rfl
  have h7 : cs.drop 293 = [] := List.drop_of_length_le (by omega)
  rw [h0, seg_list cs 0 1, seg_list cs 1 1, seg_list cs 2 32, seg_list cs 34 1, seg_list cs 35 1, seg_list cs 36 256, seg_list cs 292 1, a0, a1, a2, a3, a4, a5, a6, h7]
  rfl
 rw [hc]
 exact RcptRd.mk hb v6 r6
theorem arg_rcpts {tRs tR tN tO tU tM tLs : TypeId} (R : RcptTypes P tR tN tO tH tU tM tLs tL t8) (T : LogTypes P tL tA tS tH tB t8) (uR : P.underlying tRs = some (.slice tR)) (bR : P.bytesOf tR = 344) {b0 : Nat} {v : Value} (hval : Value.okWide P W .any b0 tRs v) {d : DataW H} {ps : List MemPlace} (h : DataW.Trod enc P W 0 (fun _ => true) true tRs v d ps) (hz : Fits P tRs d) :
  ∃ (A : Option Addr) (cap : Nat) (cells : List Value) (xs : List Rcpt), v = .slice A xs.length cap ∧ View (fun w => Mem W w []) A xs.length cap 293 cells ∧ Reps (RcptRd (fun w => Mem W w [])) cells xs ∧ xs.length * 344 ≤ 140737488351232 ∧
   ∀ x ∈ xs, x.logs.length * 72 ≤ 140737488351232 ∧ ∀ y ∈ x.logs, y.topics.length * 32 ≤ 140737488351232 ∧ y.data.length ≤ 140737488351232 := by
 obtain ⟨a, l, c, rfl⟩ := okWide_slice uR hval
 obtain ⟨fuel, hf⟩ := h
 have hr : reads enc P W fuel tRs [.slice a l c] = some (d, ps) := by simpa [Value.cells] using hf
 obtain ⟨A, cap, ys, el, sp, h1, h2, h3, h4, h5, h6, h7, h8, h9, h10⟩ := cells_of_slice (α := List Value) (fun u => u) (fun cs d => ∃ n ps, cs.length = 293 ∧ reads enc P W n tR cs = some (d, ps)) 293 R.cR (by omega) (fun n cs r hl hr => ⟨cs, rfl, n, r.2, hl, hr⟩) uR hr
 have hw := hz.slice uR h7
 rw [bR, h9] at hw
 obtain ⟨xs, hlen, hq⟩ := list_of (Q := fun i x => ∃ cs d, ys[i]? = some cs ∧ el[i]? = some d ∧ RcptRd (fun w => Mem W w []) cs x ∧ x.logs.length * 72 ≤ 140737488351232 ∧ ∀ y ∈ x.logs, y.topics.length * 32 ≤ 140737488351232 ∧ y.data.length ≤ 140737488351232) ys.length (fun i hi => by
  have hu : ys[i]? = some ys[i] := List.getElem?_eq_getElem hi
  have hd : el[i]? = some (el[i]'(by omega)) := List.getElem?_eq_getElem (by omega)
  obtain ⟨n, ps', hl, hr⟩ := h10 i _ _ hu hd
  obtain ⟨x, e1, e2, e3⟩ := reads_rcpt R T hl hr (hw.2 _ (List.mem_of_getElem? hd))
  exact ⟨x, _, _, hu, hd, e1, e2, e3⟩)
 have hreps : ∀ (ys : List (List Value)) (xs : List Rcpt), xs.length = ys.length → (∀ (i : Nat) (x : Rcpt), xs[i]? = some x → ∃ cs, ys[i]? = some cs ∧ RcptRd (fun w => Mem W w []) cs x) → Reps (RcptRd (fun w => Mem W w [])) (ys.flatMap fun u => u) xs := by
  intro ys
  induction ys with
  | nil => intro its hl _; cases its with | nil => exact .nil | cons _ _ => simp at hl
  | cons y ys ih =>
   intro its hl hq
   cases its with
   | nil => simp at hl
   | cons it its =>
    obtain ⟨cs, e1, e2⟩ := hq 0 it rfl
    simp at e1
    subst e1
    rw [List.flatMap_cons]
    exact .cons e2 (ih its (by simpa using hl) (fun i x hx => by simpa using hq (i + 1) x (by simpa using hx)))
 have hc : cap * 344 ≤ 140737488351232 := by simpa [reachBytes] using hw.1
 have hR := hreps ys xs hlen (fun i x hx => by obtain ⟨cs, d, e1, _, e3, _⟩ := hq i x hx; exact ⟨cs, e1, e3⟩)
 refine ⟨A, cap, _, xs, by rw [hlen]; exact h1, View.of_rd h6 (hR.len RcptRd.len) (by omega) (by omega), hR, by omega, fun x hx => ?_⟩
 obtain ⟨i, hi⟩ := List.getElem?_of_mem hx
 obtain ⟨_, _, _, _, _, e5, e6⟩ := hq i x hi
 exact ⟨e5, e6⟩
end
end Go.Fw
