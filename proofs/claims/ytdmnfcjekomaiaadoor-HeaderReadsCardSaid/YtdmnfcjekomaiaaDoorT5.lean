/- Part of a proof: rules that its law uses. -/
import Derived.Test.YtdmnfcjekomaiaaDoorT4
set_option linter.unusedVariables false
set_option linter.unusedSimpArgs false
set_option linter.unusedSectionVars false
set_option maxRecDepth 100000
set_option maxHeartbeats 1000000
namespace Go.Fw.Tryd
open Go Go.Proofs Go.Fw
theorem waybillref07_head_does (w0 : World) (Φ : Ctx) (N : List Ent) (hΦ : ∀ w, Mem w0 w N → Φ w) (A0_ : Option Addr) (c0_ : Nat) (a0 : List (BitVec 8)) (a1 : Nat) (a2 : Nat) (res0 : Hd) (res1 : Nat) (va0 : View Φ A0_ a0.length c0_ 1 (u8s a0)) (ba1 : a1 ≤ 9223372036854775807) (ba2 : a2 ≤ 9223372036854775807) (hf : waybillref07_head a0 a1 a2 = some (res0, res1)) : DoesG Tryd.prog 117 [.slice A0_ a0.length c0_, .int .i64 ((a1 : Nat) : Int), .int .i64 ((a2 : Nat) : Int)] w0 [] N (fun v G => ∃ B : List Ent, ∃ cr0 : List Value, (HdRd (More w0 Φ B) cr0 res0) ∧ (res1 ≤ 9223372036854775807) ∧ v = .tuple #[.agg cr0.toArray, .int .i64 ((res1 : Nat) : Int)] ∧ G = B) := by
 unfold waybillref07_head at hf
 replace va0 := va0.mono (Ψ := More w0 Φ []) (fun w q => q.1)
 have m1 := va0.mx
 refine DoesG.enter Tryd.func117 rfl Tryd.ntmps117 rfl (M := (([] ++ N))) rfl (Z4 (Z2 (OW.alloc (l := [.bool false, .int .i64 (0 : Int), .int .i64 (0 : Int)]) rfl rfl rfl (fun b2 => (Z0 (Z5 rfl) rfl (Z6 (Z1 (Z4 (Z4 (Z2 (Z0 (Z3 rfl) rfl (Z0 (Z3 rfl) rfl (Z0 (RV.geq rfl rfl) rfl ?_)))))))))))))
 refine Z7 (.bool (decide (a2 ≤ a1))) (congrArg Value.bool (decide_eq_decide.2 (by omega))) (Z6 (Z1 ?_))
 by_cases h3 : a2 ≤ a1
 ·replace hf := if_t hf h3
  refine Z13 rfl (decide_eq_true h3) (Z4 (Z2 (Z0 (Z109 (l := [.bool false, .int .i64 (0 : Int), .int .i64 (0 : Int)]) (cs := [.bool false, .int .i64 (0 : Int), .int .i64 (0 : Int)]) [] rfl rfl rfl rfl rfl rfl rfl) rfl ?_)))
  refine Z28 (Z105 rfl rfl rfl (by intro u hu; simp at hu; rcases hu with rfl | rfl | rfl <;> rfl) rfl rfl rfl) ?_
  refine Z0 (Z5 rfl) rfl (Z6 (Z1 (CW.ret (Z8 ?_))))
  have er0 := Zi hf
  obtain ⟨e0, er1⟩ := Prod.mk.inj er0
  clear er0
  subst e0
  subst er1
  have h4 : HdRd (More w0 Φ []) [.bool false, .int .i64 (0 : Int), .int .i64 (0 : Int)] (Hd.mk false 0 0) := by refine HdRd.mk ?_ ?_ <;> (first | omega | (dsimp only; omega)| (simp; done) | (show 0 ≤ 9223372036854775807; omega))
  refine Z106 (rs := [.cell 6 167, .tmp 7]) ([.agg [.bool false, .int .i64 (0 : Int), .int .i64 (0 : Int)].toArray, .int .i64 (70 : Int)]) ([]) rfl ?_ rfl ?_ ?_ _ (.inl rfl)
  ·exact ⟨⟨_, _, _, _, rfl, Zh, rfl, rfl, rfl, rfl⟩, rfl, trivial⟩
  ·exact ⟨[], [.bool false, .int .i64 (0 : Int), .int .i64 (0 : Int)], h4, (by omega), rfl, rfl⟩
  ·exact (fun w m => m.pick [] 1 rfl rfl)
 ·replace hf := if_f hf h3
  refine Z14 rfl (decide_eq_false h3) (CW.skip (Z1 (Z4 (Z2 (Z0 (Z3 rfl) rfl (Z0 (Z3 rfl) rfl ?_))))))
  obtain ⟨x5, hx6, hf⟩ := Z103 hf
  have hl7 := Z129 hx6
  refine Z0 (Z141 (a1) rfl rfl rfl rfl rfl (va0.isSome (by decide) hl7) (by omega)) rfl (Z0 (Z21 rfl rfl rfl (fun w m => va0.cell (More.of hΦ 1 m rfl) (u8s_at hx6))) rfl (Z0 (RV.conv8_i rfl (by first | rfl | exact lit8 _ rfl) rfl rfl) rfl ?_))
  have m8 := (x5).isLt
  refine Z0 (Z5 rfl) rfl (Z6 (Z1 (Z4 (Z4 (Z2 (Z0 (Z3 rfl) rfl (Z0 (RV.lss rfl rfl) rfl (Z7 (.bool (decide (x5.toNat < 128))) (congrArg Value.bool (decide_eq_decide.2 (by omega))) (Z6 (Z1 ?_))))))))))
  by_cases h9 : x5.toNat < 128
  ·replace hf := if_t hf h9
   refine Z13 rfl (decide_eq_true h9) (Z4 (Z2 (Z0 (Z3 rfl) rfl (Z0 (Z3 rfl) rfl (Z0 (RV.add rfl rfl (by omega)) rfl (Z7 (.int .i64 (((a1 + 1) : Nat) : Int)) (by first | rfl | (congr 1) | (congr 1; omega)) (Z0 (Z109 (l := [.bool false, .int .i64 (0 : Int), .int .i64 (0 : Int)]) (cs := [.bool false, .int .i64 ((a1 : Nat) : Int), .int .i64 (((a1 + 1) : Nat) : Int)]) [(1, [.int .i64 ((a1 : Nat) : Int)]), (2, [.int .i64 (((a1 + 1) : Nat) : Int)])] rfl rfl rfl rfl rfl rfl rfl) rfl ?_)))))))
   refine Z28 (Z105 rfl rfl rfl (by intro u hu; simp at hu; rcases hu with rfl | rfl | rfl <;> rfl) rfl rfl rfl) ?_
   refine Z0 (Z5 rfl) rfl (Z6 (Z1 (CW.ret (Z8 ?_))))
   have er0 := Zi hf
   obtain ⟨e0, er1⟩ := Prod.mk.inj er0
   clear er0
   subst e0
   subst er1
   have h10 : HdRd (More w0 Φ []) [.bool false, .int .i64 ((a1 : Nat) : Int), .int .i64 (((a1 + 1) : Nat) : Int)] (Hd.mk false a1 (a1 + 1)) := by refine HdRd.mk ?_ ?_ <;> (first | omega | (dsimp only; omega)| (simp; done) | (show 0 ≤ 9223372036854775807; omega))
   refine Z106 (rs := [.cell 6 167, .tmp 7]) ([.agg [.bool false, .int .i64 ((a1 : Nat) : Int), .int .i64 (((a1 + 1) : Nat) : Int)].toArray, .int .i64 (0 : Int)]) ([]) rfl ?_ rfl ?_ ?_ _ (.inl rfl)
   ·exact ⟨⟨_, _, _, _, rfl, Zh, rfl, rfl, rfl, rfl⟩, rfl, trivial⟩
   ·exact ⟨[], [.bool false, .int .i64 ((a1 : Nat) : Int), .int .i64 (((a1 + 1) : Nat) : Int)], h10, (by omega), rfl, rfl⟩
   ·exact (fun w m => m.pick [] 1 rfl rfl)
  ·replace hf := if_f hf h9
   refine Z14 rfl (decide_eq_false h9) (CW.skip (Z1 (Z4 (Z2 (Z0 (Z3 rfl) rfl (Z0 (RV.geq rfl rfl) rfl (Z7 (.bool (decide (192 ≤ x5.toNat))) (congrArg Value.bool (decide_eq_decide.2 (by omega))) (Z0 (Z3 rfl) rfl (Z0 (RV.add rfl rfl (by omega)) rfl (Z7 (.int .i64 (((a1 + 1) : Nat) : Int)) (by first | rfl | (congr 1) | (congr 1; omega)) ?_))))))))))
   refine Z0 (Z109 (l := [.bool false, .int .i64 (0 : Int), .int .i64 (0 : Int)]) (cs := [.bool (decide (192 ≤ x5.toNat)), .int .i64 (((a1 + 1) : Nat) : Int), .int .i64 (0 : Int)]) [(0, [.bool (decide (192 ≤ x5.toNat))]), (1, [.int .i64 (((a1 + 1) : Nat) : Int)])] rfl rfl rfl rfl rfl rfl rfl) rfl (OW.alloc (l := [.bool false, .int .i64 (0 : Int), .int .i64 (0 : Int)]) rfl rfl rfl (fun b11 => ?_))
   refine Z28 (Z105 rfl rfl rfl (by intro u hu; simp at hu; rcases hu with rfl | rfl | rfl <;> rfl) rfl rfl rfl) ?_
   refine Z6 (Z1 (Z4 (Z2 (Z0 (Z3 rfl) rfl (Z0 (RV.rem rfl rfl (by omega) (by omega)) rfl (Z7 (.int .i64 ((x5.toNat % 64 : Nat) : Int)) (by first | rfl | (congr 1; omega)) (Z0 (Z5 rfl) rfl (Z6 (Z1 (Z4 (Z4 (Z2 (Z0 (Z3 rfl) rfl (Z0 (RV.gtr rfl rfl) rfl ?_))))))))))))))
   refine Z7 (.bool (decide (55 < (x5.toNat % 64)))) (congrArg Value.bool (decide_eq_decide.2 (by omega))) (Z6 (Z1 ?_))
   obtain ⟨q12, hq13, hf⟩ := Z103 hf
   refine Z120 (fun L' M' => ∃ n14 : Nat, ∃ p16 : Bool, ∃ n17 : Nat, ∃ n19 : Nat, q12 = Lp.go (n14, p16, n17, n19) ∧ (n14 ≤ 9223372036854775807) ∧ (n17 ≤ 9223372036854775807) ∧ (n19 ≤ 9223372036854775807) ∧ L' = [(0, .slice A0_ a0.length c0_), (2, .int .i64 ((a2 : Nat) : Int)), (6, ptr (some b2) 0), (9, ptr (some b11) 0), (10, .int .i64 ((n14 : Nat) : Int))] ∧ M' = ((some b11, blk [.bool (p16), .int .i64 ((n17 : Nat) : Int), .int .i64 ((n19 : Nat) : Int)] 167) :: (some b2, blk [.bool false, .int .i64 (0 : Int), .int .i64 (0 : Int)] 167) :: ([] ++ N))) ?_ ?_
   ·rintro L22 M23 ⟨n14, p16, n17, n19, e21, b15, b18, b20, e24, e25⟩
    rw [e24, e25]
    clear e24 e25 L22 M23
    clear hq13
    rw [e21] at hf
    clear e21
    try dsimp only at hf
    refine Z1 (Z4 (Z4 (Z2 (Z0 (Z3 rfl) rfl (Z0 (Z3 rfl) rfl (Z0 (Z30 rfl rfl rfl rfl) rfl (Z0 (Z29 rfl Zh rfl rfl rfl rfl) rfl (Z0 (RV.sub rfl rfl (by omega)) rfl (Z0 (RV.gtr rfl rfl) rfl (Z6 (Z1 ?_)))))))))))
    by_cases h26 : (((a2 : Nat) : Int) - ((n17 : Nat) : Int)) < ((n14 : Nat) : Int)
    ·replace hf := if_t hf h26
     refine Z13 rfl (decide_eq_true h26) (Z4 (Z2 (Z0 (Z109 (l := [.bool false, .int .i64 (0 : Int), .int .i64 (0 : Int)]) (cs := [.bool false, .int .i64 (0 : Int), .int .i64 (0 : Int)]) [] rfl rfl rfl rfl rfl rfl rfl) rfl (OW.rot1 ?_))))
     refine Z28 (Z105 rfl rfl rfl (by intro u hu; simp at hu; rcases hu with rfl | rfl | rfl <;> rfl) rfl rfl rfl) ?_
     refine Z0 (Z5 rfl) rfl (Z6 (Z1 (CW.ret (Z8 ?_))))
     have er0 := Zi hf
     obtain ⟨e0, er1⟩ := Prod.mk.inj er0
     clear er0
     subst e0
     subst er1
     have h27 : HdRd (More w0 Φ []) [.bool false, .int .i64 (0 : Int), .int .i64 (0 : Int)] (Hd.mk false 0 0) := by refine HdRd.mk ?_ ?_ <;> (first | omega | (dsimp only; omega)| (simp; done) | (show 0 ≤ 9223372036854775807; omega))
     refine Z106 (rs := [.cell 6 167, .tmp 7]) ([.agg [.bool false, .int .i64 (0 : Int), .int .i64 (0 : Int)].toArray, .int .i64 (70 : Int)]) ([]) rfl ?_ rfl ?_ ?_ _ (.inl rfl)
     ·exact ⟨⟨_, _, _, _, rfl, Zh, rfl, rfl, rfl, rfl⟩, rfl, trivial⟩
     ·exact ⟨[], [.bool false, .int .i64 (0 : Int), .int .i64 (0 : Int)], h27, (by omega), rfl, rfl⟩
     ·exact (fun w m => m.pick [] 2 rfl rfl)
    ·replace hf := if_f hf h26
     refine Z14 rfl (decide_eq_false h26) (CW.skip (Z1 (Z4 (Z2 (Z0 (Z30 rfl rfl rfl rfl) rfl (Z0 (Z29 rfl Zh rfl rfl rfl rfl) rfl (Z0 (Z3 rfl) rfl ?_)))))))
     obtain ⟨g28, hf⟩ := Z128 hf
     refine Z0 (RV.add rfl rfl (by omega)) rfl (Z7 (.int .i64 (((n17 + n14) : Nat) : Int)) (by first | rfl | (congr 1) | (congr 1; omega)) (Z0 (Z30 rfl rfl rfl rfl) rfl (Z28 (SV.store rfl rfl rfl rfl rfl (by simp)) (OW.cells [.bool (p16), .int .i64 ((n17 : Nat) : Int), .int .i64 (((n17 + n14) : Nat) : Int)] rfl (Z6 (Z1 (Z4 (Z4 ?_))))))))
     obtain ⟨q29, hq30, hf⟩ := Z103 hf
     refine Z120 (fun L' M' => ∃ p31 : Bool, q29 = p31 ∧ L' = [(6, ptr (some b2) 0), (9, ptr (some b11) 0), (116, .bool (p31))] ∧ M' = ((some b11, blk [.bool (p16), .int .i64 ((n17 : Nat) : Int), .int .i64 (((n17 + n14) : Nat) : Int)] 167) :: (some b2, blk [.bool false, .int .i64 (0 : Int), .int .i64 (0 : Int)] 167) :: ([] ++ N))) ?_ ?_
     ·rintro L33 M34 ⟨p31, e32, e35, e36⟩
      rw [e35, e36]
      clear e35 e36 L33 M34
      clear hq30
      rw [e32] at hf
      clear e32
      try dsimp only at hf
      refine Z1 ?_
      by_cases h37 : p31 = true
      ·replace hf := if_t hf h37
       refine Z13 rfl (h37) (Z4 (Z2 (Z0 (Z109 (l := [.bool false, .int .i64 (0 : Int), .int .i64 (0 : Int)]) (cs := [.bool false, .int .i64 (0 : Int), .int .i64 (0 : Int)]) [] rfl rfl rfl rfl rfl rfl rfl) rfl (OW.rot1 ?_))))
       refine Z28 (Z105 rfl rfl rfl (by intro u hu; simp at hu; rcases hu with rfl | rfl | rfl <;> rfl) rfl rfl rfl) ?_
       refine Z0 (Z5 rfl) rfl (Z6 (Z1 (CW.ret (Z8 ?_))))
       have er0 := Zi hf
       obtain ⟨e0, er1⟩ := Prod.mk.inj er0
       clear er0
       subst e0
       subst er1
       have h38 : HdRd (More w0 Φ []) [.bool false, .int .i64 (0 : Int), .int .i64 (0 : Int)] (Hd.mk false 0 0) := by refine HdRd.mk ?_ ?_ <;> (first | omega | (dsimp only; omega)| (simp; done) | (show 0 ≤ 9223372036854775807; omega))
       refine Z106 (rs := [.cell 6 167, .tmp 7]) ([.agg [.bool false, .int .i64 (0 : Int), .int .i64 (0 : Int)].toArray, .int .i64 (71 : Int)]) ([]) rfl ?_ rfl ?_ ?_ _ (.inl rfl)
       ·exact ⟨⟨_, _, _, _, rfl, Zh, rfl, rfl, rfl, rfl⟩, rfl, trivial⟩
       ·exact ⟨[], [.bool false, .int .i64 (0 : Int), .int .i64 (0 : Int)], h38, (by omega), rfl, rfl⟩
       ·exact (fun w m => m.pick [] 2 rfl rfl)
      ·replace hf := if_f hf h37
       refine Z14 rfl (Bool.eq_false_iff.2 h37) (CW.skip (Z1 (Z4 (Z2 (Z0 (Z22 rfl Zh rfl rfl rfl rfl rfl) rfl (OW.rot1 ?_))))))
       refine Z28 (Z105 rfl rfl rfl (by intro u hu; simp at hu; rcases hu with rfl | rfl | rfl <;> rfl) rfl rfl rfl) ?_
       refine Z0 (Z5 rfl) rfl (Z6 (Z1 (CW.ret ?_)))
       have er0 := Zi hf
       obtain ⟨e0, er1⟩ := Prod.mk.inj er0
       clear er0
       subst e0
       subst er1
       have h39 : HdRd (More w0 Φ []) [.bool (p16), .int .i64 ((n17 : Nat) : Int), .int .i64 (((n17 + n14) : Nat) : Int)] (Hd.mk (p16) n17 (n17 + n14)) := by refine HdRd.mk ?_ ?_ <;> (first | omega | (dsimp only; omega)| (simp; done) | (show 0 ≤ 9223372036854775807; omega))
       refine Z106 (rs := [.cell 6 167, .tmp 7]) ([.agg [.bool (p16), .int .i64 ((n17 : Nat) : Int), .int .i64 (((n17 + n14) : Nat) : Int)].toArray, .int .i64 (0 : Int)]) ([]) rfl ?_ rfl ?_ ?_ _ (.inl rfl)
       ·exact ⟨⟨_, _, _, _, rfl, Zh, rfl, rfl, rfl, rfl⟩, rfl, trivial⟩
       ·exact ⟨[], [.bool (p16), .int .i64 ((n17 : Nat) : Int), .int .i64 (((n17 + n14) : Nat) : Int)], h39, (by omega), rfl, rfl⟩
       ·exact (fun w m => m.pick [] 2 rfl rfl)
     ·skip
      refine Z2 (Z0 (Z30 rfl rfl rfl rfl) rfl (Z0 (Z29 rfl Zh rfl rfl rfl rfl) rfl (Z0 (RV.not rfl) rfl (Z0 (Z3 rfl) rfl ?_))))
      by_cases h40 : p16 = true
      ·replace hq30 := if_t hq30 h40
       refine Z7 (.bool false) (congrArg Value.bool (congrArg (fun b => !b) (h40))) (Z23 rfl rfl rfl (Z23 rfl rfl rfl (Z0 (Z110 rfl rfl rfl) rfl (Z0 (Z3 rfl) rfl (Z23 rfl rfl rfl (Z23 rfl rfl rfl (Z23 rfl rfl rfl ?_)))))))
       refine Z23 rfl rfl rfl (Z23 rfl rfl rfl (Z23 rfl rfl rfl (Z0 (Z110 rfl rfl rfl) rfl (Z6 ?_))))
       exact QW.join ⟨false, (Zi hq30).symm, rfl, rfl⟩ ⟨rfl, rfl, rfl, trivial⟩ (fun w m => m.pick [0, 1] 2 rfl rfl)
      ·replace hq30 := if_f hq30 h40
       refine Z7 (.bool true) (congrArg Value.bool (congrArg (fun b => !b) (Bool.eq_false_iff.2 h40))) (Z24 rfl (Z0 (Z3 rfl) rfl (Z24 rfl (Z0 (RV.eql rfl rfl) rfl (Z7 (.bool (decide (n14 = 1))) (congrArg Value.bool (decide_eq_decide.2 (by omega))) (Z0 (Z108 rfl rfl rfl) rfl (Z0 (Z3 rfl) rfl ?_)))))))
       by_cases h41 : n14 = 1
       ·replace hq30 := if_t hq30 h41
        refine Z7 (.bool true) (congrArg Value.bool (decide_eq_true h41)) (Z24 rfl (Z0 (Z3 rfl) rfl (Z24 rfl (Z0 (Z30 rfl rfl rfl rfl) rfl (Z24 rfl (Z0 (Z29 rfl Zh rfl rfl rfl rfl) rfl (Z24 rfl ?_)))))))
        obtain ⟨x42, hx43, hq30⟩ := Z103 hq30
        have hl44 := Z129 hx43
        refine Z0 (Z141 (n17) rfl rfl rfl rfl rfl (va0.isSome (by decide) hl44) (by omega)) rfl (Z24 rfl (Z0 (Z21 rfl rfl rfl (fun w m => va0.cell (More.of hΦ 2 m rfl) (u8s_at hx43))) rfl (Z24 rfl (Z0 (RV.lss rfl rfl) rfl (Z7 (.bool (decide (x42.toNat < 128))) (congrArg Value.bool (decide_eq_decide.2 (by first | exact Int.ofNat_le | exact Int.ofNat_lt | omega | (simp; omega) | simp))) (Z0 (Z108 rfl rfl rfl) rfl (Z6 ?_)))))))
        exact QW.join ⟨(decide (x42.toNat < 128)), (Zi hq30).symm, rfl, rfl⟩ ⟨rfl, rfl, rfl, trivial⟩ (fun w m => m.pick [0, 1] 2 rfl rfl)
       ·replace hq30 := if_f hq30 h41
        refine Z7 (.bool false) (congrArg Value.bool (decide_eq_false h41)) (Z23 rfl rfl rfl (Z23 rfl rfl rfl (Z23 rfl rfl rfl (Z23 rfl rfl rfl (Z23 rfl rfl rfl (Z23 rfl rfl rfl (Z0 (Z110 rfl rfl rfl) rfl ?_)))))))
        refine Z6 ?_
        exact QW.join ⟨false, (Zi hq30).symm, rfl, rfl⟩ ⟨rfl, rfl, rfl, trivial⟩ (fun w m => m.pick [0, 1] 2 rfl rfl)
   ·skip
    by_cases h45 : 55 < (x5.toNat % 64)
    ·replace hq13 := if_t hq13 h45
     refine Z13 rfl (decide_eq_true h45) (Z4 (Z2 (Z0 (Z3 rfl) rfl (Z0 (RV.sub rfl rfl (by omega)) rfl (Z7 (.int .i64 (((x5.toNat % 64) - 55 : Nat) : Int)) (by congr 1; omega) (Z0 (Z5 rfl) rfl (Z6 (Z1 (Z4 (Z4 (Z2 (Z0 (Z3 rfl) rfl ?_))))))))))))
     refine Z0 (Z30 rfl rfl rfl rfl) rfl (Z0 (Z29 rfl Zh rfl rfl rfl rfl) rfl (Z0 (RV.sub rfl rfl (by omega)) rfl (Z0 (Z3 rfl) rfl (Z0 (RV.lss rfl rfl) rfl (Z6 (Z1 ?_))))))
     by_cases h46 : (((a2 : Nat) : Int) - (((a1 + 1) : Nat) : Int)) < (((x5.toNat % 64) - 55 : Nat) : Int)
     ·replace hq13 := if_t hq13 h46
      refine Z13 rfl (decide_eq_true h46) (Z4 (Z2 (Z0 (Z109 (l := [.bool false, .int .i64 (0 : Int), .int .i64 (0 : Int)]) (cs := [.bool false, .int .i64 (0 : Int), .int .i64 (0 : Int)]) [] rfl rfl rfl rfl rfl rfl rfl) rfl (OW.rot1 ?_))))
      refine Z28 (Z105 rfl rfl rfl (by intro u hu; simp at hu; rcases hu with rfl | rfl | rfl <;> rfl) rfl rfl rfl) ?_
      refine Z0 (Z5 rfl) rfl (Z6 (Z1 (CW.ret (Z8 (Z8 ?_)))))
      have hc := Zi hq13
      subst hc
      try dsimp only at hf
      refine Z8 ?_
      have er0 := Zi hf
      obtain ⟨e0, er1⟩ := Prod.mk.inj er0
      clear er0
      subst e0
      subst er1
      have h47 : HdRd (More w0 Φ []) [.bool false, .int .i64 (0 : Int), .int .i64 (0 : Int)] (Hd.mk false 0 0) := by refine HdRd.mk ?_ ?_ <;> (first | omega | (dsimp only; omega)| (simp; done) | (show 0 ≤ 9223372036854775807; omega))
      refine Z106 (rs := [.cell 6 167, .tmp 7]) ([.agg [.bool false, .int .i64 (0 : Int), .int .i64 (0 : Int)].toArray, .int .i64 (70 : Int)]) ([]) rfl ?_ rfl ?_ ?_ _ (.inl rfl)
      ·exact ⟨⟨_, _, _, _, rfl, Zh, rfl, rfl, rfl, rfl⟩, rfl, trivial⟩
      ·exact ⟨[], [.bool false, .int .i64 (0 : Int), .int .i64 (0 : Int)], h47, (by omega), rfl, rfl⟩
      ·exact (fun w m => m.pick [] 2 rfl rfl)
     ·replace hq13 := if_f hq13 h46
      refine Z14 rfl (decide_eq_false h46) (CW.skip (Z1 (Z4 (Z2 (Z0 (Z3 rfl) rfl (Z0 (Z30 rfl rfl rfl rfl) rfl (Z0 (Z29 rfl Zh rfl rfl rfl rfl) rfl (Z0 (Z30 rfl rfl rfl rfl) rfl (Z0 (Z29 rfl Zh rfl rfl rfl rfl) rfl (Z0 (Z3 rfl) rfl ?_))))))))))
      obtain ⟨g48, hq13⟩ := Z128 hq13
      refine Z0 (RV.add rfl rfl (by omega)) rfl (Z7 (.int .i64 ((((a1 + 1) + ((x5.toNat % 64) - 55)) : Nat) : Int)) (by first | rfl | (congr 1) | (congr 1; omega)) ?_)
      obtain ⟨g50, hq13⟩ := Z128 hq13
      obtain ⟨g51, hq13⟩ := Z128 hq13
      have hle := va0.le
      refine Z0 (RV.cut_both (s := 1) ((a1 + 1)) (((a1 + 1) + ((x5.toNat % 64) - 55))) rfl rfl rfl (by omega) (by omega) rfl rfl (by omega) (by omega)) rfl (Z7 (.slice (subA A0_ c0_ (a1 + 1) 1) ((a0.take ((a1 + 1) + ((x5.toNat % 64) - 55))).drop (a1 + 1)).length (c0_ - (a1 + 1))) (by rw [show (((a0.take ((a1 + 1) + ((x5.toNat % 64) - 55))).drop (a1 + 1))).length = (((a1 + 1) + ((x5.toNat % 64) - 55))) - ((a1 + 1)) from List.length_drop.trans (by rw [List.length_take, Nat.min_eq_left (by omega)])]) ?_)
      have v49 : View (More w0 Φ []) (subA A0_ c0_ (a1 + 1) 1) ((a0.take ((a1 + 1) + ((x5.toNat % 64) - 55))).drop (a1 + 1)).length (c0_ - (a1 + 1)) 1 (u8s ((a0.take ((a1 + 1) + ((x5.toNat % 64) - 55))).drop (a1 + 1))) := va0.mid8 (by omega) (by omega)
      have m52 := v49.mx
      obtain ⟨⟨x54, x55⟩, hx53, hq13⟩ := Z103 hq13
      try dsimp only at hq13
      refine Z12 Tryd.call138 rfl (waybillref01_Get_does w0 (More w0 Φ []) ((some b11, blk [.bool (decide (192 ≤ x5.toNat)), .int .i64 (((a1 + 1) : Nat) : Int), .int .i64 (0 : Int)] 167) :: (some b2, blk [.bool false, .int .i64 (0 : Int), .int .i64 (0 : Int)] 167) :: ([] ++ N)) (fun w m => More.of hΦ 2 m rfl) (subA A0_ c0_ (a1 + 1) 1) (c0_ - (a1 + 1)) ((a0.take ((a1 + 1) + ((x5.toNat % 64) - 55))).drop (a1 + 1)) x54 x55 v49 hx53) rfl rfl ?_
      rintro _ G57 ⟨b56, rfl⟩
      refine Z20 (M' := ((some b11, blk [.bool (decide (192 ≤ x5.toNat)), .int .i64 (((a1 + 1) : Nat) : Int), .int .i64 (0 : Int)] 167) :: (some b2, blk [.bool false, .int .i64 (0 : Int), .int .i64 (0 : Int)] 167) :: ([] ++ N))) (fun w m => m.appR) (Z0 (Z3 rfl) rfl (Z0 (Z17 rfl rfl) rfl (Z7 (.agg (u64s x54.toList).toArray) (rfl) (Z0 (Z17 rfl rfl) rfl (Z7 (.int .i64 ((x55 : Nat) : Int)) (rfl) (OW.alloc (l := (u64s (Vector.replicate 4 0#64).toList)) rfl (by rw [Vector.toList_replicate, ← Z116]; rfl) rfl (fun b59 => (Z28 (Z105 rfl rfl rfl (Z115 _) rfl ((Z101 _).trans Zv) ((Z101 _).trans Zv)) ?_))))))))
      refine Z0 (Z5 rfl) rfl (Z6 (Z1 (Z4 (Z4 ?_))))
      obtain ⟨q60, hq61, hq13⟩ := Z103 hq13
      refine Z120 (fun L' M' => ∃ p62 : Bool, q60 = p62 ∧ L' = [(0, .slice A0_ a0.length c0_), (2, .int .i64 ((a2 : Nat) : Int)), (6, ptr (some b2) 0), (9, ptr (some b11) 0), (11, .int .i64 (((x5.toNat % 64) - 55 : Nat) : Int)), (12, ptr (some b59) 0), (70, .bool (p62))] ∧ M' = ((some b59, blk (u64s x54.toList) 35) :: (some b11, blk [.bool (decide (192 ≤ x5.toNat)), .int .i64 (((a1 + 1) : Nat) : Int), .int .i64 (0 : Int)] 167) :: (some b2, blk [.bool false, .int .i64 (0 : Int), .int .i64 (0 : Int)] 167) :: ([] ++ N))) ?_ ?_
      ·rintro L64 M65 ⟨p62, e63, e66, e67⟩
       rw [e66, e67]
       clear e66 e67 L64 M65
       clear hq61
       rw [e63] at hq13
       clear e63
       try dsimp only at hq13
       refine Z1 ?_
       by_cases h68 : p62 = true
       ·replace hq13 := if_t hq13 h68
        refine Z13 rfl (h68) (Z4 (Z2 (Z0 (Z109 (l := [.bool false, .int .i64 (0 : Int), .int .i64 (0 : Int)]) (cs := [.bool false, .int .i64 (0 : Int), .int .i64 (0 : Int)]) [] rfl rfl rfl rfl rfl rfl rfl) rfl (OW.rot2 ?_))))
        refine Z28 (Z105 rfl rfl rfl (by intro u hu; simp at hu; rcases hu with rfl | rfl | rfl <;> rfl) rfl rfl rfl) ?_
        refine Z0 (Z5 rfl) rfl (Z6 (Z1 (CW.ret (Z8 (Z8 ?_)))))
        have hc := Zi hq13
        subst hc
        try dsimp only at hf
        refine Z8 ?_
        have er0 := Zi hf
        obtain ⟨e0, er1⟩ := Prod.mk.inj er0
        clear er0
        subst e0
        subst er1
        have h69 : HdRd (More w0 Φ []) [.bool false, .int .i64 (0 : Int), .int .i64 (0 : Int)] (Hd.mk false 0 0) := by refine HdRd.mk ?_ ?_ <;> (first | omega | (dsimp only; omega)| (simp; done) | (show 0 ≤ 9223372036854775807; omega))
        refine Z106 (rs := [.cell 6 167, .tmp 7]) ([.agg [.bool false, .int .i64 (0 : Int), .int .i64 (0 : Int)].toArray, .int .i64 (72 : Int)]) ([]) rfl ?_ rfl ?_ ?_ _ (.inl rfl)
        ·exact ⟨⟨_, _, _, _, rfl, Zh, rfl, rfl, rfl, rfl⟩, rfl, trivial⟩
        ·exact ⟨[], [.bool false, .int .i64 (0 : Int), .int .i64 (0 : Int)], h69, (by omega), rfl, rfl⟩
        ·exact (fun w m => m.pick [] 3 rfl rfl)
       ·replace hq13 := if_f hq13 h68
        refine Z14 rfl (Bool.eq_false_iff.2 h68) (CW.skip (Z1 (Z4 (Z2 (Z0 (Z30 rfl rfl rfl rfl) rfl (Z0 (Z29 rfl (List.Mem.tail _ Zh) rfl rfl rfl rfl) rfl (Z0 (Z3 rfl) rfl (Z0 (RV.add rfl rfl (by omega)) rfl (Z7 (.int .i64 ((((a1 + 1) + ((x5.toNat % 64) - 55)) : Nat) : Int)) (by first | rfl | (congr 1) | (congr 1; omega)) (Z0 (Z30 rfl rfl rfl rfl) rfl ?_))))))))))
        refine OW.rot1 (Z28 (SV.store rfl rfl rfl rfl rfl (by simp)) (OW.cells [.bool (decide (192 ≤ x5.toNat)), .int .i64 ((((a1 + 1) + ((x5.toNat % 64) - 55)) : Nat) : Int), .int .i64 (0 : Int)] rfl (Z6 (Z1 (Z4 (Z4 (Z124 9 mixed (by kernel_rfl) rfl (Z18 0 rfl (by kernel_rfl) rfl (Z22 rfl (List.Mem.tail _ Zh) rfl rfl rfl rfl ((Z101 _).trans Zv)) rfl (Z18 1 rfl (by kernel_rfl) rfl (Z3 rfl) rfl (Z18 2 rfl (by kernel_rfl) rfl (Z30 rfl rfl rfl rfl) rfl ?_))))))))))
        refine Z18 3 rfl (by kernel_rfl) rfl (Z29 rfl Zh rfl rfl rfl rfl) rfl (Z18 4 rfl (by kernel_rfl) rfl (RV.sub rfl rfl (by omega)) rfl (Z18 5 rfl (by kernel_rfl) rfl (RV.conv_i64 rfl rfl rfl) rfl ?_))
        obtain ⟨x71, hx70, hq13⟩ := Z103 hq13
        refine Z25 6 rfl (by kernel_rfl) rfl Tryd.call94 rfl (fun N' hN' => waybillref01_From_does w0 (More w0 Φ []) N' (fun w m => More.of hΦ 3 (hN' w m) rfl) (BitVec.ofInt 64 (((a2 : Nat) : Int) - ((((a1 + 1) + ((x5.toNat % 64) - 55)) : Nat) : Int))) x71 hx70) rfl ?_
        rintro _ G72 rfl
        refine UW.mem (M' := ((some b11, blk [.bool (decide (192 ≤ x5.toNat)), .int .i64 ((((a1 + 1) + ((x5.toNat % 64) - 55)) : Nat) : Int), .int .i64 (0 : Int)] 167) :: (some b59, blk (u64s x54.toList) 35) :: (some b2, blk [.bool false, .int .i64 (0 : Int), .int .i64 (0 : Int)] 167) :: ([] ++ N))) (fun w m => m.appR) ?_
        obtain ⟨x75, hx74, hq13⟩ := Z103 hq13
        refine Z25 7 rfl (by kernel_rfl) rfl Tryd.call139 rfl (fun N' hN' => waybillref01_Cmp_does w0 (More w0 Φ []) N' (fun w m => More.of hΦ 3 (hN' w m) rfl) x54 x71 x75 hx74) rfl ?_
        rintro _ G77 ⟨b76, rfl⟩
        refine UW.mem (M' := ((some b11, blk [.bool (decide (192 ≤ x5.toNat)), .int .i64 ((((a1 + 1) + ((x5.toNat % 64) - 55)) : Nat) : Int), .int .i64 (0 : Int)] 167) :: (some b59, blk (u64s x54.toList) 35) :: (some b2, blk [.bool false, .int .i64 (0 : Int), .int .i64 (0 : Int)] 167) :: ([] ++ N))) (fun w m => m.appR) (Z18 8 rfl (by kernel_rfl) rfl (RV.gtr rfl rfl) rfl (UW.nil (by kernel_rfl) (Z6 (Z1 ?_))))
        by_cases h79 : (0 : Int) < x75
        ·replace hq13 := if_t hq13 h79
         refine Z13 rfl (decide_eq_true h79) (Z4 (Z2 (Z0 (Z109 (l := [.bool false, .int .i64 (0 : Int), .int .i64 (0 : Int)]) (cs := [.bool false, .int .i64 (0 : Int), .int .i64 (0 : Int)]) [] rfl rfl rfl rfl rfl rfl rfl) rfl (OW.rot2 ?_))))
         refine Z28 (Z105 rfl rfl rfl (by intro u hu; simp at hu; rcases hu with rfl | rfl | rfl <;> rfl) rfl rfl rfl) ?_
         refine Z0 (Z5 rfl) rfl (Z6 (Z1 (CW.ret (Z8 (Z8 ?_)))))
         have hc := Zi hq13
         subst hc
         try dsimp only at hf
         refine Z8 ?_
         have er0 := Zi hf
         obtain ⟨e0, er1⟩ := Prod.mk.inj er0
         clear er0
         subst e0
         subst er1
         have h80 : HdRd (More w0 Φ []) [.bool false, .int .i64 (0 : Int), .int .i64 (0 : Int)] (Hd.mk false 0 0) := by refine HdRd.mk ?_ ?_ <;> (first | omega | (dsimp only; omega)| (simp; done) | (show 0 ≤ 9223372036854775807; omega))
         refine Z106 (rs := [.cell 6 167, .tmp 7]) ([.agg [.bool false, .int .i64 (0 : Int), .int .i64 (0 : Int)].toArray, .int .i64 (70 : Int)]) ([]) rfl ?_ rfl ?_ ?_ _ (.inl rfl)
         ·exact ⟨⟨_, _, _, _, rfl, Zh, rfl, rfl, rfl, rfl⟩, rfl, trivial⟩
         ·exact ⟨[], [.bool false, .int .i64 (0 : Int), .int .i64 (0 : Int)], h80, (by omega), rfl, rfl⟩
         ·exact (fun w m => m.pick [] 3 rfl rfl)
        ·replace hq13 := if_f hq13 h79
         refine Z14 rfl (decide_eq_false h79) (CW.skip (Z1 (Z2 (Z0 (Z142 (0) rfl rfl rfl rfl rfl (by omega)) rfl (Z0 (Z29 rfl (List.Mem.tail _ Zh) rfl rfl rfl (u64s_at (vat' (by decide)))) rfl ?_)))))
         obtain ⟨g81, hq13⟩ := Z128 hq13
         refine Z0 (RV.conv64_i rfl (by first | rfl | exact lit64 _ rfl) rfl rfl (by first | omega | (simp; omega))) rfl ?_
         have m82 := (x54[0]).isLt
         refine Z0 (Z5 rfl) rfl (Z6 ?_)
         exact QW.join ⟨(x54[0]).toNat, (decide (192 ≤ x5.toNat)), ((a1 + 1) + ((x5.toNat % 64) - 55)), 0, (Zi hq13).symm, (by omega), (by omega), (by omega), rfl, rfl⟩ ⟨rfl, rfl, rfl, rfl, rfl, trivial⟩ (fun w m => m.pick [0, 2] 3 rfl rfl)
      ·skip
       refine Z124 12 mixed (by kernel_rfl) rfl (Z18 0 rfl (by kernel_rfl) rfl (Z3 rfl) rfl (Z18 1 rfl (by kernel_rfl) rfl (Z30 rfl rfl rfl rfl) rfl (Z18 2 rfl (by kernel_rfl) rfl (Z29 rfl (List.Mem.tail _ Zh) rfl rfl rfl rfl) rfl ?_)))
       obtain ⟨x83, hx84, hq61⟩ := Z103 hq61
       have hl85 := Z129 hx84
       refine Z18 3 rfl (by kernel_rfl) rfl (Z141 ((a1 + 1)) rfl rfl rfl rfl rfl (va0.isSome (by decide) hl85) (by omega)) rfl (Z18 4 rfl (by kernel_rfl) rfl (Z21 rfl rfl rfl (fun w m => va0.cell (More.of hΦ 3 m rfl) (u8s_at hx84))) rfl (Z18 5 rfl (by kernel_rfl) rfl (RV.eql8 rfl (by first | rfl | exact lit8 _ rfl) rfl (by first | rfl | exact lit8 _ rfl)) rfl (Z18 6 rfl (by kernel_rfl) rfl (Z3 rfl) rfl ?_)))
       by_cases h86 : x83 = 0#8
       ·replace hq61 := if_t hq61 h86
        refine UW.slot (.bool true) (congrArg Value.bool (decide_eq_true h86)) (UW.skip 7 rfl (by kernel_rfl) rfl rfl (UW.skip 8 rfl (by kernel_rfl) rfl rfl (UW.skip 9 rfl (by kernel_rfl) rfl rfl (UW.skip 10 rfl (by kernel_rfl) rfl rfl (Z18 11 rfl (by kernel_rfl) rfl (Z108 rfl rfl rfl) rfl (UW.nil (by kernel_rfl) (Z6 ?_)))))))
        exact QW.join ⟨true, (Zi hq61).symm, rfl, rfl⟩ ⟨rfl, rfl, rfl, rfl, rfl, rfl, rfl, trivial⟩ (fun w m => m.pick [0, 1, 2] 3 rfl rfl)
       ·replace hq61 := if_f hq61 h86
        refine UW.slot (.bool false) (congrArg Value.bool (decide_eq_false h86)) (Z18 7 rfl (by kernel_rfl) rfl (Z22 rfl Zh rfl rfl rfl rfl ((Z101 _).trans Zv)) rfl ?_)
        obtain ⟨x88, hx87, hq61⟩ := Z103 hq61
        refine Z25 8 rfl (by kernel_rfl) rfl Tryd.call94 rfl (fun N' hN' => waybillref01_From_does w0 (More w0 Φ []) N' (fun w m => More.of hΦ 3 (hN' w m) rfl) (56#64) x88 hx87) rfl ?_
        rintro _ G89 rfl
        refine UW.mem (M' := ((some b59, blk (u64s x54.toList) 35) :: (some b11, blk [.bool (decide (192 ≤ x5.toNat)), .int .i64 (((a1 + 1) : Nat) : Int), .int .i64 (0 : Int)] 167) :: (some b2, blk [.bool false, .int .i64 (0 : Int), .int .i64 (0 : Int)] 167) :: ([] ++ N))) (fun w m => m.appR) ?_
        obtain ⟨x92, hx91, hq61⟩ := Z103 hq61
        refine Z25 9 rfl (by kernel_rfl) rfl Tryd.call139 rfl (fun N' hN' => waybillref01_Cmp_does w0 (More w0 Φ []) N' (fun w m => More.of hΦ 3 (hN' w m) rfl) x54 x88 x92 hx91) rfl ?_
        rintro _ G94 ⟨b93, rfl⟩
        refine UW.mem (M' := ((some b59, blk (u64s x54.toList) 35) :: (some b11, blk [.bool (decide (192 ≤ x5.toNat)), .int .i64 (((a1 + 1) : Nat) : Int), .int .i64 (0 : Int)] 167) :: (some b2, blk [.bool false, .int .i64 (0 : Int), .int .i64 (0 : Int)] 167) :: ([] ++ N))) (fun w m => m.appR) (Z18 10 rfl (by kernel_rfl) rfl (RV.lss rfl rfl) rfl (Z18 11 rfl (by kernel_rfl) rfl (Z110 rfl rfl rfl) rfl (UW.nil (by kernel_rfl) (Z6 ?_))))
        exact QW.join ⟨(decide (x92 < (0 : Int))), (Zi hq61).symm, rfl, rfl⟩ ⟨rfl, rfl, rfl, rfl, rfl, rfl, rfl, trivial⟩ (fun w m => m.pick [0, 1, 2] 3 rfl rfl)
    ·replace hq13 := if_f hq13 h45
     refine Z14 rfl (decide_eq_false h45) (CW.skip ?_)
     exact QW.join ⟨(x5.toNat % 64), (decide (192 ≤ x5.toNat)), (a1 + 1), 0, (Zi hq13).symm, (by omega), (by omega), (by omega), rfl, rfl⟩ ⟨rfl, rfl, rfl, rfl, rfl, trivial⟩ (fun w m => m.pick [0, 1] 2 rfl rfl)
theorem waybillref07_item_rec (w0 : World) : ∀ (kf : Nat) (Φ : Ctx) (N : List Ent) (hΦ : ∀ w, Mem w0 w N → Φ w) (A0_ : Option Addr) (c0_ : Nat) (a0 : List (BitVec 8)) (a1 : Nat) (a2 : Nat) (a3 : Nat) (res0 : It) (res1 : Nat) (res2 : Nat) (va0 : View Φ A0_ a0.length c0_ 1 (u8s a0)) (ba1 : a1 ≤ 9223372036854775807) (ba2 : a2 ≤ 9223372036854775807) (ba3 : a3 ≤ 9223372036854775807) (hf : waybillref07_item.r kf a0 a1 a2 a3 = some (res0, res1, res2)), DoesG Tryd.prog 81 [.slice A0_ a0.length c0_, .int .i64 ((a1 : Nat) : Int), .int .i64 ((a2 : Nat) : Int), .int .i64 ((a3 : Nat) : Int)] w0 [] N (fun v G => ∃ B : List Ent, ∃ cr0 : List Value, (ItRd (More w0 Φ B) cr0 res0) ∧ (res1 ≤ 9223372036854775807) ∧ (res2 ≤ 9223372036854775807) ∧ v = .tuple #[.agg cr0.toArray, .int .i64 ((res1 : Nat) : Int), .int .i64 ((res2 : Nat) : Int)] ∧ G = B) := by
 intro kf
 induction kf with
 | zero => intro Φ N hΦ A0_ c0_ a0 a1 a2 a3 res0 res1 res2 va0 ba1 ba2 ba3 hf; rw [waybillref07_item.r] at hf; cases hf
 | succ kf ih =>
  intro Φ N hΦ A0_ c0_ a0 a1 a2 a3 res0 res1 res2 va0 ba1 ba2 ba3 hf
  rw [waybillref07_item.r] at hf
  replace va0 := va0.mono (Ψ := More w0 Φ []) (fun w q => q.1)
  have m1 := va0.mx
  refine DoesG.enter Tryd.func81 rfl Tryd.ntmps81 rfl (M := (([] ++ N))) rfl (Z4 (Z2 (OW.alloc (l := [.bool false, .slice none 0 0, .slice none 0 0]) rfl rfl rfl (fun b2 => (Z0 (Z5 rfl) rfl (Z0 (Z5 rfl) rfl (Z6 (Z1 (Z4 (Z2 (Z0 (Z3 rfl) rfl (Z0 (Z3 rfl) rfl ?_))))))))))))
  refine Z0 (Z3 rfl) rfl ?_
  obtain ⟨⟨x4, x5⟩, hx3, hf⟩ := Z103 hf
  try dsimp only at hf
  refine Z12 Tryd.call117 rfl (waybillref07_head_does w0 (More w0 Φ []) ((some b2, blk [.bool false, .slice none 0 0, .slice none 0 0] 25) :: ([] ++ N)) (fun w m => More.of hΦ 1 m rfl) A0_ c0_ a0 a1 a2 x4 x5 va0 (by omega) (by omega) hx3) rfl rfl ?_
  rintro L10 M11 ⟨B6, cs7, h8, b9, e12, e13⟩
  rw [e12, e13]
  clear e12 e13 L10 M11
  refine Z20 (M' := ((some b2, blk [.bool false, .slice none 0 0, .slice none 0 0] 25) :: ((B6 ++ []) ++ N))) (fun w m => by have h := Z119 (A := B6) m 0 1 rfl rfl; exact h) ?_
  have gq1 : ∀ w, More w0 Φ (B6 ++ []) w → More w0 Φ [] w := fun w q => More.mono (fun w m => (m).appR) q
  replace va0 := va0.mono gq1
  replace h8 := HdRd.mono (Ψ := (More w0 Φ (B6 ++ []))) (fun w q => More.flat q) _ _ h8
  have h17 := h8
  obtain ⟨e16, b14, b15⟩ := HdRd.opn h8
  subst e16
  refine Z0 (Z3 rfl) rfl (Z0 (Z17 rfl rfl) rfl (Z7 (.agg [.bool (x4.list), .int .i64 ((x4.fr : Nat) : Int), .int .i64 ((x4.to : Nat) : Int)].toArray) (rfl) (Z0 (Z17 rfl rfl) rfl (Z7 (.int .i64 ((x5 : Nat) : Int)) (rfl) (OW.alloc (l := [.bool false, .int .i64 (0 : Int), .int .i64 (0 : Int)]) rfl rfl rfl (fun b18 => ?_))))))
  refine Z28 (Z105 rfl rfl rfl (by intro u hu; simp at hu; rcases hu with rfl | rfl | rfl <;> rfl) rfl rfl rfl) ?_
  refine Z0 (Z5 rfl) rfl (Z6 (Z1 (Z4 (Z4 (Z2 (Z0 (Z3 rfl) rfl (Z0 (RV.neq rfl rfl) rfl (Z7 (.bool (!decide (x5 = 0))) (congrArg (fun b => Value.bool (!b)) (decide_eq_decide.2 (by omega))) (Z6 (Z1 ?_))))))))))
  by_cases h19 : x5 = 0
  ·replace hf := if_t hf h19
   refine Z14 rfl (congrArg (fun b => !b) (decide_eq_true h19)) (CW.skip (Z1 (Z4 (Z4 (Z2 (Z0 (Z30 rfl rfl rfl rfl) rfl (Z0 (Z29 rfl Zh rfl rfl rfl rfl) rfl (Z0 (RV.not rfl) rfl (Z6 (Z1 ?_))))))))))
   by_cases h20 : x4.list = true
   ·replace hf := if_t hf h20
    refine Z14 rfl (congrArg (fun b => !b) (h20)) (CW.skip (Z1 (Z4 (Z4 (Z2 (Z0 (Z3 rfl) rfl (Z0 (RV.geq rfl rfl) rfl (Z7 (.bool (decide (1024 ≤ a3))) (congrArg Value.bool (decide_eq_decide.2 (by omega))) (Z6 (Z1 ?_))))))))))
    by_cases h21 : 1024 ≤ a3
    ·replace hf := if_t hf h21
     refine Z13 rfl (decide_eq_true h21) (Z4 (Z2 (Z0 (Z109 (l := [.bool false, .slice none 0 0, .slice none 0 0]) (cs := [.bool false, .slice none 0 0, .slice none 0 0]) [] rfl rfl rfl rfl rfl rfl rfl) rfl (OW.rot1 ?_))))
     refine Z28 (Z105 rfl rfl rfl (by intro u hu; simp at hu; rcases hu with rfl | rfl | rfl <;> rfl) rfl rfl rfl) ?_
     refine Z0 (Z5 rfl) rfl (Z0 (Z5 rfl) rfl (Z6 (Z1 (CW.ret (Z8 ?_)))))
     have er0 := Zi hf
     obtain ⟨e0, er1⟩ := Prod.mk.inj er0
     clear er0
     obtain ⟨e1, er2⟩ := Prod.mk.inj er1
     clear er1
     subst e0
     subst e1
     subst er2
     have v22 : View (More w0 Φ (B6 ++ [])) none ([] : List (BitVec 8)).length 0 1 (u8s []) := View.nil
     have v23 : View (More w0 Φ (B6 ++ [])) none ([] : List (It)).length 0 3 [] := View.nil
     refine Z106 (rs := [.cell 8 25, .tmp 9, .tmp 10]) ([.agg [.bool false, .slice none 0 0, .slice none 0 0].toArray, .int .i64 (0 : Int), .int .i64 (74 : Int)]) ((B6 ++ [])) rfl ?_ rfl ?_ ?_ _ (.inl rfl)
     ·exact ⟨⟨_, _, _, _, rfl, Zh, rfl, rfl, rfl, rfl⟩, rfl, rfl, trivial⟩
     ·exact ⟨(B6 ++ []), [.bool false, .slice none 0 0, .slice none 0 0], (ItRd.mk v22 v23 (Reps.nil)), (by omega), (by omega), rfl, rfl⟩
     ·exact (fun w m => m.pick [] 2 rfl rfl)
    ·replace hf := if_f hf h21
     refine Z14 rfl (decide_eq_false h21) (CW.skip (Z1 (Z4 (Z2 (Z0 (Z109 (l := [.bool false, .slice none 0 0, .slice none 0 0]) (cs := [.bool true, .slice none 0 0, .slice none 0 0]) [(0, [.bool true])] rfl rfl rfl rfl rfl rfl rfl) rfl (OW.alloc (l := [.bool false, .slice none 0 0, .slice none 0 0]) rfl rfl rfl (fun b24 => ?_)))))))
     refine Z28 (Z105 rfl rfl rfl (by intro u hu; simp at hu; rcases hu with rfl | rfl | rfl <;> rfl) rfl rfl rfl) ?_
     refine Z6 (Z1 (Z4 (Z4 (Z2 (Z0 (Z30 rfl rfl rfl rfl) rfl (Z0 (Z29 rfl (List.Mem.tail _ Zh) rfl rfl rfl rfl) rfl (Z0 (Z5 rfl) rfl (Z6 (Z1 ?_)))))))))
     obtain ⟨q25, hq26, hf⟩ := Z103 hf
     refine Z120 (fun L' M' => ∃ p29 : Bool, ∃ l30 : List (BitVec 8), ∃ l35 : List (It), ∃ B27 : List Ent, ∃ ob31 : Option Nat, ∃ c32 : Nat, ∃ r33 : List Value, ∃ cs36 : List Value, ∃ ob38 : Option Nat, ∃ c39 : Nat, ∃ r40 : List Value, q25 = Lp.go (p29, l30, l35) ∧ (∀ w, Mem w0 w B27 → Mem w0 w (B6 ++ [])) ∧ (OwnS ob31 l30.length c32 1 (u8s l30) r33) ∧ (Reps (ItRd (More w0 Φ B27)) cs36 l35) ∧ (OwnS ob38 l35.length c39 3 cs36 r40) ∧ L' = [(8, ptr (some b2) 0), (11, ptr (some b18) 0), (13, ptr (some b24) 0)] ∧ M' = ((ob31, blk ((u8s l30) ++ r33) 5) :: (ob38, blk (cs36 ++ r40) 25) :: (some b24, blk [.bool (p29), sl ob31 0 l30.length c32, sl ob38 0 l35.length c39] 25) :: (some b18, blk [.bool (x4.list), .int .i64 ((x4.fr : Nat) : Int), .int .i64 ((x4.to : Nat) : Int)] 167) :: (some b2, blk [.bool false, .slice none 0 0, .slice none 0 0] 25) :: (B27 ++ N))) ?_ ?_
     ·rintro L43 M44 ⟨p29, l30, l35, B27, ob31, c32, r33, cs36, ob38, c39, r40, e42, hB28, o34, h37, o41, e45, e46⟩
      rw [e45, e46]
      clear e45 e46 L43 M44
      clear hq26
      rw [e42] at hf
      clear e42
      try dsimp only at hf
      have gq4 : ∀ w, More w0 Φ B27 w → More w0 Φ (B6 ++ []) w := fun w q => More.mono (fun w m => hB28 w (m)) q
      replace h17 := HdRd.mono gq4 _ _ h17
      have m47 := o34.mx
      have m48 := o41.mx
      refine Z1 (Z4 (CW.mem (M' := (ob38, blk (cs36 ++ r40) 25) :: (some b24, blk [.bool (p29), sl ob31 0 l30.length c32, sl ob38 0 l35.length c39] 25) :: (some b18, blk [.bool (x4.list), .int .i64 ((x4.fr : Nat) : Int), .int .i64 ((x4.to : Nat) : Int)] 167) :: (some b2, blk [.bool false, .slice none 0 0, .slice none 0 0] 25) :: (((ob31, blk ((u8s l30) ++ r33) 5) :: B27) ++ N)) (fun w m => m.pick [1, 2, 3, 4, 0] 5 rfl rfl) ?_))
      have gq5 : ∀ w, More w0 Φ ((ob31, blk ((u8s l30) ++ r33) 5) :: B27) w → More w0 Φ B27 w := fun w q => More.mono (fun w m => (m).tail) q
      replace h37 := h37.mono (ItRd.mono gq5)
      replace h17 := HdRd.mono gq5 _ _ h17
      have v49 : View (More w0 Φ ((ob31, blk ((u8s l30) ++ r33) 5) :: B27)) ((ob31).map fun k => ⟨k, 0, none⟩) l30.length c32 1 (u8s l30) := o34.view (by decide) (fun w q => q.2.sublist (List.singleton_sublist.2 (List.mem_cons_self ..)))
      refine CW.mem (M' := (some b24, blk [.bool (p29), .slice ((ob31).map fun k => ⟨k, 0, none⟩) l30.length c32, sl ob38 0 l35.length c39] 25) :: (some b18, blk [.bool (x4.list), .int .i64 ((x4.fr : Nat) : Int), .int .i64 ((x4.to : Nat) : Int)] 167) :: (some b2, blk [.bool false, .slice none 0 0, .slice none 0 0] 25) :: (((ob38, blk (cs36 ++ r40) 25) :: ((ob31, blk ((u8s l30) ++ r33) 5) :: B27)) ++ N)) (fun w m => m.pick [1, 2, 3, 0] 4 rfl rfl) ?_
      have gq6 : ∀ w, More w0 Φ ((ob38, blk (cs36 ++ r40) 25) :: ((ob31, blk ((u8s l30) ++ r33) 5) :: B27)) w → More w0 Φ ((ob31, blk ((u8s l30) ++ r33) 5) :: B27) w := fun w q => More.mono (fun w m => (m).tail) q
      replace v49 := v49.mono gq6
      replace h37 := h37.mono (ItRd.mono gq6)
      replace h17 := HdRd.mono gq6 _ _ h17
      have v50 : View (More w0 Φ ((ob38, blk (cs36 ++ r40) 25) :: ((ob31, blk ((u8s l30) ++ r33) 5) :: B27))) ((ob38).map fun k => ⟨k, 0, none⟩) l35.length c39 3 cs36 := o41.view (by decide) (fun w q => q.2.sublist (List.singleton_sublist.2 (List.mem_cons_self ..)))
      refine Z132 ((some b24, blk [.bool (p29), .slice ((ob31).map fun k => ⟨k, 0, none⟩) l30.length c32, .slice ((ob38).map fun k => ⟨k, 0, none⟩) l35.length c39] 25) :: (some b18, blk [.bool (x4.list), .int .i64 ((x4.fr : Nat) : Int), .int .i64 ((x4.to : Nat) : Int)] 167) :: (((ob38, blk (cs36 ++ r40) 25) :: ((ob31, blk ((u8s l30) ++ r33) 5) :: B27)) ++ N)) [3] (fun w m => m.pick [0, 1] 3 rfl rfl) mixed (by kernel_rfl) (Z10 0 rfl (by kernel_rfl) rfl (Z22 rfl Zh rfl rfl rfl rfl rfl) rfl (Z10 1 rfl (by kernel_rfl) rfl (Z30 rfl rfl rfl rfl) rfl (Z10 2 rfl (by kernel_rfl) rfl (Z29 rfl (List.Mem.tail _ Zh) rfl rfl rfl rfl) rfl (Z19 (M' := ((some b2, blk [.bool false, .slice none 0 0, .slice none 0 0] 25) :: (some b24, blk [.bool (p29), .slice ((ob31).map fun k => ⟨k, 0, none⟩) l30.length c32, .slice ((ob38).map fun k => ⟨k, 0, none⟩) l35.length c39] 25) :: (some b18, blk [.bool (x4.list), .int .i64 ((x4.fr : Nat) : Int), .int .i64 ((x4.to : Nat) : Int)] 167) :: (((ob38, blk (cs36 ++ r40) 25) :: ((ob31, blk ((u8s l30) ++ r33) 5) :: B27)) ++ N))) (fun w m => m.pick [2, 0, 1] 3 rfl rfl) (fun w m => m.pick [1, 2] 3 rfl rfl) ?_))))
      refine XW.sv 3 rfl (by kernel_rfl) (Z105 rfl rfl rfl (by intro u hu; simp at hu; rcases hu with rfl | rfl | rfl <;> rfl) rfl rfl rfl) (fun w m => m.pick [1, 2] 3 rfl rfl) ?_
      refine Z10 4 rfl (by kernel_rfl) rfl (Z5 rfl) rfl (Z10 5 rfl (by kernel_rfl) rfl (Z5 rfl) rfl (XW.nil (by kernel_rfl) (Z1 (CW.ret ?_))))
      have er0 := Zi hf
      obtain ⟨e0, er1⟩ := Prod.mk.inj er0
      clear er0
      obtain ⟨e1, er2⟩ := Prod.mk.inj er1
      clear er1
      subst e0
      subst e1
      subst er2
      refine Z106 (rs := [.cell 8 25, .tmp 9, .tmp 10]) ([.agg [.bool (p29), .slice ((ob31).map fun k => ⟨k, 0, none⟩) l30.length c32, .slice ((ob38).map fun k => ⟨k, 0, none⟩) l35.length c39].toArray, .int .i64 ((x4.to : Nat) : Int), .int .i64 (0 : Int)]) (((ob38, blk (cs36 ++ r40) 25) :: ((ob31, blk ((u8s l30) ++ r33) 5) :: B27))) rfl ?_ rfl ?_ ?_ _ (.inl rfl)
      ·exact ⟨⟨_, _, _, _, rfl, Zh, rfl, rfl, rfl, rfl⟩, rfl, rfl, trivial⟩
      ·exact ⟨((ob38, blk (cs36 ++ r40) 25) :: ((ob31, blk ((u8s l30) ++ r33) 5) :: B27)), [.bool (p29), .slice ((ob31).map fun k => ⟨k, 0, none⟩) l30.length c32, .slice ((ob38).map fun k => ⟨k, 0, none⟩) l35.length c39], (ItRd.mk v49 v50 h37), (by omega), (by omega), rfl, rfl⟩
      ·exact (fun w m => m.pick [] 3 rfl rfl)
     ·skip
      refine CW.block (CW.mem (M' := ((none, blk ((u8s ([] : List (BitVec 8))) ++ []) 5) :: (some b24, blk [.bool true, .slice none 0 0, .slice none 0 0] 25) :: (some b18, blk [.bool (x4.list), .int .i64 ((x4.fr : Nat) : Int), .int .i64 ((x4.to : Nat) : Int)] 167) :: (some b2, blk [.bool false, .slice none 0 0, .slice none 0 0] 25) :: ((B6 ++ []) ++ N))) (fun w m => m.nil_ent _) (CW.mem (M' := ((none, blk ([] ++ []) 25) :: (none, blk ((u8s ([] : List (BitVec 8))) ++ []) 5) :: (some b24, blk [.bool true, .slice none 0 0, .slice none 0 0] 25) :: (some b18, blk [.bool (x4.list), .int .i64 ((x4.fr : Nat) : Int), .int .i64 ((x4.to : Nat) : Int)] 167) :: (some b2, blk [.bool false, .slice none 0 0, .slice none 0 0] 25) :: ((B6 ++ []) ++ N))) (fun w m => m.nil_ent _) (Z138 (fun k L' M' => ∃ n53 : Nat, ∃ p55 : Bool, ∃ l56 : List (BitVec 8), ∃ l61 : List (It), ∃ B51 : List Ent, ∃ ob57 : Option Nat, ∃ c58 : Nat, ∃ r59 : List Value, ∃ cs62 : List Value, ∃ ob64 : Option Nat, ∃ c65 : Nat, ∃ r66 : List Value, (waybillref07_item.l1 a0 a3 (waybillref07_item.r kf) x4 k n53 p55 l56 l61) = some q25 ∧ (∀ w, Mem w0 w B51 → Mem w0 w (B6 ++ [])) ∧ (n53 ≤ 9223372036854775807) ∧ (OwnS ob57 l56.length c58 1 (u8s l56) r59) ∧ (Reps (ItRd (More w0 Φ B51)) cs62 l61) ∧ (OwnS ob64 l61.length c65 3 cs62 r66) ∧ L' = [(0, .slice A0_ a0.length c0_), (3, .int .i64 ((a3 : Nat) : Int)), (8, ptr (some b2) 0), (11, ptr (some b18) 0), (13, ptr (some b24) 0), (14, .int .i64 ((n53 : Nat) : Int))] ∧ M' = ((ob57, blk ((u8s l56) ++ r59) 5) :: (ob64, blk (cs62 ++ r66) 25) :: (some b24, blk [.bool (p55), sl ob57 0 l56.length c58, sl ob64 0 l61.length c65] 25) :: (some b18, blk [.bool (x4.list), .int .i64 ((x4.fr : Nat) : Int), .int .i64 ((x4.to : Nat) : Int)] 167) :: (some b2, blk [.bool false, .slice none 0 0, .slice none 0 0] 25) :: (B51 ++ N))) (k0 := (x4.to - x4.fr + 2)) ⟨x4.fr, true, ([] : List (BitVec 8)), ([] : List (It)), (B6 ++ []), none, 0, [], [], none, 0, [], hq26, (fun w m => m), (by omega), OwnS.nil, Reps.nil, OwnS.nil, rfl, rfl⟩ ⟨rfl, rfl, rfl, rfl, rfl, rfl, trivial⟩ (fun w m => m.pick [1, 0, 2, 3, 4] 5 rfl rfl) ?_)))
      clear hq26
      rintro k68 L71 M72 ⟨n53, p55, l56, l61, B51, ob57, c58, r59, cs62, ob64, c65, r66, hl69, hB52, b54, o60, h63, o67, e73, e74⟩
      rw [e73, e74]
      clear e73 e74 L71 M72
      rcases k68 with _ | k68
      ·rw [waybillref07_item.l1] at hl69; cases hl69
      rw [waybillref07_item.l1] at hl69
      have gq7 : ∀ w, More w0 Φ B51 w → More w0 Φ (B6 ++ []) w := fun w q => More.mono (fun w m => hB52 w (m)) q
      replace va0 := va0.mono gq7
      replace h17 := HdRd.mono gq7 _ _ h17
      have m75 := o60.mx
      have m76 := o67.mx
      refine Z4 (Z4 (Z2 (Z0 (Z3 rfl) rfl (Z0 (Z30 rfl rfl rfl rfl) rfl (Z0 (Z29 rfl (List.Mem.tail _ (List.Mem.tail _ (List.Mem.tail _ Zh))) rfl rfl rfl rfl) rfl (Z0 (RV.lss rfl rfl) rfl (Z7 (.bool (decide (n53 < x4.to))) (congrArg Value.bool (decide_eq_decide.2 (by omega))) (Z6 (Z1 ?_)))))))))
      by_cases h77 : n53 < x4.to
      ·replace hl69 := if_t hl69 h77
       refine Z13 rfl (decide_eq_true h77) (CW.skip (Z1 (CW.block (Z4 (Z2 (Z0 (Z3 rfl) rfl (Z0 (Z3 rfl) rfl (Z0 (Z30 rfl rfl rfl rfl) rfl (Z0 (Z29 rfl (List.Mem.tail _ (List.Mem.tail _ (List.Mem.tail _ Zh))) rfl rfl rfl rfl) rfl (Z0 (Z3 rfl) rfl (Z0 (RV.add rfl rfl (by omega)) rfl ?_)))))))))))
       refine Z7 (.int .i64 (((a3 + 1) : Nat) : Int)) (by first | rfl | (congr 1) | (congr 1; omega)) ?_
       obtain ⟨⟨x79, x80, x81⟩, hx78, hl69⟩ := Z103 hl69
       try dsimp only at hl69
       refine Z12 Tryd.call81 rfl (ih (More w0 Φ B51) ((ob57, blk ((u8s l56) ++ r59) 5) :: (ob64, blk (cs62 ++ r66) 25) :: (some b24, blk [.bool (p55), sl ob57 0 l56.length c58, sl ob64 0 l61.length c65] 25) :: (some b18, blk [.bool (x4.list), .int .i64 ((x4.fr : Nat) : Int), .int .i64 ((x4.to : Nat) : Int)] 167) :: (some b2, blk [.bool false, .slice none 0 0, .slice none 0 0] 25) :: (B51 ++ N)) (fun w m => More.of hΦ 5 m rfl) A0_ c0_ a0 n53 x4.to (a3 + 1) x79 x80 x81 va0 (by omega) (by omega) (by omega) hx78) rfl rfl ?_
       rintro L87 M88 ⟨B82, cs83, h84, b85, b86, e89, e90⟩
       rw [e89, e90]
       clear e89 e90 L87 M88
       refine Z20 (M' := ((ob57, blk ((u8s l56) ++ r59) 5) :: (ob64, blk (cs62 ++ r66) 25) :: (some b24, blk [.bool (p55), sl ob57 0 l56.length c58, sl ob64 0 l61.length c65] 25) :: (some b18, blk [.bool (x4.list), .int .i64 ((x4.fr : Nat) : Int), .int .i64 ((x4.to : Nat) : Int)] 167) :: (some b2, blk [.bool false, .slice none 0 0, .slice none 0 0] 25) :: ((B82 ++ B51) ++ N))) (fun w m => by have h := Z119 (A := B82) m 0 5 rfl rfl; exact h) ?_
       have gq8 : ∀ w, More w0 Φ (B82 ++ B51) w → More w0 Φ B51 w := fun w q => More.mono (fun w m => (m).appR) q
       replace va0 := va0.mono gq8
       replace h63 := h63.mono (ItRd.mono gq8)
       replace h17 := HdRd.mono gq8 _ _ h17
       replace h84 := ItRd.mono (Ψ := (More w0 Φ (B82 ++ B51))) (fun w q => More.flat q) _ _ h84
       have h100 := h84
       obtain ⟨A91, c92, A94, c95, cs97, e99, v93, v96, h98⟩ := ItRd.opn h84
       subst e99
       have m101 := v93.mx
       have m102 := v96.mx
       have m103 := v93.mx
       have m104 := v96.mx
       refine Z0 (Z3 rfl) rfl (Z0 (Z17 rfl rfl) rfl (Z7 (.agg [.bool (x79.list), .slice A91 x79.data.length c92, .slice A94 x79.items.length c95].toArray) (rfl) (Z0 (Z17 rfl rfl) rfl (Z7 (.int .i64 ((x80 : Nat) : Int)) (rfl) (Z0 (Z17 rfl rfl) rfl (Z7 (.int .i64 ((x81 : Nat) : Int)) (rfl) (OW.alloc (l := [.bool false, .slice none 0 0, .slice none 0 0]) rfl rfl rfl (fun b105 => ?_))))))))
       refine Z28 (Z105 rfl rfl rfl (by intro u hu; simp at hu; rcases hu with rfl | rfl | rfl <;> rfl) rfl rfl rfl) ?_
       refine Z0 (Z5 rfl) rfl (Z0 (Z5 rfl) rfl (Z6 (Z1 (Z4 (Z4 (Z2 (Z0 (Z3 rfl) rfl (Z0 (RV.neq rfl rfl) rfl (Z7 (.bool (!decide (x81 = 0))) (congrArg (fun b => Value.bool (!b)) (decide_eq_decide.2 (by omega))) (Z6 (Z1 ?_)))))))))))
       by_cases h106 : x81 = 0
       ·replace hl69 := if_t hl69 h106
        refine Z14 rfl (congrArg (fun b => !b) (decide_eq_true h106)) (CW.skip (Z1 (Z4 (Z2 (Z0 (Z30 rfl rfl rfl rfl) rfl (Z0 (Z29 rfl (List.Mem.tail _ (List.Mem.tail _ (List.Mem.tail _ Zh))) rfl rfl rfl rfl) rfl (Z0 (Z22 rfl Zh rfl rfl rfl rfl rfl) rfl ?_)))))))
        refine OW.ofN (NV.bsA rfl rfl (by intro x hx; simp at hx; subst hx; exact rfl) rfl rfl rfl (by decide) (by decide) rfl) rfl (fun b107 => ?_)
        have h110 : Reps (ItRd (More w0 Φ (B82 ++ B51))) (([.bool (x79.list), .slice A91 x79.data.length c92, .slice A94 x79.items.length c95] : List Value)) [x79] := Reps.one h100
        refine Z20 (M' := (((some b107), blk ((([.bool (x79.list), .slice A91 x79.data.length c92, .slice A94 x79.items.length c95] : List Value)) ++ []) 25) :: (some b105, blk [.bool (x79.list), .slice A91 x79.data.length c92, .slice A94 x79.items.length c95] 25) :: (ob57, blk ((u8s l56) ++ r59) 5) :: (ob64, blk (cs62 ++ r66) 25) :: (some b24, blk [.bool (p55), sl ob57 0 l56.length c58, sl ob64 0 l61.length c65] 25) :: (some b18, blk [.bool (x4.list), .int .i64 ((x4.fr : Nat) : Int), .int .i64 ((x4.to : Nat) : Int)] 167) :: (some b2, blk [.bool false, .slice none 0 0, .slice none 0 0] 25) :: ((B82 ++ B51) ++ N))) (fun w m => m) ?_
        have o108 : OwnS (some b107) ([x79] : List (It)).length 1 3 (([.bool (x79.list), .slice A91 x79.data.length c92, .slice A94 x79.items.length c95] : List Value)) [] := ⟨by simp [ItRd], by simp [ItRd], (fun h => nomatch h), by simp⟩
        have mx_o108 := o108.mx
        refine Z7 (sl (some b107) 0 ([x79] : List (It)).length 1) (rfl) (OW.rot3 ?_)
        obtain ⟨g111, hl69⟩ := Z128 hl69
        have h116 := h63.app h110
        refine OW.appendOwn (s := 3) rfl rfl rfl rfl rfl rfl o67 (fun w m => m.rd0 (List.Mem.tail _ Zh) (fun e => o108.nilc (by decide) e)) o108.n (h110.cell1 ItRd.one) (o108.zeroO (by decide)) (by decide) (by decide) (by first | omega | (simp only [i25, List.length_nil]; omega)) rfl rfl ((l61 ++ ([x79] : List (It))).length) (cs62 ++ (([.bool (x79.list), .slice A91 x79.data.length c92, .slice A94 x79.items.length c95] : List Value))) (List.length_append ..).symm rfl (fun ob112 r113 c114 o115 => ?_)
        have m117 := o115.mx
        refine Z0 (Z30 rfl rfl rfl rfl) rfl (OW.rot4 (Z28 (SV.store rfl rfl rfl rfl rfl (by simp)) (OW.cells [.bool (p55), sl ob57 0 l56.length c58, sl ob112 0 (l61 ++ ([x79] : List (It))).length c114] rfl (Z6 (Z1 (Z2 (Z0 (Z3 rfl) rfl (Z0 (Z5 rfl) rfl (Z6 (Z27 ?_))))))))))
        exact Z131 (k' := k68) (Nat.lt_succ_self _) ⟨x80, (p55), l56, (l61 ++ ([x79] : List (It))), (B82 ++ B51), ob57, c58, r59, (cs62 ++ (([.bool (x79.list), .slice A91 x79.data.length c92, .slice A94 x79.items.length c95] : List Value))), ob112, c114, r113, hl69, (fun w m => hB52 w ((m).appR)), (by omega), o60, h116, o115, rfl, rfl⟩ ⟨rfl, rfl, rfl, rfl, rfl, rfl, trivial⟩ (fun w m => m.pick [4, 1, 0, 5, 6] 7 rfl rfl)
       ·replace hl69 := if_f hl69 h106
        refine Z13 rfl (congrArg (fun b => !b) (decide_eq_false h106)) (Z4 (Z2 (Z0 (Z109 (l := [.bool false, .slice none 0 0, .slice none 0 0]) (cs := [.bool false, .slice none 0 0, .slice none 0 0]) [] rfl rfl rfl rfl rfl rfl rfl) rfl (Z0 (Z3 rfl) rfl (OW.rot5 ?_)))))
        refine Z28 (Z105 rfl rfl rfl (by intro u hu; simp at hu; rcases hu with rfl | rfl | rfl <;> rfl) rfl rfl rfl) ?_
        refine Z0 (Z5 rfl) rfl (Z0 (Z5 rfl) rfl (Z6 (Z1 (CW.ret (Z8 (Z16 (Z8 (Z16 (Z8 ?_)))))))))
        have hc := Zi hl69
        subst hc
        try dsimp only at hf
        refine Z8 ?_
        have er0 := Zi hf
        obtain ⟨e0, er1⟩ := Prod.mk.inj er0
        clear er0
        obtain ⟨e1, er2⟩ := Prod.mk.inj er1
        clear er1
        subst e0
        subst e1
        subst er2
        have v118 : View (More w0 Φ (B82 ++ B51)) none ([] : List (BitVec 8)).length 0 1 (u8s []) := View.nil
        have v119 : View (More w0 Φ (B82 ++ B51)) none ([] : List (It)).length 0 3 [] := View.nil
        refine Z106 (rs := [.cell 8 25, .tmp 9, .tmp 10]) ([.agg [.bool false, .slice none 0 0, .slice none 0 0].toArray, .int .i64 (0 : Int), .int .i64 ((x81 : Nat) : Int)]) ((B82 ++ B51)) rfl ?_ rfl ?_ ?_ _ (.inl rfl)
        ·exact ⟨⟨_, _, _, _, rfl, Zh, rfl, rfl, rfl, rfl⟩, rfl, rfl, trivial⟩
        ·exact ⟨(B82 ++ B51), [.bool false, .slice none 0 0, .slice none 0 0], (ItRd.mk v118 v119 (Reps.nil)), (by omega), (by omega), rfl, rfl⟩
        ·exact (fun w m => m.pick [] 6 rfl rfl)
      ·replace hl69 := if_f hl69 h77
       refine Z14 rfl (decide_eq_false h77) (CW.exit (Z9 (Z9 (Z15 ?_))))
       exact QW.join ⟨(p55), l56, l61, B51, ob57, c58, r59, cs62, ob64, c65, r66, (Zi hl69).symm, (fun w m => hB52 w (m)), o60, h63, o67, rfl, rfl⟩ ⟨rfl, rfl, rfl, trivial⟩ (fun w m => m.pick [0, 1, 2, 3, 4] 5 rfl rfl)
   ·replace hf := if_f hf h20
    refine Z13 rfl (congrArg (fun b => !b) (Bool.eq_false_iff.2 h20)) (Z4 (Z132 ((some b18, blk [.bool (x4.list), .int .i64 ((x4.fr : Nat) : Int), .int .i64 ((x4.to : Nat) : Int)] 167) :: ((B6 ++ []) ++ N)) [10] (fun w m => m.pick [0] 2 rfl rfl) mixed (by kernel_rfl) (Z10 0 rfl (by kernel_rfl) rfl (Z3 rfl) rfl (Z10 1 rfl (by kernel_rfl) rfl (Z30 rfl rfl rfl rfl) rfl (Z10 2 rfl (by kernel_rfl) rfl (Z29 rfl Zh rfl rfl rfl rfl) rfl (Z10 3 rfl (by kernel_rfl) rfl (Z30 rfl rfl rfl rfl) rfl (Z10 4 rfl (by kernel_rfl) rfl (Z29 rfl Zh rfl rfl rfl rfl) rfl ?_)))))))
    obtain ⟨g121, hf⟩ := Z128 hf
    obtain ⟨g122, hf⟩ := Z128 hf
    have hle := va0.le
    refine Z10 5 rfl (by kernel_rfl) rfl (RV.cut_both (s := 1) (x4.fr) (x4.to) rfl rfl rfl (by omega) (by omega) rfl rfl (by omega) (by omega)) rfl (XW.slot (.slice (subA A0_ c0_ x4.fr 1) ((a0.take x4.to).drop x4.fr).length (c0_ - x4.fr)) (by rw [show (((a0.take x4.to).drop x4.fr)).length = (x4.to) - (x4.fr) from List.length_drop.trans (by rw [List.length_take, Nat.min_eq_left (by omega)])]) ?_)
    have v120 : View (More w0 Φ (B6 ++ [])) (subA A0_ c0_ x4.fr 1) ((a0.take x4.to).drop x4.fr).length (c0_ - x4.fr) 1 (u8s ((a0.take x4.to).drop x4.fr)) := va0.mid8 (by omega) (by omega)
    have m123 := v120.mx
    refine Z10 8 rfl (by kernel_rfl) rfl (Z30 rfl rfl rfl rfl) rfl (Z10 9 rfl (by kernel_rfl) rfl (Z29 rfl Zh rfl rfl rfl rfl) rfl ?_)
    obtain ⟨x125, hx124, hf⟩ := Z103 hf
    refine Z11 6 rfl (by kernel_rfl) rfl Tryd.call41 rfl (fun N' hN' => Z122 w0 (More w0 Φ (B6 ++ [])) N' (fun w m => More.of hΦ 2 (hN' w m) rfl) (subA A0_ c0_ x4.fr 1) (c0_ - x4.fr) ((a0.take x4.to).drop x4.fr) x125 v120 hx124) rfl ?_
    rintro L131 M132 ⟨B126, ob127, c128, r129, o130, e133, e134⟩
    rw [e133, e134]
    clear e133 e134 L131 M132
    refine Z19 (M' := ((ob127, blk ((u8s x125) ++ r129) 5) :: (some b18, blk [.bool (x4.list), .int .i64 ((x4.fr : Nat) : Int), .int .i64 ((x4.to : Nat) : Int)] 167) :: (some b2, blk [.bool false, .slice none 0 0, .slice none 0 0] 25) :: ((B126 ++ (B6 ++ [])) ++ N))) (fun w m => by have h := Z119 (A := B126) m 1 2 rfl rfl; exact h) (fun w m => by have h := Mem.shrink (B := (B6 ++ [])) (B' := (B126 ++ (B6 ++ []))) (List.sublist_append_right _ _) (m.pick [1] 3 rfl rfl) 1 rfl; exact h) ?_
    have gq9 : ∀ w, More w0 Φ (B126 ++ (B6 ++ [])) w → More w0 Φ (B6 ++ []) w := fun w q => More.mono (fun w m => (m).appR) q
    replace va0 := va0.mono gq9
    replace h17 := HdRd.mono gq9 _ _ h17
    replace v120 := v120.mono gq9
    have m135 := o130.mx
    refine Z10 7 rfl (by kernel_rfl) rfl (Z109 (l := [.bool false, .slice none 0 0, .slice none 0 0]) (cs := [.bool false, sl ob127 0 x125.length c128, .slice none 0 0]) [(1, [sl ob127 0 x125.length c128])] rfl rfl rfl rfl rfl rfl rfl) rfl ?_
    refine Z19 (M' := ((some b2, blk [.bool false, .slice none 0 0, .slice none 0 0] 25) :: (ob127, blk ((u8s x125) ++ r129) 5) :: (some b18, blk [.bool (x4.list), .int .i64 ((x4.fr : Nat) : Int), .int .i64 ((x4.to : Nat) : Int)] 167) :: ((B126 ++ (B6 ++ [])) ++ N))) (fun w m => m.pick [2, 0, 1] 3 rfl rfl) (fun w m => by have h := Mem.shrink (B := (B6 ++ [])) (B' := (B126 ++ (B6 ++ []))) (List.sublist_append_right _ _) (m.pick [2] 3 rfl rfl) 1 rfl; exact h) ?_
    refine XW.sv 10 rfl (by kernel_rfl) (Z105 rfl rfl rfl (by intro u hu; simp at hu; rcases hu with rfl | rfl | rfl <;> rfl) rfl rfl rfl) (fun w m => by have h := Mem.shrink (B := (B6 ++ [])) (B' := (B126 ++ (B6 ++ []))) (List.sublist_append_right _ _) (m.pick [2] 3 rfl rfl) 1 rfl; exact h) ?_
    refine Z10 11 rfl (by kernel_rfl) rfl (Z5 rfl) rfl (Z10 12 rfl (by kernel_rfl) rfl (Z5 rfl) rfl (XW.nil (by kernel_rfl) (Z1 (CW.ret (Z8 (QW.mem (M' := (some b2, blk [.bool false, sl ob127 0 x125.length c128, .slice none 0 0] 25) :: (some b18, blk [.bool (x4.list), .int .i64 ((x4.fr : Nat) : Int), .int .i64 ((x4.to : Nat) : Int)] 167) :: (((ob127, blk ((u8s x125) ++ r129) 5) :: (B126 ++ (B6 ++ []))) ++ N)) (fun w m => m.pick [0, 2, 1] 3 rfl rfl) ?_))))))
    have gq10 : ∀ w, More w0 Φ ((ob127, blk ((u8s x125) ++ r129) 5) :: (B126 ++ (B6 ++ []))) w → More w0 Φ (B126 ++ (B6 ++ [])) w := fun w q => More.mono (fun w m => (m).tail) q
    replace va0 := va0.mono gq10
    replace h17 := HdRd.mono gq10 _ _ h17
    replace v120 := v120.mono gq10
    have v136 : View (More w0 Φ ((ob127, blk ((u8s x125) ++ r129) 5) :: (B126 ++ (B6 ++ [])))) ((ob127).map fun k => ⟨k, 0, none⟩) x125.length c128 1 (u8s x125) := o130.view (by decide) (fun w q => q.2.sublist (List.singleton_sublist.2 (List.mem_cons_self ..)))
    have er0 := Zi hf
    obtain ⟨e0, er1⟩ := Prod.mk.inj er0
    clear er0
    obtain ⟨e1, er2⟩ := Prod.mk.inj er1
    clear er1
    subst e0
    subst e1
    subst er2
    have v137 : View (More w0 Φ ((ob127, blk ((u8s x125) ++ r129) 5) :: (B126 ++ (B6 ++ [])))) none ([] : List (It)).length 0 3 [] := View.nil
    refine Z106 (rs := [.cell 8 25, .tmp 9, .tmp 10]) ([.agg [.bool false, .slice ((ob127).map fun k => ⟨k, 0, none⟩) x125.length c128, .slice none 0 0].toArray, .int .i64 ((x4.to : Nat) : Int), .int .i64 (0 : Int)]) (((ob127, blk ((u8s x125) ++ r129) 5) :: (B126 ++ (B6 ++ [])))) rfl ?_ rfl ?_ ?_ _ (.inl rfl)
    ·exact ⟨⟨_, _, _, _, rfl, Zh, rfl, rfl, rfl, rfl⟩, rfl, rfl, trivial⟩
    ·exact ⟨((ob127, blk ((u8s x125) ++ r129) 5) :: (B126 ++ (B6 ++ []))), [.bool false, .slice ((ob127).map fun k => ⟨k, 0, none⟩) x125.length c128, .slice none 0 0], (ItRd.mk v136 v137 (Reps.nil)), (by omega), (by omega), rfl, rfl⟩
    ·exact (fun w m => m.pick [] 2 rfl rfl)
  ·replace hf := if_f hf h19
   refine Z13 rfl (congrArg (fun b => !b) (decide_eq_false h19)) (Z4 (Z2 (Z0 (Z109 (l := [.bool false, .slice none 0 0, .slice none 0 0]) (cs := [.bool false, .slice none 0 0, .slice none 0 0]) [] rfl rfl rfl rfl rfl rfl rfl) rfl (Z0 (Z3 rfl) rfl (OW.rot1 ?_)))))
   refine Z28 (Z105 rfl rfl rfl (by intro u hu; simp at hu; rcases hu with rfl | rfl | rfl <;> rfl) rfl rfl rfl) ?_
   refine Z0 (Z5 rfl) rfl (Z0 (Z5 rfl) rfl (Z6 (Z1 (CW.ret (Z8 ?_)))))
   have er0 := Zi hf
   obtain ⟨e0, er1⟩ := Prod.mk.inj er0
   clear er0
   obtain ⟨e1, er2⟩ := Prod.mk.inj er1
   clear er1
   subst e0
   subst e1
   subst er2
   have v138 : View (More w0 Φ (B6 ++ [])) none ([] : List (BitVec 8)).length 0 1 (u8s []) := View.nil
   have v139 : View (More w0 Φ (B6 ++ [])) none ([] : List (It)).length 0 3 [] := View.nil
   refine Z106 (rs := [.cell 8 25, .tmp 9, .tmp 10]) ([.agg [.bool false, .slice none 0 0, .slice none 0 0].toArray, .int .i64 (0 : Int), .int .i64 ((x5 : Nat) : Int)]) ((B6 ++ [])) rfl ?_ rfl ?_ ?_ _ (.inl rfl)
   ·exact ⟨⟨_, _, _, _, rfl, Zh, rfl, rfl, rfl, rfl⟩, rfl, rfl, trivial⟩
   ·exact ⟨(B6 ++ []), [.bool false, .slice none 0 0, .slice none 0 0], (ItRd.mk v138 v139 (Reps.nil)), (by omega), (by omega), rfl, rfl⟩
   ·exact (fun w m => m.pick [] 2 rfl rfl)
theorem waybillref07_item_does (w0 : World) (Φ : Ctx) (N : List Ent) (hΦ : ∀ w, Mem w0 w N → Φ w) (A0_ : Option Addr) (c0_ : Nat) (a0 : List (BitVec 8)) (a1 : Nat) (a2 : Nat) (a3 : Nat) (res0 : It) (res1 : Nat) (res2 : Nat) (va0 : View Φ A0_ a0.length c0_ 1 (u8s a0)) (ba1 : a1 ≤ 9223372036854775807) (ba2 : a2 ≤ 9223372036854775807) (ba3 : a3 ≤ 9223372036854775807) (hf : waybillref07_item a0 a1 a2 a3 = some (res0, res1, res2)) : DoesG Tryd.prog 81 [.slice A0_ a0.length c0_, .int .i64 ((a1 : Nat) : Int), .int .i64 ((a2 : Nat) : Int), .int .i64 ((a3 : Nat) : Int)] w0 [] N (fun v G => ∃ B : List Ent, ∃ cr0 : List Value, (ItRd (More w0 Φ B) cr0 res0) ∧ (res1 ≤ 9223372036854775807) ∧ (res2 ≤ 9223372036854775807) ∧ v = .tuple #[.agg cr0.toArray, .int .i64 ((res1 : Nat) : Int), .int .i64 ((res2 : Nat) : Int)] ∧ G = B) := waybillref07_item_rec w0 _ Φ N hΦ A0_ c0_ a0 a1 a2 a3 res0 res1 res2 va0 ba1 ba2 ba3 hf
theorem waybillref07_Decode_does (w0 : World) (Φ : Ctx) (N : List Ent) (hΦ : ∀ w, Mem w0 w N → Φ w) (A0_ : Option Addr) (c0_ : Nat) (a0 : List (BitVec 8)) (res0 : It) (res1 : Nat) (va0 : View Φ A0_ a0.length c0_ 1 (u8s a0)) (hf : waybillref07_Decode a0 = some (res0, res1)) : DoesG Tryd.prog 40 [.slice A0_ a0.length c0_] w0 [] N (fun v G => ∃ B : List Ent, ∃ cr0 : List Value, (ItRd (More w0 Φ B) cr0 res0) ∧ (res1 ≤ 9223372036854775807) ∧ v = .tuple #[.agg cr0.toArray, .int .i64 ((res1 : Nat) : Int)] ∧ G = B) := by
 unfold waybillref07_Decode at hf
 replace va0 := va0.mono (Ψ := More w0 Φ []) (fun w q => q.1)
 have m1 := va0.mx
 refine DoesG.enter Tryd.func40 rfl Tryd.ntmps40 rfl (M := (([] ++ N))) rfl (Z4 (Z2 (OW.alloc (l := [.bool false, .slice none 0 0, .slice none 0 0]) rfl rfl rfl (fun b2 => (Z0 (Z5 rfl) rfl (Z6 (Z1 (Z4 (Z4 (Z2 (Z0 (Z3 rfl) rfl (Z0 (RV.len rfl rfl) rfl (Z0 (RV.gtr rfl rfl) rfl ?_)))))))))))))
 refine Z7 (.bool (decide (16777216 < a0.length))) (congrArg Value.bool (decide_eq_decide.2 (by omega))) (Z6 (Z1 ?_))
 by_cases h3 : 16777216 < a0.length
 ·replace hf := if_t hf h3
  refine Z13 rfl (decide_eq_true h3) (Z4 (Z2 (Z0 (Z109 (l := [.bool false, .slice none 0 0, .slice none 0 0]) (cs := [.bool false, .slice none 0 0, .slice none 0 0]) [] rfl rfl rfl rfl rfl rfl rfl) rfl ?_)))
  refine Z28 (Z105 rfl rfl rfl (by intro u hu; simp at hu; rcases hu with rfl | rfl | rfl <;> rfl) rfl rfl rfl) ?_
  refine Z0 (Z5 rfl) rfl (Z6 (Z1 (CW.ret (Z8 ?_))))
  have er0 := Zi hf
  obtain ⟨e0, er1⟩ := Prod.mk.inj er0
  clear er0
  subst e0
  subst er1
  have v4 : View (More w0 Φ []) none ([] : List (BitVec 8)).length 0 1 (u8s []) := View.nil
  have v5 : View (More w0 Φ []) none ([] : List (It)).length 0 3 [] := View.nil
  refine Z106 (rs := [.cell 2 25, .tmp 3]) ([.agg [.bool false, .slice none 0 0, .slice none 0 0].toArray, .int .i64 (2 : Int)]) ([]) rfl ?_ rfl ?_ ?_ _ (.inl rfl)
  ·exact ⟨⟨_, _, _, _, rfl, Zh, rfl, rfl, rfl, rfl⟩, rfl, trivial⟩
  ·exact ⟨[], [.bool false, .slice none 0 0, .slice none 0 0], (ItRd.mk v4 v5 (Reps.nil)), (by omega), rfl, rfl⟩
  ·exact (fun w m => m.pick [] 1 rfl rfl)
 ·replace hf := if_f hf h3
  refine Z14 rfl (decide_eq_false h3) (CW.skip (Z1 (Z4 (Z2 (Z0 (Z3 rfl) rfl (Z0 (Z3 rfl) rfl (Z0 (RV.len rfl rfl) rfl ?_)))))))
  obtain ⟨⟨x7, x8, x9⟩, hx6, hf⟩ := Z103 hf
  try dsimp only at hf
  refine Z12 Tryd.call81 rfl (waybillref07_item_does w0 (More w0 Φ []) ((some b2, blk [.bool false, .slice none 0 0, .slice none 0 0] 25) :: ([] ++ N)) (fun w m => More.of hΦ 1 m rfl) A0_ c0_ a0 0 a0.length 0 x7 x8 x9 va0 (by omega) (by omega) (by omega) hx6) rfl rfl ?_
  rintro L15 M16 ⟨B10, cs11, h12, b13, b14, e17, e18⟩
  rw [e17, e18]
  clear e17 e18 L15 M16
  refine Z20 (M' := ((some b2, blk [.bool false, .slice none 0 0, .slice none 0 0] 25) :: ((B10 ++ []) ++ N))) (fun w m => by have h := Z119 (A := B10) m 0 1 rfl rfl; exact h) ?_
  have gq1 : ∀ w, More w0 Φ (B10 ++ []) w → More w0 Φ [] w := fun w q => More.mono (fun w m => (m).appR) q
  replace va0 := va0.mono gq1
  replace h12 := ItRd.mono (Ψ := (More w0 Φ (B10 ++ []))) (fun w q => More.flat q) _ _ h12
  have h28 := h12
  obtain ⟨A19, c20, A22, c23, cs25, e27, v21, v24, h26⟩ := ItRd.opn h12
  subst e27
  have m29 := v21.mx
  have m30 := v24.mx
  have m31 := v21.mx
  have m32 := v24.mx
  refine Z0 (Z3 rfl) rfl (Z0 (Z17 rfl rfl) rfl (Z7 (.agg [.bool (x7.list), .slice A19 x7.data.length c20, .slice A22 x7.items.length c23].toArray) (rfl) (Z0 (Z17 rfl rfl) rfl (Z7 (.int .i64 ((x8 : Nat) : Int)) (rfl) (Z0 (Z17 rfl rfl) rfl (Z7 (.int .i64 ((x9 : Nat) : Int)) (rfl) (OW.alloc (l := [.bool false, .slice none 0 0, .slice none 0 0]) rfl rfl rfl (fun b33 => ?_))))))))
  refine Z28 (Z105 rfl rfl rfl (by intro u hu; simp at hu; rcases hu with rfl | rfl | rfl <;> rfl) rfl rfl rfl) ?_
  refine Z0 (Z5 rfl) rfl (Z0 (Z5 rfl) rfl (Z6 (Z1 (Z4 (Z4 (Z2 (Z0 (Z3 rfl) rfl (Z0 (RV.neq rfl rfl) rfl (Z7 (.bool (!decide (x9 = 0))) (congrArg (fun b => Value.bool (!b)) (decide_eq_decide.2 (by omega))) (Z6 (Z1 ?_)))))))))))
  by_cases h34 : x9 = 0
  ·replace hf := if_t hf h34
   refine Z14 rfl (congrArg (fun b => !b) (decide_eq_true h34)) (CW.skip (Z1 (Z4 (Z4 (Z2 (Z0 (Z3 rfl) rfl (Z0 (Z3 rfl) rfl (Z0 (RV.len rfl rfl) rfl (Z0 (RV.lss rfl rfl) rfl (Z7 (.bool (decide (x8 < a0.length))) (congrArg Value.bool (decide_eq_decide.2 (by omega))) (Z6 (Z1 ?_))))))))))))
   by_cases h35 : x8 < a0.length
   ·replace hf := if_t hf h35
    refine Z13 rfl (decide_eq_true h35) (Z4 (Z2 (Z0 (Z109 (l := [.bool false, .slice none 0 0, .slice none 0 0]) (cs := [.bool false, .slice none 0 0, .slice none 0 0]) [] rfl rfl rfl rfl rfl rfl rfl) rfl (OW.rot1 ?_))))
    refine Z28 (Z105 rfl rfl rfl (by intro u hu; simp at hu; rcases hu with rfl | rfl | rfl <;> rfl) rfl rfl rfl) ?_
    refine Z0 (Z5 rfl) rfl (Z6 (Z1 (CW.ret (Z8 ?_))))
    have er0 := Zi hf
    obtain ⟨e0, er1⟩ := Prod.mk.inj er0
    clear er0
    subst e0
    subst er1
    have v36 : View (More w0 Φ (B10 ++ [])) none ([] : List (BitVec 8)).length 0 1 (u8s []) := View.nil
    have v37 : View (More w0 Φ (B10 ++ [])) none ([] : List (It)).length 0 3 [] := View.nil
    refine Z106 (rs := [.cell 2 25, .tmp 3]) ([.agg [.bool false, .slice none 0 0, .slice none 0 0].toArray, .int .i64 (73 : Int)]) ((B10 ++ [])) rfl ?_ rfl ?_ ?_ _ (.inl rfl)
    ·exact ⟨⟨_, _, _, _, rfl, Zh, rfl, rfl, rfl, rfl⟩, rfl, trivial⟩
    ·exact ⟨(B10 ++ []), [.bool false, .slice none 0 0, .slice none 0 0], (ItRd.mk v36 v37 (Reps.nil)), (by omega), rfl, rfl⟩
    ·exact (fun w m => m.pick [] 2 rfl rfl)
   ·replace hf := if_f hf h35
    refine Z14 rfl (decide_eq_false h35) (CW.skip (Z1 (Z4 (Z2 (Z0 (Z22 rfl Zh rfl rfl rfl rfl rfl) rfl (OW.rot1 ?_))))))
    refine Z28 (Z105 rfl rfl rfl (by intro u hu; simp at hu; rcases hu with rfl | rfl | rfl <;> rfl) rfl rfl rfl) ?_
    refine Z0 (Z5 rfl) rfl (Z6 (Z1 (CW.ret ?_)))
    have er0 := Zi hf
    obtain ⟨e0, er1⟩ := Prod.mk.inj er0
    clear er0
    subst e0
    subst er1
    refine Z106 (rs := [.cell 2 25, .tmp 3]) ([.agg [.bool (x7.list), .slice A19 x7.data.length c20, .slice A22 x7.items.length c23].toArray, .int .i64 (0 : Int)]) ((B10 ++ [])) rfl ?_ rfl ?_ ?_ _ (.inl rfl)
    ·exact ⟨⟨_, _, _, _, rfl, Zh, rfl, rfl, rfl, rfl⟩, rfl, trivial⟩
    ·exact ⟨(B10 ++ []), [.bool (x7.list), .slice A19 x7.data.length c20, .slice A22 x7.items.length c23], h28, (by omega), rfl, rfl⟩
    ·exact (fun w m => m.pick [] 2 rfl rfl)
  ·replace hf := if_f hf h34
   refine Z13 rfl (congrArg (fun b => !b) (decide_eq_false h34)) (Z4 (Z2 (Z0 (Z109 (l := [.bool false, .slice none 0 0, .slice none 0 0]) (cs := [.bool false, .slice none 0 0, .slice none 0 0]) [] rfl rfl rfl rfl rfl rfl rfl) rfl (Z0 (Z3 rfl) rfl (OW.rot1 ?_)))))
   refine Z28 (Z105 rfl rfl rfl (by intro u hu; simp at hu; rcases hu with rfl | rfl | rfl <;> rfl) rfl rfl rfl) ?_
   refine Z0 (Z5 rfl) rfl (Z6 (Z1 (CW.ret (Z8 ?_))))
   have er0 := Zi hf
   obtain ⟨e0, er1⟩ := Prod.mk.inj er0
   clear er0
   subst e0
   subst er1
   have v38 : View (More w0 Φ (B10 ++ [])) none ([] : List (BitVec 8)).length 0 1 (u8s []) := View.nil
   have v39 : View (More w0 Φ (B10 ++ [])) none ([] : List (It)).length 0 3 [] := View.nil
   refine Z106 (rs := [.cell 2 25, .tmp 3]) ([.agg [.bool false, .slice none 0 0, .slice none 0 0].toArray, .int .i64 ((x9 : Nat) : Int)]) ((B10 ++ [])) rfl ?_ rfl ?_ ?_ _ (.inl rfl)
   ·exact ⟨⟨_, _, _, _, rfl, Zh, rfl, rfl, rfl, rfl⟩, rfl, trivial⟩
   ·exact ⟨(B10 ++ []), [.bool false, .slice none 0 0, .slice none 0 0], (ItRd.mk v38 v39 (Reps.nil)), (by omega), rfl, rfl⟩
   ·exact (fun w m => m.pick [] 2 rfl rfl)
theorem waybillref07_Beyond_does (w0 : World) (Φ : Ctx) (N : List Ent) (hΦ : ∀ w, Mem w0 w N → Φ w) (cs0_ : List Value) (a0 : It) (res0 : Bool) (ha0 : ItRd Φ cs0_ a0) (hf : waybillref07_Beyond a0 = some res0) : DoesG Tryd.prog 9 [.agg cs0_.toArray] w0 [] N (fun v G => v = .bool res0) := by
 unfold waybillref07_Beyond at hf
 replace ha0 := ItRd.mono (Ψ := More w0 Φ []) (fun w q => q.1) _ _ ha0
 have h10 := ha0
 obtain ⟨A1, c2, A4, c5, cs7, e9, v3, v6, h8⟩ := ItRd.opn ha0
 subst e9
 have m11 := v3.mx
 have m12 := v6.mx
 refine DoesG.enter Tryd.func9 rfl Tryd.ntmps9 rfl (M := (([] ++ N))) rfl (Z4 (Z2 (OW.boxA rfl rfl (fun b13 => (Z0 (Z5 rfl) rfl (Z6 (Z1 (Z4 (Z2 (Z0 (Z22 rfl Zh rfl rfl rfl rfl rfl) rfl ?_))))))))))
 refine OW.ofN (NV.bsA rfl rfl (by intro x hx; simp at hx; subst hx; exact rfl) rfl rfl rfl (by decide) (by decide) rfl) rfl (fun b14 => ?_)
 have h17 : Reps (ItRd (More w0 Φ [])) (([.bool (a0.list), .slice A1 a0.data.length c2, .slice A4 a0.items.length c5] : List Value)) [a0] := Reps.one h10
 refine Z20 (M' := (((some b14), blk ((([.bool (a0.list), .slice A1 a0.data.length c2, .slice A4 a0.items.length c5] : List Value)) ++ []) 25) :: (some b13, blk [.bool (a0.list), .slice A1 a0.data.length c2, .slice A4 a0.items.length c5] 25) :: ([] ++ N))) (fun w m => m) ?_
 have o15 : OwnS (some b14) ([a0] : List (It)).length 1 3 (([.bool (a0.list), .slice A1 a0.data.length c2, .slice A4 a0.items.length c5] : List Value)) [] := ⟨by simp [ItRd], by simp [ItRd], (fun h => nomatch h), by simp⟩
 have mx_o15 := o15.mx
 refine Z7 (sl (some b14) 0 ([a0] : List (It)).length 1) (rfl) (Z0 (Z5 rfl) rfl (Z6 (Z1 (Z4 (Z2 (Z0 (Z5 rfl) rfl (Z6 (Z1 (Z4 (Z4 (Z2 (Z0 (Z5 rfl) rfl (Z6 (Z1 ?_))))))))))))))
 obtain ⟨q18, hq19, hf⟩ := Z103 hf
 refine Z120 (fun L' M' => ∃ B20 : List Ent, q18 = Lp.go () ∧ (∀ w, Mem w0 w B20 → Mem w0 w []) ∧ L' = [] ∧ M' = ((B20 ++ N))) ?_ ?_
 ·rintro L23 M24 ⟨B20, e22, hB21, e25, e26⟩
  rw [e25, e26]
  clear e25 e26 L23 M24
  clear hq19
  rw [e22] at hf
  clear e22
  try dsimp only at hf
  refine Z1 (Z4 (Z2 (Z0 (Z5 rfl) rfl (Z6 (Z1 (CW.ret ?_))))))
  have e0 := Zi hf
  subst e0
  refine Z106 (rs := [.tmp 2]) ([.bool false]) (B20) rfl ?_ rfl ?_ ?_ _ (.inl rfl)
  ·exact ⟨rfl, trivial⟩
  ·exact rfl
  ·exact (fun w m => m)
 ·skip
  refine CW.block (Z138 (fun k L' M' => ∃ l29 : List (It), ∃ n36 : Nat, ∃ n38 : Nat, ∃ B27 : List Ent, ∃ cs30 : List Value, ∃ ob32 : Option Nat, ∃ c33 : Nat, ∃ r34 : List Value, (waybillref07_Beyond.l1 k l29 n36 n38) = some q18 ∧ (∀ w, Mem w0 w B27 → Mem w0 w []) ∧ (Reps (ItRd (More w0 Φ B27)) cs30 l29) ∧ (OwnS ob32 l29.length c33 3 cs30 r34) ∧ (n36 ≤ 9223372036854775807) ∧ (n38 ≤ 9223372036854775807) ∧ L' = [(3, sl ob32 0 l29.length c33), (4, .int .i64 ((n36 : Nat) : Int)), (5, .int .i64 ((n38 : Nat) : Int))] ∧ M' = ((ob32, blk (cs30 ++ r34) 25) :: (B27 ++ N))) (k0 := 65540) ⟨([a0] : List (It)), 0, 0, [], (([.bool (a0.list), .slice A1 a0.data.length c2, .slice A4 a0.items.length c5] : List Value)), (some b14), 1, [], hq19, (fun w m => m), h17, o15, (by omega), (by omega), rfl, rfl⟩ ⟨rfl, rfl, rfl, trivial⟩ (fun w m => m.pick [0] 2 rfl rfl) ?_)
  clear hq19
  rintro k40 L43 M44 ⟨l29, n36, n38, B27, cs30, ob32, c33, r34, hl41, hB28, h31, o35, b37, b39, e45, e46⟩
  rw [e45, e46]
  clear e45 e46 L43 M44
  rcases k40 with _ | k40
  ·rw [waybillref07_Beyond.l1] at hl41; cases hl41
  rw [waybillref07_Beyond.l1] at hl41
  have m47 := o35.mx
  refine Z4 (Z4 (Z2 (Z0 (Z3 rfl) rfl (Z0 (RV.len rfl rfl) rfl (Z0 (RV.gtr rfl rfl) rfl (Z7 (.bool (decide (0 < l29.length))) (congrArg Value.bool (decide_eq_decide.2 (by omega))) (Z6 (Z1 ?_))))))))
  by_cases h48 : 0 < l29.length
  ·replace hl41 := if_t hl41 h48
   refine Z13 rfl (decide_eq_true h48) (CW.skip (Z1 (Z4 (CW.block (Z4 (Z4 (Z2 (Z0 (Z3 rfl) rfl (Z0 (RV.gtr rfl rfl) rfl (Z7 (.bool (decide (65536 < n38))) (congrArg Value.bool (decide_eq_decide.2 (by omega))) (Z6 (Z1 ?_))))))))))))
   by_cases h49 : 65536 < n38
   ·replace hl41 := if_t hl41 h49
    refine Z13 rfl (decide_eq_true h49) (Z4 (Z2 (Z0 (Z5 rfl) rfl (Z6 (Z1 (CW.ret (Z8 (Z16 (Z8 (Z8 (Z16 (Z8 ?_))))))))))))
    have hc := Zi hl41
    subst hc
    try dsimp only at hf
    refine Z8 ?_
    have e0 := Zi hf
    subst e0
    refine Z106 (rs := [.tmp 2]) ([.bool true]) ((ob32, blk (cs30 ++ r34) 25) :: B27) rfl ?_ rfl ?_ ?_ _ (.inl rfl)
    ·exact ⟨rfl, trivial⟩
    ·exact rfl
    ·exact (fun w m => m)
   ·replace hl41 := if_f hl41 h49
    refine Z14 rfl (decide_eq_false h49) (CW.skip (Z1 (Z4 (Z2 (Z0 (Z5 rfl) rfl (Z6 (Z1 (Z4 (Z4 (Z2 (Z0 (Z5 rfl) rfl (Z6 (Z1 ?_)))))))))))))
    obtain ⟨q50, hq51, hl41⟩ := Z103 hl41
    refine Z120 (fun L' M' => ∃ n54 : Nat, ∃ l56 : List (It), ∃ B52 : List Ent, ∃ cs57 : List Value, ∃ ob59 : Option Nat, ∃ c60 : Nat, ∃ r61 : List Value, q50 = Lp.go (n54, l56) ∧ (∀ w, Mem w0 w B52 → Mem w0 w B27) ∧ (n54 ≤ 9223372036854775807) ∧ (Reps (ItRd (More w0 Φ B52)) cs57 l56) ∧ (OwnS ob59 l56.length c60 3 cs57 r61) ∧ L' = [(4, .int .i64 ((n54 : Nat) : Int)), (5, .int .i64 ((n38 : Nat) : Int)), (6, sl ob59 0 l56.length c60)] ∧ M' = ((ob59, blk (cs57 ++ r61) 25) :: (B52 ++ N))) ?_ ?_
    ·rintro L64 M65 ⟨n54, l56, B52, cs57, ob59, c60, r61, e63, hB53, b55, h58, o62, e66, e67⟩
     rw [e66, e67]
     clear e66 e67 L64 M65
     clear hq51
     rw [e63] at hl41
     clear e63
     try dsimp only at hl41
     have m68 := o62.mx
     refine Z1 (Z2 (Z0 (Z3 rfl) rfl (Z0 (Z5 rfl) rfl (Z6 (Z27 (Z1 (Z2 (Z0 (Z3 rfl) rfl (Z0 (RV.add rfl rfl (by omega)) rfl (Z7 (.int .i64 (((n38 + 1) : Nat) : Int)) (by first | rfl | (congr 1) | (congr 1; omega)) (Z0 (Z5 rfl) rfl ?_)))))))))))
     refine Z6 ?_
     exact Z131 (k' := k40) (Nat.lt_succ_self _) ⟨l56, n54, (n38 + 1), B52, cs57, ob59, c60, r61, hl41, (fun w m => hB28 w (hB53 w (m))), h58, o62, (by omega), (by omega), rfl, rfl⟩ ⟨rfl, rfl, rfl, trivial⟩ (fun w m => m.pick [0] 1 rfl rfl)
    ·skip
     refine CW.block (CW.mem (M' := (((ob32, blk (cs30 ++ r34) 25) :: B27) ++ N)) (fun w m => m.pick [0] 1 rfl rfl) ?_)
     have gq1 : ∀ w, More w0 Φ ((ob32, blk (cs30 ++ r34) 25) :: B27) w → More w0 Φ B27 w := fun w q => More.mono (fun w m => (m).tail) q
     replace h31 := h31.mono (ItRd.mono gq1)
     have v90 : View (More w0 Φ ((ob32, blk (cs30 ++ r34) 25) :: B27)) ((ob32).map fun k => ⟨k, 0, none⟩) l29.length c33 3 cs30 := o35.view (by decide) (fun w q => q.2.sublist (List.singleton_sublist.2 (List.mem_cons_self ..)))
     refine CW.mem (M' := ((none, blk ([] ++ []) 25) :: (((ob32, blk (cs30 ++ r34) 25) :: B27) ++ N))) (fun w m => m.nil_ent _) (Z138 (fun k L' M' => ∃ l93 : List (It), ∃ n99 : Nat, ∃ l101 : List (It), ∃ n108 : Nat, ∃ B91 : List Ent, ∃ cs94 : List Value, ∃ A96 : Option Addr, ∃ c97 : Nat, ∃ cs102 : List Value, ∃ ob104 : Option Nat, ∃ c105 : Nat, ∃ r106 : List Value, (waybillref07_Beyond.l2 k l93 n99 l101 n108) = some q50 ∧ (∀ w, Mem w0 w B91 → Mem w0 w ((ob32, blk (cs30 ++ r34) 25) :: B27)) ∧ (Reps (ItRd (More w0 Φ B91)) cs94 l93) ∧ (View (More w0 Φ B91) A96 l93.length c97 3 cs94) ∧ (n99 ≤ 9223372036854775807) ∧ (Reps (ItRd (More w0 Φ B91)) cs102 l101) ∧ (OwnS ob104 l101.length c105 3 cs102 r106) ∧ (n108 ≤ 9223372036854775807) ∧ L' = [(3, .slice A96 l93.length c97), (4, .int .i64 ((n99 : Nat) : Int)), (5, .int .i64 ((n38 : Nat) : Int)), (6, sl ob104 0 l101.length c105), (7, .int .i64 ((n108 : Nat) : Int))] ∧ M' = ((ob104, blk (cs102 ++ r106) 25) :: (B91 ++ N))) (k0 := (l29.length - 0 + 2)) ⟨l29, n36, ([] : List (It)), 0, ((ob32, blk (cs30 ++ r34) 25) :: B27), cs30, ((ob32).map fun k => ⟨k, 0, none⟩), c33, [], none, 0, [], hq51, (fun w m => m), h31, v90, (by omega), Reps.nil, OwnS.nil, (by omega), rfl, rfl⟩ ⟨rfl, rfl, rfl, rfl, rfl, trivial⟩ (fun w m => m.pick [0] 1 rfl rfl) ?_)
     clear hq51
     rintro k88 L111 M112 ⟨l93, n99, l101, n108, B91, cs94, A96, c97, cs102, ob104, c105, r106, hl89, hB92, h95, v98, b100, h103, o107, b109, e113, e114⟩
     rw [e113, e114]
     clear e113 e114 L111 M112
     rcases k88 with _ | k88
     ·rw [waybillref07_Beyond.l2] at hl89; cases hl89
     rw [waybillref07_Beyond.l2] at hl89
     have m115 := v98.mx
     have m116 := o107.mx
     refine Z4 (Z4 (Z2 (Z0 (Z3 rfl) rfl (Z0 (Z3 rfl) rfl (Z0 (RV.len rfl rfl) rfl (Z0 (RV.lss rfl rfl) rfl (Z7 (.bool (decide (n108 < l93.length))) (congrArg Value.bool (decide_eq_decide.2 (by omega))) (Z6 (Z1 ?_)))))))))
     by_cases h117 : n108 < l93.length
     ·replace hl89 := if_t hl89 h117
      refine Z13 rfl (decide_eq_true h117) (CW.skip (Z1 (Z4 (CW.block (Z4 (Z124 17 mixed (by kernel_rfl) rfl (Z18 0 rfl (by kernel_rfl) rfl (Z3 rfl) rfl (Z18 1 rfl (by kernel_rfl) rfl (Z3 rfl) rfl (Z18 2 rfl (by kernel_rfl) rfl (Z3 rfl) rfl ?_)))))))))
      obtain ⟨x118, hx119, hl89⟩ := Z103 hl89
      have hl120 := Z129 hx119
      refine Z18 3 rfl (by kernel_rfl) rfl (RV.idx_rs (n108) rfl rfl rfl rfl rfl (v98.isSome (by decide) hl120) (by omega)) rfl ?_
      obtain ⟨cs121, h122, h123⟩ := h95.get ItRd.len hx119
      have h133 := h122
      obtain ⟨A124, c125, A127, c128, cs130, e132, v126, v129, h131⟩ := ItRd.opn h122
      subst e132
      have m134 := v126.mx
      have m135 := v129.mx
      refine Z18 4 rfl (by kernel_rfl) rfl (Z31 rfl rfl rfl rfl) rfl (Z18 5 rfl (by kernel_rfl) rfl (Z21 rfl rfl rfl (fun w m => v98.load (More.of hΦ 1 m rfl) h123 1 _ rfl)) rfl (Z18 6 rfl (by kernel_rfl) rfl (RV.len rfl rfl) rfl ?_))
      obtain ⟨g136, hl89⟩ := Z128 hl89
      refine Z18 7 rfl (by kernel_rfl) rfl (RV.add rfl rfl (by omega)) rfl (UW.slot (.int .i64 (((n99 + x118.data.length) : Nat) : Int)) (by first | rfl | (congr 1) | (congr 1; omega)) (Z18 8 rfl (by kernel_rfl) rfl (Z3 rfl) rfl (Z18 9 rfl (by kernel_rfl) rfl (Z3 rfl) rfl ?_)))
      obtain ⟨x137, hx138, hl89⟩ := Z103 hl89
      have hl139 := Z129 hx138
      refine Z18 10 rfl (by kernel_rfl) rfl (RV.idx_rs (n108) rfl rfl rfl rfl rfl (v98.isSome (by decide) hl139) (by omega)) rfl ?_
      obtain ⟨cs140, h141, h142⟩ := h95.get ItRd.len hx138
      have h152 := h141
      obtain ⟨A143, c144, A146, c147, cs149, e151, v145, v148, h150⟩ := ItRd.opn h141
      subst e151
      have m153 := v145.mx
      have m154 := v148.mx
      refine Z18 11 rfl (by kernel_rfl) rfl (Z31 rfl rfl rfl rfl) rfl (Z18 12 rfl (by kernel_rfl) rfl (Z21 rfl rfl rfl (fun w m => v98.load (More.of hΦ 1 m rfl) h142 2 _ rfl)) rfl (Z18 13 rfl (by kernel_rfl) rfl (RV.len rfl rfl) rfl ?_))
      obtain ⟨g155, hl89⟩ := Z128 hl89
      refine Z18 14 rfl (by kernel_rfl) rfl (RV.add rfl rfl (by omega)) rfl (UW.slot (.int .i64 ((((n99 + x118.data.length) + x137.items.length) : Nat) : Int)) (by first | rfl | (congr 1) | (congr 1; omega)) ?_)
      obtain ⟨g156, hl89⟩ := Z128 hl89
      refine Z18 15 rfl (by kernel_rfl) rfl (RV.add rfl rfl (by omega)) rfl (UW.slot (.int .i64 (((((n99 + x118.data.length) + x137.items.length) + 1) : Nat) : Int)) (by first | rfl | (congr 1) | (congr 1; omega)) (Z18 16 rfl (by kernel_rfl) rfl (Z5 rfl) rfl (UW.nil (by kernel_rfl) (Z6 (Z1 (Z4 (Z4 (Z2 (Z0 (Z3 rfl) rfl (Z0 (RV.gtr rfl rfl) rfl (Z7 (.bool (decide (2147483647 < (((n99 + x118.data.length) + x137.items.length) + 1)))) (congrArg Value.bool (decide_eq_decide.2 (by omega))) ?_)))))))))))
      refine Z6 (Z1 ?_)
      by_cases h157 : 2147483647 < (((n99 + x118.data.length) + x137.items.length) + 1)
      ·replace hl89 := if_t hl89 h157
       refine Z13 rfl (decide_eq_true h157) (Z4 (Z2 (Z0 (Z5 rfl) rfl (Z6 (Z1 (CW.ret (Z8 (Z16 (Z8 (Z8 (Z16 (Z8 ?_))))))))))))
       have hc := Zi hl89
       subst hc
       try dsimp only at hl41
       refine Z8 (Z16 (Z8 (Z8 (Z16 (Z8 ?_)))))
       have hc := Zi hl41
       subst hc
       try dsimp only at hf
       refine Z8 ?_
       have e0 := Zi hf
       subst e0
       refine Z106 (rs := [.tmp 2]) ([.bool true]) ((ob104, blk (cs102 ++ r106) 25) :: B91) rfl ?_ rfl ?_ ?_ _ (.inl rfl)
       ·exact ⟨rfl, trivial⟩
       ·exact rfl
       ·exact (fun w m => m)
      ·replace hl89 := if_f hl89 h157
       refine Z14 rfl (decide_eq_false h157) (CW.skip (Z1 (Z2 (Z0 (Z3 rfl) rfl (Z0 (Z3 rfl) rfl (Z0 (Z3 rfl) rfl ?_))))))
       obtain ⟨x158, hx159, hl89⟩ := Z103 hl89
       have hl160 := Z129 hx159
       refine Z0 (RV.idx_rs (n108) rfl rfl rfl rfl rfl (v98.isSome (by decide) hl160) (by omega)) rfl ?_
       obtain ⟨cs161, h162, h163⟩ := h95.get ItRd.len hx159
       have h173 := h162
       obtain ⟨A164, c165, A167, c168, cs170, e172, v166, v169, h171⟩ := ItRd.opn h162
       subst e172
       have m174 := v166.mx
       have m175 := v169.mx
       refine Z0 (Z31 rfl rfl rfl rfl) rfl (Z0 (Z21 rfl rfl rfl (fun w m => v98.load (More.of hΦ 1 m rfl) h163 2 _ rfl)) rfl ?_)
       obtain ⟨g176, hl89⟩ := Z128 hl89
       have h181 := h103.app h171
       refine OW.appendOwn (s := 3) rfl rfl rfl rfl rfl rfl o107 (fun w m => v169.rd w (More.of hΦ 1 m rfl)) v169.n (h171.cell1 ItRd.one) (v169.zero (by decide)) (by decide) (by decide) (by first | omega | (simp only [i25, List.length_nil]; omega)) rfl rfl ((l101 ++ x158.items).length) (cs102 ++ cs170) (List.length_append ..).symm rfl (fun ob177 r178 c179 o180 => ?_)
       have m182 := o180.mx
       refine Z0 (Z5 rfl) rfl (Z6 (Z27 (Z1 (Z2 (Z0 (Z3 rfl) rfl (Z0 (RV.add rfl rfl (by omega)) rfl (Z7 (.int .i64 (((n108 + 1) : Nat) : Int)) (by first | rfl | (congr 1) | (congr 1; omega)) (Z0 (Z5 rfl) rfl (Z6 ?_)))))))))
       exact Z131 (k' := k88) (Nat.lt_succ_self _) ⟨l93, (((n99 + x118.data.length) + x137.items.length) + 1), (l101 ++ x158.items), (n108 + 1), B91, cs94, A96, c97, (cs102 ++ cs170), ob177, c179, r178, hl89, (fun w m => hB92 w (m)), h95, v98, (by omega), h181, o180, (by omega), rfl, rfl⟩ ⟨rfl, rfl, rfl, rfl, rfl, trivial⟩ (fun w m => m.pick [0] 1 rfl rfl)
     ·replace hl89 := if_f hl89 h117
      refine Z14 rfl (decide_eq_false h117) (CW.exit (Z9 (Z9 (Z15 ?_))))
      exact QW.join ⟨n99, l101, B91, cs102, ob104, c105, r106, (Zi hl89).symm, (fun w m => (hB92 w (m)).tail), (by omega), h103, o107, rfl, rfl⟩ ⟨rfl, rfl, rfl, trivial⟩ (fun w m => m.pick [0] 1 rfl rfl)
  ·replace hl41 := if_f hl41 h48
   refine Z14 rfl (decide_eq_false h48) (CW.exit (Z9 (Z9 (Z15 ?_))))
   exact QW.join ⟨B27, (Zi hl41).symm, (fun w m => hB28 w (m)), rfl, rfl⟩ trivial (fun w m => m.pick [] 1 rfl rfl)
theorem header_count_does (w0 : World) (Φ : Ctx) (N : List Ent) (hΦ : ∀ w, Mem w0 w N → Φ w) (a0 : Int) (res0 : Nat) (ba0 : -9223372036854775808 ≤ a0 ∧ a0 ≤ 9223372036854775807) (hf : header_count a0 = some res0) : DoesG Tryd.prog 53 [.int .i64 a0] w0 [] N (fun v G => (res0 ≤ 9223372036854775807) ∧ v = .int .i64 ((res0 : Nat) : Int)) := by
 unfold header_count at hf
 refine DoesG.enter Tryd.func53 rfl Tryd.ntmps53 rfl (M := (([] ++ N))) rfl (Z4 (Z2 (Z0 (Z5 rfl) rfl (Z6 (Z1 (Z4 (Z4 (Z2 (Z0 (Z3 rfl) rfl (Z6 (Z1 (CW.block (Z4 (Z2 (Z0 (RV.eql rfl rfl) rfl (Z0 (Z5 rfl) rfl ?_))))))))))))))))
 refine Z6 (Z1 ?_)
 by_cases h1 : a0 = (0 : Int)
 ·replace hf := if_t hf h1
  refine Z13 rfl (decide_eq_true h1) (Z4 (Z2 (Z0 (Z5 rfl) rfl (Z6 (Z1 (CW.ret (Z16 (Z8 ?_))))))))
  have e0 := Zi hf
  subst e0
  refine Z106 (rs := [.tmp 2]) ([.int .i64 (15 : Int)]) ([]) rfl ?_ rfl ?_ ?_ _ (.inl rfl)
  ·exact ⟨rfl, trivial⟩
  ·exact ⟨(by omega), rfl⟩
  ·exact (fun w m => m)
 ·replace hf := if_f hf h1
  refine Z14 rfl (decide_eq_false h1) (Z4 (Z2 (Z0 (RV.eql rfl rfl) rfl (Z0 (Z5 rfl) rfl (Z6 (Z1 ?_))))))
  by_cases h2 : a0 = (1 : Int)
  ·replace hf := if_t hf h2
   refine Z13 rfl (decide_eq_true h2) (Z4 (Z2 (Z0 (Z5 rfl) rfl (Z6 (Z1 (CW.ret (Z16 (Z8 ?_))))))))
   have e0 := Zi hf
   subst e0
   refine Z106 (rs := [.tmp 2]) ([.int .i64 (16 : Int)]) ([]) rfl ?_ rfl ?_ ?_ _ (.inl rfl)
   ·exact ⟨rfl, trivial⟩
   ·exact ⟨(by omega), rfl⟩
   ·exact (fun w m => m)
  ·replace hf := if_f hf h2
   refine Z14 rfl (decide_eq_false h2) (Z4 (Z2 (Z0 (RV.eql rfl rfl) rfl (Z0 (Z5 rfl) rfl (Z6 (Z1 ?_))))))
   by_cases h3 : a0 = (2 : Int)
   ·replace hf := if_t hf h3
    refine Z13 rfl (decide_eq_true h3) (Z4 (Z2 (Z0 (Z5 rfl) rfl (Z6 (Z1 (CW.ret (Z16 (Z8 ?_))))))))
    have e0 := Zi hf
    subst e0
    refine Z106 (rs := [.tmp 2]) ([.int .i64 (17 : Int)]) ([]) rfl ?_ rfl ?_ ?_ _ (.inl rfl)
    ·exact ⟨rfl, trivial⟩
    ·exact ⟨(by omega), rfl⟩
    ·exact (fun w m => m)
   ·replace hf := if_f hf h3
    refine Z14 rfl (decide_eq_false h3) (Z4 (Z2 (Z0 (RV.eql rfl rfl) rfl (Z0 (Z5 rfl) rfl (Z6 (Z1 ?_))))))
    by_cases h4 : a0 = (3 : Int)
    ·replace hf := if_t hf h4
     refine Z13 rfl (decide_eq_true h4) (Z4 (Z2 (Z0 (Z5 rfl) rfl (Z6 (Z1 (CW.ret (Z16 (Z8 ?_))))))))
     have e0 := Zi hf
     subst e0
     refine Z106 (rs := [.tmp 2]) ([.int .i64 (20 : Int)]) ([]) rfl ?_ rfl ?_ ?_ _ (.inl rfl)
     ·exact ⟨rfl, trivial⟩
     ·exact ⟨(by omega), rfl⟩
     ·exact (fun w m => m)
    ·replace hf := if_f hf h4
     refine Z14 rfl (decide_eq_false h4) (CW.skip (Z27 (Z1 (Z4 (Z2 (Z0 (Z5 rfl) rfl (Z6 (Z1 (CW.ret ?_)))))))))
     have e0 := Zi hf
     subst e0
     refine Z106 (rs := [.tmp 2]) ([.int .i64 (21 : Int)]) ([]) rfl ?_ rfl ?_ ?_ _ (.inl rfl)
     ·exact ⟨rfl, trivial⟩
     ·exact ⟨(by omega), rfl⟩
     ·exact (fun w m => m)
theorem header_tailOf_does (w0 : World) (Φ : Ctx) (N : List Ent) (hΦ : ∀ w, Mem w0 w N → Φ w) (a0 : Int) (res0 : Int) (ba0 : -9223372036854775808 ≤ a0 ∧ a0 ≤ 9223372036854775807) (hf : header_tailOf a0 = some res0) : DoesG Tryd.prog 43 [.int .i64 a0] w0 [] N (fun v G => (-9223372036854775808 ≤ res0 ∧ res0 ≤ 9223372036854775807) ∧ v = .int .i64 res0) := by
 unfold header_tailOf at hf
 refine DoesG.enter Tryd.func43 rfl Tryd.ntmps43 rfl (M := (([] ++ N))) rfl (Z4 (Z2 (Z0 (Z5 rfl) rfl (Z6 (Z1 (Z4 (Z4 (Z2 (Z0 (Z3 rfl) rfl (Z6 (Z1 ?_)))))))))))
 obtain ⟨q1, hq2, hf⟩ := Z103 hf
 refine Z120 (fun L' M' => q1 = Lp.go () ∧ L' = [] ∧ M' = (([] ++ N))) ?_ ?_
 ·rintro L4 M5 ⟨e3, e6, e7⟩
  rw [e6, e7]
  clear e6 e7 L4 M5
  clear hq2
  rw [e3] at hf
  clear e3
  try dsimp only at hf
  refine Z1 (Z4 (Z2 (Z0 (Z5 rfl) rfl (Z6 (Z1 (CW.ret ?_))))))
  have e0 := Zi hf
  subst e0
  refine Z106 (rs := [.tmp 2]) ([.int .i64 (-1 : Int)]) ([]) rfl ?_ rfl ?_ ?_ _ (.inl rfl)
  ·exact ⟨rfl, trivial⟩
  ·exact ⟨(by omega), rfl⟩
  ·exact (fun w m => m)
 ·skip
  refine CW.block (Z138 (fun k L' M' => ∃ n8 : Nat, (header_tailOf.l1 a0 k n8) = some q1 ∧ (n8 ≤ 9223372036854775807) ∧ L' = [(0, .int .i64 a0), (4, .int .i64 ((n8 : Nat) : Int))] ∧ M' = (([] ++ N))) (k0 := (5 - 0 + 2)) ⟨0, hq2, (by omega), rfl, rfl⟩ ⟨rfl, rfl, trivial⟩ (fun w m => m.pick [] 0 rfl rfl) ?_)
  clear hq2
  rintro k10 L13 M14 ⟨n8, hl11, b9, e15, e16⟩
  rw [e15, e16]
  clear e15 e16 L13 M14
  rcases k10 with _ | k10
  ·rw [header_tailOf.l1] at hl11; cases hl11
  rw [header_tailOf.l1] at hl11
  refine Z4 (Z2 (Z0 (RV.lss rfl rfl) rfl (Z7 (.bool (decide (n8 < 5))) (congrArg Value.bool (decide_eq_decide.2 (by omega))) (Z6 (Z1 (Z4 ?_))))))
  by_cases h17 : n8 < 5
  ·replace hl11 := if_t hl11 h17
   refine Z13 rfl (decide_eq_true h17) (CW.skip (Z1 (Z4 (CW.block (Z4 (Z2 (Z0 (Z3 rfl) rfl (Z0 (Z5 rfl) rfl (Z6 (Z1 (Z4 (Z2 (Z0 (Z3 rfl) rfl ?_)))))))))))))
   obtain ⟨x19, hx18, hl11⟩ := Z103 hl11
   refine Z12 Tryd.call53 rfl (header_count_does w0 (More w0 Φ []) (([] ++ N)) (fun w m => More.of hΦ 0 m rfl) ((n8 : Nat) : Int) x19 (by omega) hx18) rfl rfl ?_
   rintro _ G21 ⟨b20, rfl⟩
   refine Z20 (M' := (([] ++ N))) (fun w m => m.appR) (Z0 (Z3 rfl) rfl (Z0 (RV.eql rfl rfl) rfl (Z6 (Z1 ?_))))
   by_cases h23 : ((x19 : Nat) : Int) = a0
   ·replace hl11 := if_t hl11 h23
    refine Z13 rfl (decide_eq_true h23) (Z4 (Z2 (Z0 (Z3 rfl) rfl (Z0 (Z5 rfl) rfl (Z6 (Z1 (CW.ret (Z16 (Z8 (Z8 (Z16 (Z8 ?_))))))))))))
    have hc := Zi hl11
    subst hc
    try dsimp only at hf
    refine Z8 ?_
    have e0 := Zi hf
    subst e0
    refine Z106 (rs := [.tmp 2]) ([.int .i64 ((n8 : Nat) : Int)]) ([]) rfl ?_ rfl ?_ ?_ _ (.inl rfl)
    ·exact ⟨rfl, trivial⟩
    ·exact ⟨(by omega), rfl⟩
    ·exact (fun w m => m)
   ·replace hl11 := if_f hl11 h23
    refine Z14 rfl (decide_eq_false h23) (CW.skip (Z27 (Z1 (Z2 (Z0 (RV.add rfl rfl (by omega)) rfl (Z7 (.int .i64 (((n8 + 1) : Nat) : Int)) (by first | rfl | (congr 1) | (congr 1; omega)) (Z0 (Z3 rfl) rfl (Z6 ?_))))))))
    exact Z131 (k' := k10) (Nat.lt_succ_self _) ⟨(n8 + 1), hl11, (by omega), rfl, rfl⟩ ⟨rfl, rfl, trivial⟩ (fun w m => m.pick [] 0 rfl rfl)
  ·replace hl11 := if_f hl11 h17
   refine Z14 rfl (decide_eq_false h17) (CW.exit (Z9 (Z9 (Z15 ?_))))
   exact QW.join ⟨(Zi hl11).symm, rfl, rfl⟩ trivial (fun w m => m.pick [] 0 rfl rfl)
theorem Z140 (w0 : World) (Φ : Ctx) (N : List Ent) (hΦ : ∀ w, Mem w0 w N → Φ w) (a0 : Int) (res0 : Int) (ba0 : -9223372036854775808 ≤ a0 ∧ a0 ≤ 9223372036854775807) (hf : waybilllaw19_num a0 = some res0) : DoesG Tryd.prog 12 [.int .i64 a0] w0 [] N (fun v G => (-9223372036854775808 ≤ res0 ∧ res0 ≤ 9223372036854775807) ∧ v = .int .i64 res0) := by
 unfold waybilllaw19_num at hf
 refine DoesG.enter Tryd.func12 rfl Tryd.ntmps12 rfl (M := (([] ++ N))) rfl (Z4 (Z2 (Z0 (Z5 rfl) rfl (Z6 (Z1 (Z4 (Z2 (Z0 (Z3 rfl) rfl (Z0 (Z5 rfl) rfl (Z6 (Z1 (CW.ret ?_))))))))))))
 have e0 := Zi hf
 subst e0
 refine Z106 (rs := [.tmp 2]) ([.int .i64 a0]) ([]) rfl ?_ rfl ?_ ?_ _ (.inl rfl)
 ·exact ⟨rfl, trivial⟩
 ·exact ⟨(by omega), rfl⟩
 ·exact (fun w m => m)
theorem Z136 (w0 : World) (Φ : Ctx) (N : List Ent) (hΦ : ∀ w, Mem w0 w N → Φ w) (A0_ : Option Addr) (c0_ : Nat) (a0 : List (BitVec 8)) (A1_ : Option Addr) (c1_ : Nat) (a1 : List (BitVec 8)) (res0 : Bool) (va0 : View Φ A0_ a0.length c0_ 1 (u8s a0)) (va1 : View Φ A1_ a1.length c1_ 1 (u8s a1)) (hf : waybilllaw19_equal a0 a1 = some res0) : DoesG Tryd.prog 14 [.slice A0_ a0.length c0_, .slice A1_ a1.length c1_] w0 [] N (fun v G => v = .bool res0) := by
 unfold waybilllaw19_equal at hf
 replace va0 := va0.mono (Ψ := More w0 Φ []) (fun w q => q.1)
 replace va1 := va1.mono (Ψ := More w0 Φ []) (fun w q => q.1)
 have m1 := va0.mx
 have m2 := va1.mx
 refine DoesG.enter Tryd.func14 rfl Tryd.ntmps14 rfl (M := (([] ++ N))) rfl (Z4 (Z2 (Z0 (Z5 rfl) rfl (Z6 (Z1 (Z4 (Z4 (Z2 (Z0 (Z3 rfl) rfl (Z0 (RV.len rfl rfl) rfl (Z0 (Z3 rfl) rfl (Z0 (RV.len rfl rfl) rfl ?_))))))))))))
 refine Z0 (RV.neq rfl rfl) rfl (Z7 (.bool (!decide (a0.length = a1.length))) (congrArg (fun b => Value.bool (!b)) (decide_eq_decide.2 (by omega))) (Z6 (Z1 ?_)))
 by_cases h3 : a0.length = a1.length
 ·replace hf := if_t hf h3
  refine Z14 rfl (congrArg (fun b => !b) (decide_eq_true h3)) (CW.skip (Z1 (Z4 (Z4 (Z2 (Z0 (Z5 rfl) rfl (Z6 (Z1 ?_))))))))
  obtain ⟨q4, hq5, hf⟩ := Z103 hf
  refine Z120 (fun L' M' => q4 = Lp.go () ∧ L' = [] ∧ M' = (([] ++ N))) ?_ ?_
  ·rintro L7 M8 ⟨e6, e9, e10⟩
   rw [e9, e10]
   clear e9 e10 L7 M8
   clear hq5
   rw [e6] at hf
   clear e6
   try dsimp only at hf
   refine Z1 (Z4 (Z2 (Z0 (Z5 rfl) rfl (Z6 (Z1 (CW.ret ?_))))))
   have e0 := Zi hf
   subst e0
   refine Z106 (rs := [.tmp 4]) ([.bool true]) ([]) rfl ?_ rfl ?_ ?_ _ (.inl rfl)
   ·exact ⟨rfl, trivial⟩
   ·exact rfl
   ·exact (fun w m => m)
  ·skip
   refine CW.block (Z138 (fun k L' M' => ∃ n11 : Nat, (waybilllaw19_equal.l1 a0 a1 k n11) = some q4 ∧ (n11 ≤ 9223372036854775807) ∧ L' = [(0, .slice A0_ a0.length c0_), (1, .slice A1_ a1.length c1_), (5, .int .i64 ((n11 : Nat) : Int))] ∧ M' = (([] ++ N))) (k0 := (a0.length - 0 + 2)) ⟨0, hq5, (by omega), rfl, rfl⟩ ⟨rfl, rfl, rfl, trivial⟩ (fun w m => m.pick [] 0 rfl rfl) ?_)
   clear hq5
   rintro k13 L16 M17 ⟨n11, hl14, b12, e18, e19⟩
   rw [e18, e19]
   clear e18 e19 L16 M17
   rcases k13 with _ | k13
   ·rw [waybilllaw19_equal.l1] at hl14; cases hl14
   rw [waybilllaw19_equal.l1] at hl14
   refine Z4 (Z4 (Z2 (Z0 (Z3 rfl) rfl (Z0 (Z3 rfl) rfl (Z0 (RV.len rfl rfl) rfl (Z0 (RV.lss rfl rfl) rfl (Z7 (.bool (decide (n11 < a0.length))) (congrArg Value.bool (decide_eq_decide.2 (by omega))) (Z6 (Z1 ?_)))))))))
   by_cases h20 : n11 < a0.length
   ·replace hl14 := if_t hl14 h20
    refine Z13 rfl (decide_eq_true h20) (CW.skip (Z1 (Z4 (CW.block (Z4 (Z124 9 mixed (by kernel_rfl) rfl (Z18 0 rfl (by kernel_rfl) rfl (Z3 rfl) rfl (Z18 1 rfl (by kernel_rfl) rfl (Z3 rfl) rfl ?_))))))))
    obtain ⟨x21, hx22, hl14⟩ := Z103 hl14
    have hl23 := Z129 hx22
    refine Z18 2 rfl (by kernel_rfl) rfl (Z141 (n11) rfl rfl rfl rfl rfl (va0.isSome (by decide) hl23) (by omega)) rfl (Z18 3 rfl (by kernel_rfl) rfl (Z21 rfl rfl rfl (fun w m => va0.cell (More.of hΦ 0 m rfl) (u8s_at hx22))) rfl (Z18 4 rfl (by kernel_rfl) rfl (Z3 rfl) rfl (Z18 5 rfl (by kernel_rfl) rfl (Z3 rfl) rfl ?_)))
    obtain ⟨x24, hx25, hl14⟩ := Z103 hl14
    have hl26 := Z129 hx25
    refine Z18 6 rfl (by kernel_rfl) rfl (Z141 (n11) rfl rfl rfl rfl rfl (va1.isSome (by decide) hl26) (by omega)) rfl (Z18 7 rfl (by kernel_rfl) rfl (Z21 rfl rfl rfl (fun w m => va1.cell (More.of hΦ 0 m rfl) (u8s_at hx25))) rfl (Z18 8 rfl (by kernel_rfl) rfl (RV.neq8 rfl (by first | rfl | exact lit8 _ rfl) rfl (by first | rfl | exact lit8 _ rfl)) rfl (UW.nil (by kernel_rfl) (Z6 (Z1 ?_)))))
    by_cases h27 : x21 = x24
    ·replace hl14 := if_t hl14 h27
     refine Z14 rfl (congrArg (fun b => !b) (decide_eq_true h27)) (CW.skip (Z27 (Z1 (Z2 (Z0 (Z3 rfl) rfl (Z0 (RV.add rfl rfl (by omega)) rfl (Z7 (.int .i64 (((n11 + 1) : Nat) : Int)) (by first | rfl | (congr 1) | (congr 1; omega)) (Z0 (Z5 rfl) rfl (Z6 ?_)))))))))
     exact Z131 (k' := k13) (Nat.lt_succ_self _) ⟨(n11 + 1), hl14, (by omega), rfl, rfl⟩ ⟨rfl, rfl, rfl, trivial⟩ (fun w m => m.pick [] 0 rfl rfl)
    ·replace hl14 := if_f hl14 h27
     refine Z13 rfl (congrArg (fun b => !b) (decide_eq_false h27)) (Z4 (Z2 (Z0 (Z5 rfl) rfl (Z6 (Z1 (CW.ret (Z16 (Z8 (Z8 (Z16 (Z8 ?_)))))))))))
     have hc := Zi hl14
     subst hc
     try dsimp only at hf
     refine Z8 ?_
     have e0 := Zi hf
     subst e0
     refine Z106 (rs := [.tmp 4]) ([.bool false]) ([]) rfl ?_ rfl ?_ ?_ _ (.inl rfl)
     ·exact ⟨rfl, trivial⟩
     ·exact rfl
     ·exact (fun w m => m)
   ·replace hl14 := if_f hl14 h20
    refine Z14 rfl (decide_eq_false h20) (CW.exit (Z9 (Z9 (Z15 ?_))))
    exact QW.join ⟨(Zi hl14).symm, rfl, rfl⟩ trivial (fun w m => m.pick [] 0 rfl rfl)
 ·replace hf := if_f hf h3
  refine Z13 rfl (congrArg (fun b => !b) (decide_eq_false h3)) (Z4 (Z2 (Z0 (Z5 rfl) rfl (Z6 (Z1 (CW.ret (Z8 ?_)))))))
  have e0 := Zi hf
  subst e0
  refine Z106 (rs := [.tmp 4]) ([.bool false]) ([]) rfl ?_ rfl ?_ ?_ _ (.inl rfl)
  ·exact ⟨rfl, trivial⟩
  ·exact rfl
  ·exact (fun w m => m)
theorem waybillref19_tail_does (w0 : World) (Φ : Ctx) (N : List Ent) (hΦ : ∀ w, Mem w0 w N → Φ w) (a0 : Int) (res0 : Int) (ba0 : -9223372036854775808 ≤ a0 ∧ a0 ≤ 9223372036854775807) (hf : waybillref19_tail a0 = some res0) : DoesG Tryd.prog 47 [.int .i64 a0] w0 [] N (fun v G => (-9223372036854775808 ≤ res0 ∧ res0 ≤ 9223372036854775807) ∧ v = .int .i64 res0) := by
 unfold waybillref19_tail at hf
 refine DoesG.enter Tryd.func47 rfl Tryd.ntmps47 rfl (M := (([] ++ N))) rfl (Z4 (Z2 (Z0 (Z5 rfl) rfl (Z6 (Z1 (Z4 (Z4 (Z2 (Z0 (Z3 rfl) rfl (Z6 (Z1 (CW.block (Z4 (Z2 (Z0 (RV.eql rfl rfl) rfl (Z0 (Z5 rfl) rfl ?_))))))))))))))))
 refine Z6 (Z1 ?_)
 by_cases h1 : a0 = (15 : Int)
 ·replace hf := if_t hf h1
  refine Z13 rfl (decide_eq_true h1) (Z4 (Z2 (Z0 (Z5 rfl) rfl (Z6 (Z1 (CW.ret (Z16 (Z8 ?_))))))))
  have e0 := Zi hf
  subst e0
  refine Z106 (rs := [.tmp 2]) ([.int .i64 (0 : Int)]) ([]) rfl ?_ rfl ?_ ?_ _ (.inl rfl)
  ·exact ⟨rfl, trivial⟩
  ·exact ⟨(by omega), rfl⟩
  ·exact (fun w m => m)
 ·replace hf := if_f hf h1
  refine Z14 rfl (decide_eq_false h1) (Z4 (Z2 (Z0 (RV.eql rfl rfl) rfl (Z0 (Z5 rfl) rfl (Z6 (Z1 ?_))))))
  by_cases h2 : a0 = (16 : Int)
  ·replace hf := if_t hf h2
   refine Z13 rfl (decide_eq_true h2) (Z4 (Z2 (Z0 (Z5 rfl) rfl (Z6 (Z1 (CW.ret (Z16 (Z8 ?_))))))))
   have e0 := Zi hf
   subst e0
   refine Z106 (rs := [.tmp 2]) ([.int .i64 (1 : Int)]) ([]) rfl ?_ rfl ?_ ?_ _ (.inl rfl)
   ·exact ⟨rfl, trivial⟩
   ·exact ⟨(by omega), rfl⟩
   ·exact (fun w m => m)
  ·replace hf := if_f hf h2
   refine Z14 rfl (decide_eq_false h2) (Z4 (Z2 (Z0 (RV.eql rfl rfl) rfl (Z0 (Z5 rfl) rfl (Z6 (Z1 ?_))))))
   by_cases h3 : a0 = (17 : Int)
   ·replace hf := if_t hf h3
    refine Z13 rfl (decide_eq_true h3) (Z4 (Z2 (Z0 (Z5 rfl) rfl (Z6 (Z1 (CW.ret (Z16 (Z8 ?_))))))))
    have e0 := Zi hf
    subst e0
    refine Z106 (rs := [.tmp 2]) ([.int .i64 (2 : Int)]) ([]) rfl ?_ rfl ?_ ?_ _ (.inl rfl)
    ·exact ⟨rfl, trivial⟩
    ·exact ⟨(by omega), rfl⟩
    ·exact (fun w m => m)
   ·replace hf := if_f hf h3
    refine Z14 rfl (decide_eq_false h3) (Z4 (Z2 (Z0 (RV.eql rfl rfl) rfl (Z0 (Z5 rfl) rfl (Z6 (Z1 ?_))))))
    by_cases h4 : a0 = (20 : Int)
    ·replace hf := if_t hf h4
     refine Z13 rfl (decide_eq_true h4) (Z4 (Z2 (Z0 (Z5 rfl) rfl (Z6 (Z1 (CW.ret (Z16 (Z8 ?_))))))))
     have e0 := Zi hf
     subst e0
     refine Z106 (rs := [.tmp 2]) ([.int .i64 (3 : Int)]) ([]) rfl ?_ rfl ?_ ?_ _ (.inl rfl)
     ·exact ⟨rfl, trivial⟩
     ·exact ⟨(by omega), rfl⟩
     ·exact (fun w m => m)
    ·replace hf := if_f hf h4
     refine Z14 rfl (decide_eq_false h4) (Z4 (Z2 (Z0 (RV.eql rfl rfl) rfl (Z0 (Z5 rfl) rfl (Z6 (Z1 ?_))))))
     by_cases h5 : a0 = (21 : Int)
     ·replace hf := if_t hf h5
      refine Z13 rfl (decide_eq_true h5) (Z4 (Z2 (Z0 (Z5 rfl) rfl (Z6 (Z1 (CW.ret (Z16 (Z8 ?_))))))))
      have e0 := Zi hf
      subst e0
      refine Z106 (rs := [.tmp 2]) ([.int .i64 (4 : Int)]) ([]) rfl ?_ rfl ?_ ?_ _ (.inl rfl)
      ·exact ⟨rfl, trivial⟩
      ·exact ⟨(by omega), rfl⟩
      ·exact (fun w m => m)
     ·replace hf := if_f hf h5
      refine Z14 rfl (decide_eq_false h5) (CW.skip (Z27 (Z1 (Z4 (Z2 (Z0 (Z5 rfl) rfl (Z6 (Z1 (CW.ret ?_)))))))))
      have e0 := Zi hf
      subst e0
      refine Z106 (rs := [.tmp 2]) ([.int .i64 (-1 : Int)]) ([]) rfl ?_ rfl ?_ ?_ _ (.inl rfl)
      ·exact ⟨rfl, trivial⟩
      ·exact ⟨(by omega), rfl⟩
      ·exact (fun w m => m)
theorem Z137 (w0 : World) (Φ : Ctx) (N : List Ent) (hΦ : ∀ w, Mem w0 w N → Φ w) (cs0_ : List Value) (a0 : Hdr) (cs1_ : List Value) (a1 : Hdr) (res0 : Bool) (ha0 : HdrRd Φ cs0_ a0) (ha1 : HdrRd Φ cs1_ a1) (hf : waybillref19_Same a0 a1 = some res0) : DoesG Tryd.prog 13 [.agg cs0_.toArray, .agg cs1_.toArray] w0 [] N (fun v G => v = .bool res0) := by
 unfold waybillref19_Same at hf
 replace ha0 := HdrRd.mono (Ψ := More w0 Φ []) (fun w q => q.1) _ _ ha0
 have h6 := ha0
 obtain ⟨A1, c2, e5, v3, b4⟩ := HdrRd.opn ha0
 subst e5
 have m7 := v3.mx
 replace ha1 := HdrRd.mono (Ψ := More w0 Φ []) (fun w q => q.1) _ _ ha1
 have h13 := ha1
 obtain ⟨A8, c9, e12, v10, b11⟩ := HdrRd.opn ha1
 subst e12
 have m14 := v10.mx
 refine DoesG.enter Tryd.func13 rfl Tryd.ntmps13 rfl (M := (([] ++ N))) rfl (Z4 (Z2 (OW.boxA rfl rfl (fun b15 => (OW.boxA rfl rfl (fun b16 => (Z0 (Z5 rfl) rfl (Z6 (Z1 (Z4 (Z4 (Z2 (Z0 (Z30 rfl rfl rfl rfl) rfl (Z7 (ptr (some b15) 444) rfl ?_))))))))))))))
 refine Z0 (Z29 rfl (List.Mem.tail _ Zh) rfl rfl rfl (HdrC.C_extra (⟨a0.parent, a0.uncles, a0.coinbase, a0.state, a0.txRoot, a0.receiptRoot, a0.bloom, a0.difficulty, a0.number, a0.limit, a0.used, a0.time, .slice A1 a0.extra.length c2, a0.mix, a0.nonce, a0.tail, a0.baseFee, a0.withdrawals, a0.blobUsed, a0.blobExcess, a0.beacon, a0.requests⟩ : HdrC))) rfl (Z0 (RV.len rfl rfl) rfl (Z0 (Z30 rfl rfl rfl rfl) rfl (Z7 (ptr (some b16) 444) rfl (Z0 (Z29 rfl Zh rfl rfl rfl (HdrC.C_extra (⟨a1.parent, a1.uncles, a1.coinbase, a1.state, a1.txRoot, a1.receiptRoot, a1.bloom, a1.difficulty, a1.number, a1.limit, a1.used, a1.time, .slice A8 a1.extra.length c9, a1.mix, a1.nonce, a1.tail, a1.baseFee, a1.withdrawals, a1.blobUsed, a1.blobExcess, a1.beacon, a1.requests⟩ : HdrC))) rfl (Z0 (RV.len rfl rfl) rfl (Z0 (RV.neq rfl rfl) rfl (Z7 (.bool (!decide (a0.extra.length = a1.extra.length))) (congrArg (fun b => Value.bool (!b)) (decide_eq_decide.2 (by omega))) ?_)))))))
 refine Z6 (Z1 ?_)
 by_cases h17 : a0.extra.length = a1.extra.length
 ·replace hf := if_t hf h17
  refine Z14 rfl (congrArg (fun b => !b) (decide_eq_true h17)) (CW.skip (Z1 (Z4 (Z4 (Z2 (Z0 (Z5 rfl) rfl (Z6 (Z1 ?_))))))))
  obtain ⟨q18, hq19, hf⟩ := Z103 hf
  refine Z120 (fun L' M' => q18 = Lp.go () ∧ L' = [(2, ptr (some b15) 0), (3, ptr (some b16) 0)] ∧ M' = ((some b16, blk (⟨a1.parent, a1.uncles, a1.coinbase, a1.state, a1.txRoot, a1.receiptRoot, a1.bloom, a1.difficulty, a1.number, a1.limit, a1.used, a1.time, .slice A8 a1.extra.length c9, a1.mix, a1.nonce, a1.tail, a1.baseFee, a1.withdrawals, a1.blobUsed, a1.blobExcess, a1.beacon, a1.requests⟩ : HdrC).C 38) :: (some b15, blk (⟨a0.parent, a0.uncles, a0.coinbase, a0.state, a0.txRoot, a0.receiptRoot, a0.bloom, a0.difficulty, a0.number, a0.limit, a0.used, a0.time, .slice A1 a0.extra.length c2, a0.mix, a0.nonce, a0.tail, a0.baseFee, a0.withdrawals, a0.blobUsed, a0.blobExcess, a0.beacon, a0.requests⟩ : HdrC).C 38) :: ([] ++ N))) ?_ ?_
  ·rintro L21 M22 ⟨e20, e23, e24⟩
   rw [e23, e24]
   clear e23 e24 L21 M22
   clear hq19
   rw [e20] at hf
   clear e20
   try dsimp only at hf
   refine Z1 (Z4 (Z4 ?_))
   obtain ⟨q25, hq26, hf⟩ := Z103 hf
   refine Z120 (fun L' M' => ∃ p27 : Bool, q25 = p27 ∧ L' = [(2, ptr (some b15) 0), (3, ptr (some b16) 0), (77, .bool (p27))] ∧ M' = ((some b16, blk (⟨a1.parent, a1.uncles, a1.coinbase, a1.state, a1.txRoot, a1.receiptRoot, a1.bloom, a1.difficulty, a1.number, a1.limit, a1.used, a1.time, .slice A8 a1.extra.length c9, a1.mix, a1.nonce, a1.tail, a1.baseFee, a1.withdrawals, a1.blobUsed, a1.blobExcess, a1.beacon, a1.requests⟩ : HdrC).C 38) :: (some b15, blk (⟨a0.parent, a0.uncles, a0.coinbase, a0.state, a0.txRoot, a0.receiptRoot, a0.bloom, a0.difficulty, a0.number, a0.limit, a0.used, a0.time, .slice A1 a0.extra.length c2, a0.mix, a0.nonce, a0.tail, a0.baseFee, a0.withdrawals, a0.blobUsed, a0.blobExcess, a0.beacon, a0.requests⟩ : HdrC).C 38) :: ([] ++ N))) ?_ ?_
   ·rintro L29 M30 ⟨p27, e28, e31, e32⟩
    rw [e31, e32]
    clear e31 e32 L29 M30
    clear hq26
    rw [e28] at hf
    clear e28
    try dsimp only at hf
    refine Z1 ?_
    by_cases h33 : p27 = true
    ·replace hf := if_t hf h33
     refine Z13 rfl (h33) (Z4 (Z2 (Z0 (Z5 rfl) rfl (Z6 (Z1 (CW.ret (Z8 ?_)))))))
     have e0 := Zi hf
     subst e0
     refine Z106 (rs := [.tmp 4]) ([.bool false]) ((some b16, blk (⟨a1.parent, a1.uncles, a1.coinbase, a1.state, a1.txRoot, a1.receiptRoot, a1.bloom, a1.difficulty, a1.number, a1.limit, a1.used, a1.time, .slice A8 a1.extra.length c9, a1.mix, a1.nonce, a1.tail, a1.baseFee, a1.withdrawals, a1.blobUsed, a1.blobExcess, a1.beacon, a1.requests⟩ : HdrC).C 38) :: (some b15, blk (⟨a0.parent, a0.uncles, a0.coinbase, a0.state, a0.txRoot, a0.receiptRoot, a0.bloom, a0.difficulty, a0.number, a0.limit, a0.used, a0.time, .slice A1 a0.extra.length c2, a0.mix, a0.nonce, a0.tail, a0.baseFee, a0.withdrawals, a0.blobUsed, a0.blobExcess, a0.beacon, a0.requests⟩ : HdrC).C 38) :: []) rfl ?_ rfl ?_ ?_ _ (.inl rfl)
     ·exact ⟨rfl, trivial⟩
     ·exact rfl
     ·exact (fun w m => m)
    ·replace hf := if_f hf h33
     refine Z14 rfl (Bool.eq_false_iff.2 h33) (CW.skip (Z1 (Z4 (Z4 ?_))))
     obtain ⟨q34, hq35, hf⟩ := Z103 hf
     refine Z120 (fun L' M' => ∃ p36 : Bool, q34 = p36 ∧ L' = [(2, ptr (some b15) 0), (3, ptr (some b16) 0), (131, .bool (p36))] ∧ M' = ((some b16, blk (⟨a1.parent, a1.uncles, a1.coinbase, a1.state, a1.txRoot, a1.receiptRoot, a1.bloom, a1.difficulty, a1.number, a1.limit, a1.used, a1.time, .slice A8 a1.extra.length c9, a1.mix, a1.nonce, a1.tail, a1.baseFee, a1.withdrawals, a1.blobUsed, a1.blobExcess, a1.beacon, a1.requests⟩ : HdrC).C 38) :: (some b15, blk (⟨a0.parent, a0.uncles, a0.coinbase, a0.state, a0.txRoot, a0.receiptRoot, a0.bloom, a0.difficulty, a0.number, a0.limit, a0.used, a0.time, .slice A1 a0.extra.length c2, a0.mix, a0.nonce, a0.tail, a0.baseFee, a0.withdrawals, a0.blobUsed, a0.blobExcess, a0.beacon, a0.requests⟩ : HdrC).C 38) :: ([] ++ N))) ?_ ?_
     ·rintro L38 M39 ⟨p36, e37, e40, e41⟩
      rw [e40, e41]
      clear e40 e41 L38 M39
      clear hq35
      rw [e37] at hf
      clear e37
      try dsimp only at hf
      refine Z1 ?_
      by_cases h42 : p36 = true
      ·replace hf := if_t hf h42
       refine Z13 rfl (h42) (Z4 (Z2 (Z0 (Z5 rfl) rfl (Z6 (Z1 (CW.ret (Z8 ?_)))))))
       have e0 := Zi hf
       subst e0
       refine Z106 (rs := [.tmp 4]) ([.bool false]) ((some b16, blk (⟨a1.parent, a1.uncles, a1.coinbase, a1.state, a1.txRoot, a1.receiptRoot, a1.bloom, a1.difficulty, a1.number, a1.limit, a1.used, a1.time, .slice A8 a1.extra.length c9, a1.mix, a1.nonce, a1.tail, a1.baseFee, a1.withdrawals, a1.blobUsed, a1.blobExcess, a1.beacon, a1.requests⟩ : HdrC).C 38) :: (some b15, blk (⟨a0.parent, a0.uncles, a0.coinbase, a0.state, a0.txRoot, a0.receiptRoot, a0.bloom, a0.difficulty, a0.number, a0.limit, a0.used, a0.time, .slice A1 a0.extra.length c2, a0.mix, a0.nonce, a0.tail, a0.baseFee, a0.withdrawals, a0.blobUsed, a0.blobExcess, a0.beacon, a0.requests⟩ : HdrC).C 38) :: []) rfl ?_ rfl ?_ ?_ _ (.inl rfl)
       ·exact ⟨rfl, trivial⟩
       ·exact rfl
       ·exact (fun w m => m)
      ·replace hf := if_f hf h42
       refine Z14 rfl (Bool.eq_false_iff.2 h42) (CW.skip (Z1 (Z4 ?_)))
       obtain ⟨q43, hq44, hf⟩ := Z103 hf
       refine Z120 (fun L' M' => ∃ p45 : Bool, q43 = p45 ∧ L' = [(4, .bool (p45))] ∧ M' = (([] ++ N))) ?_ ?_
       ·rintro L47 M48 ⟨p45, e46, e49, e50⟩
        rw [e49, e50]
        clear e49 e50 L47 M48
        clear hq44
        rw [e46] at hf
        clear e46
        try dsimp only at hf
        refine Z1 (CW.ret ?_)
        have e0 := Zi hf
        subst e0
        refine Z106 (rs := [.tmp 4]) ([.bool (p45)]) ([]) rfl ?_ rfl ?_ ?_ _ (.inl rfl)
        ·exact ⟨rfl, trivial⟩
        ·exact rfl
        ·exact (fun w m => m)
       ·skip
        refine Z2 (Z0 (Z30 rfl rfl rfl rfl) rfl (Z7 (ptr (some b15) 486) rfl (Z0 (Z114 rfl (List.Mem.tail _ Zh) rfl rfl rfl rfl (HdrC.C_baseFee_all (⟨a0.parent, a0.uncles, a0.coinbase, a0.state, a0.txRoot, a0.receiptRoot, a0.bloom, a0.difficulty, a0.number, a0.limit, a0.used, a0.time, .slice A1 a0.extra.length c2, a0.mix, a0.nonce, a0.tail, a0.baseFee, a0.withdrawals, a0.blobUsed, a0.blobExcess, a0.beacon, a0.requests⟩ : HdrC)) ((Z101 _).trans Zv)) rfl (Z0 (Z30 rfl rfl rfl rfl) rfl (Z7 (ptr (some b16) 486) rfl (Z0 (Z114 rfl Zh rfl rfl rfl rfl (HdrC.C_baseFee_all (⟨a1.parent, a1.uncles, a1.coinbase, a1.state, a1.txRoot, a1.receiptRoot, a1.bloom, a1.difficulty, a1.number, a1.limit, a1.used, a1.time, .slice A8 a1.extra.length c9, a1.mix, a1.nonce, a1.tail, a1.baseFee, a1.withdrawals, a1.blobUsed, a1.blobExcess, a1.beacon, a1.requests⟩ : HdrC)) ((Z101 _).trans Zv)) rfl (Z0 (RV.eqA64 rfl rfl rfl rfl rfl rfl (Zv) (Zv)) rfl ?_)))))))
        refine Z7 (.bool (decide (a0.baseFee = a1.baseFee))) (congrArg Value.bool (decide_eq_decide.2 Vector.toList_inj)) (Z0 (Z3 rfl) rfl ?_)
        by_cases h51 : a0.baseFee = a1.baseFee
        ·replace hq44 := if_t hq44 h51
         refine Z7 (.bool true) (congrArg Value.bool (decide_eq_true h51)) (Z24 rfl (Z0 (Z30 rfl rfl rfl rfl) rfl (Z7 (ptr (some b15) 490) rfl (Z24 rfl (Z0 (Z114 rfl (List.Mem.tail _ Zh) rfl rfl rfl rfl (HdrC.C_withdrawals_all (⟨a0.parent, a0.uncles, a0.coinbase, a0.state, a0.txRoot, a0.receiptRoot, a0.bloom, a0.difficulty, a0.number, a0.limit, a0.used, a0.time, .slice A1 a0.extra.length c2, a0.mix, a0.nonce, a0.tail, a0.baseFee, a0.withdrawals, a0.blobUsed, a0.blobExcess, a0.beacon, a0.requests⟩ : HdrC)) ((Z100 _).trans Zv)) rfl (Z24 rfl (Z0 (Z30 rfl rfl rfl rfl) rfl ?_)))))))
         refine Z7 (ptr (some b16) 490) rfl (Z24 rfl (Z0 (Z114 rfl Zh rfl rfl rfl rfl (HdrC.C_withdrawals_all (⟨a1.parent, a1.uncles, a1.coinbase, a1.state, a1.txRoot, a1.receiptRoot, a1.bloom, a1.difficulty, a1.number, a1.limit, a1.used, a1.time, .slice A8 a1.extra.length c9, a1.mix, a1.nonce, a1.tail, a1.baseFee, a1.withdrawals, a1.blobUsed, a1.blobExcess, a1.beacon, a1.requests⟩ : HdrC)) ((Z100 _).trans Zv)) rfl (Z24 rfl (Z0 (RV.eqA8 rfl rfl rfl rfl rfl rfl (Zv) (Zv)) rfl (Z7 (.bool (decide (a0.withdrawals = a1.withdrawals))) (congrArg Value.bool (decide_eq_decide.2 Vector.toList_inj)) (Z0 (Z108 rfl rfl rfl) rfl (Z0 (Z3 rfl) rfl ?_)))))))
         by_cases h52 : a0.withdrawals = a1.withdrawals
         ·replace hq44 := if_t hq44 h52
          refine Z7 (.bool true) (congrArg Value.bool (decide_eq_true h52)) (Z24 rfl (Z0 (Z30 rfl rfl rfl rfl) rfl (Z7 (ptr (some b15) 522) rfl (Z24 rfl (Z0 (Z29 rfl (List.Mem.tail _ Zh) rfl rfl rfl (HdrC.C_blobUsed (⟨a0.parent, a0.uncles, a0.coinbase, a0.state, a0.txRoot, a0.receiptRoot, a0.bloom, a0.difficulty, a0.number, a0.limit, a0.used, a0.time, .slice A1 a0.extra.length c2, a0.mix, a0.nonce, a0.tail, a0.baseFee, a0.withdrawals, a0.blobUsed, a0.blobExcess, a0.beacon, a0.requests⟩ : HdrC))) rfl (Z24 rfl (Z0 (Z30 rfl rfl rfl rfl) rfl ?_)))))))
          refine Z7 (ptr (some b16) 522) rfl (Z24 rfl (Z0 (Z29 rfl Zh rfl rfl rfl (HdrC.C_blobUsed (⟨a1.parent, a1.uncles, a1.coinbase, a1.state, a1.txRoot, a1.receiptRoot, a1.bloom, a1.difficulty, a1.number, a1.limit, a1.used, a1.time, .slice A8 a1.extra.length c9, a1.mix, a1.nonce, a1.tail, a1.baseFee, a1.withdrawals, a1.blobUsed, a1.blobExcess, a1.beacon, a1.requests⟩ : HdrC))) rfl (Z24 rfl (Z0 (RV.eql64 rfl (by first | rfl | exact lit64 _ rfl) rfl (by first | rfl | exact lit64 _ rfl)) rfl (Z0 (Z108 rfl rfl rfl) rfl (Z0 (Z3 rfl) rfl ?_))))))
          by_cases h53 : a0.blobUsed = a1.blobUsed
          ·replace hq44 := if_t hq44 h53
           refine Z7 (.bool true) (congrArg Value.bool (decide_eq_true h53)) (Z24 rfl (Z0 (Z30 rfl rfl rfl rfl) rfl (Z7 (ptr (some b15) 523) rfl (Z24 rfl (Z0 (Z29 rfl (List.Mem.tail _ Zh) rfl rfl rfl (HdrC.C_blobExcess (⟨a0.parent, a0.uncles, a0.coinbase, a0.state, a0.txRoot, a0.receiptRoot, a0.bloom, a0.difficulty, a0.number, a0.limit, a0.used, a0.time, .slice A1 a0.extra.length c2, a0.mix, a0.nonce, a0.tail, a0.baseFee, a0.withdrawals, a0.blobUsed, a0.blobExcess, a0.beacon, a0.requests⟩ : HdrC))) rfl (Z24 rfl (Z0 (Z30 rfl rfl rfl rfl) rfl ?_)))))))
           refine Z7 (ptr (some b16) 523) rfl (Z24 rfl (Z0 (Z29 rfl Zh rfl rfl rfl (HdrC.C_blobExcess (⟨a1.parent, a1.uncles, a1.coinbase, a1.state, a1.txRoot, a1.receiptRoot, a1.bloom, a1.difficulty, a1.number, a1.limit, a1.used, a1.time, .slice A8 a1.extra.length c9, a1.mix, a1.nonce, a1.tail, a1.baseFee, a1.withdrawals, a1.blobUsed, a1.blobExcess, a1.beacon, a1.requests⟩ : HdrC))) rfl (Z24 rfl (Z0 (RV.eql64 rfl (by first | rfl | exact lit64 _ rfl) rfl (by first | rfl | exact lit64 _ rfl)) rfl (Z0 (Z108 rfl rfl rfl) rfl (Z0 (Z3 rfl) rfl ?_))))))
           by_cases h54 : a0.blobExcess = a1.blobExcess
           ·replace hq44 := if_t hq44 h54
            refine Z7 (.bool true) (congrArg Value.bool (decide_eq_true h54)) (Z24 rfl (Z0 (Z30 rfl rfl rfl rfl) rfl (Z7 (ptr (some b15) 524) rfl (Z24 rfl (Z0 (Z114 rfl (List.Mem.tail _ Zh) rfl rfl rfl rfl (HdrC.C_beacon_all (⟨a0.parent, a0.uncles, a0.coinbase, a0.state, a0.txRoot, a0.receiptRoot, a0.bloom, a0.difficulty, a0.number, a0.limit, a0.used, a0.time, .slice A1 a0.extra.length c2, a0.mix, a0.nonce, a0.tail, a0.baseFee, a0.withdrawals, a0.blobUsed, a0.blobExcess, a0.beacon, a0.requests⟩ : HdrC)) ((Z100 _).trans Zv)) rfl (Z24 rfl (Z0 (Z30 rfl rfl rfl rfl) rfl ?_)))))))
            refine Z7 (ptr (some b16) 524) rfl (Z24 rfl (Z0 (Z114 rfl Zh rfl rfl rfl rfl (HdrC.C_beacon_all (⟨a1.parent, a1.uncles, a1.coinbase, a1.state, a1.txRoot, a1.receiptRoot, a1.bloom, a1.difficulty, a1.number, a1.limit, a1.used, a1.time, .slice A8 a1.extra.length c9, a1.mix, a1.nonce, a1.tail, a1.baseFee, a1.withdrawals, a1.blobUsed, a1.blobExcess, a1.beacon, a1.requests⟩ : HdrC)) ((Z100 _).trans Zv)) rfl (Z24 rfl (Z0 (RV.eqA8 rfl rfl rfl rfl rfl rfl (Zv) (Zv)) rfl (Z7 (.bool (decide (a0.beacon = a1.beacon))) (congrArg Value.bool (decide_eq_decide.2 Vector.toList_inj)) (Z0 (Z108 rfl rfl rfl) rfl (Z0 (Z3 rfl) rfl ?_)))))))
            by_cases h55 : a0.beacon = a1.beacon
            ·replace hq44 := if_t hq44 h55
             refine Z7 (.bool true) (congrArg Value.bool (decide_eq_true h55)) (Z24 rfl (Z0 (Z30 rfl rfl rfl rfl) rfl (Z7 (ptr (some b15) 556) rfl (Z24 rfl (Z0 (Z114 rfl (List.Mem.tail _ Zh) rfl rfl rfl rfl (HdrC.C_requests_all (⟨a0.parent, a0.uncles, a0.coinbase, a0.state, a0.txRoot, a0.receiptRoot, a0.bloom, a0.difficulty, a0.number, a0.limit, a0.used, a0.time, .slice A1 a0.extra.length c2, a0.mix, a0.nonce, a0.tail, a0.baseFee, a0.withdrawals, a0.blobUsed, a0.blobExcess, a0.beacon, a0.requests⟩ : HdrC)) ((Z100 _).trans Zv)) rfl (Z24 rfl (Z0 (Z30 rfl rfl rfl rfl) rfl ?_)))))))
             refine Z7 (ptr (some b16) 556) rfl (Z24 rfl (Z0 (Z114 rfl Zh rfl rfl rfl rfl (HdrC.C_requests_all (⟨a1.parent, a1.uncles, a1.coinbase, a1.state, a1.txRoot, a1.receiptRoot, a1.bloom, a1.difficulty, a1.number, a1.limit, a1.used, a1.time, .slice A8 a1.extra.length c9, a1.mix, a1.nonce, a1.tail, a1.baseFee, a1.withdrawals, a1.blobUsed, a1.blobExcess, a1.beacon, a1.requests⟩ : HdrC)) ((Z100 _).trans Zv)) rfl (Z24 rfl (Z0 (RV.eqA8 rfl rfl rfl rfl rfl rfl (Zv) (Zv)) rfl (Z7 (.bool (decide (a0.requests = a1.requests))) (congrArg Value.bool (decide_eq_decide.2 Vector.toList_inj)) (Z0 (Z108 rfl rfl rfl) rfl (Z0 (Z5 rfl) rfl ?_)))))))
             refine Z6 ?_
             exact QW.join ⟨(decide (a0.requests = a1.requests)), (Zi hq44).symm, rfl, rfl⟩ ⟨rfl, trivial⟩ (fun w m => m.pick [] 2 rfl rfl)
            ·replace hq44 := if_f hq44 h55
             refine Z7 (.bool false) (congrArg Value.bool (decide_eq_false h55)) (Z23 rfl rfl rfl (Z23 rfl rfl rfl (Z23 rfl rfl rfl (Z23 rfl rfl rfl (Z23 rfl rfl rfl (Z0 (Z110 rfl rfl rfl) rfl (Z0 (Z5 rfl) rfl ?_)))))))
             refine Z6 ?_
             exact QW.join ⟨false, (Zi hq44).symm, rfl, rfl⟩ ⟨rfl, trivial⟩ (fun w m => m.pick [] 2 rfl rfl)
           ·replace hq44 := if_f hq44 h54
            refine Z7 (.bool false) (congrArg Value.bool (decide_eq_false h54)) (Z23 rfl rfl rfl (Z23 rfl rfl rfl (Z23 rfl rfl rfl (Z23 rfl rfl rfl (Z23 rfl rfl rfl (Z0 (Z110 rfl rfl rfl) rfl (Z0 (Z3 rfl) rfl ?_)))))))
            refine Z23 rfl rfl rfl (Z23 rfl rfl rfl (Z23 rfl rfl rfl (Z23 rfl rfl rfl (Z23 rfl rfl rfl (Z0 (Z110 rfl rfl rfl) rfl (Z0 (Z5 rfl) rfl (Z6 ?_)))))))
            exact QW.join ⟨false, (Zi hq44).symm, rfl, rfl⟩ ⟨rfl, trivial⟩ (fun w m => m.pick [] 2 rfl rfl)
          ·replace hq44 := if_f hq44 h53
           refine Z7 (.bool false) (congrArg Value.bool (decide_eq_false h53)) (Z23 rfl rfl rfl (Z23 rfl rfl rfl (Z23 rfl rfl rfl (Z23 rfl rfl rfl (Z23 rfl rfl rfl (Z0 (Z110 rfl rfl rfl) rfl (Z0 (Z3 rfl) rfl ?_)))))))
           refine Z23 rfl rfl rfl (Z23 rfl rfl rfl (Z23 rfl rfl rfl (Z23 rfl rfl rfl (Z23 rfl rfl rfl (Z0 (Z110 rfl rfl rfl) rfl (Z0 (Z3 rfl) rfl (Z23 rfl rfl rfl ?_)))))))
           refine Z23 rfl rfl rfl (Z23 rfl rfl rfl (Z23 rfl rfl rfl (Z23 rfl rfl rfl (Z0 (Z110 rfl rfl rfl) rfl (Z0 (Z5 rfl) rfl (Z6 ?_))))))
           exact QW.join ⟨false, (Zi hq44).symm, rfl, rfl⟩ ⟨rfl, trivial⟩ (fun w m => m.pick [] 2 rfl rfl)
         ·replace hq44 := if_f hq44 h52
          refine Z7 (.bool false) (congrArg Value.bool (decide_eq_false h52)) (Z23 rfl rfl rfl (Z23 rfl rfl rfl (Z23 rfl rfl rfl (Z23 rfl rfl rfl (Z23 rfl rfl rfl (Z0 (Z110 rfl rfl rfl) rfl (Z0 (Z3 rfl) rfl ?_)))))))
          refine Z23 rfl rfl rfl (Z23 rfl rfl rfl (Z23 rfl rfl rfl (Z23 rfl rfl rfl (Z23 rfl rfl rfl (Z0 (Z110 rfl rfl rfl) rfl (Z0 (Z3 rfl) rfl (Z23 rfl rfl rfl ?_)))))))
          refine Z23 rfl rfl rfl (Z23 rfl rfl rfl (Z23 rfl rfl rfl (Z23 rfl rfl rfl (Z0 (Z110 rfl rfl rfl) rfl (Z0 (Z3 rfl) rfl (Z23 rfl rfl rfl (Z23 rfl rfl rfl ?_)))))))
          refine Z23 rfl rfl rfl (Z23 rfl rfl rfl (Z23 rfl rfl rfl (Z0 (Z110 rfl rfl rfl) rfl (Z0 (Z5 rfl) rfl (Z6 ?_)))))
          exact QW.join ⟨false, (Zi hq44).symm, rfl, rfl⟩ ⟨rfl, trivial⟩ (fun w m => m.pick [] 2 rfl rfl)
        ·replace hq44 := if_f hq44 h51
         refine Z7 (.bool false) (congrArg Value.bool (decide_eq_false h51)) (Z23 rfl rfl rfl (Z23 rfl rfl rfl (Z23 rfl rfl rfl (Z23 rfl rfl rfl (Z23 rfl rfl rfl (Z0 (Z110 rfl rfl rfl) rfl (Z0 (Z3 rfl) rfl ?_)))))))
         refine Z23 rfl rfl rfl (Z23 rfl rfl rfl (Z23 rfl rfl rfl (Z23 rfl rfl rfl (Z23 rfl rfl rfl (Z0 (Z110 rfl rfl rfl) rfl (Z0 (Z3 rfl) rfl (Z23 rfl rfl rfl ?_)))))))
         refine Z23 rfl rfl rfl (Z23 rfl rfl rfl (Z23 rfl rfl rfl (Z23 rfl rfl rfl (Z0 (Z110 rfl rfl rfl) rfl (Z0 (Z3 rfl) rfl (Z23 rfl rfl rfl (Z23 rfl rfl rfl ?_)))))))
         refine Z23 rfl rfl rfl (Z23 rfl rfl rfl (Z23 rfl rfl rfl (Z0 (Z110 rfl rfl rfl) rfl (Z0 (Z3 rfl) rfl (Z23 rfl rfl rfl (Z23 rfl rfl rfl (Z23 rfl rfl rfl ?_)))))))
         refine Z23 rfl rfl rfl (Z23 rfl rfl rfl (Z0 (Z110 rfl rfl rfl) rfl (Z0 (Z5 rfl) rfl (Z6 ?_))))
         exact QW.join ⟨false, (Zi hq44).symm, rfl, rfl⟩ ⟨rfl, trivial⟩ (fun w m => m.pick [] 2 rfl rfl)
     ·skip
      refine Z2 (Z0 (Z30 rfl rfl rfl rfl) rfl (Z7 (ptr (some b15) 436) rfl (Z0 (Z114 rfl (List.Mem.tail _ Zh) rfl rfl rfl rfl (HdrC.C_difficulty_all (⟨a0.parent, a0.uncles, a0.coinbase, a0.state, a0.txRoot, a0.receiptRoot, a0.bloom, a0.difficulty, a0.number, a0.limit, a0.used, a0.time, .slice A1 a0.extra.length c2, a0.mix, a0.nonce, a0.tail, a0.baseFee, a0.withdrawals, a0.blobUsed, a0.blobExcess, a0.beacon, a0.requests⟩ : HdrC)) ((Z101 _).trans Zv)) rfl (Z0 (Z30 rfl rfl rfl rfl) rfl (Z7 (ptr (some b16) 436) rfl (Z0 (Z114 rfl Zh rfl rfl rfl rfl (HdrC.C_difficulty_all (⟨a1.parent, a1.uncles, a1.coinbase, a1.state, a1.txRoot, a1.receiptRoot, a1.bloom, a1.difficulty, a1.number, a1.limit, a1.used, a1.time, .slice A8 a1.extra.length c9, a1.mix, a1.nonce, a1.tail, a1.baseFee, a1.withdrawals, a1.blobUsed, a1.blobExcess, a1.beacon, a1.requests⟩ : HdrC)) ((Z101 _).trans Zv)) rfl (Z0 (RV.neA64 rfl rfl rfl rfl rfl rfl (Zv) (Zv)) rfl ?_)))))))
      refine Z7 (.bool (!decide (a0.difficulty = a1.difficulty))) (congrArg (fun b => Value.bool (!b)) (decide_eq_decide.2 Vector.toList_inj)) (Z0 (Z3 rfl) rfl ?_)
      by_cases h56 : a0.difficulty = a1.difficulty
      ·replace hq35 := if_t hq35 h56
       refine Z7 (.bool false) (congrArg Value.bool (congrArg (fun b => !b) (decide_eq_true h56))) (Z24 rfl (Z0 (Z30 rfl rfl rfl rfl) rfl (Z7 (ptr (some b15) 440) rfl (Z24 rfl (Z0 (Z29 rfl (List.Mem.tail _ Zh) rfl rfl rfl (HdrC.C_number (⟨a0.parent, a0.uncles, a0.coinbase, a0.state, a0.txRoot, a0.receiptRoot, a0.bloom, a0.difficulty, a0.number, a0.limit, a0.used, a0.time, .slice A1 a0.extra.length c2, a0.mix, a0.nonce, a0.tail, a0.baseFee, a0.withdrawals, a0.blobUsed, a0.blobExcess, a0.beacon, a0.requests⟩ : HdrC))) rfl (Z24 rfl (Z0 (Z30 rfl rfl rfl rfl) rfl ?_)))))))
       refine Z7 (ptr (some b16) 440) rfl (Z24 rfl (Z0 (Z29 rfl Zh rfl rfl rfl (HdrC.C_number (⟨a1.parent, a1.uncles, a1.coinbase, a1.state, a1.txRoot, a1.receiptRoot, a1.bloom, a1.difficulty, a1.number, a1.limit, a1.used, a1.time, .slice A8 a1.extra.length c9, a1.mix, a1.nonce, a1.tail, a1.baseFee, a1.withdrawals, a1.blobUsed, a1.blobExcess, a1.beacon, a1.requests⟩ : HdrC))) rfl (Z24 rfl (Z0 (RV.neq64 rfl (by first | rfl | exact lit64 _ rfl) rfl (by first | rfl | exact lit64 _ rfl)) rfl (Z0 (Z110 rfl rfl rfl) rfl (Z0 (Z3 rfl) rfl ?_))))))
       by_cases h57 : a0.number = a1.number
       ·replace hq35 := if_t hq35 h57
        refine Z7 (.bool false) (congrArg Value.bool (congrArg (fun b => !b) (decide_eq_true h57))) (Z24 rfl (Z0 (Z30 rfl rfl rfl rfl) rfl (Z7 (ptr (some b15) 441) rfl (Z24 rfl (Z0 (Z29 rfl (List.Mem.tail _ Zh) rfl rfl rfl (HdrC.C_limit (⟨a0.parent, a0.uncles, a0.coinbase, a0.state, a0.txRoot, a0.receiptRoot, a0.bloom, a0.difficulty, a0.number, a0.limit, a0.used, a0.time, .slice A1 a0.extra.length c2, a0.mix, a0.nonce, a0.tail, a0.baseFee, a0.withdrawals, a0.blobUsed, a0.blobExcess, a0.beacon, a0.requests⟩ : HdrC))) rfl (Z24 rfl (Z0 (Z30 rfl rfl rfl rfl) rfl ?_)))))))
        refine Z7 (ptr (some b16) 441) rfl (Z24 rfl (Z0 (Z29 rfl Zh rfl rfl rfl (HdrC.C_limit (⟨a1.parent, a1.uncles, a1.coinbase, a1.state, a1.txRoot, a1.receiptRoot, a1.bloom, a1.difficulty, a1.number, a1.limit, a1.used, a1.time, .slice A8 a1.extra.length c9, a1.mix, a1.nonce, a1.tail, a1.baseFee, a1.withdrawals, a1.blobUsed, a1.blobExcess, a1.beacon, a1.requests⟩ : HdrC))) rfl (Z24 rfl (Z0 (RV.neq64 rfl (by first | rfl | exact lit64 _ rfl) rfl (by first | rfl | exact lit64 _ rfl)) rfl (Z0 (Z110 rfl rfl rfl) rfl (Z0 (Z3 rfl) rfl ?_))))))
        by_cases h58 : a0.limit = a1.limit
        ·replace hq35 := if_t hq35 h58
         refine Z7 (.bool false) (congrArg Value.bool (congrArg (fun b => !b) (decide_eq_true h58))) (Z24 rfl (Z0 (Z30 rfl rfl rfl rfl) rfl (Z7 (ptr (some b15) 442) rfl (Z24 rfl (Z0 (Z29 rfl (List.Mem.tail _ Zh) rfl rfl rfl (HdrC.C_used (⟨a0.parent, a0.uncles, a0.coinbase, a0.state, a0.txRoot, a0.receiptRoot, a0.bloom, a0.difficulty, a0.number, a0.limit, a0.used, a0.time, .slice A1 a0.extra.length c2, a0.mix, a0.nonce, a0.tail, a0.baseFee, a0.withdrawals, a0.blobUsed, a0.blobExcess, a0.beacon, a0.requests⟩ : HdrC))) rfl (Z24 rfl (Z0 (Z30 rfl rfl rfl rfl) rfl ?_)))))))
         refine Z7 (ptr (some b16) 442) rfl (Z24 rfl (Z0 (Z29 rfl Zh rfl rfl rfl (HdrC.C_used (⟨a1.parent, a1.uncles, a1.coinbase, a1.state, a1.txRoot, a1.receiptRoot, a1.bloom, a1.difficulty, a1.number, a1.limit, a1.used, a1.time, .slice A8 a1.extra.length c9, a1.mix, a1.nonce, a1.tail, a1.baseFee, a1.withdrawals, a1.blobUsed, a1.blobExcess, a1.beacon, a1.requests⟩ : HdrC))) rfl (Z24 rfl (Z0 (RV.neq64 rfl (by first | rfl | exact lit64 _ rfl) rfl (by first | rfl | exact lit64 _ rfl)) rfl (Z0 (Z110 rfl rfl rfl) rfl (Z0 (Z3 rfl) rfl ?_))))))
         by_cases h59 : a0.used = a1.used
         ·replace hq35 := if_t hq35 h59
          refine Z7 (.bool false) (congrArg Value.bool (congrArg (fun b => !b) (decide_eq_true h59))) (Z24 rfl (Z0 (Z30 rfl rfl rfl rfl) rfl (Z7 (ptr (some b15) 443) rfl (Z24 rfl (Z0 (Z29 rfl (List.Mem.tail _ Zh) rfl rfl rfl (HdrC.C_time (⟨a0.parent, a0.uncles, a0.coinbase, a0.state, a0.txRoot, a0.receiptRoot, a0.bloom, a0.difficulty, a0.number, a0.limit, a0.used, a0.time, .slice A1 a0.extra.length c2, a0.mix, a0.nonce, a0.tail, a0.baseFee, a0.withdrawals, a0.blobUsed, a0.blobExcess, a0.beacon, a0.requests⟩ : HdrC))) rfl (Z24 rfl (Z0 (Z30 rfl rfl rfl rfl) rfl ?_)))))))
          refine Z7 (ptr (some b16) 443) rfl (Z24 rfl (Z0 (Z29 rfl Zh rfl rfl rfl (HdrC.C_time (⟨a1.parent, a1.uncles, a1.coinbase, a1.state, a1.txRoot, a1.receiptRoot, a1.bloom, a1.difficulty, a1.number, a1.limit, a1.used, a1.time, .slice A8 a1.extra.length c9, a1.mix, a1.nonce, a1.tail, a1.baseFee, a1.withdrawals, a1.blobUsed, a1.blobExcess, a1.beacon, a1.requests⟩ : HdrC))) rfl (Z24 rfl (Z0 (RV.neq64 rfl (by first | rfl | exact lit64 _ rfl) rfl (by first | rfl | exact lit64 _ rfl)) rfl (Z0 (Z110 rfl rfl rfl) rfl (Z0 (Z3 rfl) rfl ?_))))))
          by_cases h60 : a0.time = a1.time
          ·replace hq35 := if_t hq35 h60
           refine Z7 (.bool false) (congrArg Value.bool (congrArg (fun b => !b) (decide_eq_true h60))) (Z24 rfl (Z0 (Z30 rfl rfl rfl rfl) rfl (Z7 (ptr (some b15) 445) rfl (Z24 rfl (Z0 (Z114 rfl (List.Mem.tail _ Zh) rfl rfl rfl rfl (HdrC.C_mix_all (⟨a0.parent, a0.uncles, a0.coinbase, a0.state, a0.txRoot, a0.receiptRoot, a0.bloom, a0.difficulty, a0.number, a0.limit, a0.used, a0.time, .slice A1 a0.extra.length c2, a0.mix, a0.nonce, a0.tail, a0.baseFee, a0.withdrawals, a0.blobUsed, a0.blobExcess, a0.beacon, a0.requests⟩ : HdrC)) ((Z100 _).trans Zv)) rfl (Z24 rfl (Z0 (Z30 rfl rfl rfl rfl) rfl ?_)))))))
           refine Z7 (ptr (some b16) 445) rfl (Z24 rfl (Z0 (Z114 rfl Zh rfl rfl rfl rfl (HdrC.C_mix_all (⟨a1.parent, a1.uncles, a1.coinbase, a1.state, a1.txRoot, a1.receiptRoot, a1.bloom, a1.difficulty, a1.number, a1.limit, a1.used, a1.time, .slice A8 a1.extra.length c9, a1.mix, a1.nonce, a1.tail, a1.baseFee, a1.withdrawals, a1.blobUsed, a1.blobExcess, a1.beacon, a1.requests⟩ : HdrC)) ((Z100 _).trans Zv)) rfl (Z24 rfl (Z0 (RV.neA8 rfl rfl rfl rfl rfl rfl (Zv) (Zv)) rfl (Z7 (.bool (!decide (a0.mix = a1.mix))) (congrArg (fun b => Value.bool (!b)) (decide_eq_decide.2 Vector.toList_inj)) (Z0 (Z110 rfl rfl rfl) rfl (Z0 (Z3 rfl) rfl ?_)))))))
           by_cases h61 : a0.mix = a1.mix
           ·replace hq35 := if_t hq35 h61
            refine Z7 (.bool false) (congrArg Value.bool (congrArg (fun b => !b) (decide_eq_true h61))) (Z24 rfl (Z0 (Z30 rfl rfl rfl rfl) rfl (Z7 (ptr (some b15) 477) rfl (Z24 rfl (Z0 (Z114 rfl (List.Mem.tail _ Zh) rfl rfl rfl rfl (HdrC.C_nonce_all (⟨a0.parent, a0.uncles, a0.coinbase, a0.state, a0.txRoot, a0.receiptRoot, a0.bloom, a0.difficulty, a0.number, a0.limit, a0.used, a0.time, .slice A1 a0.extra.length c2, a0.mix, a0.nonce, a0.tail, a0.baseFee, a0.withdrawals, a0.blobUsed, a0.blobExcess, a0.beacon, a0.requests⟩ : HdrC)) ((Z100 _).trans Zv)) rfl (Z24 rfl (Z0 (Z30 rfl rfl rfl rfl) rfl ?_)))))))
            refine Z7 (ptr (some b16) 477) rfl (Z24 rfl (Z0 (Z114 rfl Zh rfl rfl rfl rfl (HdrC.C_nonce_all (⟨a1.parent, a1.uncles, a1.coinbase, a1.state, a1.txRoot, a1.receiptRoot, a1.bloom, a1.difficulty, a1.number, a1.limit, a1.used, a1.time, .slice A8 a1.extra.length c9, a1.mix, a1.nonce, a1.tail, a1.baseFee, a1.withdrawals, a1.blobUsed, a1.blobExcess, a1.beacon, a1.requests⟩ : HdrC)) ((Z100 _).trans Zv)) rfl (Z24 rfl (Z0 (RV.neA8 rfl rfl rfl rfl rfl rfl (Zv) (Zv)) rfl (Z7 (.bool (!decide (a0.nonce = a1.nonce))) (congrArg (fun b => Value.bool (!b)) (decide_eq_decide.2 Vector.toList_inj)) (Z0 (Z110 rfl rfl rfl) rfl (Z0 (Z3 rfl) rfl ?_)))))))
            by_cases h62 : a0.nonce = a1.nonce
            ·replace hq35 := if_t hq35 h62
             refine Z7 (.bool false) (congrArg Value.bool (congrArg (fun b => !b) (decide_eq_true h62))) (Z24 rfl (Z0 (Z30 rfl rfl rfl rfl) rfl (Z7 (ptr (some b15) 485) rfl (Z24 rfl (Z0 (Z29 rfl (List.Mem.tail _ Zh) rfl rfl rfl (Z143 (⟨a0.parent, a0.uncles, a0.coinbase, a0.state, a0.txRoot, a0.receiptRoot, a0.bloom, a0.difficulty, a0.number, a0.limit, a0.used, a0.time, .slice A1 a0.extra.length c2, a0.mix, a0.nonce, a0.tail, a0.baseFee, a0.withdrawals, a0.blobUsed, a0.blobExcess, a0.beacon, a0.requests⟩ : HdrC))) rfl (Z24 rfl (Z0 (Z30 rfl rfl rfl rfl) rfl ?_)))))))
             refine Z7 (ptr (some b16) 485) rfl (Z24 rfl (Z0 (Z29 rfl Zh rfl rfl rfl (Z143 (⟨a1.parent, a1.uncles, a1.coinbase, a1.state, a1.txRoot, a1.receiptRoot, a1.bloom, a1.difficulty, a1.number, a1.limit, a1.used, a1.time, .slice A8 a1.extra.length c9, a1.mix, a1.nonce, a1.tail, a1.baseFee, a1.withdrawals, a1.blobUsed, a1.blobExcess, a1.beacon, a1.requests⟩ : HdrC))) rfl (Z24 rfl (Z0 (RV.neq rfl rfl) rfl (Z0 (Z110 rfl rfl rfl) rfl (Z6 ?_))))))
             exact QW.join ⟨(!decide (a0.tail = a1.tail)), (Zi hq35).symm, rfl, rfl⟩ ⟨rfl, rfl, rfl, trivial⟩ (fun w m => m.pick [0, 1] 2 rfl rfl)
            ·replace hq35 := if_f hq35 h62
             refine Z7 (.bool true) (congrArg Value.bool (congrArg (fun b => !b) (decide_eq_false h62))) (Z23 rfl rfl rfl (Z23 rfl rfl rfl (Z23 rfl rfl rfl (Z23 rfl rfl rfl (Z23 rfl rfl rfl (Z0 (Z108 rfl rfl rfl) rfl (Z6 ?_)))))))
             exact QW.join ⟨true, (Zi hq35).symm, rfl, rfl⟩ ⟨rfl, rfl, rfl, trivial⟩ (fun w m => m.pick [0, 1] 2 rfl rfl)
           ·replace hq35 := if_f hq35 h61
            refine Z7 (.bool true) (congrArg Value.bool (congrArg (fun b => !b) (decide_eq_false h61))) (Z23 rfl rfl rfl (Z23 rfl rfl rfl (Z23 rfl rfl rfl (Z23 rfl rfl rfl (Z23 rfl rfl rfl (Z0 (Z108 rfl rfl rfl) rfl (Z0 (Z3 rfl) rfl ?_)))))))
            refine Z23 rfl rfl rfl (Z23 rfl rfl rfl (Z23 rfl rfl rfl (Z23 rfl rfl rfl (Z23 rfl rfl rfl (Z0 (Z108 rfl rfl rfl) rfl (Z6 ?_))))))
            exact QW.join ⟨true, (Zi hq35).symm, rfl, rfl⟩ ⟨rfl, rfl, rfl, trivial⟩ (fun w m => m.pick [0, 1] 2 rfl rfl)
          ·replace hq35 := if_f hq35 h60
           refine Z7 (.bool true) (congrArg Value.bool (congrArg (fun b => !b) (decide_eq_false h60))) (Z23 rfl rfl rfl (Z23 rfl rfl rfl (Z23 rfl rfl rfl (Z23 rfl rfl rfl (Z23 rfl rfl rfl (Z0 (Z108 rfl rfl rfl) rfl (Z0 (Z3 rfl) rfl ?_)))))))
           refine Z23 rfl rfl rfl (Z23 rfl rfl rfl (Z23 rfl rfl rfl (Z23 rfl rfl rfl (Z23 rfl rfl rfl (Z0 (Z108 rfl rfl rfl) rfl (Z0 (Z3 rfl) rfl (Z23 rfl rfl rfl ?_)))))))
           refine Z23 rfl rfl rfl (Z23 rfl rfl rfl (Z23 rfl rfl rfl (Z23 rfl rfl rfl (Z0 (Z108 rfl rfl rfl) rfl (Z6 ?_)))))
           exact QW.join ⟨true, (Zi hq35).symm, rfl, rfl⟩ ⟨rfl, rfl, rfl, trivial⟩ (fun w m => m.pick [0, 1] 2 rfl rfl)
         ·replace hq35 := if_f hq35 h59
          refine Z7 (.bool true) (congrArg Value.bool (congrArg (fun b => !b) (decide_eq_false h59))) (Z23 rfl rfl rfl (Z23 rfl rfl rfl (Z23 rfl rfl rfl (Z23 rfl rfl rfl (Z23 rfl rfl rfl (Z0 (Z108 rfl rfl rfl) rfl (Z0 (Z3 rfl) rfl ?_)))))))
          refine Z23 rfl rfl rfl (Z23 rfl rfl rfl (Z23 rfl rfl rfl (Z23 rfl rfl rfl (Z23 rfl rfl rfl (Z0 (Z108 rfl rfl rfl) rfl (Z0 (Z3 rfl) rfl (Z23 rfl rfl rfl ?_)))))))
          refine Z23 rfl rfl rfl (Z23 rfl rfl rfl (Z23 rfl rfl rfl (Z23 rfl rfl rfl (Z0 (Z108 rfl rfl rfl) rfl (Z0 (Z3 rfl) rfl (Z23 rfl rfl rfl (Z23 rfl rfl rfl ?_)))))))
          refine Z23 rfl rfl rfl (Z23 rfl rfl rfl (Z23 rfl rfl rfl (Z0 (Z108 rfl rfl rfl) rfl (Z6 ?_))))
          exact QW.join ⟨true, (Zi hq35).symm, rfl, rfl⟩ ⟨rfl, rfl, rfl, trivial⟩ (fun w m => m.pick [0, 1] 2 rfl rfl)
        ·replace hq35 := if_f hq35 h58
         refine Z7 (.bool true) (congrArg Value.bool (congrArg (fun b => !b) (decide_eq_false h58))) (Z23 rfl rfl rfl (Z23 rfl rfl rfl (Z23 rfl rfl rfl (Z23 rfl rfl rfl (Z23 rfl rfl rfl (Z0 (Z108 rfl rfl rfl) rfl (Z0 (Z3 rfl) rfl ?_)))))))
         refine Z23 rfl rfl rfl (Z23 rfl rfl rfl (Z23 rfl rfl rfl (Z23 rfl rfl rfl (Z23 rfl rfl rfl (Z0 (Z108 rfl rfl rfl) rfl (Z0 (Z3 rfl) rfl (Z23 rfl rfl rfl ?_)))))))
         refine Z23 rfl rfl rfl (Z23 rfl rfl rfl (Z23 rfl rfl rfl (Z23 rfl rfl rfl (Z0 (Z108 rfl rfl rfl) rfl (Z0 (Z3 rfl) rfl (Z23 rfl rfl rfl (Z23 rfl rfl rfl ?_)))))))
         refine Z23 rfl rfl rfl (Z23 rfl rfl rfl (Z23 rfl rfl rfl (Z0 (Z108 rfl rfl rfl) rfl (Z0 (Z3 rfl) rfl (Z23 rfl rfl rfl (Z23 rfl rfl rfl (Z23 rfl rfl rfl ?_)))))))
         refine Z23 rfl rfl rfl (Z23 rfl rfl rfl (Z0 (Z108 rfl rfl rfl) rfl (Z6 ?_)))
         exact QW.join ⟨true, (Zi hq35).symm, rfl, rfl⟩ ⟨rfl, rfl, rfl, trivial⟩ (fun w m => m.pick [0, 1] 2 rfl rfl)
       ·replace hq35 := if_f hq35 h57
        refine Z7 (.bool true) (congrArg Value.bool (congrArg (fun b => !b) (decide_eq_false h57))) (Z23 rfl rfl rfl (Z23 rfl rfl rfl (Z23 rfl rfl rfl (Z23 rfl rfl rfl (Z23 rfl rfl rfl (Z0 (Z108 rfl rfl rfl) rfl (Z0 (Z3 rfl) rfl ?_)))))))
        refine Z23 rfl rfl rfl (Z23 rfl rfl rfl (Z23 rfl rfl rfl (Z23 rfl rfl rfl (Z23 rfl rfl rfl (Z0 (Z108 rfl rfl rfl) rfl (Z0 (Z3 rfl) rfl (Z23 rfl rfl rfl ?_)))))))
        refine Z23 rfl rfl rfl (Z23 rfl rfl rfl (Z23 rfl rfl rfl (Z23 rfl rfl rfl (Z0 (Z108 rfl rfl rfl) rfl (Z0 (Z3 rfl) rfl (Z23 rfl rfl rfl (Z23 rfl rfl rfl ?_)))))))
        refine Z23 rfl rfl rfl (Z23 rfl rfl rfl (Z23 rfl rfl rfl (Z0 (Z108 rfl rfl rfl) rfl (Z0 (Z3 rfl) rfl (Z23 rfl rfl rfl (Z23 rfl rfl rfl (Z23 rfl rfl rfl ?_)))))))
        refine Z23 rfl rfl rfl (Z23 rfl rfl rfl (Z0 (Z108 rfl rfl rfl) rfl (Z0 (Z3 rfl) rfl (Z23 rfl rfl rfl (Z23 rfl rfl rfl (Z23 rfl rfl rfl (Z23 rfl rfl rfl ?_)))))))
        refine Z23 rfl rfl rfl (Z0 (Z108 rfl rfl rfl) rfl (Z6 ?_))
        exact QW.join ⟨true, (Zi hq35).symm, rfl, rfl⟩ ⟨rfl, rfl, rfl, trivial⟩ (fun w m => m.pick [0, 1] 2 rfl rfl)
      ·replace hq35 := if_f hq35 h56
       refine Z7 (.bool true) (congrArg Value.bool (congrArg (fun b => !b) (decide_eq_false h56))) (Z23 rfl rfl rfl (Z23 rfl rfl rfl (Z23 rfl rfl rfl (Z23 rfl rfl rfl (Z23 rfl rfl rfl (Z0 (Z108 rfl rfl rfl) rfl (Z0 (Z3 rfl) rfl ?_)))))))
       refine Z23 rfl rfl rfl (Z23 rfl rfl rfl (Z23 rfl rfl rfl (Z23 rfl rfl rfl (Z23 rfl rfl rfl (Z0 (Z108 rfl rfl rfl) rfl (Z0 (Z3 rfl) rfl (Z23 rfl rfl rfl ?_)))))))
       refine Z23 rfl rfl rfl (Z23 rfl rfl rfl (Z23 rfl rfl rfl (Z23 rfl rfl rfl (Z0 (Z108 rfl rfl rfl) rfl (Z0 (Z3 rfl) rfl (Z23 rfl rfl rfl (Z23 rfl rfl rfl ?_)))))))
       refine Z23 rfl rfl rfl (Z23 rfl rfl rfl (Z23 rfl rfl rfl (Z0 (Z108 rfl rfl rfl) rfl (Z0 (Z3 rfl) rfl (Z23 rfl rfl rfl (Z23 rfl rfl rfl (Z23 rfl rfl rfl ?_)))))))
       refine Z23 rfl rfl rfl (Z23 rfl rfl rfl (Z0 (Z108 rfl rfl rfl) rfl (Z0 (Z3 rfl) rfl (Z23 rfl rfl rfl (Z23 rfl rfl rfl (Z23 rfl rfl rfl (Z23 rfl rfl rfl ?_)))))))
       refine Z23 rfl rfl rfl (Z0 (Z108 rfl rfl rfl) rfl (Z0 (Z3 rfl) rfl (Z23 rfl rfl rfl (Z23 rfl rfl rfl (Z23 rfl rfl rfl (Z23 rfl rfl rfl (Z23 rfl rfl rfl ?_)))))))
       refine Z0 (Z108 rfl rfl rfl) rfl (Z6 ?_)
       exact QW.join ⟨true, (Zi hq35).symm, rfl, rfl⟩ ⟨rfl, rfl, rfl, trivial⟩ (fun w m => m.pick [0, 1] 2 rfl rfl)
   ·skip
    refine Z2 (Z0 (Z30 rfl rfl rfl rfl) rfl (Z7 (ptr (some b15) 0) rfl (Z0 (Z114 rfl (List.Mem.tail _ Zh) rfl rfl rfl rfl (HdrC.C_parent_all (⟨a0.parent, a0.uncles, a0.coinbase, a0.state, a0.txRoot, a0.receiptRoot, a0.bloom, a0.difficulty, a0.number, a0.limit, a0.used, a0.time, .slice A1 a0.extra.length c2, a0.mix, a0.nonce, a0.tail, a0.baseFee, a0.withdrawals, a0.blobUsed, a0.blobExcess, a0.beacon, a0.requests⟩ : HdrC)) ((Z100 _).trans Zv)) rfl (Z0 (Z30 rfl rfl rfl rfl) rfl (Z7 (ptr (some b16) 0) rfl (Z0 (Z114 rfl Zh rfl rfl rfl rfl (HdrC.C_parent_all (⟨a1.parent, a1.uncles, a1.coinbase, a1.state, a1.txRoot, a1.receiptRoot, a1.bloom, a1.difficulty, a1.number, a1.limit, a1.used, a1.time, .slice A8 a1.extra.length c9, a1.mix, a1.nonce, a1.tail, a1.baseFee, a1.withdrawals, a1.blobUsed, a1.blobExcess, a1.beacon, a1.requests⟩ : HdrC)) ((Z100 _).trans Zv)) rfl (Z0 (RV.neA8 rfl rfl rfl rfl rfl rfl (Zv) (Zv)) rfl ?_)))))))
    refine Z7 (.bool (!decide (a0.parent = a1.parent))) (congrArg (fun b => Value.bool (!b)) (decide_eq_decide.2 Vector.toList_inj)) (Z0 (Z3 rfl) rfl ?_)
    by_cases h63 : a0.parent = a1.parent
    ·replace hq26 := if_t hq26 h63
     refine Z7 (.bool false) (congrArg Value.bool (congrArg (fun b => !b) (decide_eq_true h63))) (Z24 rfl (Z0 (Z30 rfl rfl rfl rfl) rfl (Z7 (ptr (some b15) 32) rfl (Z24 rfl (Z0 (Z114 rfl (List.Mem.tail _ Zh) rfl rfl rfl rfl (HdrC.C_uncles_all (⟨a0.parent, a0.uncles, a0.coinbase, a0.state, a0.txRoot, a0.receiptRoot, a0.bloom, a0.difficulty, a0.number, a0.limit, a0.used, a0.time, .slice A1 a0.extra.length c2, a0.mix, a0.nonce, a0.tail, a0.baseFee, a0.withdrawals, a0.blobUsed, a0.blobExcess, a0.beacon, a0.requests⟩ : HdrC)) ((Z100 _).trans Zv)) rfl (Z24 rfl (Z0 (Z30 rfl rfl rfl rfl) rfl ?_)))))))
     refine Z7 (ptr (some b16) 32) rfl (Z24 rfl (Z0 (Z114 rfl Zh rfl rfl rfl rfl (HdrC.C_uncles_all (⟨a1.parent, a1.uncles, a1.coinbase, a1.state, a1.txRoot, a1.receiptRoot, a1.bloom, a1.difficulty, a1.number, a1.limit, a1.used, a1.time, .slice A8 a1.extra.length c9, a1.mix, a1.nonce, a1.tail, a1.baseFee, a1.withdrawals, a1.blobUsed, a1.blobExcess, a1.beacon, a1.requests⟩ : HdrC)) ((Z100 _).trans Zv)) rfl (Z24 rfl (Z0 (RV.neA8 rfl rfl rfl rfl rfl rfl (Zv) (Zv)) rfl (Z7 (.bool (!decide (a0.uncles = a1.uncles))) (congrArg (fun b => Value.bool (!b)) (decide_eq_decide.2 Vector.toList_inj)) (Z0 (Z110 rfl rfl rfl) rfl (Z0 (Z3 rfl) rfl ?_)))))))
     by_cases h64 : a0.uncles = a1.uncles
     ·replace hq26 := if_t hq26 h64
      refine Z7 (.bool false) (congrArg Value.bool (congrArg (fun b => !b) (decide_eq_true h64))) (Z24 rfl (Z0 (Z30 rfl rfl rfl rfl) rfl (Z7 (ptr (some b15) 64) rfl (Z24 rfl (Z0 (Z114 rfl (List.Mem.tail _ Zh) rfl rfl rfl rfl (HdrC.C_coinbase_all (⟨a0.parent, a0.uncles, a0.coinbase, a0.state, a0.txRoot, a0.receiptRoot, a0.bloom, a0.difficulty, a0.number, a0.limit, a0.used, a0.time, .slice A1 a0.extra.length c2, a0.mix, a0.nonce, a0.tail, a0.baseFee, a0.withdrawals, a0.blobUsed, a0.blobExcess, a0.beacon, a0.requests⟩ : HdrC)) ((Z100 _).trans Zv)) rfl (Z24 rfl (Z0 (Z30 rfl rfl rfl rfl) rfl ?_)))))))
      refine Z7 (ptr (some b16) 64) rfl (Z24 rfl (Z0 (Z114 rfl Zh rfl rfl rfl rfl (HdrC.C_coinbase_all (⟨a1.parent, a1.uncles, a1.coinbase, a1.state, a1.txRoot, a1.receiptRoot, a1.bloom, a1.difficulty, a1.number, a1.limit, a1.used, a1.time, .slice A8 a1.extra.length c9, a1.mix, a1.nonce, a1.tail, a1.baseFee, a1.withdrawals, a1.blobUsed, a1.blobExcess, a1.beacon, a1.requests⟩ : HdrC)) ((Z100 _).trans Zv)) rfl (Z24 rfl (Z0 (RV.neA8 rfl rfl rfl rfl rfl rfl (Zv) (Zv)) rfl (Z7 (.bool (!decide (a0.coinbase = a1.coinbase))) (congrArg (fun b => Value.bool (!b)) (decide_eq_decide.2 Vector.toList_inj)) (Z0 (Z110 rfl rfl rfl) rfl (Z0 (Z3 rfl) rfl ?_)))))))
      by_cases h65 : a0.coinbase = a1.coinbase
      ·replace hq26 := if_t hq26 h65
       refine Z7 (.bool false) (congrArg Value.bool (congrArg (fun b => !b) (decide_eq_true h65))) (Z24 rfl (Z0 (Z30 rfl rfl rfl rfl) rfl (Z7 (ptr (some b15) 84) rfl (Z24 rfl (Z0 (Z114 rfl (List.Mem.tail _ Zh) rfl rfl rfl rfl (HdrC.C_state_all (⟨a0.parent, a0.uncles, a0.coinbase, a0.state, a0.txRoot, a0.receiptRoot, a0.bloom, a0.difficulty, a0.number, a0.limit, a0.used, a0.time, .slice A1 a0.extra.length c2, a0.mix, a0.nonce, a0.tail, a0.baseFee, a0.withdrawals, a0.blobUsed, a0.blobExcess, a0.beacon, a0.requests⟩ : HdrC)) ((Z100 _).trans Zv)) rfl (Z24 rfl (Z0 (Z30 rfl rfl rfl rfl) rfl ?_)))))))
       refine Z7 (ptr (some b16) 84) rfl (Z24 rfl (Z0 (Z114 rfl Zh rfl rfl rfl rfl (HdrC.C_state_all (⟨a1.parent, a1.uncles, a1.coinbase, a1.state, a1.txRoot, a1.receiptRoot, a1.bloom, a1.difficulty, a1.number, a1.limit, a1.used, a1.time, .slice A8 a1.extra.length c9, a1.mix, a1.nonce, a1.tail, a1.baseFee, a1.withdrawals, a1.blobUsed, a1.blobExcess, a1.beacon, a1.requests⟩ : HdrC)) ((Z100 _).trans Zv)) rfl (Z24 rfl (Z0 (RV.neA8 rfl rfl rfl rfl rfl rfl (Zv) (Zv)) rfl (Z7 (.bool (!decide (a0.state = a1.state))) (congrArg (fun b => Value.bool (!b)) (decide_eq_decide.2 Vector.toList_inj)) (Z0 (Z110 rfl rfl rfl) rfl (Z0 (Z3 rfl) rfl ?_)))))))
       by_cases h66 : a0.state = a1.state
       ·replace hq26 := if_t hq26 h66
        refine Z7 (.bool false) (congrArg Value.bool (congrArg (fun b => !b) (decide_eq_true h66))) (Z24 rfl (Z0 (Z30 rfl rfl rfl rfl) rfl (Z7 (ptr (some b15) 116) rfl (Z24 rfl (Z0 (Z114 rfl (List.Mem.tail _ Zh) rfl rfl rfl rfl (HdrC.C_txRoot_all (⟨a0.parent, a0.uncles, a0.coinbase, a0.state, a0.txRoot, a0.receiptRoot, a0.bloom, a0.difficulty, a0.number, a0.limit, a0.used, a0.time, .slice A1 a0.extra.length c2, a0.mix, a0.nonce, a0.tail, a0.baseFee, a0.withdrawals, a0.blobUsed, a0.blobExcess, a0.beacon, a0.requests⟩ : HdrC)) ((Z100 _).trans Zv)) rfl (Z24 rfl (Z0 (Z30 rfl rfl rfl rfl) rfl ?_)))))))
        refine Z7 (ptr (some b16) 116) rfl (Z24 rfl (Z0 (Z114 rfl Zh rfl rfl rfl rfl (HdrC.C_txRoot_all (⟨a1.parent, a1.uncles, a1.coinbase, a1.state, a1.txRoot, a1.receiptRoot, a1.bloom, a1.difficulty, a1.number, a1.limit, a1.used, a1.time, .slice A8 a1.extra.length c9, a1.mix, a1.nonce, a1.tail, a1.baseFee, a1.withdrawals, a1.blobUsed, a1.blobExcess, a1.beacon, a1.requests⟩ : HdrC)) ((Z100 _).trans Zv)) rfl (Z24 rfl (Z0 (RV.neA8 rfl rfl rfl rfl rfl rfl (Zv) (Zv)) rfl (Z7 (.bool (!decide (a0.txRoot = a1.txRoot))) (congrArg (fun b => Value.bool (!b)) (decide_eq_decide.2 Vector.toList_inj)) (Z0 (Z110 rfl rfl rfl) rfl (Z0 (Z3 rfl) rfl ?_)))))))
        by_cases h67 : a0.txRoot = a1.txRoot
        ·replace hq26 := if_t hq26 h67
         refine Z7 (.bool false) (congrArg Value.bool (congrArg (fun b => !b) (decide_eq_true h67))) (Z24 rfl (Z0 (Z30 rfl rfl rfl rfl) rfl (Z7 (ptr (some b15) 148) rfl (Z24 rfl (Z0 (Z114 rfl (List.Mem.tail _ Zh) rfl rfl rfl rfl (HdrC.C_receiptRoot_all (⟨a0.parent, a0.uncles, a0.coinbase, a0.state, a0.txRoot, a0.receiptRoot, a0.bloom, a0.difficulty, a0.number, a0.limit, a0.used, a0.time, .slice A1 a0.extra.length c2, a0.mix, a0.nonce, a0.tail, a0.baseFee, a0.withdrawals, a0.blobUsed, a0.blobExcess, a0.beacon, a0.requests⟩ : HdrC)) ((Z100 _).trans Zv)) rfl (Z24 rfl (Z0 (Z30 rfl rfl rfl rfl) rfl ?_)))))))
         refine Z7 (ptr (some b16) 148) rfl (Z24 rfl (Z0 (Z114 rfl Zh rfl rfl rfl rfl (HdrC.C_receiptRoot_all (⟨a1.parent, a1.uncles, a1.coinbase, a1.state, a1.txRoot, a1.receiptRoot, a1.bloom, a1.difficulty, a1.number, a1.limit, a1.used, a1.time, .slice A8 a1.extra.length c9, a1.mix, a1.nonce, a1.tail, a1.baseFee, a1.withdrawals, a1.blobUsed, a1.blobExcess, a1.beacon, a1.requests⟩ : HdrC)) ((Z100 _).trans Zv)) rfl (Z24 rfl (Z0 (RV.neA8 rfl rfl rfl rfl rfl rfl (Zv) (Zv)) rfl (Z7 (.bool (!decide (a0.receiptRoot = a1.receiptRoot))) (congrArg (fun b => Value.bool (!b)) (decide_eq_decide.2 Vector.toList_inj)) (Z0 (Z110 rfl rfl rfl) rfl (Z0 (Z3 rfl) rfl ?_)))))))
         by_cases h68 : a0.receiptRoot = a1.receiptRoot
         ·replace hq26 := if_t hq26 h68
          refine Z7 (.bool false) (congrArg Value.bool (congrArg (fun b => !b) (decide_eq_true h68))) (Z24 rfl (Z0 (Z30 rfl rfl rfl rfl) rfl (Z7 (ptr (some b15) 180) rfl (Z24 rfl (Z0 (Z114 rfl (List.Mem.tail _ Zh) rfl rfl rfl rfl (HdrC.C_bloom_all (⟨a0.parent, a0.uncles, a0.coinbase, a0.state, a0.txRoot, a0.receiptRoot, a0.bloom, a0.difficulty, a0.number, a0.limit, a0.used, a0.time, .slice A1 a0.extra.length c2, a0.mix, a0.nonce, a0.tail, a0.baseFee, a0.withdrawals, a0.blobUsed, a0.blobExcess, a0.beacon, a0.requests⟩ : HdrC)) ((Z100 _).trans Zv)) rfl (Z24 rfl (Z0 (Z30 rfl rfl rfl rfl) rfl ?_)))))))
          refine Z7 (ptr (some b16) 180) rfl (Z24 rfl (Z0 (Z114 rfl Zh rfl rfl rfl rfl (HdrC.C_bloom_all (⟨a1.parent, a1.uncles, a1.coinbase, a1.state, a1.txRoot, a1.receiptRoot, a1.bloom, a1.difficulty, a1.number, a1.limit, a1.used, a1.time, .slice A8 a1.extra.length c9, a1.mix, a1.nonce, a1.tail, a1.baseFee, a1.withdrawals, a1.blobUsed, a1.blobExcess, a1.beacon, a1.requests⟩ : HdrC)) ((Z100 _).trans Zv)) rfl (Z24 rfl (Z0 (RV.neA8 rfl rfl rfl rfl rfl rfl (Zv) (Zv)) rfl (Z7 (.bool (!decide (a0.bloom = a1.bloom))) (congrArg (fun b => Value.bool (!b)) (decide_eq_decide.2 Vector.toList_inj)) (Z0 (Z110 rfl rfl rfl) rfl (Z6 ?_)))))))
          exact QW.join ⟨(!decide (a0.bloom = a1.bloom)), (Zi hq26).symm, rfl, rfl⟩ ⟨rfl, rfl, rfl, trivial⟩ (fun w m => m.pick [0, 1] 2 rfl rfl)
         ·replace hq26 := if_f hq26 h68
          refine Z7 (.bool true) (congrArg Value.bool (congrArg (fun b => !b) (decide_eq_false h68))) (Z23 rfl rfl rfl (Z23 rfl rfl rfl (Z23 rfl rfl rfl (Z23 rfl rfl rfl (Z23 rfl rfl rfl (Z0 (Z108 rfl rfl rfl) rfl (Z6 ?_)))))))
          exact QW.join ⟨true, (Zi hq26).symm, rfl, rfl⟩ ⟨rfl, rfl, rfl, trivial⟩ (fun w m => m.pick [0, 1] 2 rfl rfl)
        ·replace hq26 := if_f hq26 h67
         refine Z7 (.bool true) (congrArg Value.bool (congrArg (fun b => !b) (decide_eq_false h67))) (Z23 rfl rfl rfl (Z23 rfl rfl rfl (Z23 rfl rfl rfl (Z23 rfl rfl rfl (Z23 rfl rfl rfl (Z0 (Z108 rfl rfl rfl) rfl (Z0 (Z3 rfl) rfl ?_)))))))
         refine Z23 rfl rfl rfl (Z23 rfl rfl rfl (Z23 rfl rfl rfl (Z23 rfl rfl rfl (Z23 rfl rfl rfl (Z0 (Z108 rfl rfl rfl) rfl (Z6 ?_))))))
         exact QW.join ⟨true, (Zi hq26).symm, rfl, rfl⟩ ⟨rfl, rfl, rfl, trivial⟩ (fun w m => m.pick [0, 1] 2 rfl rfl)
       ·replace hq26 := if_f hq26 h66
        refine Z7 (.bool true) (congrArg Value.bool (congrArg (fun b => !b) (decide_eq_false h66))) (Z23 rfl rfl rfl (Z23 rfl rfl rfl (Z23 rfl rfl rfl (Z23 rfl rfl rfl (Z23 rfl rfl rfl (Z0 (Z108 rfl rfl rfl) rfl (Z0 (Z3 rfl) rfl ?_)))))))
        refine Z23 rfl rfl rfl (Z23 rfl rfl rfl (Z23 rfl rfl rfl (Z23 rfl rfl rfl (Z23 rfl rfl rfl (Z0 (Z108 rfl rfl rfl) rfl (Z0 (Z3 rfl) rfl (Z23 rfl rfl rfl ?_)))))))
        refine Z23 rfl rfl rfl (Z23 rfl rfl rfl (Z23 rfl rfl rfl (Z23 rfl rfl rfl (Z0 (Z108 rfl rfl rfl) rfl (Z6 ?_)))))
        exact QW.join ⟨true, (Zi hq26).symm, rfl, rfl⟩ ⟨rfl, rfl, rfl, trivial⟩ (fun w m => m.pick [0, 1] 2 rfl rfl)
      ·replace hq26 := if_f hq26 h65
       refine Z7 (.bool true) (congrArg Value.bool (congrArg (fun b => !b) (decide_eq_false h65))) (Z23 rfl rfl rfl (Z23 rfl rfl rfl (Z23 rfl rfl rfl (Z23 rfl rfl rfl (Z23 rfl rfl rfl (Z0 (Z108 rfl rfl rfl) rfl (Z0 (Z3 rfl) rfl ?_)))))))
       refine Z23 rfl rfl rfl (Z23 rfl rfl rfl (Z23 rfl rfl rfl (Z23 rfl rfl rfl (Z23 rfl rfl rfl (Z0 (Z108 rfl rfl rfl) rfl (Z0 (Z3 rfl) rfl (Z23 rfl rfl rfl ?_)))))))
       refine Z23 rfl rfl rfl (Z23 rfl rfl rfl (Z23 rfl rfl rfl (Z23 rfl rfl rfl (Z0 (Z108 rfl rfl rfl) rfl (Z0 (Z3 rfl) rfl (Z23 rfl rfl rfl (Z23 rfl rfl rfl ?_)))))))
       refine Z23 rfl rfl rfl (Z23 rfl rfl rfl (Z23 rfl rfl rfl (Z0 (Z108 rfl rfl rfl) rfl (Z6 ?_))))
       exact QW.join ⟨true, (Zi hq26).symm, rfl, rfl⟩ ⟨rfl, rfl, rfl, trivial⟩ (fun w m => m.pick [0, 1] 2 rfl rfl)
     ·replace hq26 := if_f hq26 h64
      refine Z7 (.bool true) (congrArg Value.bool (congrArg (fun b => !b) (decide_eq_false h64))) (Z23 rfl rfl rfl (Z23 rfl rfl rfl (Z23 rfl rfl rfl (Z23 rfl rfl rfl (Z23 rfl rfl rfl (Z0 (Z108 rfl rfl rfl) rfl (Z0 (Z3 rfl) rfl ?_)))))))
      refine Z23 rfl rfl rfl (Z23 rfl rfl rfl (Z23 rfl rfl rfl (Z23 rfl rfl rfl (Z23 rfl rfl rfl (Z0 (Z108 rfl rfl rfl) rfl (Z0 (Z3 rfl) rfl (Z23 rfl rfl rfl ?_)))))))
      refine Z23 rfl rfl rfl (Z23 rfl rfl rfl (Z23 rfl rfl rfl (Z23 rfl rfl rfl (Z0 (Z108 rfl rfl rfl) rfl (Z0 (Z3 rfl) rfl (Z23 rfl rfl rfl (Z23 rfl rfl rfl ?_)))))))
      refine Z23 rfl rfl rfl (Z23 rfl rfl rfl (Z23 rfl rfl rfl (Z0 (Z108 rfl rfl rfl) rfl (Z0 (Z3 rfl) rfl (Z23 rfl rfl rfl (Z23 rfl rfl rfl (Z23 rfl rfl rfl ?_)))))))
      refine Z23 rfl rfl rfl (Z23 rfl rfl rfl (Z0 (Z108 rfl rfl rfl) rfl (Z6 ?_)))
      exact QW.join ⟨true, (Zi hq26).symm, rfl, rfl⟩ ⟨rfl, rfl, rfl, trivial⟩ (fun w m => m.pick [0, 1] 2 rfl rfl)
    ·replace hq26 := if_f hq26 h63
     refine Z7 (.bool true) (congrArg Value.bool (congrArg (fun b => !b) (decide_eq_false h63))) (Z23 rfl rfl rfl (Z23 rfl rfl rfl (Z23 rfl rfl rfl (Z23 rfl rfl rfl (Z23 rfl rfl rfl (Z0 (Z108 rfl rfl rfl) rfl (Z0 (Z3 rfl) rfl ?_)))))))
     refine Z23 rfl rfl rfl (Z23 rfl rfl rfl (Z23 rfl rfl rfl (Z23 rfl rfl rfl (Z23 rfl rfl rfl (Z0 (Z108 rfl rfl rfl) rfl (Z0 (Z3 rfl) rfl (Z23 rfl rfl rfl ?_)))))))
     refine Z23 rfl rfl rfl (Z23 rfl rfl rfl (Z23 rfl rfl rfl (Z23 rfl rfl rfl (Z0 (Z108 rfl rfl rfl) rfl (Z0 (Z3 rfl) rfl (Z23 rfl rfl rfl (Z23 rfl rfl rfl ?_)))))))
     refine Z23 rfl rfl rfl (Z23 rfl rfl rfl (Z23 rfl rfl rfl (Z0 (Z108 rfl rfl rfl) rfl (Z0 (Z3 rfl) rfl (Z23 rfl rfl rfl (Z23 rfl rfl rfl (Z23 rfl rfl rfl ?_)))))))
     refine Z23 rfl rfl rfl (Z23 rfl rfl rfl (Z0 (Z108 rfl rfl rfl) rfl (Z0 (Z3 rfl) rfl (Z23 rfl rfl rfl (Z23 rfl rfl rfl (Z23 rfl rfl rfl (Z23 rfl rfl rfl ?_)))))))
     refine Z23 rfl rfl rfl (Z0 (Z108 rfl rfl rfl) rfl (Z6 ?_))
     exact QW.join ⟨true, (Zi hq26).symm, rfl, rfl⟩ ⟨rfl, rfl, rfl, trivial⟩ (fun w m => m.pick [0, 1] 2 rfl rfl)
  ·skip
   refine CW.block (Z138 (fun k L' M' => ∃ n69 : Nat, (waybillref19_Same.l1 a0 a1 k n69) = some q18 ∧ (n69 ≤ 9223372036854775807) ∧ L' = [(2, ptr (some b15) 0), (3, ptr (some b16) 0), (5, .int .i64 ((n69 : Nat) : Int))] ∧ M' = ((some b16, blk (⟨a1.parent, a1.uncles, a1.coinbase, a1.state, a1.txRoot, a1.receiptRoot, a1.bloom, a1.difficulty, a1.number, a1.limit, a1.used, a1.time, .slice A8 a1.extra.length c9, a1.mix, a1.nonce, a1.tail, a1.baseFee, a1.withdrawals, a1.blobUsed, a1.blobExcess, a1.beacon, a1.requests⟩ : HdrC).C 38) :: (some b15, blk (⟨a0.parent, a0.uncles, a0.coinbase, a0.state, a0.txRoot, a0.receiptRoot, a0.bloom, a0.difficulty, a0.number, a0.limit, a0.used, a0.time, .slice A1 a0.extra.length c2, a0.mix, a0.nonce, a0.tail, a0.baseFee, a0.withdrawals, a0.blobUsed, a0.blobExcess, a0.beacon, a0.requests⟩ : HdrC).C 38) :: ([] ++ N))) (k0 := (a0.extra.length - 0 + 2)) ⟨0, hq19, (by omega), rfl, rfl⟩ ⟨rfl, rfl, rfl, trivial⟩ (fun w m => m.pick [0, 1] 2 rfl rfl) ?_)
   clear hq19
   rintro k71 L74 M75 ⟨n69, hl72, b70, e76, e77⟩
   rw [e76, e77]
   clear e76 e77 L74 M75
   rcases k71 with _ | k71
   ·rw [waybillref19_Same.l1] at hl72; cases hl72
   rw [waybillref19_Same.l1] at hl72
   refine Z4 (Z4 (Z2 (Z0 (Z3 rfl) rfl (Z0 (Z30 rfl rfl rfl rfl) rfl (Z7 (ptr (some b15) 444) rfl (Z0 (Z29 rfl (List.Mem.tail _ Zh) rfl rfl rfl (HdrC.C_extra (⟨a0.parent, a0.uncles, a0.coinbase, a0.state, a0.txRoot, a0.receiptRoot, a0.bloom, a0.difficulty, a0.number, a0.limit, a0.used, a0.time, .slice A1 a0.extra.length c2, a0.mix, a0.nonce, a0.tail, a0.baseFee, a0.withdrawals, a0.blobUsed, a0.blobExcess, a0.beacon, a0.requests⟩ : HdrC))) rfl (Z0 (RV.len rfl rfl) rfl (Z0 (RV.lss rfl rfl) rfl (Z7 (.bool (decide (n69 < a0.extra.length))) (congrArg Value.bool (decide_eq_decide.2 (by omega))) ?_)))))))))
   refine Z6 (Z1 ?_)
   by_cases h78 : n69 < a0.extra.length
   ·replace hl72 := if_t hl72 h78
    refine Z13 rfl (decide_eq_true h78) (CW.skip (Z1 (Z4 (CW.block (Z4 (Z124 11 mixed (by kernel_rfl) rfl (Z18 0 rfl (by kernel_rfl) rfl (Z30 rfl rfl rfl rfl) rfl (UW.slot (ptr (some b15) 444) rfl (Z18 1 rfl (by kernel_rfl) rfl (Z29 rfl (List.Mem.tail _ Zh) rfl rfl rfl (HdrC.C_extra (⟨a0.parent, a0.uncles, a0.coinbase, a0.state, a0.txRoot, a0.receiptRoot, a0.bloom, a0.difficulty, a0.number, a0.limit, a0.used, a0.time, .slice A1 a0.extra.length c2, a0.mix, a0.nonce, a0.tail, a0.baseFee, a0.withdrawals, a0.blobUsed, a0.blobExcess, a0.beacon, a0.requests⟩ : HdrC))) rfl (Z18 2 rfl (by kernel_rfl) rfl (Z3 rfl) rfl ?_))))))))))
    obtain ⟨x79, hx80, hl72⟩ := Z103 hl72
    have hl81 := Z129 hx80
    refine Z18 3 rfl (by kernel_rfl) rfl (Z141 (n69) rfl rfl rfl rfl rfl (v3.isSome (by decide) hl81) (by omega)) rfl (Z18 4 rfl (by kernel_rfl) rfl (Z21 rfl rfl rfl (fun w m => v3.cell (More.of hΦ 2 m rfl) (u8s_at hx80))) rfl (Z18 5 rfl (by kernel_rfl) rfl (Z30 rfl rfl rfl rfl) rfl (UW.slot (ptr (some b16) 444) rfl (Z18 6 rfl (by kernel_rfl) rfl (Z29 rfl Zh rfl rfl rfl (HdrC.C_extra (⟨a1.parent, a1.uncles, a1.coinbase, a1.state, a1.txRoot, a1.receiptRoot, a1.bloom, a1.difficulty, a1.number, a1.limit, a1.used, a1.time, .slice A8 a1.extra.length c9, a1.mix, a1.nonce, a1.tail, a1.baseFee, a1.withdrawals, a1.blobUsed, a1.blobExcess, a1.beacon, a1.requests⟩ : HdrC))) rfl (Z18 7 rfl (by kernel_rfl) rfl (Z3 rfl) rfl ?_)))))
    obtain ⟨x82, hx83, hl72⟩ := Z103 hl72
    have hl84 := Z129 hx83
    refine Z18 8 rfl (by kernel_rfl) rfl (Z141 (n69) rfl rfl rfl rfl rfl (v10.isSome (by decide) hl84) (by omega)) rfl (Z18 9 rfl (by kernel_rfl) rfl (Z21 rfl rfl rfl (fun w m => v10.cell (More.of hΦ 2 m rfl) (u8s_at hx83))) rfl (Z18 10 rfl (by kernel_rfl) rfl (RV.neq8 rfl (by first | rfl | exact lit8 _ rfl) rfl (by first | rfl | exact lit8 _ rfl)) rfl (UW.nil (by kernel_rfl) (Z6 (Z1 ?_)))))
    by_cases h85 : x79 = x82
    ·replace hl72 := if_t hl72 h85
     refine Z14 rfl (congrArg (fun b => !b) (decide_eq_true h85)) (CW.skip (Z27 (Z1 (Z2 (Z0 (Z3 rfl) rfl (Z0 (RV.add rfl rfl (by omega)) rfl (Z7 (.int .i64 (((n69 + 1) : Nat) : Int)) (by first | rfl | (congr 1) | (congr 1; omega)) (Z0 (Z5 rfl) rfl (Z6 ?_)))))))))
     exact Z131 (k' := k71) (Nat.lt_succ_self _) ⟨(n69 + 1), hl72, (by omega), rfl, rfl⟩ ⟨rfl, rfl, rfl, trivial⟩ (fun w m => m.pick [0, 1] 2 rfl rfl)
    ·replace hl72 := if_f hl72 h85
     refine Z13 rfl (congrArg (fun b => !b) (decide_eq_false h85)) (Z4 (Z2 (Z0 (Z5 rfl) rfl (Z6 (Z1 (CW.ret (Z16 (Z8 (Z8 (Z16 (Z8 ?_)))))))))))
     have hc := Zi hl72
     subst hc
     try dsimp only at hf
     refine Z8 ?_
     have e0 := Zi hf
     subst e0
     refine Z106 (rs := [.tmp 4]) ([.bool false]) ((some b16, blk (⟨a1.parent, a1.uncles, a1.coinbase, a1.state, a1.txRoot, a1.receiptRoot, a1.bloom, a1.difficulty, a1.number, a1.limit, a1.used, a1.time, .slice A8 a1.extra.length c9, a1.mix, a1.nonce, a1.tail, a1.baseFee, a1.withdrawals, a1.blobUsed, a1.blobExcess, a1.beacon, a1.requests⟩ : HdrC).C 38) :: (some b15, blk (⟨a0.parent, a0.uncles, a0.coinbase, a0.state, a0.txRoot, a0.receiptRoot, a0.bloom, a0.difficulty, a0.number, a0.limit, a0.used, a0.time, .slice A1 a0.extra.length c2, a0.mix, a0.nonce, a0.tail, a0.baseFee, a0.withdrawals, a0.blobUsed, a0.blobExcess, a0.beacon, a0.requests⟩ : HdrC).C 38) :: []) rfl ?_ rfl ?_ ?_ _ (.inl rfl)
     ·exact ⟨rfl, trivial⟩
     ·exact rfl
     ·exact (fun w m => m)
   ·replace hl72 := if_f hl72 h78
    refine Z14 rfl (decide_eq_false h78) (CW.exit (Z9 (Z9 (Z15 ?_))))
    exact QW.join ⟨(Zi hl72).symm, rfl, rfl⟩ ⟨rfl, rfl, trivial⟩ (fun w m => m.pick [0, 1] 2 rfl rfl)
 ·replace hf := if_f hf h17
  refine Z13 rfl (congrArg (fun b => !b) (decide_eq_false h17)) (Z4 (Z2 (Z0 (Z5 rfl) rfl (Z6 (Z1 (CW.ret (Z8 ?_)))))))
  have e0 := Zi hf
  subst e0
  refine Z106 (rs := [.tmp 4]) ([.bool false]) ((some b16, blk (⟨a1.parent, a1.uncles, a1.coinbase, a1.state, a1.txRoot, a1.receiptRoot, a1.bloom, a1.difficulty, a1.number, a1.limit, a1.used, a1.time, .slice A8 a1.extra.length c9, a1.mix, a1.nonce, a1.tail, a1.baseFee, a1.withdrawals, a1.blobUsed, a1.blobExcess, a1.beacon, a1.requests⟩ : HdrC).C 38) :: (some b15, blk (⟨a0.parent, a0.uncles, a0.coinbase, a0.state, a0.txRoot, a0.receiptRoot, a0.bloom, a0.difficulty, a0.number, a0.limit, a0.used, a0.time, .slice A1 a0.extra.length c2, a0.mix, a0.nonce, a0.tail, a0.baseFee, a0.withdrawals, a0.blobUsed, a0.blobExcess, a0.beacon, a0.requests⟩ : HdrC).C 38) :: []) rfl ?_ rfl ?_ ?_ _ (.inl rfl)
  ·exact ⟨rfl, trivial⟩
  ·exact rfl
  ·exact (fun w m => m)
end Go.Fw.Tryd
