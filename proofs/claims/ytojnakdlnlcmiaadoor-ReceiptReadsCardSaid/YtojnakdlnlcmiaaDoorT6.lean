/- Part of a proof: rules that its law uses. -/
import Derived.Test.YtojnakdlnlcmiaaDoorT5
set_option linter.unusedVariables false
set_option linter.unusedSimpArgs false
set_option linter.unusedSectionVars false
set_option maxRecDepth 100000
set_option maxHeartbeats 1000000
namespace Go.Fw.Tryd
open Go Go.Proofs Go.Fw
theorem waybilllaw17_still_does (w0 : World) (Φ : Ctx) (N : List Ent) (hΦ : ∀ w, Mem w0 w N → Φ w) (A0_ : Option Addr) (c0_ : Nat) (a0 : List (BitVec 8)) (A1_ : Option Addr) (c1_ : Nat) (a1 : List (BitVec 8)) (res0 : Bool) (va0 : View Φ A0_ (a0 ++ List.replicate 70 195#8).length c0_ 1 (u8s (a0 ++ List.replicate 70 195#8))) (va1 : View Φ A1_ a1.length c1_ 1 (u8s a1)) (hf : waybilllaw17_still a0 a1 = some res0) : DoesG Tryd.prog 41 [.slice A0_ a0.length c0_, .slice A1_ a1.length c1_] w0 [] N (fun v G => v = .bool res0) := by
 unfold waybilllaw17_still at hf
 replace va0 := va0.mono (Ψ := More w0 Φ []) (fun w q => q.1)
 replace va1 := va1.mono (Ψ := More w0 Φ []) (fun w q => q.1)
 have hle := va0.mx
 have hle2 : (a0 ++ List.replicate 70 195#8).length = a0.length + 70 := by rw [List.length_append, List.length_replicate]
 have v1 : View (More w0 Φ []) A0_ a0.length c0_ 1 (u8s a0) := MRoom.view va0
 have m2 := v1.mx
 have m3 := va1.mx
 refine DoesG.enter Tryd.func41 rfl Tryd.ntmps41 rfl (M := (([] ++ N))) rfl (Z4 (Z2 (Z0 (Z5 rfl) rfl (Z6 (Z1 (Z4 (Z4 (Z2 (Z0 (Z3 rfl) rfl (Z0 (RV.len rfl rfl) rfl (Z0 (Z3 rfl) rfl (Z0 (RV.len rfl rfl) rfl ?_))))))))))))
 refine Z0 (RV.neq rfl rfl) rfl (Z7 (.bool (!decide (a0.length = a1.length))) (congrArg (fun b => Value.bool (!b)) (decide_eq_decide.2 (by omega))) (Z6 (Z1 ?_)))
 by_cases h4 : a0.length = a1.length
 ·replace hf := if_t hf h4
  refine Z14 rfl (congrArg (fun b => !b) (decide_eq_true h4)) (CW.skip (Z1 (Z4 (Z2 (Z0 (Z3 rfl) rfl (Z0 (Z3 rfl) rfl (Z0 (RV.len rfl rfl) rfl (Z0 (RV.add rfl rfl (by omega)) rfl (Z7 (.int .i64 (((a1.length + 70) : Nat) : Int)) (by first | rfl | (congr 1) | (congr 1; omega)) ?_)))))))))
  obtain ⟨g6, hf⟩ := Z112 hf
  have hle := va0.le
  have hlen_ : (a0 ++ List.replicate 70 195#8).length = (a0 ++ List.replicate 70 195#8).length := rfl
  refine Z0 (RV.cut_hi ((a1.length + 70)) rfl rfl (by omega) rfl rfl (by omega)) rfl (Z7 (.slice A0_ ((a0 ++ List.replicate 70 195#8).take (a1.length + 70)).length c0_) (by rw [show (((a0 ++ List.replicate 70 195#8).take (a1.length + 70))).length = (a1.length + 70) from List.length_take.trans (Nat.min_eq_left (by omega))]) ?_)
  have v5 : View (More w0 Φ []) A0_ ((a0 ++ List.replicate 70 195#8).take (a1.length + 70)).length c0_ 1 (u8s ((a0 ++ List.replicate 70 195#8).take (a1.length + 70))) := va0.hi8 (by omega)
  have m7 := v5.mx
  refine Z0 (Z5 rfl) rfl (Z6 (Z1 (Z4 (Z4 (Z2 (Z0 (Z5 rfl) rfl (Z6 (Z1 ?_))))))))
  obtain ⟨q8, hq9, hf⟩ := Z100 hf
  refine Z115 (fun L' M' => q8 = Lp.go () ∧ L' = [] ∧ M' = (([] ++ N))) ?_ ?_
  ·rintro L11 M12 ⟨e10, e13, e14⟩
   rw [e13, e14]
   clear e13 e14 L11 M12
   clear hq9
   rw [e10] at hf
   clear e10
   try dsimp only at hf
   refine Z1 (Z4 (Z2 (Z0 (Z5 rfl) rfl (Z6 (Z1 (CW.ret ?_))))))
   have e0 := Zi hf
   subst e0
   refine Z104 (rs := [.tmp 4]) ([.bool true]) ([]) rfl ?_ rfl ?_ ?_ _ (.inl rfl)
   ·exact ⟨rfl, trivial⟩
   ·exact rfl
   ·exact (fun w m => m)
  ·skip
   refine CW.block (Z121 (fun k L' M' => ∃ n15 : Nat, (waybilllaw17_still.l1 a0 a1 k n15) = some q8 ∧ (n15 ≤ 9223372036854775807) ∧ L' = [(1, .slice A1_ a1.length c1_), (5, .slice A0_ ((a0 ++ List.replicate 70 195#8).take (a1.length + 70)).length c0_), (6, .int .i64 ((n15 : Nat) : Int))] ∧ M' = (([] ++ N))) (k0 := ((((a0 ++ List.replicate 70 195#8).take (a1.length + 70)).length) - 0 + 2)) ⟨0, hq9, (by omega), rfl, rfl⟩ ⟨rfl, rfl, rfl, trivial⟩ (fun w m => m.pick [] 0 rfl rfl) ?_)
   clear hq9
   rintro k17 L20 M21 ⟨n15, hl18, b16, e22, e23⟩
   rw [e22, e23]
   clear e22 e23 L20 M21
   rcases k17 with _ | k17
   ·rw [waybilllaw17_still.l1] at hl18; cases hl18
   rw [waybilllaw17_still.l1] at hl18
   refine Z4 (Z4 (Z2 (Z0 (Z3 rfl) rfl (Z0 (Z3 rfl) rfl (Z0 (RV.len rfl rfl) rfl (Z0 (RV.lss rfl rfl) rfl (Z7 (.bool (decide (n15 < ((a0 ++ List.replicate 70 195#8).take (a1.length + 70)).length))) (congrArg Value.bool (decide_eq_decide.2 (by omega))) (Z6 (Z1 ?_)))))))))
   by_cases h24 : n15 < ((a0 ++ List.replicate 70 195#8).take (a1.length + 70)).length
   ·replace hl18 := if_t hl18 h24
    refine Z13 rfl (decide_eq_true h24) (CW.skip (Z1 (Z4 (CW.block (Z4 ?_)))))
    obtain ⟨q25, hq26, hl18⟩ := Z100 hl18
    refine Z115 (fun L' M' => ∃ p27 : Bool, q25 = p27 ∧ L' = [(1, .slice A1_ a1.length c1_), (5, .slice A0_ ((a0 ++ List.replicate 70 195#8).take (a1.length + 70)).length c0_), (6, .int .i64 ((n15 : Nat) : Int)), (50, .bool (p27))] ∧ M' = (([] ++ N))) ?_ ?_
    ·rintro L29 M30 ⟨p27, e28, e31, e32⟩
     rw [e31, e32]
     clear e31 e32 L29 M30
     clear hq26
     rw [e28] at hl18
     clear e28
     try dsimp only at hl18
     refine Z1 ?_
     by_cases h33 : p27 = true
     ·replace hl18 := if_t hl18 h33
      refine Z13 rfl (h33) (Z4 (Z2 (Z0 (Z5 rfl) rfl (Z6 (Z1 (CW.ret (Z16 (Z8 (Z8 (Z16 (Z8 ?_)))))))))))
      have hc := Zi hl18
      subst hc
      try dsimp only at hf
      refine Z8 ?_
      have e0 := Zi hf
      subst e0
      refine Z104 (rs := [.tmp 4]) ([.bool false]) ([]) rfl ?_ rfl ?_ ?_ _ (.inl rfl)
      ·exact ⟨rfl, trivial⟩
      ·exact rfl
      ·exact (fun w m => m)
     ·replace hl18 := if_f hl18 h33
      refine Z14 rfl (Bool.eq_false_iff.2 h33) (CW.skip (Z27 (Z1 (Z2 (Z0 (Z3 rfl) rfl (Z0 (RV.add rfl rfl (by omega)) rfl (Z7 (.int .i64 (((n15 + 1) : Nat) : Int)) (by first | rfl | (congr 1) | (congr 1; omega)) (Z0 (Z5 rfl) rfl (Z6 ?_)))))))))
      exact Z114 (k' := k17) (Nat.lt_succ_self _) ⟨(n15 + 1), hl18, (by omega), rfl, rfl⟩ ⟨rfl, rfl, rfl, trivial⟩ (fun w m => m.pick [] 0 rfl rfl)
    ·skip
     refine Z138 28 mixed (by kernel_rfl) rfl (Z18 0 rfl (by kernel_rfl) rfl (Z3 rfl) rfl (Z18 1 rfl (by kernel_rfl) rfl (Z3 rfl) rfl (Z18 2 rfl (by kernel_rfl) rfl (RV.len rfl rfl) rfl (Z18 3 rfl (by kernel_rfl) rfl (RV.lss rfl rfl) rfl (UW.slot (.bool (decide (n15 < a1.length))) (congrArg Value.bool (decide_eq_decide.2 (by omega))) (Z18 4 rfl (by kernel_rfl) rfl (Z3 rfl) rfl ?_))))))
     by_cases h34 : n15 < a1.length
     ·replace hq26 := if_t hq26 h34
      refine UW.slot (.bool true) (congrArg Value.bool (decide_eq_true h34)) (Z18 5 rfl (by kernel_rfl) rfl (Z3 rfl) rfl (Z18 6 rfl (by kernel_rfl) rfl (Z3 rfl) rfl ?_))
      obtain ⟨x35, hx36, hq26⟩ := Z100 hq26
      have hl37 := Z111 hx36
      refine Z18 7 rfl (by kernel_rfl) rfl (Z131 (n15) rfl rfl rfl rfl rfl (v5.isSome (by decide) hl37) (by omega)) rfl (Z18 8 rfl (by kernel_rfl) rfl (Z21 rfl rfl rfl (fun w m => v5.cell (Z105 hΦ 0 m rfl) (Z148 hx36))) rfl (Z18 9 rfl (by kernel_rfl) rfl (Z3 rfl) rfl (Z18 10 rfl (by kernel_rfl) rfl (Z3 rfl) rfl ?_)))
      obtain ⟨x38, hx39, hq26⟩ := Z100 hq26
      have hl40 := Z111 hx39
      refine Z18 11 rfl (by kernel_rfl) rfl (Z131 (n15) rfl rfl rfl rfl rfl (va1.isSome (by decide) hl40) (by omega)) rfl (Z18 12 rfl (by kernel_rfl) rfl (Z21 rfl rfl rfl (fun w m => va1.cell (Z105 hΦ 0 m rfl) (Z148 hx39))) rfl (Z18 13 rfl (by kernel_rfl) rfl (RV.neq8 rfl (by first | rfl | exact lit8 _ rfl) rfl (by first | rfl | exact lit8 _ rfl)) rfl (Z18 14 rfl (by kernel_rfl) rfl (Z108 rfl rfl rfl) rfl (Z18 15 rfl (by kernel_rfl) rfl (Z3 rfl) rfl ?_))))
      by_cases h41 : x35 = x38
      ·replace hq26 := if_t hq26 h41
       refine UW.slot (.bool false) (congrArg Value.bool (congrArg (fun b => !b) (decide_eq_true h41))) (Z18 16 rfl (by kernel_rfl) rfl (Z3 rfl) rfl (Z18 17 rfl (by kernel_rfl) rfl (Z3 rfl) rfl (Z18 18 rfl (by kernel_rfl) rfl (RV.len rfl rfl) rfl (Z18 19 rfl (by kernel_rfl) rfl (RV.geq rfl rfl) rfl (UW.slot (.bool (decide (a1.length ≤ n15))) (congrArg Value.bool (decide_eq_decide.2 (by omega))) (Z18 20 rfl (by kernel_rfl) rfl (Z3 rfl) rfl ?_))))))
       by_cases h42 : a1.length ≤ n15
       ·replace hq26 := if_t hq26 h42
        refine UW.slot (.bool true) (congrArg Value.bool (decide_eq_true h42)) (Z18 21 rfl (by kernel_rfl) rfl (Z3 rfl) rfl (Z18 22 rfl (by kernel_rfl) rfl (Z3 rfl) rfl ?_))
        obtain ⟨x43, hx44, hq26⟩ := Z100 hq26
        have hl45 := Z111 hx44
        refine Z18 23 rfl (by kernel_rfl) rfl (Z131 (n15) rfl rfl rfl rfl rfl (v5.isSome (by decide) hl45) (by omega)) rfl (Z18 24 rfl (by kernel_rfl) rfl (Z21 rfl rfl rfl (fun w m => v5.cell (Z105 hΦ 0 m rfl) (Z148 hx44))) rfl (Z18 25 rfl (by kernel_rfl) rfl (RV.neq8 rfl (by first | rfl | exact lit8 _ rfl) rfl (by first | rfl | exact lit8 _ rfl)) rfl (Z18 26 rfl (by kernel_rfl) rfl (Z108 rfl rfl rfl) rfl (Z18 27 rfl (by kernel_rfl) rfl (Z106 rfl rfl rfl) rfl (UW.nil (by kernel_rfl) (Z6 ?_))))))
        exact QW.join ⟨(!decide (x43 = 195#8)), (Zi hq26).symm, rfl, rfl⟩ ⟨rfl, rfl, rfl, rfl, trivial⟩ (fun w m => m.pick [] 0 rfl rfl)
       ·replace hq26 := if_f hq26 h42
        refine UW.slot (.bool false) (congrArg Value.bool (decide_eq_false h42)) (UW.skip 21 rfl (by kernel_rfl) rfl rfl (UW.skip 22 rfl (by kernel_rfl) rfl rfl (UW.skip 23 rfl (by kernel_rfl) rfl rfl (UW.skip 24 rfl (by kernel_rfl) rfl rfl (UW.skip 25 rfl (by kernel_rfl) rfl rfl (Z18 26 rfl (by kernel_rfl) rfl (Z106 rfl rfl rfl) rfl (Z18 27 rfl (by kernel_rfl) rfl (Z106 rfl rfl rfl) rfl ?_)))))))
        refine UW.nil (by kernel_rfl) (Z6 ?_)
        exact QW.join ⟨false, (Zi hq26).symm, rfl, rfl⟩ ⟨rfl, rfl, rfl, rfl, trivial⟩ (fun w m => m.pick [] 0 rfl rfl)
      ·replace hq26 := if_f hq26 h41
       refine UW.slot (.bool true) (congrArg Value.bool (congrArg (fun b => !b) (decide_eq_false h41))) (UW.skip 16 rfl (by kernel_rfl) rfl rfl (UW.skip 17 rfl (by kernel_rfl) rfl rfl (UW.skip 18 rfl (by kernel_rfl) rfl rfl (UW.skip 19 rfl (by kernel_rfl) rfl rfl (UW.skip 20 rfl (by kernel_rfl) rfl rfl (UW.skip 21 rfl (by kernel_rfl) rfl rfl (UW.skip 22 rfl (by kernel_rfl) rfl rfl ?_)))))))
       refine UW.skip 23 rfl (by kernel_rfl) rfl rfl (UW.skip 24 rfl (by kernel_rfl) rfl rfl (UW.skip 25 rfl (by kernel_rfl) rfl rfl (UW.skip 26 rfl (by kernel_rfl) rfl rfl (Z18 27 rfl (by kernel_rfl) rfl (Z108 rfl rfl rfl) rfl (UW.nil (by kernel_rfl) (Z6 ?_))))))
       exact QW.join ⟨true, (Zi hq26).symm, rfl, rfl⟩ ⟨rfl, rfl, rfl, rfl, trivial⟩ (fun w m => m.pick [] 0 rfl rfl)
     ·replace hq26 := if_f hq26 h34
      refine UW.slot (.bool false) (congrArg Value.bool (decide_eq_false h34)) (UW.skip 5 rfl (by kernel_rfl) rfl rfl (UW.skip 6 rfl (by kernel_rfl) rfl rfl (UW.skip 7 rfl (by kernel_rfl) rfl rfl (UW.skip 8 rfl (by kernel_rfl) rfl rfl (UW.skip 9 rfl (by kernel_rfl) rfl rfl (UW.skip 10 rfl (by kernel_rfl) rfl rfl (UW.skip 11 rfl (by kernel_rfl) rfl rfl ?_)))))))
      refine UW.skip 12 rfl (by kernel_rfl) rfl rfl (UW.skip 13 rfl (by kernel_rfl) rfl rfl (Z18 14 rfl (by kernel_rfl) rfl (Z106 rfl rfl rfl) rfl (Z18 15 rfl (by kernel_rfl) rfl (Z3 rfl) rfl (Z18 16 rfl (by kernel_rfl) rfl (Z3 rfl) rfl (Z18 17 rfl (by kernel_rfl) rfl (Z3 rfl) rfl (Z18 18 rfl (by kernel_rfl) rfl (RV.len rfl rfl) rfl (Z18 19 rfl (by kernel_rfl) rfl (RV.geq rfl rfl) rfl ?_)))))))
      refine UW.slot (.bool (decide (a1.length ≤ n15))) (congrArg Value.bool (decide_eq_decide.2 (by omega))) (Z18 20 rfl (by kernel_rfl) rfl (Z3 rfl) rfl ?_)
      by_cases h46 : a1.length ≤ n15
      ·replace hq26 := if_t hq26 h46
       refine UW.slot (.bool true) (congrArg Value.bool (decide_eq_true h46)) (Z18 21 rfl (by kernel_rfl) rfl (Z3 rfl) rfl (Z18 22 rfl (by kernel_rfl) rfl (Z3 rfl) rfl ?_))
       obtain ⟨x47, hx48, hq26⟩ := Z100 hq26
       have hl49 := Z111 hx48
       refine Z18 23 rfl (by kernel_rfl) rfl (Z131 (n15) rfl rfl rfl rfl rfl (v5.isSome (by decide) hl49) (by omega)) rfl (Z18 24 rfl (by kernel_rfl) rfl (Z21 rfl rfl rfl (fun w m => v5.cell (Z105 hΦ 0 m rfl) (Z148 hx48))) rfl (Z18 25 rfl (by kernel_rfl) rfl (RV.neq8 rfl (by first | rfl | exact lit8 _ rfl) rfl (by first | rfl | exact lit8 _ rfl)) rfl (Z18 26 rfl (by kernel_rfl) rfl (Z108 rfl rfl rfl) rfl (Z18 27 rfl (by kernel_rfl) rfl (Z106 rfl rfl rfl) rfl (UW.nil (by kernel_rfl) (Z6 ?_))))))
       exact QW.join ⟨(!decide (x47 = 195#8)), (Zi hq26).symm, rfl, rfl⟩ ⟨rfl, rfl, rfl, rfl, trivial⟩ (fun w m => m.pick [] 0 rfl rfl)
      ·replace hq26 := if_f hq26 h46
       refine UW.slot (.bool false) (congrArg Value.bool (decide_eq_false h46)) (UW.skip 21 rfl (by kernel_rfl) rfl rfl (UW.skip 22 rfl (by kernel_rfl) rfl rfl (UW.skip 23 rfl (by kernel_rfl) rfl rfl (UW.skip 24 rfl (by kernel_rfl) rfl rfl (UW.skip 25 rfl (by kernel_rfl) rfl rfl (Z18 26 rfl (by kernel_rfl) rfl (Z106 rfl rfl rfl) rfl (Z18 27 rfl (by kernel_rfl) rfl (Z106 rfl rfl rfl) rfl ?_)))))))
       refine UW.nil (by kernel_rfl) (Z6 ?_)
       exact QW.join ⟨false, (Zi hq26).symm, rfl, rfl⟩ ⟨rfl, rfl, rfl, rfl, trivial⟩ (fun w m => m.pick [] 0 rfl rfl)
   ·replace hl18 := if_f hl18 h24
    refine Z14 rfl (decide_eq_false h24) (CW.exit (Z9 (Z9 (Z15 ?_))))
    exact QW.join ⟨(Zi hl18).symm, rfl, rfl⟩ trivial (fun w m => m.pick [] 0 rfl rfl)
 ·replace hf := if_f hf h4
  refine Z13 rfl (congrArg (fun b => !b) (decide_eq_false h4)) (Z4 (Z2 (Z0 (Z5 rfl) rfl (Z6 (Z1 (CW.ret (Z8 ?_)))))))
  have e0 := Zi hf
  subst e0
  refine Z104 (rs := [.tmp 4]) ([.bool false]) ([]) rfl ?_ rfl ?_ ?_ _ (.inl rfl)
  ·exact ⟨rfl, trivial⟩
  ·exact rfl
  ·exact (fun w m => m)
theorem waybilllaw17_backward_does (w0 : World) (Φ : Ctx) (N : List Ent) (hΦ : ∀ w, Mem w0 w N → Φ w) (A0_ : Option Addr) (c0_ : Nat) (a0 : List (BitVec 8)) (res0 : List (BitVec 8)) (va0 : View Φ A0_ a0.length c0_ 1 (u8s a0)) (hf : waybilllaw17_backward a0 = some res0) : DoesG Tryd.prog 42 [.slice A0_ a0.length c0_] w0 [] N (fun v G => ∃ B : List Ent, ∃ or0 : Option Nat, ∃ kr0 : Nat, ∃ rr0 : List Value, (OwnS or0 res0.length kr0 1 (u8s res0) rr0) ∧ v = sl or0 0 res0.length kr0 ∧ G = (or0, blk ((u8s res0) ++ rr0) 5) :: B) := by
 unfold waybilllaw17_backward at hf
 replace va0 := va0.mono (Ψ := More w0 Φ []) (fun w q => q.1)
 have m1 := va0.mx
 refine DoesG.enter Tryd.func42 rfl Tryd.ntmps42 rfl (M := (([] ++ N))) rfl (Z4 (Z2 (Z0 (Z5 rfl) rfl (Z6 (Z1 (Z4 (Z2 (Z0 (Z5 rfl) rfl (Z6 (Z1 (Z4 (Z4 (Z2 (Z0 (Z3 rfl) rfl (Z0 (RV.len rfl rfl) rfl ?_)))))))))))))))
 refine Z0 (RV.sub rfl rfl (by omega)) rfl (Z0 (Z5 rfl) rfl (Z6 (Z1 ?_)))
 obtain ⟨q2, hq3, hf⟩ := Z100 hf
 refine Z115 (fun L' M' => ∃ l4 : List (BitVec 8), ∃ ob5 : Option Nat, ∃ c6 : Nat, ∃ r7 : List Value, q2 = l4 ∧ (OwnS ob5 l4.length c6 1 (u8s l4) r7) ∧ L' = [(3, sl ob5 0 l4.length c6)] ∧ M' = ((ob5, blk ((u8s l4) ++ r7) 5) :: ([] ++ N))) ?_ ?_
 ·rintro L10 M11 ⟨l4, ob5, c6, r7, e9, o8, e12, e13⟩
  rw [e12, e13]
  clear e12 e13 L10 M11
  clear hq3
  rw [e9] at hf
  clear e9
  try dsimp only at hf
  have m14 := o8.mx
  refine Z1 (Z4 (Z2 (Z0 (Z3 rfl) rfl (Z0 (Z5 rfl) rfl (Z6 (Z1 (CW.ret ?_)))))))
  have e0 := Zi hf
  subst e0
  refine Z104 (rs := [.tmp 2]) ([sl ob5 0 l4.length c6]) ((ob5, blk ((u8s l4) ++ r7) 5) :: []) rfl ?_ rfl ?_ ?_ _ (.inl rfl)
  ·exact ⟨rfl, trivial⟩
  ·exact ⟨[], ob5, c6, r7, o8, rfl, rfl⟩
  ·exact (fun w m => m.pick [0] 1 rfl rfl)
 ·skip
  refine CW.block (CW.mem (M' := ((none, blk ((u8s ([] : List (BitVec 8))) ++ []) 5) :: ([] ++ N))) (fun w m => m.nil_ent _) (Z121 (fun k L' M' => ∃ l15 : List (BitVec 8), ∃ z20 : Int, ∃ ob16 : Option Nat, ∃ c17 : Nat, ∃ r18 : List Value, (waybilllaw17_backward.l1 a0 k l15 z20) = some q2 ∧ (OwnS ob16 l15.length c17 1 (u8s l15) r18) ∧ (-9223372036854775808 ≤ z20 ∧ z20 ≤ 9223372036854775807) ∧ L' = [(0, .slice A0_ a0.length c0_), (3, sl ob16 0 l15.length c17), (4, .int .i64 z20)] ∧ M' = ((ob16, blk ((u8s l15) ++ r18) 5) :: ([] ++ N))) (k0 := (((((a0.length : Nat) : Int) - (1 : Int))) - ((0 : Int)) + 2).toNat) ⟨([] : List (BitVec 8)), (((a0.length : Nat) : Int) - (1 : Int)), none, 0, [], hq3, OwnS.nil, (by omega), rfl, rfl⟩ ⟨rfl, rfl, rfl, trivial⟩ (fun w m => m.pick [0] 1 rfl rfl) ?_))
  clear hq3
  rintro k22 L25 M26 ⟨l15, z20, ob16, c17, r18, hl23, o19, b21, e27, e28⟩
  rw [e27, e28]
  clear e27 e28 L25 M26
  rcases k22 with _ | k22
  ·rw [waybilllaw17_backward.l1] at hl23; cases hl23
  rw [waybilllaw17_backward.l1] at hl23
  have m29 := o19.mx
  refine Z4 (Z4 (Z2 (Z0 (Z3 rfl) rfl (Z0 (RV.geq rfl rfl) rfl (Z6 (Z1 ?_))))))
  by_cases h30 : (0 : Int) ≤ z20
  ·replace hl23 := if_t hl23 h30
   refine Z13 rfl (decide_eq_true h30) (CW.skip (Z1 (Z4 (CW.block (Z2 (Z0 (Z3 rfl) rfl (Z0 (Z3 rfl) rfl (Z0 (Z3 rfl) rfl ?_))))))))
   obtain ⟨x31, hx32, hl23⟩ := Z100 hl23
   have hl33 := Z111 hx32
   refine Z0 (Z131 ((z20).toNat) rfl rfl (by omega) rfl rfl (va0.isSome (by decide) hl33) (by omega)) rfl (Z0 (Z21 rfl rfl rfl (fun w m => va0.cell (Z105 hΦ 1 m rfl) (Z148 hx32))) rfl (OW.ofN (NV.bs1 rfl rfl rfl rfl rfl rfl) rfl (fun b34 => (Z20 (M' := (((some b34), blk ((u8s ([x31] : List (BitVec 8))) ++ []) 5) :: (ob16, blk ((u8s l15) ++ r18) 5) :: ([] ++ N))) (fun w m => by first | exact m | simpa [u8s] using m) ?_))))
   have o35 : OwnS (some b34) ([x31] : List (BitVec 8)).length 1 1 (u8s ([x31] : List (BitVec 8))) [] := ⟨by simp [u8s], by simp [u8s], (fun h => nomatch h), by simp⟩
   have mx_o35 := o35.mx
   refine Z7 (sl (some b34) 0 ([x31] : List (BitVec 8)).length 1) (rfl) (OW.rot1 ?_)
   obtain ⟨g36, hl23⟩ := Z112 hl23
   refine OW.appendOwn (s := 1) rfl rfl rfl rfl rfl rfl o19 (fun w m => m.rd0 (List.Mem.tail _ Zh) (fun e => o35.nilc (by decide) e)) o35.n (Z129 _) (o35.zeroO (by decide)) (by decide) (by decide) (by first | omega | (simp only [i5, List.length_nil]; omega)) rfl rfl ((l15 ++ ([x31] : List (BitVec 8))).length) (u8s (l15 ++ ([x31] : List (BitVec 8)))) (List.length_append ..).symm (u8s_app _ _) (fun ob37 r38 c39 o40 => ?_)
   have m41 := o40.mx
   refine Z0 (Z5 rfl) rfl (Z6 (Z27 (Z1 (Z2 (Z0 (Z3 rfl) rfl ?_)))))
   obtain ⟨g42, hl23⟩ := Z112 hl23
   refine Z0 (RV.sub rfl rfl (by omega)) rfl (Z0 (Z5 rfl) rfl (Z6 ?_))
   exact Z114 (k' := k22) (Nat.lt_succ_self _) ⟨(l15 ++ ([x31] : List (BitVec 8))), (z20 - (1 : Int)), ob37, c39, r38, hl23, o40, (by omega), rfl, rfl⟩ ⟨rfl, rfl, rfl, trivial⟩ (fun w m => m.pick [0] 2 rfl rfl)
  ·replace hl23 := if_f hl23 h30
   refine Z14 rfl (decide_eq_false h30) (CW.exit (Z9 (Z9 (Z15 ?_))))
   exact QW.join ⟨l15, ob16, c17, r18, (Zi hl23).symm, o19, rfl, rfl⟩ ⟨rfl, trivial⟩ (fun w m => m.pick [0] 1 rfl rfl)
abbrev Zc : List Value := [.bool false, .slice none 0 0, .slice none 0 0]
abbrev DecR (w0 : World) (Φ : Ctx) (res0 : It) (res1 : Nat) : Value → List Ent → Prop := fun v G => ∃ B : List Ent, ∃ cr0 : List Value, (ItRd (More w0 Φ B) cr0 res0) ∧ (res1 ≤ 9223372036854775807) ∧ v = .tuple #[.agg cr0.toArray, .int .i64 ((res1 : Nat) : Int)] ∧ G = B
abbrev DecQ (w0 : World) (Φ : Ctx) (N : List Ent) (res0 : It) (res1 : Nat) := bodyPost Tryd.prog Tryd.f66 (EndsJ w0 (fun v M' => ∃ G, DecR w0 Φ res0 res1 v G ∧ M' = G ++ N))
def JD (w0 : World) (Φ : Ctx) (N : List Ent) (res0 : It) (res1 : Nat) : Nat → Nat → Z132 → List Ent → Prop
 | 0, _, L, M => ∃ b2 : Nat, res0 = It.zero ∧ res1 ≤ 9223372036854775807 ∧ L = [(2, ptr (some b2) 0), (9, .int .i64 ((res1 : Nat) : Int))] ∧ M = (some b2, blk Zc 89) :: N
 | l + 1, k, L, M => ∃ (b : List (BitVec 8)) (A : Option Addr) (c : Nat) (F : List Frm) (B : List Ent) (ob4 : Option Nat) (c4 : Nat) (r4 : List Value) (b5 : Nat) (cs5 : List Value) (b2 : Nat) (it : It),
   dec k (l + 1) b it (F.map Frm.pure) = some (res0, res1) ∧ (l = 1 → ItRd (More w0 Φ B) cs5 it) ∧ View (More w0 Φ B) A b.length c 1 (u8s b) ∧ (∀ f ∈ F, f.Ok (More w0 Φ B)) ∧ OwnS ob4 F.length c4 2 (stC F) r4 ∧ cs5.length = 3 ∧
   L = [(0, .slice A b.length c), (2, ptr (some b2) 0), (4, sl ob4 0 F.length c4), (5, ptr (some b5) 0)] ∧
   M = (ob4, blk (stC F ++ r4) 141) :: (some b5, blk cs5 89) :: (some b2, blk Zc 89) :: (F.map (Frm.ent 89) ++ (B ++ N))
theorem toBroken {w0 w : World} {s c5 c2 : Ent} {X B N : List Ent} (m : Mem w0 w (s :: c5 :: c2 :: (X ++ (B ++ N)))) : Mem w0 w (c2 :: N) :=
 m.tail.tail.sublist (List.Sublist.cons_cons _ ((List.sublist_append_right _ _).trans (List.sublist_append_right _ _)))
theorem dec_w3 (w0 : World) (Φ : Ctx) (N : List Ent) (hΦ : ∀ w, Mem w0 w N → Φ w) (res0 : It) (res1 : Nat) (k m : Nat) (hkm : k ≤ m) (L : Z132) (M : List Ent) (h : JD w0 Φ N res0 res1 3 k L M) :
  CW Tryd.prog 105 (JumpJ 105 w0 (JD w0 Φ N res0 res1) m (DecQ w0 Φ N res0 res1)) w0 (afterL (scopeOf Tryd.f66.body) 3) L M := by
 obtain ⟨b, A, c, F, B, ob4, c4, r4, b5, cs5, b2, it, hf, -, vb, hF, o4, h5, rfl, rfl⟩ := h
 rcases k with _ | k
 ·rw [dec] at hf; cases hf
 replace hf : dec (k + 1) 3 b it _ = _ := hf
 rw [dec_3] at hf
 have m1 := vb.mx
 have m2 := o4.mx
 refine Z4 (Z4 (Z2 (Z0 (Z3 rfl) rfl (Z0 (RV.len rfl rfl) rfl (Z0 (RV.gtr rfl rfl) rfl (Z7 (.bool (decide (0 < b.length))) (congrArg Value.bool (decide_eq_decide.2 (by omega))) (Z6 (Z1 ?_))))))))
 by_cases h1 : 0 < b.length
 ·replace hf := if_t hf h1
  refine Z13 rfl (decide_eq_true h1) (CW.goto (QW.then_g ?_))
  exact QW.jump (k := k) (by omega) ⟨b, A, c, F, B, ob4, c4, r4, b5, cs5, b2, It.zero, hf, (fun e => absurd e (by decide)), vb, hF, o4, h5, rfl, rfl⟩ ⟨rfl, rfl, rfl, rfl, trivial⟩ (fun w m => m)
 ·replace hf := if_f hf h1
  refine Z14 rfl (decide_eq_false h1) (CW.skip (Z1 ?_))
  rcases F with _ | ⟨f, F⟩
  ·cases hf
  replace hf : dec k 2 f.behind (It.mk true [] f.items) (F.map Frm.pure) = some (res0, res1) := hf
  have o4' : OwnS ob4 (F.length + 1) c4 2 (stC (f :: F)) r4 := o4
  have h0 : ob4.isSome = true := o4'.isSome (i := F.length) (by decide) (by omega)
  have hf0 := hF f (List.mem_cons_self ..)
  refine Z4 (Z2 (Z0 (Z3 rfl) rfl (Z0 (Z3 rfl) rfl (Z0 (RV.len rfl rfl) rfl (Z0 (RV.sub rfl rfl (by simp only [List.length_cons] at *; omega)) rfl (Z0 (Z142 (F.length) rfl rfl (by simp) rfl rfl h0 (by simp only [List.length_cons]; omega)) rfl (Z0 (Z30 rfl rfl rfl rfl) rfl (Z0 (Z29 rfl Zh h0 rfl rfl (stC_at0 F f r4)) rfl ?_))))))))
  refine Z0 (Z107 (l := Zc) (cs := [.bool true, .slice none 0 0, sl f.ob 0 f.items.length f.c]) [(0, [.bool true]), (2, [sl f.ob 0 f.items.length f.c])] rfl rfl rfl rfl rfl rfl rfl) rfl (OW.rot1 ?_)
  refine Z28 (Z103 rfl rfl rfl (by intro u hu; simp at hu; rcases hu with rfl | rfl | rfl <;> rfl) rfl h5 rfl) ?_
  refine Z6 (Z1 (Z4 (Z2 (Z0 (Z3 rfl) rfl (Z0 (Z3 rfl) rfl (Z0 (RV.len rfl rfl) rfl (Z0 (RV.sub rfl rfl (by simp only [List.length_cons] at *; omega)) rfl (Z0 (Z142 (F.length) rfl rfl (by simp) rfl rfl h0 (by simp only [List.length_cons]; omega)) rfl (Z0 (Z30 rfl rfl rfl rfl) rfl (Z0 (Z29 rfl (List.Mem.tail _ Zh) h0 rfl rfl (stC_at1 F f r4)) rfl ?_))))))))))
  refine Z0 (Z5 rfl) rfl (Z6 (Z1 (Z4 (Z2 (Z0 (Z3 rfl) rfl (Z0 (Z3 rfl) rfl (Z0 (RV.len rfl rfl) rfl (Z0 (RV.sub rfl rfl (by simp only [List.length_cons] at *; omega)) rfl ?_))))))))
  refine Z0 (RV.cut_o (F.length) rfl rfl (by simp) rfl rfl (by have := o4'.le (by decide); simp only [List.length_cons]; omega)) rfl ?_
  refine Z0 (Z5 rfl) rfl (Z6 (Z1 (Z4 (CW.goto (QW.then_g ?_)))))
  have hm : ∀ w, More w0 Φ (f.ent 89 :: B) w → More w0 Φ B w := fun w q => More.mono (fun w m => m.tail) q
  have v1 : View (More w0 Φ (f.ent 89 :: B)) ((f.ob).map fun k => ⟨k, 0, none⟩) f.items.length f.c 3 f.cells := hf0.o.view (by decide) (fun w q => q.2.sublist (List.singleton_sublist.2 (List.mem_cons_self ..)))
  have hit : ItRd (More w0 Φ (f.ent 89 :: B)) [.bool true, .slice none 0 0, sl f.ob 0 f.items.length f.c] (It.mk true [] f.items) := by
   have v0 : View (More w0 Φ (f.ent 89 :: B)) none ([] : List (BitVec 8)).length 0 1 (u8s []) := View.nil
   exact ItRd.mk v0 v1 (hf0.h.mono (ItRd.mono hm))
  refine QW.jump (k := k) (by omega) (l := 2) ⟨f.behind, f.A, f.cb, F, f.ent 89 :: B, ob4, c4, f.cs ++ r4, b5, _, b2, It.mk true [] f.items, hf, (fun _ => hit), hf0.v.mono hm, (fun g hg => (hF g (List.mem_cons_of_mem _ hg)).mono hm), o4'.pop rfl, rfl, rfl, rfl⟩ ⟨rfl, rfl, rfl, rfl, trivial⟩ (fun w m => ?_)
  have m := m.pick [1, 0] 2 rfl rfl
  rw [stC_pop] at m
  exact m.underB [_, _, _] _
theorem dec_w2 (w0 : World) (Φ : Ctx) (N : List Ent) (hΦ : ∀ w, Mem w0 w N → Φ w) (res0 : It) (res1 : Nat) (k m : Nat) (hkm : k ≤ m) (L : Z132) (M : List Ent) (h : JD w0 Φ N res0 res1 2 k L M) :
  CW Tryd.prog 105 (JumpJ 105 w0 (JD w0 Φ N res0 res1) m (DecQ w0 Φ N res0 res1)) w0 (afterL (scopeOf Tryd.f66.body) 2) L M := by
 obtain ⟨b, A, c, F, B, ob4, c4, r4, b5, cs5, b2, it, hf, hit, vb, hF, o4, h5, rfl, rfl⟩ := h
 replace hit := hit rfl
 rcases k with _ | k
 ·rw [dec] at hf; cases hf
 replace hf : dec (k + 1) 2 b it _ = _ := hf
 have m1 := vb.mx
 have m2 := o4.mx
 obtain ⟨Ai, ci, Bi, ei, cells, hcs, vi, wi, ri⟩ := ItRd.opn hit
 subst hcs
 refine Z4 (Z4 (Z2 (Z0 (Z3 rfl) rfl (Z0 (RV.len rfl rfl) rfl (Z0 (RV.eql rfl rfl) rfl (Z7 (.bool (decide (F.length = 0))) (congrArg Value.bool (decide_eq_decide.2 (by omega))) (Z6 (Z1 ?_))))))))
 rcases F with _ | ⟨f, F⟩
 ·rw [List.map_nil, dec_2n] at hf
  refine Z13 rfl rfl (Z4 (Z4 (Z2 (Z0 (Z3 rfl) rfl (Z0 (RV.len rfl rfl) rfl (Z0 (RV.gtr rfl rfl) rfl (Z7 (.bool (decide (0 < b.length))) (congrArg Value.bool (decide_eq_decide.2 (by omega))) (Z6 (Z1 ?_)))))))))
  by_cases h1 : 0 < b.length
  ·replace hf := if_t hf h1
   refine Z13 rfl (decide_eq_true h1) (Z4 (Z2 (Z0 (Z5 rfl) rfl (Z6 (Z1 (CW.goto (QW.then_g (QW.then_g ?_))))))))
   obtain ⟨e0, e1⟩ := Prod.mk.inj (Zi hf)
   subst e1
   exact QW.jump (k := 0) (l := 0) (by omega) ⟨b2, e0.symm, (by omega), rfl, rfl⟩ ⟨rfl, rfl, trivial⟩ (fun w m => toBroken m)
  ·replace hf := if_f hf h1
   refine Z14 rfl (decide_eq_false h1) (CW.skip (Z1 (Z4 (Z2 (Z0 (Z22 rfl (List.Mem.tail _ Zh) rfl rfl rfl rfl rfl) rfl (OW.rot2 ?_))))))
   refine Z28 (Z103 rfl rfl rfl (by intro u hu; simp at hu; rcases hu with rfl | rfl | rfl <;> rfl) rfl rfl rfl) ?_
   refine Z0 (Z5 rfl) rfl (Z6 (Z1 (CW.ret (Z8 ?_))))
   obtain ⟨e0, e1⟩ := Prod.mk.inj (Zi hf)
   subst e0
   subst e1
   refine QW.jump_r ?_
   refine Z104 (rs := [.cell 2 89, .tmp 3]) ([.agg [.bool it.list, .slice Ai it.data.length ci, .slice Bi it.items.length ei].toArray, .int .i64 (0 : Int)]) B rfl ?_ rfl ?_ ?_ _ (.inl rfl)
   ·exact ⟨⟨_, _, _, _, rfl, Zh, rfl, rfl, rfl, rfl⟩, rfl, trivial⟩
   ·exact ⟨B, _, hit, (by omega), rfl, rfl⟩
   ·exact (fun w m => m.drop 3)
 ·replace hf : dec (k + 1) 2 b it ((f.items, f.behind) :: F.map Frm.pure) = some (res0, res1) := hf
  rw [dec_2c] at hf
  obtain ⟨hg, hf⟩ := Z112 hf
  refine Z14 rfl rfl (CW.skip (Z1 ?_))
  have o4' : OwnS ob4 (F.length + 1) c4 2 (stC (f :: F)) r4 := o4
  have h0 : ob4.isSome = true := o4'.isSome (i := F.length) (by decide) (by omega)
  have hf0 := hF f (List.mem_cons_self ..)
  have hl4 : 0 + F.length * 2 + 0 < (stC (f :: F) ++ r4).length := by rw [List.length_append, stC_len, List.length_cons]; omega
  have m3 : F.length + 1 ≤ 140737488355328 := m2
  refine Z4 ?_
  refine Z115 (fun L' M' => ∃ g : Frm, g.items = f.items ++ [it] ∧ g.behind = f.behind ∧ g.Ok (More w0 Φ B) ∧ L' = [(0, .slice A b.length c), (2, ptr (some b2) 0), (4, sl ob4 0 (F.length + 1) c4), (5, ptr (some b5) 0)] ∧
   M' = (ob4, blk (stC (g :: F) ++ r4) 141) :: (some b5, blk [.bool it.list, .slice Ai it.data.length ci, .slice Bi it.items.length ei] 89) :: (some b2, blk Zc 89) :: ((g :: F).map (Frm.ent 89) ++ (B ++ N))) ?_ ?_
  ·rintro L' M' ⟨g, gi, gb, gok, e1, e2⟩
   refine Z1 (Z4 (CW.label (Z1 ?_)))
   refine dec_w3 w0 Φ N hΦ res0 res1 k m (by omega) L' M' ⟨b, A, c, g :: F, B, ob4, c4, r4, b5, _, b2, It.zero, ?_, (fun e => absurd e (by decide)), vb, ?_, o4.swap, rfl, e1, e2⟩
   ·show dec k 3 b It.zero ((g.items, g.behind) :: F.map Frm.pure) = some (res0, res1)
    rw [gi, gb]; exact hf
   ·intro x hx
    rcases List.mem_cons.1 hx with rfl | hx
    ·exact gok
    ·exact hF x (List.mem_cons_of_mem _ hx)
  ·refine CW.seqJ (fun L' M' => ∃ v : Bool, L' = [(45, .bool v), (0, .slice A b.length c), (2, ptr (some b2) 0), (4, sl ob4 0 (F.length + 1) c4), (5, ptr (some b5) 0)] ∧ M' = (ob4, blk (stC (f :: F) ++ r4) 141) :: (some b5, blk [.bool it.list, .slice Ai it.data.length ci, .slice Bi it.items.length ei] 89) :: (some b2, blk Zc 89) :: (f.ent 89 :: (F.map (Frm.ent 89) ++ (B ++ N)))) ?_ ?_
   ·rintro L' M' ⟨v, rfl, rfl⟩
    cases v
    ·refine Z14 rfl rfl (Z137 ((some b5, blk [.bool it.list, .slice Ai it.data.length ci, .slice Bi it.items.length ei] 89) :: (some b2, blk Zc 89) :: (F.map (Frm.ent 89) ++ (B ++ N))) [13, 16] (fun w m => m.pick [1, 2] 4 rfl rfl) mixed (by kernel_rfl) (Z10 0 rfl (by kernel_rfl) rfl (Z3 rfl) rfl (Z10 1 rfl (by kernel_rfl) rfl (Z3 rfl) rfl (Z10 2 rfl (by kernel_rfl) rfl (RV.len rfl rfl) rfl (Z10 3 rfl (by kernel_rfl) rfl (RV.sub rfl rfl (by omega)) rfl (Z10 4 rfl (by kernel_rfl) rfl (Z3 rfl) rfl (Z10 5 rfl (by kernel_rfl) rfl (Z3 rfl) rfl ?_)))))))
     refine Z10 6 rfl (by kernel_rfl) rfl (RV.len rfl rfl) rfl (Z10 7 rfl (by kernel_rfl) rfl (RV.sub rfl rfl (by omega)) rfl (Z10 8 rfl (by kernel_rfl) rfl (Z142 (F.length) rfl rfl (by omega) rfl rfl h0 (by omega)) rfl (Z10 9 rfl (by kernel_rfl) rfl (Z30 rfl rfl rfl rfl) rfl (XW.rv 10 rfl (by kernel_rfl) rfl (by kernel_rfl) (Z29 rfl Zh h0 rfl rfl (stC_at0 F f r4)) rfl (Z10 11 rfl (by kernel_rfl) rfl (Z22 rfl Zh rfl rfl rfl rfl rfl) rfl ?_)))))
     refine XW.new 12 rfl (by kernel_rfl) rfl (NV.bsA rfl rfl (by intro x hx; simp at hx; subst hx; rfl) rfl rfl rfl (by decide) (by decide) rfl) rfl (fun b76 => ?_)
     refine Z19 (M' := ((f.ob, blk (f.cells ++ f.r) 89) :: (some b76, blk ([.bool it.list, .slice Ai it.data.length ci, .slice Bi it.items.length ei] ++ []) 89) :: (ob4, blk (stC (f :: F) ++ r4) 141) :: (some b5, blk [.bool it.list, .slice Ai it.data.length ci, .slice Bi it.items.length ei] 89) :: (some b2, blk Zc 89) :: (F.map (Frm.ent 89) ++ (B ++ N)))) (fun w m => m.pick [4, 0, 1, 2, 3] 5 rfl rfl) (fun w m => m.pick [3, 4] 5 rfl rfl) ?_
     refine XW.appendOwn 13 (s := 3) rfl (by kernel_rfl) rfl rfl rfl rfl rfl rfl hf0.o (fun w m => m.rd0 (List.Mem.tail _ Zh) (fun e => nomatch e)) rfl (by intro u hu; simp at hu; rcases hu with rfl | rfl | rfl <;> rfl) (fun e => nomatch e) (by decide) (by decide) hg rfl ((f.items ++ [it]).length) (f.cells ++ [.bool it.list, .slice Ai it.data.length ci, .slice Bi it.items.length ei]) (by simp) rfl (fun w m => m.pick [2, 3] 4 rfl rfl) rfl (fun ob77 r77 c77 o77 => ?_)
     refine Z10 14 rfl (by kernel_rfl) rfl (Z142 (F.length) rfl rfl (by omega) rfl rfl h0 (by omega)) rfl (Z10 15 rfl (by kernel_rfl) rfl (Z30 rfl rfl rfl rfl) rfl (Z19 (M' := ((ob4, blk (stC (f :: F) ++ r4) 141) :: (ob77, blk ((f.cells ++ [.bool it.list, .slice Ai it.data.length ci, .slice Bi it.items.length ei]) ++ r77) 89) :: (some b5, blk [.bool it.list, .slice Ai it.data.length ci, .slice Bi it.items.length ei] 89) :: (some b2, blk Zc 89) :: (F.map (Frm.ent 89) ++ (B ++ N)))) (fun w m => m.pick [2, 0, 3, 4] 5 rfl rfl) (fun w m => m.pick [2, 3] 4 rfl rfl) (XW.sv 16 rfl (by kernel_rfl) (SV.store rfl h0 rfl rfl rfl hl4) (fun w m => m.pick [2, 3] 4 rfl rfl) (XW.cells (stC ((⟨ob77, c77, f.cells ++ [.bool it.list, .slice Ai it.data.length ci, .slice Bi it.items.length ei], r77, f.A, f.cb, f.items ++ [it], f.behind⟩ : Frm) :: F) ++ r4) (show (stC (f :: F) ++ r4).set (0 + F.length * 2 + 0) (sl ob77 0 (f.items ++ [it]).length c77) = stC ((⟨ob77, c77, f.cells ++ [.bool it.list, .slice Ai it.data.length ci, .slice Bi it.items.length ei], r77, f.A, f.cb, f.items ++ [it], f.behind⟩ : Frm) :: F) ++ r4 from stC_set0 F f ⟨ob77, c77, f.cells ++ [.bool it.list, .slice Ai it.data.length ci, .slice Bi it.items.length ei], r77, f.A, f.cb, f.items ++ [it], f.behind⟩ r4 rfl rfl rfl) (XW.nil (by kernel_rfl) (QW.join ⟨⟨ob77, c77, f.cells ++ [.bool it.list, .slice Ai it.data.length ci, .slice Bi it.items.length ei], r77, f.A, f.cb, f.items ++ [it], f.behind⟩, rfl, rfl, ⟨o77, hf0.h.app (Reps.one hit), hf0.v⟩, rfl, rfl⟩ ⟨rfl, rfl, rfl, rfl, trivial⟩ (fun w m => ?_)))))))
     exact m.pick [0, 2, 3, 1] 4 rfl rfl
    ·refine Z13 rfl rfl (Z4 (Z138 14 mixed (by kernel_rfl) rfl (Z18 0 rfl (by kernel_rfl) rfl (Z3 rfl) rfl (Z18 1 rfl (by kernel_rfl) rfl (Z3 rfl) rfl (Z18 2 rfl (by kernel_rfl) rfl (RV.len rfl rfl) rfl (Z18 3 rfl (by kernel_rfl) rfl (RV.sub rfl rfl (by omega)) rfl (Z18 4 rfl (by kernel_rfl) rfl (Z3 rfl) rfl ?_)))))))
     refine Z18 5 rfl (by kernel_rfl) rfl (Z3 rfl) rfl (Z18 6 rfl (by kernel_rfl) rfl (RV.len rfl rfl) rfl (Z18 7 rfl (by kernel_rfl) rfl (RV.sub rfl rfl (by omega)) rfl (Z18 8 rfl (by kernel_rfl) rfl (Z142 (F.length) rfl rfl (by omega) rfl rfl h0 (by omega)) rfl (Z18 9 rfl (by kernel_rfl) rfl (Z30 rfl rfl rfl rfl) rfl (Z18 10 rfl (by kernel_rfl) rfl (Z29 rfl Zh h0 rfl rfl (stC_at0 F f r4)) rfl (Z18 11 rfl (by kernel_rfl) rfl (Z22 rfl (List.Mem.tail _ Zh) rfl rfl rfl rfl rfl) rfl (Z18 12 rfl (by kernel_rfl) rfl (RV.len rfl rfl) rfl ?_)))))))
     refine UW.new 13 rfl (by kernel_rfl) rfl (NV.bsA (cs := Zc) rfl rfl (by intro x hx; simp at hx; subst hx; rfl) rfl rfl rfl (by decide) (by decide) rfl) rfl (fun b59 => ?_)
     refine UW.nil (by kernel_rfl) (Z20 (M' := ((f.ob, blk (f.cells ++ f.r) 89) :: (some b59, blk (Zc ++ []) 89) :: (ob4, blk (stC (f :: F) ++ r4) 141) :: (some b5, blk [.bool it.list, .slice Ai it.data.length ci, .slice Bi it.items.length ei] 89) :: (some b2, blk Zc 89) :: (F.map (Frm.ent 89) ++ (B ++ N)))) (fun w m => m.pick [4, 0, 1, 2, 3] 5 rfl rfl) ?_)
     refine OW.appendOwn (s := 3) rfl rfl rfl rfl rfl rfl hf0.o (fun w m => m.rd0 (List.Mem.tail _ Zh) (fun e => nomatch e)) rfl (by intro u hu; simp at hu; rcases hu with rfl | rfl | rfl <;> rfl) (fun e => nomatch e) (by decide) (by decide) hg rfl rfl ((f.items ++ [it]).length) (f.cells ++ Zc) (by simp) rfl (fun ob60 r60 c60 o60 => ?_)
     refine Z0 (Z142 (F.length) rfl rfl (by omega) rfl rfl h0 (by omega)) rfl (Z0 (Z30 rfl rfl rfl rfl) rfl (OW.rot2 (Z28 (SV.store rfl h0 rfl rfl rfl hl4) (OW.cells (stC ((⟨ob60, c60, f.cells ++ [.bool it.list, .slice Ai it.data.length ci, .slice Bi it.items.length ei], r60, f.A, f.cb, f.items ++ [it], f.behind⟩ : Frm) :: F) ++ r4) (show (stC (f :: F) ++ r4).set (0 + F.length * 2 + 0) (sl ob60 0 (f.items ++ [it]).length c60) = stC ((⟨ob60, c60, f.cells ++ [.bool it.list, .slice Ai it.data.length ci, .slice Bi it.items.length ei], r60, f.A, f.cb, f.items ++ [it], f.behind⟩ : Frm) :: F) ++ r4 from stC_set0 F f ⟨ob60, c60, f.cells ++ [.bool it.list, .slice Ai it.data.length ci, .slice Bi it.items.length ei], r60, f.A, f.cb, f.items ++ [it], f.behind⟩ r4 rfl rfl rfl) (Z6 (Z1 (Z2 ?_)))))))
     have hlen : (f.items ++ [it]).length = f.items.length + 1 := by simp
     have h60 : ob60.isSome = true := o60.isSome (i := f.items.length) (by decide) (by omega)
     refine Z0 (Z142 (f.items.length) rfl rfl rfl rfl rfl h60 (by omega)) rfl (OW.rot1 ?_)
     have hc3 := hf0.o.n
     refine Z28 (SV.storeAs rfl h60 rfl (by intro u hu; simp at hu; rcases hu with rfl | rfl | rfl <;> rfl) rfl rfl (show 0 + f.items.length * 3 + 3 ≤ _ by simp only [List.length_append, List.length_cons, List.length_nil]; omega)) ?_
     have esp : spl ((f.cells ++ Zc) ++ r60) (0 + f.items.length * 3) [.bool it.list, .slice Ai it.data.length ci, .slice Bi it.items.length ei] = (f.cells ++ [.bool it.list, .slice Ai it.data.length ci, .slice Bi it.items.length ei]) ++ r60 := spl_last f.cells Zc [.bool it.list, .slice Ai it.data.length ci, .slice Bi it.items.length ei] r60 (f.items.length * 3) (by omega) rfl
     refine OW.cells _ esp (Z6 (QW.join ⟨⟨ob60, c60, f.cells ++ [.bool it.list, .slice Ai it.data.length ci, .slice Bi it.items.length ei], r60, f.A, f.cb, f.items ++ [it], f.behind⟩, rfl, rfl, ⟨o60.same (by simp) rfl, hf0.h.app (Reps.one hit), hf0.v⟩, rfl, rfl⟩ ⟨rfl, rfl, rfl, rfl, trivial⟩ (fun w m => ?_)))
     exact m.pick [1, 3, 4, 0] 5 rfl rfl
   ·refine CW.drawsA mixed (AW.one 0 (by kernel_rfl) (AO.alloc (l := [.bool false]) rfl rfl rfl rfl (fun b44 => ?_)))
    refine AW.two 1 2 (by kernel_rfl) ?_ ?_
    ·refine AO.sv rfl (SV.store rfl rfl rfl rfl rfl (by simp)) (AW.one 2 (by kernel_rfl) (AO.sv rfl (SV.store rfl rfl rfl rfl rfl (by simp)) (AW.one 3 (by kernel_rfl) (AO.rv rfl (Z29 (v := .bool false) rfl Zh rfl rfl rfl rfl) rfl (AW.nil (by kernel_rfl) ?_)))))
     exact QW.join ⟨false, rfl, rfl⟩ ⟨rfl, rfl, rfl, rfl, rfl, trivial⟩ (fun w m => m.tail)
    ·refine AO.sv rfl (SV.store rfl rfl rfl rfl rfl (by simp)) (AW.one 1 (by kernel_rfl) (AO.sv rfl (SV.store rfl rfl rfl rfl rfl (by simp)) (AW.one 3 (by kernel_rfl) (AO.rv rfl (Z29 (v := .bool true) rfl Zh rfl rfl rfl rfl) rfl (AW.nil (by kernel_rfl) ?_)))))
     exact QW.join ⟨true, rfl, rfl⟩ ⟨rfl, rfl, rfl, rfl, rfl, trivial⟩ (fun w m => m.tail)
theorem dec_w1 (w0 : World) (Φ : Ctx) (N : List Ent) (hΦ : ∀ w, Mem w0 w N → Φ w) (res0 : It) (res1 : Nat) (k m : Nat) (hkm : k ≤ m) (L : Z132) (M : List Ent) (h : JD w0 Φ N res0 res1 1 k L M) :
  CW Tryd.prog 105 (JumpJ 105 w0 (JD w0 Φ N res0 res1) m (DecQ w0 Φ N res0 res1)) w0 (afterL (scopeOf Tryd.f66.body) 1) L M := by
 obtain ⟨b, A, c, F, B, ob4, c4, r4, b5, cs5, b2, it, hf, -, vb, hF, o4, h5, rfl, rfl⟩ := h
 rcases k with _ | k
 ·rw [dec] at hf; cases hf
 replace hf : dec (k + 1) 1 b it _ = _ := hf
 rw [dec_1] at hf
 have m1 := vb.mx
 have m2 := o4.mx
 obtain ⟨⟨x1, x2, x3, x4⟩, hx, hf⟩ := Z100 hf
 dsimp only at hf
 refine Z4 (Z4 (Z2 (Z0 (Z3 rfl) rfl (Z12 Tryd.call92 rfl (rlp_cut_does w0 (More w0 Φ B) _ (fun w m => More.low hΦ [_, _, _] _ m) A c b x1 x2 x3 x4 vb hx) rfl rfl ?_))))
 rintro L3 M3 ⟨B3, Ar1, kr1, Ar2, kr2, v1, v2, bx, e1, e2⟩
 rw [e1, e2]
 clear e1 e2 L3 M3
 refine Z20 (M' := ((ob4, blk (stC F ++ r4) 141) :: (some b5, blk cs5 89) :: (some b2, blk Zc 89) :: (F.map (Frm.ent 89) ++ ((B3 ++ B) ++ N)))) (fun w m => Mem.deep [_, _, _] _ m) ?_
 replace v1 := v1.mono (Ψ := More w0 Φ (B3 ++ B)) (fun w q => Z128 q)
 replace v2 := v2.mono (Ψ := More w0 Φ (B3 ++ B)) (fun w q => Z128 q)
 replace hF : ∀ f ∈ F, f.Ok (More w0 Φ (B3 ++ B)) := fun f hf => (hF f hf).mono (fun w q => More.mono (fun w m => m.appR) q)
 have m3 := v1.mx
 have m4 := v2.mx
 refine Z0 (Z3 rfl) rfl (Z0 (Z17 rfl rfl) rfl (Z0 (Z17 rfl rfl) rfl (Z0 (Z17 rfl rfl) rfl (Z0 (Z17 rfl rfl) rfl (Z0 (Z5 rfl) rfl (Z0 (Z5 rfl) rfl (Z0 (Z5 rfl) rfl ?_)))))))
 refine Z0 (Z5 rfl) rfl (Z6 (Z1 (Z4 (Z2 (Z0 (Z3 rfl) rfl (Z0 (RV.neq rfl rfl) rfl (Z7 (.bool (!decide (x4 = 0))) (congrArg (fun b => Value.bool (!b)) (decide_eq_decide.2 (by omega))) (Z6 (Z1 ?_)))))))))
 by_cases h4 : x4 = 0
 ·replace hf := if_t hf h4
  refine Z14 rfl (congrArg (fun b => !b) (decide_eq_true h4)) (CW.skip (Z1 (Z4 (Z4 (Z2 (Z0 (Z3 rfl) rfl (Z0 (RV.not rfl) rfl (Z6 (Z1 ?_)))))))))
  by_cases h1 : x1 = true
  ·replace hf := if_t hf h1
   refine Z14 rfl (congrArg (fun b => !b) h1) (CW.skip (Z1 (Z4 (Z4 (Z2 (Z0 (Z3 rfl) rfl (Z0 (RV.len rfl rfl) rfl (Z0 (RV.eql rfl rfl) rfl (Z7 (.bool (decide ((F.map Frm.pure).length = 1024))) (congrArg Value.bool (decide_eq_decide.2 (by rw [List.length_map]; omega))) (Z6 (Z1 ?_)))))))))))
   by_cases h2 : (F.map Frm.pure).length = 1024
   ·replace hf := if_t hf h2
    refine Z13 rfl (decide_eq_true h2) (Z4 (Z2 (Z0 (Z5 rfl) rfl (Z6 (Z1 (CW.goto (QW.then_g ?_)))))))
    obtain ⟨e0, e1⟩ := Prod.mk.inj (Zi hf)
    subst e1
    exact QW.jump (k := 0) (l := 0) (by omega) ⟨b2, e0.symm, (by omega), rfl, rfl⟩ ⟨rfl, rfl, trivial⟩ (fun w m => toBroken m)
   ·replace hf := if_f hf h2
    refine Z14 rfl (decide_eq_false h2) (CW.skip (Z1 ?_))
    obtain ⟨hg, hf⟩ := Z112 hf
    rw [List.length_map] at hg
    refine Z4 (Z2 (Z0 (Z3 rfl) rfl (Z0 (Z3 rfl) rfl (Z0 (Z107 (l := [.slice none 0 0, .slice none 0 0]) (cs := [.slice none 0 0, .slice Ar2 x3.length kr2]) [(1, [.slice Ar2 x3.length kr2])] rfl rfl rfl rfl rfl rfl rfl) rfl ?_))))
    refine OW.ofN (NV.bsA rfl rfl (by intro x hx; simp at hx; subst hx; rfl) rfl rfl rfl (by decide) (by decide) rfl) rfl (fun b33 => ?_)
    refine Z20 (M' := ((ob4, blk (stC F ++ r4) 141) :: (some b33, blk ([.slice none 0 0, .slice Ar2 x3.length kr2] ++ []) 141) :: (some b5, blk cs5 89) :: (some b2, blk Zc 89) :: (F.map (Frm.ent 89) ++ ((B3 ++ B) ++ N)))) (fun w m => m.pick [1, 0, 2, 3] 4 rfl rfl) ?_
    refine OW.appendOwn (s := 2) rfl rfl rfl rfl rfl rfl o4 (fun w m => m.rd0 (List.Mem.tail _ Zh) (fun e => nomatch e)) rfl (by intro u hu; simp at hu; rcases hu with rfl | rfl <;> rfl) (fun e => nomatch e) (by decide) (by decide) hg rfl rfl (((⟨none, 0, [], [], Ar2, kr2, [], x3⟩ : Frm) :: F).length) (stC ((⟨none, 0, [], [], Ar2, kr2, [], x3⟩ : Frm) :: F)) (by simp) rfl (fun ob34 r34 c34 o34 => ?_)
    refine Z0 (Z5 rfl) rfl (Z6 (Z1 (Z4 (Z2 (Z0 (Z3 rfl) rfl (Z0 (Z5 rfl) rfl (Z6 (Z1 (Z4 (Z2 (Z0 (Z107 (l := Zc) (cs := [.bool true, .slice none 0 0, .slice none 0 0]) [(0, [.bool true])] rfl rfl rfl rfl rfl rfl rfl) rfl (OW.rot2 ?_))))))))))))
    refine Z28 (Z103 rfl rfl rfl (by intro u hu; simp at hu; rcases hu with rfl | rfl | rfl <;> rfl) rfl h5 rfl) ?_
    refine Z6 (Z1 (Z4 (CW.goto (QW.then_g ?_))))
    refine QW.jump (k := k) (l := 3) (by omega) ⟨x2, Ar1, kr1, ⟨none, 0, [], [], Ar2, kr2, [], x3⟩ :: F, B3 ++ B, ob34, c34, r34, b5, [.bool true, .slice none 0 0, .slice none 0 0], b2, It.zero, hf, (fun e => absurd e (by decide)), v1, ?_, o34, rfl, rfl, rfl⟩ ⟨rfl, rfl, rfl, rfl, trivial⟩ (fun w m => ?_)
    ·intro x hx
     rcases List.mem_cons.1 hx with rfl | hx
     ·exact ⟨OwnS.nil, Reps.nil, v2⟩
     ·exact hF x hx
    ·have m := m.nil_ent (blk ([] ++ []) 89)
     exact m.pick [2, 1, 4, 0] 5 rfl rfl
  ·replace hf := if_f hf h1
   refine Z13 rfl (congrArg (fun b => !b) (Bool.eq_false_iff.2 h1)) ?_
   obtain ⟨x, hx5, hf⟩ := Z100 hf
   refine Z4 (Z2 (Z0 (Z3 rfl) rfl (Z12 Tryd.call60 rfl (rlp_Text_does w0 (More w0 Φ (B3 ++ B)) _ (fun w m => More.low hΦ [_, _, _] _ m) Ar1 kr1 x2 x v1 hx5) rfl rfl ?_)))
   rintro L3 M3 ⟨B4, cr, hr, e1, e2⟩
   rw [e1, e2]
   clear e1 e2 L3 M3
   refine Z20 (M' := ((ob4, blk (stC F ++ r4) 141) :: (some b5, blk cs5 89) :: (some b2, blk Zc 89) :: (F.map (Frm.ent 89) ++ ((B4 ++ (B3 ++ B)) ++ N)))) (fun w m => Mem.deep [_, _, _] _ m) ?_
   replace hr := ItRd.mono (Ψ := More w0 Φ (B4 ++ (B3 ++ B))) (fun w q => Z128 q) _ _ hr
   replace v2 := v2.mono (Ψ := More w0 Φ (B4 ++ (B3 ++ B))) (fun w q => More.mono (fun w m => m.appR) q)
   replace hF : ∀ f ∈ F, f.Ok (More w0 Φ (B4 ++ (B3 ++ B))) := fun f hf => (hF f hf).mono (fun w q => More.mono (fun w m => m.appR) q)
   have hl := ItRd.len _ _ hr
   have h1c := ItRd.one _ _ hr
   refine OW.rot1 (Z28 (Z103 rfl rfl rfl h1c rfl h5 hl) (Z6 (Z1 (Z4 (Z2 (Z0 (Z3 rfl) rfl (Z0 (Z5 rfl) rfl (Z6 (Z1 (CW.goto (QW.then_g ?_)))))))))))
   exact QW.jump (k := k) (l := 2) (by omega) ⟨x3, Ar2, kr2, F, B4 ++ (B3 ++ B), ob4, c4, r4, b5, cr, b2, x, hf, (fun _ => hr), v2, hF, o4, hl, rfl, rfl⟩ ⟨rfl, rfl, rfl, rfl, trivial⟩ (fun w m => m.pick [1, 0] 2 rfl rfl)
 ·replace hf := if_f hf h4
  refine Z13 rfl (congrArg (fun b => !b) (decide_eq_false h4)) (CW.goto (QW.then_g ?_))
  obtain ⟨e0, e1⟩ := Prod.mk.inj (Zi hf)
  subst e1
  exact QW.jump (k := 0) (l := 0) (by omega) ⟨b2, e0.symm, bx, rfl, rfl⟩ ⟨rfl, rfl, trivial⟩ (fun w m => toBroken m)
theorem rlp_Decode_does (w0 : World) (Φ : Ctx) (N : List Ent) (hΦ : ∀ w, Mem w0 w N → Φ w) (A0_ : Option Addr) (c0_ : Nat) (a0 : List (BitVec 8)) (res0 : It) (res1 : Nat) (va0 : View Φ A0_ a0.length c0_ 1 (u8s a0)) (hf : rlp_Decode a0 = some (res0, res1)) : DoesG Tryd.prog 66 [.slice A0_ a0.length c0_] w0 [] N (fun v G => ∃ B : List Ent, ∃ cr0 : List Value, (ItRd (More w0 Φ B) cr0 res0) ∧ (res1 ≤ 9223372036854775807) ∧ v = .tuple #[.agg cr0.toArray, .int .i64 ((res1 : Nat) : Int)] ∧ G = B) := by
 unfold rlp_Decode at hf
 have m1 := va0.mx
 refine DoesG.enter Tryd.func66 rfl Tryd.ntmps66 rfl (M := N) rfl (Z4 (Z2 (OW.alloc (l := Zc) rfl rfl rfl (fun b2 => (Z0 (Z5 rfl) rfl (Z6 (Z1 ?_)))))))
 refine CW.scopeJ (JD w0 Φ N res0 res1) (4 * a0.length + 9) ?_ ?_
 ·refine Z4 (Z2 (Z0 (Z5 rfl) rfl (Z6 (Z1 (Z4 (Z2 (OW.alloc (l := Zc) rfl rfl rfl (fun b5 => (Z6 (Z1 (Z4 (Z2 (Z0 (Z5 rfl) rfl (Z6 (Z1 (Z4 (Z2 (Z0 (Z5 rfl) rfl ?_))))))))))))))))))
  refine Z0 (Z5 rfl) rfl (Z6 (Z1 (Z4 (Z2 (Z0 (Z5 rfl) rfl (Z6 (Z1 (Z4 (Z4 (Z2 (Z0 (Z3 rfl) rfl (Z0 (RV.len rfl rfl) rfl (Z0 (RV.gtr rfl rfl) rfl (Z7 (.bool (decide (16777216 < a0.length))) (congrArg Value.bool (decide_eq_decide.2 (by omega))) ?_))))))))))))))
  refine Z6 (Z1 ?_)
  by_cases h1 : 16777216 < a0.length
  ·replace hf := if_t hf h1
   refine Z13 rfl (decide_eq_true h1) (CW.goto (QW.then_g ?_))
   obtain ⟨e0, e1⟩ := Prod.mk.inj (Zi hf)
   subst e1
   exact QW.jump (k := 0) (l := 0) (by omega) ⟨b2, e0.symm, (by omega), rfl, rfl⟩ ⟨rfl, rfl, trivial⟩ (fun w m => m.tail)
  ·replace hf := if_f hf h1
   refine Z14 rfl (decide_eq_false h1) (CW.skip (Z1 (Z4 (CW.label (Z1 (CW.mem (M' := ((none, blk ([] ++ []) 141) :: (some b5, blk Zc 89) :: (some b2, blk Zc 89) :: N)) (fun w m => m.nil_ent _) (CW.sub (L' := [(0, .slice A0_ a0.length c0_), (2, ptr (some b2) 0), (4, sl none 0 0 0), (5, ptr (some b5) 0)]) ⟨rfl, rfl, rfl, rfl, trivial⟩ ?_)))))))
   exact dec_w1 w0 Φ N hΦ res0 res1 (4 * a0.length + 8) _ (by omega) _ _ ⟨a0, A0_, c0_, [], [], none, 0, [], b5, Zc, b2, It.zero, hf, (fun e => absurd e (by decide)), va0.mono (fun w q => q.1), (fun f hf => nomatch hf), OwnS.nil, rfl, rfl, rfl⟩
 ·intro l k L M h
  match l, h with
  | 0, ⟨b2, e0, hb, e1, e2⟩ =>
   subst e0
   subst e1
   subst e2
   refine ⟨_, rfl, ?_⟩
   refine Z4 (CW.skip (Z1 (Z4 (Z2 (Z0 (Z107 (l := Zc) (cs := Zc) [] rfl rfl rfl rfl rfl rfl rfl) rfl (Z0 (Z3 rfl) rfl ?_))))))
   refine Z28 (Z103 rfl rfl rfl (by intro u hu; simp at hu; rcases hu with rfl | rfl | rfl <;> rfl) rfl rfl rfl) ?_
   refine Z0 (Z5 rfl) rfl (Z6 (Z1 (CW.ret (QW.jump_r ?_))))
   have v0 : View (More w0 Φ []) none ([] : List (BitVec 8)).length 0 1 (u8s []) := View.nil
   have v1 : View (More w0 Φ []) none ([] : List (It)).length 0 3 [] := View.nil
   refine Z104 (rs := [.cell 2 89, .tmp 3]) ([.agg Zc.toArray, .int .i64 ((res1 : Nat) : Int)]) [] rfl ?_ rfl ?_ ?_ _ (.inl rfl)
   ·exact ⟨⟨_, _, _, _, rfl, Zh, rfl, rfl, rfl, rfl⟩, rfl, trivial⟩
   ·exact ⟨[], Zc, (ItRd.mk v0 v1 (Reps.nil)), hb, rfl, rfl⟩
   ·exact (fun w m => m.tail)
  | 1, h =>
   refine ⟨_, rfl, ?_⟩
   refine Z4 (CW.skip (Z1 ?_))
   exact dec_w1 w0 Φ N hΦ res0 res1 k k (Nat.le_refl _) L M h
  | 2, h =>
   refine ⟨_, rfl, ?_⟩
   refine Z4 (CW.skip (Z1 ?_))
   exact dec_w2 w0 Φ N hΦ res0 res1 k k (Nat.le_refl _) L M h
  | 3, h =>
   refine ⟨_, rfl, ?_⟩
   refine Z4 (CW.skip (Z1 ?_))
   exact dec_w3 w0 Φ N hΦ res0 res1 k k (Nat.le_refl _) L M h
  | l + 4, ⟨b, A, c, F, B, ob4, c4, r4, b5, cs5, b2, it, hf, _⟩ =>
   rcases k with _ | k
   ·rw [dec] at hf; cases hf
   ·exact absurd hf (by simp [dec])
theorem rsmall_does (w0 : World) (Φ : Ctx) (N : List Ent) (hΦ : ∀ w, Mem w0 w N → Φ w) (br b off : Nat) (l : List Value) (te : TypeId) (rd r2 : Rdr) (cs : List Value) (it : It) (old v : BitVec 64) (hit : ItRd Φ cs it) (hold : l[off]? = some (U64 old)) (hf : rsmall rd old it = some (v, r2)) :
  DoesG Tryd.prog 69 [ptr (some br) 0, ptr (some b) off, .agg cs.toArray] w0 [(some br, blk rd.C 109), (some b, blk l te)] N (fun u G => ∃ B, u = .tuple #[] ∧ G = (some br, blk r2.C 109) :: (some b, blk (l.set off (U64 v)) te) :: B) := by
 have hlt : off < l.length := (List.getElem?_eq_some_iff.1 hold).1
 have hcl : cs.length = 3 := ItRd.len _ _ hit
 unfold rsmall at hf
 refine DoesG.enter Tryd.func69 rfl Tryd.ntmps69 rfl (M := (some br, blk rd.C 109) :: (some b, blk l te) :: N) rfl (Z4 (Z2 (Z130 rfl rfl (fun b5 => (Z6 ?_)))))
 (refine Z1 ?_; refine Z4 ?_; refine Z4 ?_)
 refine Z2 (Z0 (Z3 rfl) rfl (Z0 (RV.nilCheck rfl) rfl (Z0 (Z30 rfl rfl rfl rfl) rfl ?_)))
 refine Z0 (Z29 rfl (by (refine List.Mem.tail _ ?_; exact List.Mem.head _); done) rfl rfl rfl rfl) rfl ?_
 refine Z0 (RV.neq rfl rfl) rfl (Z6 (Z1 ?_))
 refine CW.cond_np rfl (fun he => ?_) (fun he => ?_)
 ·rw [if_neg he] at hf
  obtain ⟨rfl, rfl⟩ := Prod.mk.inj (Zi hf)
  (refine CW.ret ?_; refine Z8 ?_)
  refine Z104 (rs := []) [] ((some br, blk rd.C 109) :: (some b, blk (l.set off (U64 old)) te) :: [(some b5, blk cs 89)]) rfl trivial rfl ⟨_, rfl, rfl⟩ (fun w m => ?_) _ (.inl rfl)
  rw [set_here hold]
  exact m.pick [1, 2, 0] 3 rfl rfl
 ·rw [if_pos he] at hf
  obtain ⟨⟨p1, p2⟩, hp, hf⟩ := Option.bind_eq_some_iff.1 hf
  dsimp only at hf
  (refine CW.skip ?_; refine Z1 ?_; refine Z4 ?_)
  refine Z2 (Z0 (Z22 rfl Zh rfl rfl rfl rfl hcl) rfl ?_)
  refine Z12 Tryd.call96 rfl (rlp_GetSmall_does w0 Φ ((some b5, blk cs 89) :: (some br, blk rd.C 109) :: (some b, blk l te) :: N) (fun w m => hΦ w (m.drop 3)) cs it p1 p2 hit hp) rfl rfl ?_; rintro _ G1 ⟨hb, rfl⟩; refine Z20 (M' := (some br, blk rd.C 109) :: (some b, blk l te) :: N) (fun w m => (m.appR).tail) ?_
  refine Z0 (Z3 rfl) rfl (Z0 (Z17 rfl rfl) rfl (Z0 (Z17 rfl rfl) rfl (Z0 (Z5 rfl) rfl (Z0 (Z5 rfl) rfl (Z6 ?_)))))
  (refine Z1 ?_; refine Z4 ?_; refine Z4 ?_)
  refine Z2 (Z0 (Z3 rfl) rfl (Z0 (RV.neq rfl rfl) rfl (Z6 (Z1 ?_))))
  refine CW.cond_np rfl (fun h2 => ?_) (fun h2 => ?_)
  ·rw [if_neg (by omega)] at hf
   obtain ⟨q, hq, hf⟩ := Option.bind_eq_some_iff.1 hf
   obtain ⟨rfl, rfl⟩ := Prod.mk.inj (Zi hf)
   refine Z2 (Z0 (Z3 rfl) rfl ?_)
   refine Z12 Tryd.call95 rfl (Z110 w0 Φ ((some b, blk l te) :: N) (fun w m => hΦ w (m.drop 1)) br rd 172 q (by omega) hq) rfl rfl ?_; rintro _ _ ⟨B, rfl, rfl⟩; refine Z20 (M' := (some b, blk l te) :: (some br, blk q.C 109) :: (B ++ N)) (fun w m => m.sk1.rot1) ?_
   refine Z6 (Z1 (Z2 (Z0 (Z3 rfl) rfl (Z0 (Z3 rfl) rfl (Z0 (RV.nilCheck rfl) rfl (Z28 (SV.store rfl rfl rfl rfl rfl (by assumption)) (Z6 ?_)))))))
   refine Z104 (rs := []) [] ((some br, blk q.C 109) :: (some b, blk (l.set off (U64 p1)) te) :: B) rfl trivial rfl ⟨_, rfl, rfl⟩ (fun w m => m.rot1) _ (.inr rfl)
  ·rw [if_pos (by omega)] at hf
   obtain ⟨rfl, rfl⟩ := Prod.mk.inj (Zi hf)
   (refine CW.skip ?_; refine Z1 ?_)
   refine CW.mem (M' := (some b, blk l te) :: (some br, blk rd.C 109) :: N) (fun w m => m.rot1) (Z2 (Z0 (Z3 rfl) rfl (Z0 (Z3 rfl) rfl (Z0 (RV.nilCheck rfl) rfl (Z28 (SV.store rfl rfl rfl rfl rfl (by assumption)) (Z6 ?_))))))
   refine Z104 (rs := []) [] ((some br, blk rd.C 109) :: (some b, blk (l.set off (U64 p1)) te) :: []) rfl trivial rfl ⟨_, rfl, rfl⟩ (fun w m => m.rot1) _ (.inr rfl)
theorem rbloom_does (w0 : World) (Φ : Ctx) (N : List Ent) (hΦ : ∀ w, Mem w0 w N → Φ w) (br b off : Nat) (l : List Value) (te : TypeId) (rd r2 : Rdr) (cs : List Value) (it : It) (old v : Vector (BitVec 8) 256) (hit : ItRd Φ cs it) (hold : ∀ k u, (u8s old.toList)[k]? = some u → l[off + k]? = some u) (hlen : off + 256 ≤ l.length) (hf : rbloom rd old it = some (v, r2)) :
  DoesG Tryd.prog 70 [ptr (some br) 0, ptr (some b) off, .agg cs.toArray] w0 [(some br, blk rd.C 109), (some b, blk l te)] N (fun u G => ∃ B, u = .tuple #[] ∧ G = (some br, blk r2.C 109) :: (some b, blk (spl l off (u8s v.toList)) te) :: B) := by
 have hcl : cs.length = 3 := ItRd.len _ _ hit
 unfold rbloom at hf
 obtain ⟨⟨p1, p2⟩, hp, hf⟩ := Option.bind_eq_some_iff.1 hf
 dsimp only at hf
 refine DoesG.enter Tryd.func70 rfl Tryd.ntmps70 rfl (M := (some br, blk rd.C 109) :: (some b, blk l te) :: N) rfl (Z4 (Z2 (Z130 rfl rfl (fun b5 => (Z6 ?_)))))
 (refine Z1 ?_; refine Z4 ?_)
 refine Z2 (Z0 (Z3 rfl) rfl (Z0 (Z22 rfl Zh rfl rfl rfl rfl hcl) rfl ?_))
 refine OW.rot1 ?_; refine Z12 Tryd.call94 rfl (Z120 w0 Φ ((some b5, blk cs 89) :: (some b, blk l te) :: N) (fun w m => hΦ w (m.drop 2)) br rd cs it 256 p1 p2 hit (by omega) hp) rfl rfl ?_; rintro _ _ ⟨B, ob, c, r, o, rfl, rfl⟩; refine Z20 (M' := (some b, blk l te) :: (ob, blk (u8s p1 ++ r) 5) :: (some br, blk p2.C 109) :: (B ++ N)) (fun w m => (m.sk2.sk3).pick [3, 0, 1] 4 rfl rfl) ?_
 refine Z0 (Z5 rfl) rfl (Z6 ?_)
 (refine Z1 ?_; refine Z4 ?_)
 have hv := o.view (te := 5) (w0 := w0) (Ψ := fun w => Mem w0 w [(ob, blk (u8s p1 ++ r) 5)]) (by decide) (fun w q => q)
 refine Z2 (Z0 (Z3 rfl) rfl (Z0 (RV.nilCheck rfl) rfl (Z0 (Z30 rfl rfl rfl rfl) rfl ?_)))
 refine Z0 (Z29 rfl (by (refine List.Mem.tail _ ?_; refine List.Mem.tail _ ?_; exact List.Mem.head _); done) rfl rfl rfl rfl) rfl ?_
 refine Z0 (RV.eql rfl rfl) rfl (Z6 (Z1 ?_))
 refine Z119 rfl (fun he => ?_) (fun he => ?_)
 ·rw [if_pos he] at hf
  obtain ⟨x, hx, hf⟩ := Option.bind_eq_some_iff.1 hf
  obtain ⟨rfl, rfl⟩ := Prod.mk.inj (Zi hf)
  have hxl := (toVec_list hx).2
  refine Z2 (Z0 (Z3 rfl) rfl (Z0 (Z3 rfl) rfl (Z0 (RV.s2a (k := 256) rfl rfl (hv.isSome (by decide) (i := 0) (by omega)) (by omega)) rfl (Z0 (Z124 rfl rfl rfl rfl (fun w m => hv.vec8 hx (m.pick [1] 2 rfl rfl).appL) ((Z102 _).trans Zv)) rfl (Z0 (RV.nilCheck rfl) rfl (Z28 (SV.storeAs rfl rfl rfl (Z129 _) rfl ((Z102 _).trans Zv) hlen) (Z6 ?_)))))))
  refine Z104 (rs := []) [] ((some br, blk p2.C 109) :: (some b, blk (spl l off (u8s x.toList)) te) :: B) rfl trivial rfl ⟨_, rfl, rfl⟩ (fun w m => m.pick [2, 0] 3 rfl rfl) _ (.inr rfl)
 ·rw [if_neg he] at hf
  obtain ⟨rfl, rfl⟩ := Prod.mk.inj (Zi hf)
  refine CW.skip ?_
  refine Z104 (rs := []) [] ((some br, blk p2.C 109) :: (some b, blk (spl l off (u8s old.toList)) te) :: B) rfl trivial rfl ⟨_, rfl, rfl⟩ (fun w m => ?_) _ (.inr rfl)
  rw [spl_here hold (by rw [Z102, Zv]; exact hlen)]
  exact m.pick [2, 0] 3 rfl rfl
theorem routcome_does (w0 : World) (Φ : Ctx) (N : List Ent) (hΦ : ∀ w, Mem w0 w N → Φ w) (br b : Nat) (o o2 : RcptC) (rd r2 : Rdr) (cs : List Value) (it : It) (hit : ItRd Φ cs it) (hk : -9223372036854775808 ≤ o.kind ∧ o.kind ≤ 9223372036854775807) (hf : routcome rd o it = some (o2, r2)) :
  DoesG Tryd.prog 68 [ptr (some br) 0, ptr (some b) 0, .agg cs.toArray] w0 [(some br, blk rd.C 109), (some b, blk o.C 30)] N (fun u G => ∃ B, u = .tuple #[] ∧ G = (some br, blk r2.C 109) :: (some b, blk o2.C 30) :: B) := by
 have hcl : cs.length = 3 := ItRd.len _ _ hit
 unfold routcome at hf
 obtain ⟨⟨p1, p2⟩, hp, hf⟩ := Option.bind_eq_some_iff.1 hf
 dsimp only at hf
 refine DoesG.enter Tryd.func68 rfl Tryd.ntmps68 rfl (M := (some br, blk rd.C 109) :: (some b, blk o.C 30) :: N) rfl (Z4 (Z2 (Z130 rfl rfl (fun b5 => (Z6 ?_)))))
 (refine Z1 ?_; refine Z4 ?_)
 refine Z2 (Z0 (Z3 rfl) rfl (Z0 (Z22 rfl Zh rfl rfl rfl rfl hcl) rfl ?_))
 refine OW.rot1 ?_; refine Z12 Tryd.call94 rfl (Z120 w0 Φ ((some b5, blk cs 89) :: (some b, blk o.C 30) :: N) (fun w m => hΦ w (m.drop 2)) br rd cs it (-1) p1 p2 hit (by omega) hp) rfl rfl ?_; rintro _ _ ⟨B, ob, c, r, ow, rfl, rfl⟩; refine Z20 (M' := (some b, blk o.C 30) :: (ob, blk (u8s p1 ++ r) 5) :: (some br, blk p2.C 109) :: (B ++ N)) (fun w m => (m.sk2.sk3).pick [3, 0, 1] 4 rfl rfl) ?_
 refine Z0 (Z5 rfl) rfl (Z6 ?_)
 (refine Z1 ?_; refine CW.block ?_; refine Z4 ?_)
 have hv := ow.view (te := 5) (w0 := w0) (Ψ := fun w => Mem w0 w [(ob, blk (u8s p1 ++ r) 5)]) (by decide) (fun w q => q)
 have hm := ow.mx
 refine Z2 (Z0 (Z3 rfl) rfl (Z0 (RV.nilCheck rfl) rfl (Z0 (Z30 rfl rfl rfl rfl) rfl ?_)))
 refine Z0 (Z29 rfl (by (refine List.Mem.tail _ ?_; refine List.Mem.tail _ ?_; exact List.Mem.head _); done) rfl rfl rfl rfl) rfl ?_
 refine Z0 (RV.neq rfl rfl) rfl (Z0 (Z5 rfl) rfl (Z6 (Z1 ?_)))
 refine CW.cond_np rfl (fun he => ?_) (fun he => ?_)
 ·rw [if_neg he] at hf
  obtain ⟨rfl, rfl⟩ := Prod.mk.inj (Zi hf)
  (refine CW.skip ?_; refine Z27 ?_)
  refine Z104 (rs := []) [] ((some br, blk p2.C 109) :: (some b, blk o.C 30) :: B) rfl trivial rfl ⟨_, rfl, rfl⟩ (fun w m => m.pick [2, 0] 3 rfl rfl) _ (.inr rfl)
 ·rw [if_pos he] at hf
  refine Z4 (Z2 (Z0 (Z3 rfl) rfl (Z0 (RV.len rfl rfl) rfl (Z0 (RV.eql rfl rfl) rfl (Z0 (Z5 rfl) rfl (Z6 (Z1 ?_)))))))
  refine Z119 rfl (fun h0 => ?_) (fun h0 => ?_)
  ·rw [if_pos (by omega)] at hf
   obtain ⟨rfl, rfl⟩ := Prod.mk.inj (Zi hf)
   (refine CW.skip ?_; refine Z27 ?_)
   refine Z104 (rs := []) [] ((some br, blk p2.C 109) :: (some b, blk o.C 30) :: B) rfl trivial rfl ⟨_, rfl, rfl⟩ (fun w m => m.pick [2, 0] 3 rfl rfl) _ (.inr rfl)
  ·rw [if_neg (by omega)] at hf
   by_cases h1 : p1.length = 1
   ·rw [if_pos h1] at hf
    obtain ⟨x, hx, hf⟩ := Option.bind_eq_some_iff.1 hf
    refine Z4 (Z2 (Z0 (Z3 rfl) rfl (Z0 (RV.len rfl rfl) rfl (Z0 (RV.eql_t rfl rfl (by omega)) rfl (Z0 (Z3 rfl) rfl ?_)))))
    refine Z24 rfl ?_; refine Z0 (Z3 rfl) rfl ?_
    refine Z24 rfl ?_; refine Z0 (Z131 (0) rfl rfl rfl rfl rfl (hv.isSome (by decide) (i := 0) (by omega)) (by omega)) rfl ?_
    refine Z24 rfl ?_; refine Z0 (Z21 rfl rfl rfl (fun w m => hv.cell (m.pick [1] 2 rfl rfl).appL (Z148 hx))) rfl ?_
    refine Z24 rfl ?_; refine Z0 (RV.eql8 rfl rfl rfl (lit8 _ rfl)) rfl ?_
    refine Z0 (Z108 rfl rfl rfl) rfl (Z0 (Z5 rfl) rfl (Z6 (Z1 ?_)))
    refine Z119 rfl (fun h2 => ?_) (fun h2 => ?_)
    ·rw [if_pos h2] at hf
     obtain ⟨rfl, rfl⟩ := Prod.mk.inj (Zi hf)
     refine Z2 (Z0 (Z3 rfl) rfl (Z0 (RV.nilCheck rfl) rfl (Z0 (Z30 rfl rfl rfl rfl) rfl ?_)))
     refine Z28 (SV.store rfl rfl rfl rfl rfl (by rw [RcptC.C_length]; exact Nat.le_of_ble_eq_true rfl)) ?_; refine OW.cells ({ o with status := 1#64 } : RcptC).C (RcptC.C_status_set _ (1#64)) ?_
     refine Z6 (Z27 ?_)
     refine Z104 (rs := []) [] ((some br, blk p2.C 109) :: (some b, blk ({ o with status := 1#64 } : RcptC).C 30) :: B) rfl trivial rfl ⟨_, rfl, rfl⟩ (fun w m => m.pick [2, 0] 3 rfl rfl) _ (.inr rfl)
    ·rw [if_neg h2] at hf
     unfold rroot at hf
     rw [if_neg (by omega)] at hf
     refine Z4 (Z2 (Z0 (Z3 rfl) rfl (Z0 (RV.len rfl rfl) rfl (Z0 (RV.eql_f rfl rfl (by omega)) rfl (Z0 (Z3 rfl) rfl (Z23 rfl rfl rfl (Z23 rfl rfl rfl (Z23 rfl rfl rfl ?_))))))))
     refine Z23 rfl rfl rfl (Z23 rfl rfl rfl (Z0 (Z106 rfl rfl rfl) rfl (Z0 (Z5 rfl) rfl (Z6 (Z1 (Z154 rfl ?_))))))
     obtain ⟨q, hq, hf⟩ := Option.bind_eq_some_iff.1 hf
     obtain ⟨rfl, rfl⟩ := Prod.mk.inj (Zi hf)
     refine Z2 (Z0 (Z3 rfl) rfl ?_)
     refine Z20 (M' := (some br, blk p2.C 109) :: (some b, blk o.C 30) :: (B ++ N)) (fun w m => m.pick [2, 0] 3 rfl rfl) ?_; refine Z12 Tryd.call95 rfl (Z110 w0 Φ ((some b, blk o.C 30) :: (B ++ N)) (fun w m => hΦ w (m.drop 1).appR) br p2 172 q (by omega) hq) rfl rfl ?_; rintro _ _ ⟨B2, rfl, rfl⟩
     refine Z6 (Z27 ?_)
     refine Z104 (rs := []) [] ((some br, blk q.C 109) :: (some b, blk o.C 30) :: (B2 ++ B)) rfl trivial rfl ⟨_, rfl, rfl⟩ (fun w m => by simpa only [List.append_assoc, List.cons_append] using m.sk1) _ (.inr rfl)
   ·rw [if_neg h1] at hf
    unfold rroot at hf
    refine Z4 (Z2 (Z0 (Z3 rfl) rfl (Z0 (RV.len rfl rfl) rfl (Z0 (RV.eql_f rfl rfl (by omega)) rfl (Z0 (Z3 rfl) rfl (Z23 rfl rfl rfl (Z23 rfl rfl rfl (Z23 rfl rfl rfl ?_))))))))
    refine Z23 rfl rfl rfl (Z0 (Z106 rfl rfl rfl) rfl (Z0 (Z5 rfl) rfl (Z6 (Z1 (Z154 rfl ?_)))))
    by_cases h3 : p1.length = 32
    ·refine Z4 (Z2 (Z0 (Z3 rfl) rfl (Z0 (RV.len rfl rfl) rfl (Z0 (RV.eql_t rfl rfl (by omega)) rfl (Z0 (Z3 rfl) rfl ?_)))))
     refine Z24 rfl ?_; refine Z0 (Z3 rfl) rfl ?_
     refine Z24 rfl ?_; refine Z0 (RV.nilCheck rfl) rfl ?_
     refine Z24 rfl ?_; refine Z0 (Z30 rfl rfl rfl rfl) rfl ?_
     refine Z24 rfl ?_; refine Z0 (Z29 rfl Zh rfl rfl rfl (RcptC.C_kind _)) rfl ?_
     refine Z24 rfl ?_; refine Z0 (RV.eql rfl rfl) rfl ?_
     refine Z0 (Z108 rfl rfl rfl) rfl (Z0 (Z5 rfl) rfl (Z6 (Z1 ?_)))
     refine Z119 rfl (fun h4 => ?_) (fun h4 => ?_)
     ·rw [if_pos ⟨h3, h4⟩] at hf
      obtain ⟨x, hx, hf⟩ := Option.bind_eq_some_iff.1 hf
      obtain ⟨rfl, rfl⟩ := Prod.mk.inj (Zi hf)
      have hxl := (toVec_list hx).2
      refine Z2 (Z0 (Z3 rfl) rfl (Z0 (Z3 rfl) rfl (Z0 (Z3 rfl) rfl (Z0 (RV.s2a (k := 32) rfl rfl (hv.isSome (by decide) (i := 0) (by omega)) (by omega)) rfl (Z0 (Z124 rfl rfl rfl rfl (fun w m => hv.vec8 hx (m.pick [1] 2 rfl rfl).appL) ((Z102 _).trans Zv)) rfl (Z0 (RV.nilCheck rfl) rfl (Z0 (Z30 rfl rfl rfl rfl) rfl ?_)))))))
      refine Z28 (SV.store rfl rfl rfl rfl rfl (by rw [RcptC.C_length]; exact Nat.le_of_ble_eq_true rfl)) ?_; refine OW.cells ({ o with rooted := true } : RcptC).C (RcptC.C_rooted_set _ true) ?_
      refine Z0 (RV.nilCheck rfl) rfl (Z0 (Z30 rfl rfl rfl rfl) rfl ?_)
      refine Z28 (SV.storeAs rfl rfl rfl (Z129 _) rfl ((Z102 _).trans Zv) (by rw [RcptC.C_length]; exact Nat.le_of_ble_eq_true rfl)) ?_; refine OW.cells ({ { o with rooted := true } with root := x } : RcptC).C (RcptC.C_root_spl _ _) ?_
      refine Z6 (Z27 ?_)
      refine Z104 (rs := []) [] ((some br, blk p2.C 109) :: (some b, blk ({ { o with rooted := true } with root := x } : RcptC).C 30) :: B) rfl trivial rfl ⟨_, rfl, rfl⟩ (fun w m => m.pick [2, 0] 3 rfl rfl) _ (.inr rfl)
     ·rw [if_neg (fun h => h4 h.2)] at hf
      obtain ⟨q, hq, hf⟩ := Option.bind_eq_some_iff.1 hf
      obtain ⟨rfl, rfl⟩ := Prod.mk.inj (Zi hf)
      refine Z2 (Z0 (Z3 rfl) rfl ?_)
      refine Z20 (M' := (some br, blk p2.C 109) :: (some b, blk o.C 30) :: (B ++ N)) (fun w m => m.pick [2, 0] 3 rfl rfl) ?_; refine Z12 Tryd.call95 rfl (Z110 w0 Φ ((some b, blk o.C 30) :: (B ++ N)) (fun w m => hΦ w (m.drop 1).appR) br p2 172 q (by omega) hq) rfl rfl ?_; rintro _ _ ⟨B2, rfl, rfl⟩
      refine Z6 (Z27 ?_)
      refine Z104 (rs := []) [] ((some br, blk q.C 109) :: (some b, blk o.C 30) :: (B2 ++ B)) rfl trivial rfl ⟨_, rfl, rfl⟩ (fun w m => by simpa only [List.append_assoc, List.cons_append] using m.sk1) _ (.inr rfl)
    ·rw [if_neg (fun h => h3 h.1)] at hf
     refine Z4 (Z2 (Z0 (Z3 rfl) rfl (Z0 (RV.len rfl rfl) rfl (Z0 (RV.eql_f rfl rfl (by omega)) rfl (Z0 (Z3 rfl) rfl (Z23 rfl rfl rfl (Z23 rfl rfl rfl (Z23 rfl rfl rfl ?_))))))))
     refine Z23 rfl rfl rfl (Z23 rfl rfl rfl (Z0 (Z106 rfl rfl rfl) rfl (Z0 (Z5 rfl) rfl (Z6 (Z1 (Z154 rfl ?_))))))
     obtain ⟨q, hq, hf⟩ := Option.bind_eq_some_iff.1 hf
     obtain ⟨rfl, rfl⟩ := Prod.mk.inj (Zi hf)
     refine Z2 (Z0 (Z3 rfl) rfl ?_)
     refine Z20 (M' := (some br, blk p2.C 109) :: (some b, blk o.C 30) :: (B ++ N)) (fun w m => m.pick [2, 0] 3 rfl rfl) ?_; refine Z12 Tryd.call95 rfl (Z110 w0 Φ ((some b, blk o.C 30) :: (B ++ N)) (fun w m => hΦ w (m.drop 1).appR) br p2 172 q (by omega) hq) rfl rfl ?_; rintro _ _ ⟨B2, rfl, rfl⟩
     refine Z6 (Z27 ?_)
     refine Z104 (rs := []) [] ((some br, blk q.C 109) :: (some b, blk o.C 30) :: (B2 ++ B)) rfl trivial rfl ⟨_, rfl, rfl⟩ (fun w m => by simpa only [List.append_assoc, List.cons_append] using m.sk1) _ (.inr rfl)
theorem rtopics_does (w0 : World) (Φ : Ctx) (N : List Ent) (hΦ : ∀ w, Mem w0 w N → Φ w) (br b off : Nat) (l : List Value) (te : TypeId) (rd r2 : Rdr) (cs : List Value) (it : It) (ob : Option Nat) (c : Nat) (r : List Value) (ts ts2 : List (Vector (BitVec 8) 32)) (hit : ItRd Φ cs it) (ho : OwnS ob ts.length c 32 (hs32 ts) r) (hold : l[off]? = some (sl ob 0 ts.length c)) (hf : rtopics rd ts it = some (ts2, r2)) :
  DoesG Tryd.prog 123 [ptr (some br) 0, ptr (some b) off, .agg cs.toArray] w0 [(some br, blk rd.C 109), (ob, blk (hs32 ts ++ r) 24), (some b, blk l te)] N (fun u G => ∃ (B : List Ent) (ob' : Option Nat) (c' : Nat) (r' : List Value), OwnS ob' ts2.length c' 32 (hs32 ts2) r' ∧ u = .tuple #[] ∧ G = (some br, blk r2.C 109) :: (ob', blk (hs32 ts2 ++ r') 24) :: (some b, blk (l.set off (sl ob' 0 ts2.length c')) te) :: B) := by
 have hcl : cs.length = 3 := ItRd.len _ _ hit
 have hlt : off < l.length := (List.getElem?_eq_some_iff.1 hold).1
 unfold rtopics at hf
 obtain ⟨⟨p1, p2⟩, hp, hf⟩ := Option.bind_eq_some_iff.1 hf
 dsimp only at hf
 refine DoesG.enter Tryd.func123 rfl Tryd.ntmps123 rfl (M := (some br, blk rd.C 109) :: (ob, blk (hs32 ts ++ r) 24) :: (some b, blk l te) :: N) rfl (Z4 (Z2 (Z130 rfl rfl (fun b5 => (Z6 ?_)))))
 (refine Z1 ?_; refine Z4 ?_)
 refine Z2 (Z0 (Z3 rfl) rfl (Z0 (Z22 rfl Zh rfl rfl rfl rfl hcl) rfl ?_))
 refine OW.rot1 ?_; refine Z12 Tryd.call97 rfl (Z134 w0 Φ ((some b5, blk cs 89) :: (ob, blk (hs32 ts ++ r) 24) :: (some b, blk l te) :: N) (fun w m => hΦ w (m.drop 3)) br rd cs it p1 p2 hit hp) rfl rfl ?_; rintro _ _ ⟨B0, cr, oi, ci, ri, hri, oo, rfl, rfl⟩; refine Z20 (M' := (some br, blk p2.C 109) :: (ob, blk (hs32 ts ++ r) 24) :: (some b, blk l te) :: ((oi, blk (cr ++ ri) 89) :: (B0 ++ N))) (fun w m => (m.sk2.sk3.sk4).pick [1, 3, 4, 0] 5 rfl rfl) ?_
 refine Z0 (RV.len rfl rfl) rfl (Z0 (Z3 rfl) rfl (Z6 ?_))
 (refine Z1 ?_; refine CW.block ?_)
 have hvi := oo.view (te := 89) (w0 := w0) (Ψ := fun w => Mem w0 w ((oi, blk (cr ++ ri) 89) :: (B0 ++ N))) (by decide) (fun w q => q.sublist (List.singleton_sublist.2 (List.mem_cons_self ..)))
 replace hri := hri.mono (ItRd.mono (Ψ := fun w => Mem w0 w ((oi, blk (cr ++ ri) 89) :: (B0 ++ N))) (fun w q => ⟨hΦ w q.tail.appR, q.tail.appL⟩))
 have hmi := oo.mx
 refine Z121 (fun k L' M' => ∃ (i : Nat) (q : Rdr) (tsi : List (Vector (BitVec 8) 32)) (ob' : Option Nat) (c' : Nat) (r' : List Value), k = p1.length - i ∧ i ≤ p1.length ∧ rtopicsF q tsi (p1.drop i) = some (ts2, r2) ∧ OwnS ob' tsi.length c' 32 (hs32 tsi) r' ∧ L' = [(0, ptr (some br) 0), (1, ptr (some b) off), (11, sl oi 0 p1.length ci), (12, .int .i64 (p1.length : Int)), (13, .int .i64 (i : Int))] ∧
  M' = (some br, blk q.C 109) :: (ob', blk (hs32 tsi ++ r') 24) :: (some b, blk (l.set off (sl ob' 0 tsi.length c')) te) :: ((oi, blk (cr ++ ri) 89) :: (B0 ++ N))) (k0 := p1.length) ⟨0, p2, ts, ob, c, r, rfl, by omega, hf, ho, rfl, rfl⟩ ⟨rfl, rfl, rfl, rfl, rfl, trivial⟩ (fun w m => by rw [set_here hold]; exact m) ?_
 rintro k L' M' ⟨i, q, tsi, ob', c', r', rfl, hi, hfi, hoi, rfl, rfl⟩
 refine Z4 (Z2 (Z0 (RV.lss rfl rfl) rfl (Z6 ?_)))
 (refine Z1 ?_; refine Z4 ?_)
 refine Z119 rfl (fun hlt2 => ?_) (fun hlt2 => ?_)
 ·have h1 : i < p1.length := by omega
  have hx : p1[i]? = some p1[i] := List.getElem?_eq_getElem h1
  rw [List.drop_eq_getElem_cons h1, rtopicsF] at hfi
  obtain ⟨⟨t1, t2⟩, ht, hfi⟩ := Option.bind_eq_some_iff.1 hfi
  dsimp only at hfi
  obtain ⟨ci2, hci, hcc⟩ := hri.get ItRd.len hx
  have hcl2 : ci2.length = 3 := ItRd.len _ _ hci
  (refine CW.skip ?_; refine Z1 ?_; refine Z4 ?_; refine CW.block ?_; refine Z4 ?_)
  refine Z2 (Z0 (Z117 (i) rfl rfl rfl rfl rfl (hvi.isSome (by decide) h1) (by omega)) rfl (Z0 (Z124 rfl rfl rfl rfl (fun w m => hvi.load (m.drop 3) hcc) hcl2) rfl (OW.alloc rfl rfl rfl (fun b7 => (Z28 (Z103 rfl rfl rfl (ItRd.one _ _ hci) rfl rfl hcl2) (Z6 ?_))))))
  (refine Z1 ?_; refine Z4 ?_)
  refine Z2 (Z0 (Z3 rfl) rfl (Z0 (Z22 rfl Zh rfl rfl rfl rfl hcl2) rfl ?_))
  refine OW.rot1 ?_; refine Z12 Tryd.call94 rfl (Z120 w0 _ ((some b7, blk ci2 89) :: (ob', blk (hs32 tsi ++ r') 24) :: (some b, blk (l.set off (sl ob' 0 tsi.length c')) te) :: ((oi, blk (cr ++ ri) 89) :: (B0 ++ N))) (fun w m => m.drop 3) br q ci2 p1[i] 32 t1 t2 hci (by omega) ht) rfl rfl ?_; rintro _ _ ⟨Bt, ot, ct, rt, oto, rfl, rfl⟩; refine Z20 (M' := (ot, blk (u8s t1 ++ rt) 5) :: (some br, blk t2.C 109) :: (ob', blk (hs32 tsi ++ r') 24) :: (some b, blk (l.set off (sl ob' 0 tsi.length c')) te) :: ((oi, blk (cr ++ ri) 89) :: (B0 ++ N))) (fun w m => by have m2 := (m.sk2.sk3.sk4).pick [0, 1, 3, 4] 5 rfl rfl; exact m2.sublist (List.Sublist.cons_cons _ (List.Sublist.cons_cons _ (List.Sublist.cons_cons _ (List.Sublist.cons_cons _ (List.sublist_append_right _ _)))))) ?_
  refine Z0 (Z5 rfl) rfl (Z6 ?_)
  (refine Z1 ?_; refine Z4 ?_)
  have hv := oto.view (te := 5) (w0 := w0) (Ψ := fun w => Mem w0 w [(ot, blk (u8s t1 ++ rt) 5)]) (by decide) (fun w q => q)
  have hmt := oto.mx
  refine Z2 (Z0 (Z3 rfl) rfl (Z0 (RV.nilCheck rfl) rfl (Z0 (Z30 rfl rfl rfl rfl) rfl ?_)))
  refine Z0 (Z29 rfl (by (refine List.Mem.tail _ ?_; exact List.Mem.head _); done) rfl rfl rfl rfl) rfl ?_
  refine Z0 (RV.eql rfl rfl) rfl (Z6 (Z1 ?_))
  refine Z119 rfl (fun he => ?_) (fun he => ?_)
  ·rw [if_pos he] at hfi
   obtain ⟨hb, hfi⟩ := Z112 hfi
   obtain ⟨x, hx2, hfi⟩ := Option.bind_eq_some_iff.1 hfi
   have hxl := (toVec_list hx2).2
   refine Z137 ((ot, blk (u8s t1 ++ rt) 5) :: (some br, blk t2.C 109) :: ((oi, blk (cr ++ ri) 89) :: (B0 ++ N))) [8, 10] (fun w m => m.pick [0, 1] 4 rfl rfl) mixed (by kernel_rfl) (Z10 0 rfl (by kernel_rfl) rfl (Z3 rfl) rfl (Z10 1 rfl (by kernel_rfl) rfl (Z3 rfl) rfl (Z10 2 rfl (by kernel_rfl) rfl (RV.nilCheck rfl) rfl ?_)))
   refine XW.rv 3 rfl (by kernel_rfl) rfl (by kernel_rfl) (Z29 rfl (List.Mem.tail _ (List.Mem.tail _ (List.Mem.tail _ Zh))) rfl rfl rfl (List.getElem?_set_self hlt)) rfl ?_
   refine Z10 4 rfl (by kernel_rfl) rfl (Z3 rfl) rfl (Z10 5 rfl (by kernel_rfl) rfl (RV.s2a (k := 32) rfl rfl (hv.isSome (by decide) (i := 0) (by omega)) (by omega)) rfl (Z10 6 rfl (by kernel_rfl) rfl (Z124 rfl rfl rfl rfl (fun w m => hv.vec8 hx2 (m.sublist (List.singleton_sublist.2 (List.mem_cons_self ..)))) ((Z102 _).trans Zv)) rfl ?_))
   refine XW.new 7 rfl (by kernel_rfl) rfl (NV.bsA rfl rfl (by intro x hx; simp at hx; subst hx; exact (Z102 _).trans Zv) rfl rfl rfl (by decide) (by decide) rfl) rfl (fun bs => ?_)
   refine Z19 (M' := (ob', blk (hs32 tsi ++ r') 24) :: (some bs, blk (u8s x.toList ++ []) 24) :: (ot, blk (u8s t1 ++ rt) 5) :: (some br, blk t2.C 109) :: (some b, blk (l.set off (sl ob' 0 tsi.length c')) te) :: ((oi, blk (cr ++ ri) 89) :: (B0 ++ N))) (fun w m => m.pick [3, 0, 1, 2, 4] 5 rfl rfl) (fun w m => m.pick [2, 3] 5 rfl rfl) ?_
   refine XW.appendOwn 8 (s := 32) rfl (by kernel_rfl) rfl rfl rfl rfl rfl rfl hoi (fun w m => m.rd0 (List.Mem.tail _ Zh) (fun e => nomatch e)) ((Z102 _).trans Zv) (Z129 _) (fun e => nomatch e) (by decide) (by decide) (by simp only [i24]; omega) rfl ((tsi ++ [x]).length) (hs32 (tsi ++ [x])) (by simp) (by rw [hs32_app]; simp [hs32]) (fun w m => m.pick [1, 2] 4 rfl rfl) rfl (fun ob2 rr2 c2 o2 => ?_)
   refine Z10 9 rfl (by kernel_rfl) rfl (RV.nilCheck rfl) rfl (Z19 (M' := (some b, blk (l.set off (sl ob' 0 tsi.length c')) te) :: (ob2, blk (hs32 (tsi ++ [x]) ++ rr2) 24) :: (ot, blk (u8s t1 ++ rt) 5) :: (some br, blk t2.C 109) :: ((oi, blk (cr ++ ri) 89) :: (B0 ++ N))) (fun w m => m.pick [4, 0, 2, 3] 5 rfl rfl) (fun w m => m.pick [2, 3] 4 rfl rfl) ?_)
   refine XW.sv 10 rfl (by kernel_rfl) (SV.store rfl rfl rfl rfl rfl (by rw [List.length_set]; exact hlt)) (fun w m => m.pick [2, 3] 4 rfl rfl) ?_
   refine XW.cells (l.set off (sl ob2 0 (tsi ++ [x]).length c2)) (List.set_set ..) (XW.nil (by kernel_rfl) ?_)
   (refine Z27 ?_; refine Z1 ?_)
   refine Z2 (Z0 (RV.add rfl rfl (by omega)) rfl (Z0 (Z3 rfl) rfl (Z6 ?_)))
   refine Z114 (k' := p1.length - (i + 1)) (by omega) ⟨i + 1, t2, tsi ++ [x], ob2, c2, rr2, rfl, by omega, hfi, o2, rfl, rfl⟩ ⟨rfl, rfl, rfl, rfl, rfl, trivial⟩ (fun w m => m.pick [3, 1, 0] 4 rfl rfl)
  ·rw [if_neg he] at hfi
   (refine CW.skip ?_; refine Z27 ?_; refine Z1 ?_)
   refine Z2 (Z0 (RV.add rfl rfl (by omega)) rfl (Z0 (Z3 rfl) rfl (Z6 ?_)))
   refine Z114 (k' := p1.length - (i + 1)) (by omega) ⟨i + 1, t2, tsi, ob', c', r', rfl, by omega, hfi, hoi, rfl, rfl⟩ ⟨rfl, rfl, rfl, rfl, rfl, trivial⟩ (fun w m => m.tail)
 ·rw [List.drop_eq_nil_of_le (by omega), rtopicsF] at hfi
  obtain ⟨rfl, rfl⟩ := Prod.mk.inj (Zi hfi)
  (refine CW.exit ?_; refine Z9 ?_; refine Z9 ?_; refine Z15 ?_)
  refine Z104 (rs := []) [] ((some br, blk q.C 109) :: (ob', blk (hs32 tsi ++ r') 24) :: (some b, blk (l.set off (sl ob' 0 tsi.length c')) te) :: ((oi, blk (cr ++ ri) 89) :: B0)) rfl trivial rfl ⟨_, _, _, _, hoi, rfl, rfl⟩ (fun w m => m) _ (.inr rfl)
theorem receipt_ParseLog_own (w0 : World) (Φ : Ctx) (N : List Ent) (hΦ : ∀ w, Mem w0 w N → Φ w) (cs : List Value) (it : It) (x : Log) (e : Int) (hit : ItRd Φ cs it) (hf : receipt_ParseLog it = some (x, e)) :
  DoesG Tryd.prog 98 [.agg cs.toArray] w0 [] N (fun v G => ∃ (g : Lg) (B : List Ent), g.Ok ∧ g.val = x ∧ (0 ≤ e ∧ e ≤ 1000) ∧ v = .tuple #[.agg g.cells.toArray, .int .i64 e] ∧ G = g.ents 24 5 ++ B) := by
 have hcl : cs.length = 3 := ItRd.len _ _ hit
 unfold receipt_ParseLog at hf
 obtain ⟨⟨p1, p2⟩, hp, hf⟩ := Option.bind_eq_some_iff.1 hf
 dsimp only at hf
 have hbd := list_bd (r := ⟨0⟩) ⟨Int.le_refl _, by decide⟩ hp
 refine DoesG.enter Tryd.func98 rfl Tryd.ntmps98 rfl (M := N) rfl (Z4 (Z2 (Z130 rfl rfl (fun b1 => (OW.alloc (l := LogZ.C) rfl (by kernel_rfl) rfl (fun b2 => (Z0 (Z5 rfl) rfl (Z6 ?_))))))))
 (refine Z1 ?_; refine Z4 ?_)
 refine Z2 (OW.alloc (l := (⟨0⟩ : Rdr).C) rfl rfl rfl (fun b4 => (Z6 ?_)))
 (refine Z1 ?_; refine Z4 ?_)
 refine Z2 (OW.alloc (l := LogZ.C) rfl (by kernel_rfl) rfl (fun b5 => (Z6 ?_)))
 (refine Z1 ?_; refine Z4 ?_)
 refine CW.mem (M' := (some b4, blk (⟨0⟩ : Rdr).C 109) :: (some b1, blk cs 89) :: (some b5, blk LogZ.C 63) :: (some b2, blk LogZ.C 63) :: N) (fun w m => m.pick [1, 3, 0, 2] 4 rfl rfl) (Z2 (Z0 (Z22 rfl (List.Mem.tail _ Zh) rfl rfl rfl rfl hcl) rfl ?_))
 refine Z12 Tryd.call97 rfl (Z134 w0 Φ ((some b1, blk cs 89) :: (some b5, blk LogZ.C 63) :: (some b2, blk LogZ.C 63) :: N) (fun w m => hΦ w (m.drop 3)) b4 ⟨0⟩ cs it p1 p2 hit hp) rfl rfl ?_; rintro _ _ ⟨B0, cr, oi, ci, ri, hri, oo, rfl, rfl⟩; refine Z20 (M' := (some b4, blk p2.C 109) :: (some b5, blk LogZ.C 63) :: (some b2, blk LogZ.C 63) :: ((oi, blk (cr ++ ri) 89) :: (B0 ++ N))) (fun w m => (m.sk2.sk3.sk4).pick [1, 3, 4, 0] 5 rfl rfl) ?_
 refine Z0 (Z5 rfl) rfl (Z6 ?_)
 (refine Z1 ?_; refine Z4 ?_; refine Z4 ?_)
 have hK : ∀ w, Mem w0 w ((oi, blk (cr ++ ri) 89) :: (B0 ++ N)) → Φ w := fun w q => hΦ w q.tail.appR
 have hvi := oo.view (te := 89) (w0 := w0) (Ψ := fun w => Mem w0 w ((oi, blk (cr ++ ri) 89) :: (B0 ++ N))) (by decide) (fun w q => q.sublist (List.singleton_sublist.2 (List.mem_cons_self ..)))
 replace hri := hri.mono (ItRd.mono (Ψ := fun w => Mem w0 w ((oi, blk (cr ++ ri) 89) :: (B0 ++ N))) (fun w q => ⟨hK w q, q.tail.appL⟩))
 have hmi := oo.mx
 generalize hKe : ((oi, blk (cr ++ ri) 89) :: (B0 ++ N)) = K at hK hvi hri ⊢
 have hKN : ∃ BK, K = BK ++ N := ⟨_, by rw [← hKe, ← List.cons_append]⟩
 obtain ⟨BK, rfl⟩ := hKN
 clear hKe
 have fin0 : ∀ {w : World} {X : List Ent}, Mem w0 w (X ++ (BK ++ N)) → Mem w0 w ((LgZ.ents 24 5 ++ BK) ++ N) := fun m => by
  have m2 := nil2 (o := blk (hs32 LgZ.t ++ LgZ.tr) 24) (o2 := blk (u8s LgZ.d ++ LgZ.dr) 5) m.appR
  exact m2
 by_cases hc : p2.err = 0 ∧ p1.length = 3
 ·rw [if_pos hc] at hf
  obtain ⟨he, h3⟩ := hc
  obtain ⟨x0, hx0, hf⟩ := Option.bind_eq_some_iff.1 hf
  obtain ⟨⟨a1, a2⟩, ha, hf⟩ := Option.bind_eq_some_iff.1 hf
  obtain ⟨ad, had, hf⟩ := Option.bind_eq_some_iff.1 hf
  obtain ⟨x1, hx1, hf⟩ := Option.bind_eq_some_iff.1 hf
  obtain ⟨⟨t1, t2⟩, ht, hf⟩ := Option.bind_eq_some_iff.1 hf
  obtain ⟨x2, hx2, hf⟩ := Option.bind_eq_some_iff.1 hf
  obtain ⟨⟨d1, d2⟩, hd, hf⟩ := Option.bind_eq_some_iff.1 hf
  dsimp only at had hf ht hd
  have hbd2 := text_bd hbd ha
  have hbd3 := topics_bd hbd2 ht
  have hbd4 := text_bd hbd3 hd
  obtain ⟨c0, hc0, hcc0⟩ := hri.get ItRd.len hx0
  obtain ⟨c1, hc1, hcc1⟩ := hri.get ItRd.len hx1
  obtain ⟨c2, hc2, hcc2⟩ := hri.get ItRd.len hx2
  refine Z2 (Z0 (Z30 rfl rfl rfl rfl) rfl ?_)
  refine Z0 (Z29 rfl (by exact List.Mem.head _; done) rfl rfl rfl rfl) rfl ?_
  refine Z0 (RV.neq_f rfl rfl (by omega)) rfl (Z0 (Z3 rfl) rfl ?_)
  refine Z24 rfl ?_; refine Z0 (Z3 rfl) rfl ?_
  refine Z24 rfl ?_; refine Z0 (RV.len rfl rfl) rfl ?_
  refine Z24 rfl ?_; refine Z0 (RV.neq_f rfl rfl (by omega)) rfl ?_
  refine Z0 (Z106 rfl rfl rfl) rfl (Z6 (Z1 (Z154 rfl ?_)))
  (refine CW.skip ?_; refine Z1 ?_; refine Z4 ?_; refine Z4 ?_)
  refine Z2 (Z0 (Z3 rfl) rfl (Z0 (Z117 (0) rfl rfl rfl rfl rfl (hvi.isSome (by decide) (i := 0) (by omega)) (by omega)) rfl (Z0 (Z124 rfl rfl rfl rfl (fun w m => hvi.load (m.drop 3) hcc0) (ItRd.len _ _ hc0)) rfl ?_)))
  refine Z12 Tryd.call94 rfl (Z120 w0 _ ((some b5, blk LogZ.C 63) :: (some b2, blk LogZ.C 63) :: (BK ++ N)) (fun w m => m.drop 2) b4 p2 c0 x0 20 a1 a2 hc0 (by omega) ha) rfl rfl ?_; rintro _ _ ⟨Ba, oa, ca, ra, oa1, rfl, rfl⟩; refine Z20 (M' := (oa, blk (u8s a1 ++ ra) 5) :: (some b5, blk LogZ.C 63) :: (some b4, blk a2.C 109) :: (some b2, blk LogZ.C 63) :: (BK ++ N)) (fun w m => by have m2 := (m.sk2.sk3).pick [0, 2, 1, 3] 4 rfl rfl; exact m2.sublist (List.Sublist.cons_cons _ (List.Sublist.cons_cons _ (List.Sublist.cons_cons _ (List.Sublist.cons_cons _ (List.sublist_append_right _ _)))))) ?_
  refine Z0 (Z5 rfl) rfl (Z6 ?_)
  (refine Z1 ?_; refine Z4 ?_)
  have hva := oa1.view (te := 5) (w0 := w0) (Ψ := fun w => Mem w0 w [(oa, blk (u8s a1 ++ ra) 5)]) (by decide) (fun w q => q)
  have hma := oa1.mx
  refine Z2 (Z0 (Z30 rfl rfl rfl rfl) rfl ?_)
  refine Z0 (Z29 rfl (by (refine List.Mem.tail _ ?_; refine List.Mem.tail _ ?_; exact List.Mem.head _); done) rfl rfl rfl rfl) rfl ?_
  refine Z0 (RV.eql rfl rfl) rfl (Z6 (Z1 ?_))
  refine Z115 (fun L' M' => L' = [(2, ptr (some b2) 0), (4, ptr (some b4) 0), (5, ptr (some b5) 0), (6, sl oi 0 p1.length ci)] ∧ M' = (some b5, blk (⟨ad, .slice none 0 0, .slice none 0 0⟩ : LogC).C 63) :: (some b4, blk a2.C 109) :: (some b2, blk LogZ.C 63) :: (BK ++ N)) ?_ ?_
  ·rintro L' M' ⟨rfl, rfl⟩
   (refine Z1 ?_; refine Z4 ?_)
   refine Z2 ?_
   refine Z0 (Z30 rfl rfl rfl rfl) rfl ?_; refine Z7 (ptr (some b5) 20) rfl ?_
   refine Z0 (Z3 rfl) rfl (Z0 (Z117 (1) rfl rfl rfl rfl rfl (hvi.isSome (by decide) (i := 0) (by omega)) (by omega)) rfl (Z0 (Z124 rfl rfl rfl rfl (fun w m => hvi.load (m.drop 3) hcc1) (ItRd.len _ _ hc1)) rfl ?_))
   refine Z20 (M' := (some b4, blk a2.C 109) :: (none, blk (hs32 [] ++ []) 24) :: (some b5, blk (⟨ad, .slice none 0 0, .slice none 0 0⟩ : LogC).C 63) :: ((some b2, blk LogZ.C 63) :: (BK ++ N))) (fun w m => (m.nil_ent (blk (hs32 [] ++ []) 24)).pick [2, 0, 1] 3 rfl rfl) ?_; refine Z12 Tryd.call123 rfl (rtopics_does w0 _ ((some b2, blk LogZ.C 63) :: (BK ++ N)) (fun w m => m.drop 1) b4 b5 20 (⟨ad, .slice none 0 0, .slice none 0 0⟩ : LogC).C 63 a2 t2 c1 x1 none 0 [] [] t1 hc1 OwnS.nil (Z122 _) ht) rfl rfl ?_; rintro _ _ ⟨Bt, ot, ct, rt, oto, rfl, rfl⟩; refine Z20 (M' := (some b5, blk ((⟨ad, .slice none 0 0, .slice none 0 0⟩ : LogC).C.set 20 (sl ot 0 t1.length ct)) 63) :: (some b4, blk t2.C 109) :: (ot, blk (hs32 t1 ++ rt) 24) :: (some b2, blk LogZ.C 63) :: (BK ++ N)) (fun w m => by have m2 := (m.sk3).pick [2, 0, 1, 3] 4 rfl rfl; exact m2.sublist (List.Sublist.cons_cons _ (List.Sublist.cons_cons _ (List.Sublist.cons_cons _ (List.Sublist.cons_cons _ (List.sublist_append_right _ _)))))) ?_; refine OW.cells (⟨ad, sl ot 0 t1.length ct, .slice none 0 0⟩ : LogC).C (LogC.C_topics_set _ _) ?_
   refine Z6 ?_
   (refine Z1 ?_; refine Z4 ?_)
   refine Z2 (Z0 (Z3 rfl) rfl (Z0 (Z117 (2) rfl rfl rfl rfl rfl (hvi.isSome (by decide) (i := 0) (by omega)) (by omega)) rfl (Z0 (Z124 rfl rfl rfl rfl (fun w m => hvi.load (m.drop 4) hcc2) (ItRd.len _ _ hc2)) rfl ?_)))
   refine OW.rot1 ?_; refine Z12 Tryd.call94 rfl (Z120 w0 _ ((some b5, blk (⟨ad, sl ot 0 t1.length ct, .slice none 0 0⟩ : LogC).C 63) :: (ot, blk (hs32 t1 ++ rt) 24) :: (some b2, blk LogZ.C 63) :: (BK ++ N)) (fun w m => m.drop 3) b4 t2 c2 x2 (-1) d1 d2 hc2 (by omega) hd) rfl rfl ?_; rintro _ _ ⟨Bd, od, cd, rd, odo, rfl, rfl⟩; refine Z20 (M' := (some b5, blk (⟨ad, sl ot 0 t1.length ct, .slice none 0 0⟩ : LogC).C 63) :: (some b4, blk d2.C 109) :: (ot, blk (hs32 t1 ++ rt) 24) :: (od, blk (u8s d1 ++ rd) 5) :: (some b2, blk LogZ.C 63) :: (BK ++ N)) (fun w m => by have m2 := (m.sk2.sk3.sk4).pick [2, 1, 3, 0, 4] 5 rfl rfl; exact m2.sublist (List.Sublist.cons_cons _ (List.Sublist.cons_cons _ (List.Sublist.cons_cons _ (List.Sublist.cons_cons _ (List.Sublist.cons_cons _ (List.sublist_append_right _ _))))))) ?_
   refine Z0 (Z30 rfl rfl rfl rfl) rfl ?_
   refine Z28 (SV.store rfl rfl rfl rfl rfl (by rw [LogC.C_length]; exact Nat.le_of_ble_eq_true rfl)) ?_; refine OW.cells (⟨ad, sl ot 0 t1.length ct, sl od 0 d1.length cd⟩ : LogC).C (LogC.C_data_set _ _) ?_
   refine Z6 ?_
   (refine Z1 ?_; refine Z4 ?_; refine Z4 ?_)
   have hmt := oto.mx
   have hmd := odo.mx
   refine Z2 (Z0 (Z30 rfl rfl rfl rfl) rfl ?_)
   refine Z0 (Z29 rfl (by (refine List.Mem.tail _ ?_; exact List.Mem.head _); done) rfl rfl rfl rfl) rfl ?_
   refine Z0 (RV.neq rfl rfl) rfl (Z6 (Z1 (CW.mem (M' := (some b2, blk LogZ.C 63) :: (some b5, blk (⟨ad, sl ot 0 t1.length ct, sl od 0 d1.length cd⟩ : LogC).C 63) :: (some b4, blk d2.C 109) :: (ot, blk (hs32 t1 ++ rt) 24) :: (od, blk (u8s d1 ++ rd) 5) :: (BK ++ N)) (fun w m => m.pick [4, 0, 1, 2, 3] 5 rfl rfl) ?_)))
   refine CW.cond_np rfl (fun hde => ?_) (fun hde => ?_)
   ·rw [if_neg hde] at hf
    obtain ⟨rfl, rfl⟩ := Prod.mk.inj (Zi hf)
    refine Z4 (Z137 ((some b4, blk d2.C 109) :: (BK ++ N)) [3] (fun w m => m.pick [2] 5 rfl rfl) mixed (by kernel_rfl) (Z10 0 rfl (by kernel_rfl) rfl (Z107 (l := LogZ.C) (cs := LogZ.C) [] rfl rfl rfl (by kernel_rfl) rfl rfl rfl) rfl (Z10 1 rfl (by kernel_rfl) rfl (Z30 rfl rfl rfl rfl) rfl (Z10 2 rfl (by kernel_rfl) rfl (Z29 rfl Zh rfl rfl rfl (Rdr.C_err _)) rfl (XW.sv 3 rfl (by kernel_rfl) (Z103 rfl rfl rfl (LogC.C_one _ rfl rfl) rfl (LogC.C_length _) (LogC.C_length _)) (fun w m => m.pick [2] 5 rfl rfl) (Z10 4 rfl (by kernel_rfl) rfl (Z5 rfl) rfl (XW.nil (by kernel_rfl) ?_)))))))
    (refine Z1 ?_; refine CW.ret ?_; refine Z8 ?_)
    refine Z104 (rs := [.cell 2 63, .tmp 3]) [.agg LgZ.cells.toArray, .int .i64 d2.err] (LgZ.ents 24 5 ++ BK) rfl ?_ rfl ⟨LgZ, BK, LgZ_ok, rfl, hbd4, rfl, rfl⟩ (fun w m => fin0 (X := [_, _, _, _, _]) m) _ (.inl rfl)
    exact ⟨⟨_, _, _, _, rfl, List.Mem.head _, rfl, rfl, congrArg some (LogC.C_length _).symm, rfl⟩, rfl, trivial⟩
   ·rw [if_pos hde] at hf
    (refine CW.skip ?_; refine Z1 ?_; refine Z4 ?_; refine Z4 ?_)
    refine Z2 (Z0 (Z30 rfl rfl rfl rfl) rfl (Z0 (Z29 rfl (List.Mem.tail _ Zh) rfl rfl rfl (Z122 _)) rfl (Z0 (RV.len rfl rfl) rfl (Z0 (RV.gtr rfl rfl) rfl (Z6 (Z1 ?_))))))
    refine Z119 rfl (fun h4 => ?_) (fun h4 => ?_)
    ·rw [if_pos (by omega)] at hf
     obtain ⟨rfl, rfl⟩ := Prod.mk.inj (Zi hf)
     refine Z4 (Z2 (Z0 (Z107 (l := LogZ.C) (cs := LogZ.C) [] rfl rfl rfl (by kernel_rfl) rfl rfl rfl) rfl (Z28 (Z103 rfl rfl rfl (LogC.C_one _ rfl rfl) rfl (LogC.C_length _) (LogC.C_length _)) (Z0 (Z5 rfl) rfl (Z6 ?_)))))
     (refine Z1 ?_; refine CW.ret ?_; refine Z8 ?_)
     refine Z104 (rs := [.cell 2 63, .tmp 3]) [.agg LgZ.cells.toArray, .int .i64 174] (LgZ.ents 24 5 ++ BK) rfl ?_ rfl ⟨LgZ, BK, LgZ_ok, rfl, by omega, rfl, rfl⟩ (fun w m => fin0 (X := [_, _, _, _, _]) m) _ (.inl rfl)
     exact ⟨⟨_, _, _, _, rfl, List.Mem.head _, rfl, rfl, congrArg some (LogC.C_length _).symm, rfl⟩, rfl, trivial⟩
    ·rw [if_neg (by omega)] at hf
     obtain ⟨rfl, rfl⟩ := Prod.mk.inj (Zi hf)
     (refine CW.skip ?_; refine Z1 ?_; refine Z4 ?_)
     refine Z2 (Z0 (Z22 rfl (List.Mem.tail _ Zh) rfl rfl rfl rfl (LogC.C_length _)) rfl (Z28 (Z103 rfl rfl rfl (LogC.C_one _ rfl rfl) rfl (LogC.C_length _) (LogC.C_length _)) (Z0 (Z5 rfl) rfl (Z6 ?_))))
     (refine Z1 ?_; refine CW.ret ?_)
     refine Z104 (rs := [.cell 2 63, .tmp 3]) [.agg (⟨ad, ot, t1, ct, rt, od, d1, cd, rd⟩ : Lg).cells.toArray, .int .i64 0] ((⟨ad, ot, t1, ct, rt, od, d1, cd, rd⟩ : Lg).ents 24 5 ++ BK) rfl ?_ rfl ⟨⟨ad, ot, t1, ct, rt, od, d1, cd, rd⟩, BK, ⟨oto, odo⟩, rfl, by omega, rfl, rfl⟩ (fun w m => m.drop 3) _ (.inl rfl)
     exact ⟨⟨_, _, _, _, rfl, List.Mem.head _, rfl, rfl, congrArg some (LogC.C_length _).symm, rfl⟩, rfl, trivial⟩
  ·refine Z119 rfl (fun ha2 => ?_) (fun ha2 => ?_)
   ·rw [if_pos ha2] at had
    have hxl := (toVec_list had).2
    refine Z2 (Z0 (Z3 rfl) rfl (Z0 (RV.s2a (k := 20) rfl rfl (hva.isSome (by decide) (i := 0) (by omega)) (by omega)) rfl (Z0 (Z124 rfl rfl rfl rfl (fun w m => hva.vec8 had (m.sublist (List.singleton_sublist.2 (List.mem_cons_self ..)))) ((Z102 _).trans Zv)) rfl (Z0 (Z30 rfl rfl rfl rfl) rfl ?_))))
    refine OW.rot1 ?_; refine Z28 (SV.storeAs rfl rfl rfl (Z129 _) rfl ((Z102 _).trans Zv) (by rw [LogC.C_length]; exact Nat.le_of_ble_eq_true rfl)) ?_; refine OW.cells (⟨ad, .slice none 0 0, .slice none 0 0⟩ : LogC).C (LogC.C_address_spl _ _) ?_
    refine Z6 ?_
    refine QW.join ⟨rfl, rfl⟩ ⟨rfl, rfl, rfl, rfl, trivial⟩ (fun w m => m.pick [0, 2, 3] 4 rfl rfl)
   ·rw [if_neg ha2] at had
    obtain rfl := Zi had
    refine CW.skip ?_
    refine QW.join ⟨rfl, rfl⟩ ⟨rfl, rfl, rfl, rfl, trivial⟩ (fun w m => m.pick [1, 2, 3] 4 rfl rfl)
 ·rw [if_neg hc] at hf
  obtain ⟨rfl, rfl⟩ := Prod.mk.inj (Zi hf)
  by_cases he : p2.err = 0
  ·skip
   refine Z2 (Z0 (Z30 rfl rfl rfl rfl) rfl ?_)
   refine Z0 (Z29 rfl (by exact List.Mem.head _; done) rfl rfl rfl rfl) rfl ?_
   refine Z0 (RV.neq_f rfl rfl (by omega)) rfl (Z0 (Z3 rfl) rfl ?_)
   refine Z24 rfl ?_; refine Z0 (Z3 rfl) rfl ?_
   refine Z24 rfl ?_; refine Z0 (RV.len rfl rfl) rfl ?_
   refine Z24 rfl ?_; refine Z0 (RV.neq_t rfl rfl (by omega)) rfl ?_
   refine Z0 (Z106 rfl rfl rfl) rfl (Z6 (Z1 (CW.cond_t rfl (CW.mem (M' := (some b2, blk LogZ.C 63) :: (BK ++ N)) (fun w m => m.drop 2) (Z4 (Z2 (Z0 (Z107 (l := LogZ.C) (cs := LogZ.C) [] rfl rfl rfl (by kernel_rfl) rfl rfl rfl) rfl (Z28 (Z103 rfl rfl rfl (LogC.C_one _ rfl rfl) rfl (LogC.C_length _) (LogC.C_length _)) (Z0 (Z5 rfl) rfl ?_)))))))))
   refine Z6 ?_
   (refine Z1 ?_; refine CW.ret ?_; refine Z8 ?_)
   refine Z104 (rs := [.cell 2 63, .tmp 3]) [.agg LgZ.cells.toArray, .int .i64 172] (LgZ.ents 24 5 ++ BK) rfl ?_ rfl ⟨LgZ, BK, LgZ_ok, rfl, by omega, rfl, rfl⟩ (fun w m => fin0 (X := [_]) m) _ (.inl rfl)
   exact ⟨⟨_, _, _, _, rfl, List.Mem.head _, rfl, rfl, congrArg some (LogC.C_length _).symm, rfl⟩, rfl, trivial⟩
  ·skip
   refine Z2 (Z0 (Z30 rfl rfl rfl rfl) rfl ?_)
   refine Z0 (Z29 rfl (by exact List.Mem.head _; done) rfl rfl rfl rfl) rfl ?_
   refine Z0 (RV.neq_t rfl rfl (by omega)) rfl (Z0 (Z3 rfl) rfl (Z23 rfl rfl rfl (Z23 rfl rfl rfl (Z23 rfl rfl rfl (Z0 (Z108 rfl rfl rfl) rfl (Z6 (Z1 (CW.cond_t rfl ?_))))))))
   refine CW.mem (M' := (some b2, blk LogZ.C 63) :: (BK ++ N)) (fun w m => m.drop 2) (Z4 (Z2 (Z0 (Z107 (l := LogZ.C) (cs := LogZ.C) [] rfl rfl rfl (by kernel_rfl) rfl rfl rfl) rfl (Z28 (Z103 rfl rfl rfl (LogC.C_one _ rfl rfl) rfl (LogC.C_length _) (LogC.C_length _)) (Z0 (Z5 rfl) rfl (Z6 ?_))))))
   (refine Z1 ?_; refine CW.ret ?_; refine Z8 ?_)
   refine Z104 (rs := [.cell 2 63, .tmp 3]) [.agg LgZ.cells.toArray, .int .i64 172] (LgZ.ents 24 5 ++ BK) rfl ?_ rfl ⟨LgZ, BK, LgZ_ok, rfl, by omega, rfl, rfl⟩ (fun w m => fin0 (X := [_]) m) _ (.inl rfl)
   exact ⟨⟨_, _, _, _, rfl, List.Mem.head _, rfl, rfl, congrArg some (LogC.C_length _).symm, rfl⟩, rfl, trivial⟩
theorem rlogs_does (w0 : World) (Φ : Ctx) (N : List Ent) (hΦ : ∀ w, Mem w0 w N → Φ w) (br b off : Nat) (l : List Value) (te : TypeId) (rd r2 : Rdr) (cs : List Value) (it : It) (out : List Log) (hit : ItRd Φ cs it) (hold : l[off]? = some (.slice none 0 0)) (hf : rlogs rd [] it = some (out, r2)) :
  DoesG Tryd.prog 71 [ptr (some br) 0, ptr (some b) off, .agg cs.toArray] w0 [(some br, blk rd.C 109), (some b, blk l te)] N (fun u G => ∃ (B : List Ent) (gs : List Lg) (ob' : Option Nat) (c' : Nat) (r' : List Value), (∀ g ∈ gs, g.Ok) ∧ OwnS ob' gs.length c' 22 (lgC gs) r' ∧ gs.map Lg.val = out ∧ u = .tuple #[] ∧ G = (some br, blk r2.C 109) :: (ob', blk (lgC gs ++ r') 63) :: (some b, blk (l.set off (sl ob' 0 gs.length c')) te) :: (lgs 24 5 gs ++ B)) := by
 have hcl : cs.length = 3 := ItRd.len _ _ hit
 have hlt : off < l.length := (List.getElem?_eq_some_iff.1 hold).1
 unfold rlogs at hf
 obtain ⟨⟨p1, p2⟩, hp, hf⟩ := Option.bind_eq_some_iff.1 hf
 dsimp only at hf
 refine DoesG.enter Tryd.func71 rfl Tryd.ntmps71 rfl (M := (some br, blk rd.C 109) :: (some b, blk l te) :: N) rfl (Z4 (Z2 (Z130 rfl rfl (fun b5 => (Z6 ?_)))))
 (refine Z1 ?_; refine Z4 ?_)
 refine Z2 (Z0 (Z3 rfl) rfl (Z0 (Z22 rfl Zh rfl rfl rfl rfl hcl) rfl ?_))
 refine OW.rot1 ?_; refine Z12 Tryd.call97 rfl (Z134 w0 Φ ((some b5, blk cs 89) :: (some b, blk l te) :: N) (fun w m => hΦ w (m.drop 2)) br rd cs it p1 p2 hit hp) rfl rfl ?_; rintro _ _ ⟨B0, cr, oi, ci, ri, hri, oo, rfl, rfl⟩; refine Z20 (M' := (some br, blk p2.C 109) :: (none, blk (lgC [] ++ []) 63) :: (some b, blk l te) :: ((oi, blk (cr ++ ri) 89) :: (B0 ++ N))) (fun w m => ((m.sk2.sk3).nil_ent (blk (lgC [] ++ []) 63)).pick [2, 0, 4, 1] 5 rfl rfl) ?_
 refine Z0 (RV.len rfl rfl) rfl (Z0 (Z3 rfl) rfl (Z6 ?_))
 (refine Z1 ?_; refine CW.block ?_)
 have hK : ∀ w, Mem w0 w ((oi, blk (cr ++ ri) 89) :: (B0 ++ N)) → Φ w := fun w q => hΦ w q.tail.appR
 have hvi := oo.view (te := 89) (w0 := w0) (Ψ := fun w => Mem w0 w ((oi, blk (cr ++ ri) 89) :: (B0 ++ N))) (by decide) (fun w q => q.sublist (List.singleton_sublist.2 (List.mem_cons_self ..)))
 replace hri := hri.mono (ItRd.mono (Ψ := fun w => Mem w0 w ((oi, blk (cr ++ ri) 89) :: (B0 ++ N))) (fun w q => ⟨hK w q, q.tail.appL⟩))
 have hmi := oo.mx
 generalize hKe : ((oi, blk (cr ++ ri) 89) :: (B0 ++ N)) = K at hK hvi hri ⊢
 have hKN : ∃ BK, K = BK ++ N := ⟨_, by rw [← hKe, ← List.cons_append]⟩
 obtain ⟨BK, rfl⟩ := hKN
 clear hKe
 refine Z121 (fun k L' M' => ∃ (i : Nat) (q : Rdr) (gs : List Lg) (ob' : Option Nat) (c' : Nat) (r' : List Value), k = p1.length - i ∧ i ≤ p1.length ∧ rlogsF q (gs.map Lg.val) (p1.drop i) = some (out, r2) ∧ (∀ g ∈ gs, g.Ok) ∧ OwnS ob' gs.length c' 22 (lgC gs) r' ∧ L' = [(0, ptr (some br) 0), (1, ptr (some b) off), (12, sl oi 0 p1.length ci), (13, .int .i64 (p1.length : Int)), (14, .int .i64 (i : Int))] ∧
  M' = (some br, blk q.C 109) :: (ob', blk (lgC gs ++ r') 63) :: (some b, blk (l.set off (sl ob' 0 gs.length c')) te) :: (lgs 24 5 gs ++ (BK ++ N))) (k0 := p1.length) ⟨0, p2, [], none, 0, [], rfl, by omega, hf, (fun g hg => by cases hg), OwnS.nil, rfl, rfl⟩ ⟨rfl, rfl, rfl, rfl, rfl, trivial⟩ (fun w m => by show Mem w0 w (_ :: _ :: (some b, blk (l.set off (.slice none 0 0)) te) :: (BK ++ N)); rw [set_here hold]; exact m) ?_
 rintro k L' M' ⟨i, q, gs, ob', c', r', rfl, hi, hfi, hok, hoi, rfl, rfl⟩
 refine Z4 (Z2 (Z0 (RV.lss rfl rfl) rfl (Z6 ?_)))
 (refine Z1 ?_; refine Z4 ?_)
 refine Z119 rfl (fun hlt2 => ?_) (fun hlt2 => ?_)
 ·have h1 : i < p1.length := by omega
  have hx : p1[i]? = some p1[i] := List.getElem?_eq_getElem h1
  rw [List.drop_eq_getElem_cons h1, rlogsF] at hfi
  obtain ⟨⟨t1, t2⟩, ht, hfi⟩ := Option.bind_eq_some_iff.1 hfi
  dsimp only at hfi
  obtain ⟨ci2, hci, hcc⟩ := hri.get ItRd.len hx
  have hcl2 : ci2.length = 3 := ItRd.len _ _ hci
  (refine CW.skip ?_; refine Z1 ?_; refine Z4 ?_; refine CW.block ?_; refine Z4 ?_)
  refine Z2 (Z0 (Z117 (i) rfl rfl rfl rfl rfl (hvi.isSome (by decide) h1) (by omega)) rfl (Z0 (Z124 rfl rfl rfl rfl (fun w m => hvi.load (m.drop 3).appR hcc) hcl2) rfl (OW.alloc rfl rfl rfl (fun b7 => (Z28 (Z103 rfl rfl rfl (ItRd.one _ _ hci) rfl rfl hcl2) (Z6 ?_))))))
  (refine Z1 ?_; refine Z4 ?_)
  refine Z2 (Z0 (Z22 rfl Zh rfl rfl rfl rfl hcl2) rfl ?_)
  refine Z12 Tryd.call98 rfl (receipt_ParseLog_own w0 _ ((some b7, blk ci2 89) :: (some br, blk q.C 109) :: (ob', blk (lgC gs ++ r') 63) :: (some b, blk (l.set off (sl ob' 0 gs.length c')) te) :: (lgs 24 5 gs ++ (BK ++ N))) (fun w m => (m.drop 4).appR) ci2 p1[i] t1 t2 hci ht) rfl rfl ?_; rintro _ _ ⟨g, Bp, gok, gval, ebd, rfl, rfl⟩; refine Z20 (M' := (some br, blk q.C 109) :: (ob', blk (lgC gs ++ r') 63) :: (some b, blk (l.set off (sl ob' 0 gs.length c')) te) :: (g.ents 24 5 ++ (lgs 24 5 gs ++ (BK ++ N)))) (fun w m => by have m2 : Mem w0 w ((g.tb, blk (hs32 g.t ++ g.tr) 24) :: (g.db, blk (u8s g.d ++ g.dr) 5) :: (Bp ++ _)) := m; have m3 := ((m2.sk2.sk3.sk4).sk5).pick [3, 4, 5, 0, 1] 6 rfl rfl; exact m3.sublist (List.Sublist.cons_cons _ (List.Sublist.cons_cons _ (List.Sublist.cons_cons _ (List.Sublist.cons_cons _ (List.Sublist.cons_cons _ (List.sublist_append_right _ _))))))) ?_
  refine Z0 (Z3 rfl) rfl (Z0 (Z17 rfl rfl) rfl (Z0 (Z17 rfl rfl) rfl (OW.alloc (l := LogZ.C) rfl (by kernel_rfl) rfl (fun b8 => (Z28 (Z103 rfl rfl rfl g.cells_one rfl (LogC.C_length _) g.cells_length) (Z0 (Z5 rfl) rfl (Z6 ?_)))))))
  (refine Z1 ?_; refine Z4 ?_; refine Z4 ?_)
  refine Z2 (Z0 (Z3 rfl) rfl (Z0 (RV.neq rfl rfl) rfl (Z6 (Z1 ?_))))
  refine CW.cond_np rfl (fun he => ?_) (fun he => ?_)
  ·rw [if_neg he] at hfi
   obtain ⟨q2, hq, hfi⟩ := Option.bind_eq_some_iff.1 hfi
   obtain ⟨rfl, rfl⟩ := Prod.mk.inj (Zi hfi)
   refine Z4 (Z2 (Z0 (Z3 rfl) rfl (Z0 (Z3 rfl) rfl ?_)))
   refine OW.rot1 ?_; refine Z12 Tryd.call95 rfl (Z110 w0 (fun _ => True) ((some b8, blk g.cells 63) :: (ob', blk (lgC gs ++ r') 63) :: (some b, blk (l.set off (sl ob' 0 gs.length c')) te) :: (g.ents 24 5 ++ (lgs 24 5 gs ++ (BK ++ N)))) (fun _ _ => trivial) br q t2 q2 (by omega) hq) rfl rfl ?_; rintro _ _ ⟨Br, rfl, rfl⟩
   refine Z6 ?_
   (repeat (first | refine Z4 ?_ | refine Z1 ?_ | refine CW.block ?_ | refine CW.ret ?_ | refine CW.skip ?_ | refine CW.exit ?_ | refine Z9 ?_ | refine Z8 ?_ | refine Z27 ?_ | refine Z15 ?_ | refine QW.block_xn rfl ?_ | refine Z16 ?_))
   refine Z104 (rs := []) [] ((some br, blk q2.C 109) :: (ob', blk (lgC gs ++ r') 63) :: (some b, blk (l.set off (sl ob' 0 gs.length c')) te) :: (lgs 24 5 gs ++ BK)) rfl trivial rfl ⟨_, _, _, _, _, hok, hoi, rfl, rfl, rfl⟩ (fun w m => ?_) _ (.inl rfl)
   have m2 := ((m.sk1.sk2).sk3).pick [0, 2, 3] 4 rfl rfl
   have m3 : Mem w0 w ((some br, blk q2.C 109) :: (ob', blk (lgC gs ++ r') 63) :: (some b, blk (l.set off (sl ob' 0 gs.length c')) te) :: (lgs 24 5 gs ++ (BK ++ N))) := m2.sublist (List.Sublist.cons_cons _ (List.Sublist.cons_cons _ (List.Sublist.cons_cons _ ((List.sublist_append_right (g.ents 24 5) _).trans (List.sublist_append_right Br _)))))
   simpa only [List.append_assoc, List.cons_append] using m3
  ·rw [if_pos (by omega)] at hfi
   obtain ⟨hb, hfi⟩ := Z112 hfi
   rw [List.length_map] at hb
   subst gval
   (refine CW.skip ?_; refine Z1 ?_)
   refine Z137 ((some b8, blk g.cells 63) :: (some br, blk q.C 109) :: (g.ents 24 5 ++ (lgs 24 5 gs ++ (BK ++ N)))) [6, 8] (fun w m => m.pick [0, 1] 4 rfl rfl) mixed (by kernel_rfl) (Z10 0 rfl (by kernel_rfl) rfl (Z3 rfl) rfl (Z10 1 rfl (by kernel_rfl) rfl (Z3 rfl) rfl (Z10 2 rfl (by kernel_rfl) rfl (RV.nilCheck rfl) rfl ?_)))
   refine XW.rv 3 rfl (by kernel_rfl) rfl (by kernel_rfl) (Z29 rfl (List.Mem.tail _ (List.Mem.tail _ (List.Mem.tail _ Zh))) rfl rfl rfl (List.getElem?_set_self hlt)) rfl ?_
   refine Z10 4 rfl (by kernel_rfl) rfl (Z22 rfl Zh rfl rfl rfl rfl g.cells_length) rfl ?_
   refine XW.new 5 rfl (by kernel_rfl) rfl (NV.bsA rfl rfl (by intro x hx; simp at hx; subst hx; exact g.cells_length) rfl rfl rfl (by decide) (by decide) rfl) rfl (fun bs => ?_)
   refine Z19 (M' := (ob', blk (lgC gs ++ r') 63) :: (some bs, blk (g.cells ++ []) 63) :: (some b8, blk g.cells 63) :: (some br, blk q.C 109) :: (some b, blk (l.set off (sl ob' 0 gs.length c')) te) :: (g.ents 24 5 ++ (lgs 24 5 gs ++ (BK ++ N)))) (fun w m => m.pick [3, 0, 1, 2, 4] 5 rfl rfl) (fun w m => m.pick [2, 3] 5 rfl rfl) (XW.appendOwn 6 (s := 22) rfl (by kernel_rfl) rfl rfl rfl rfl rfl rfl hoi (fun w m => m.rd0 (List.Mem.tail _ Zh) (fun e => nomatch e)) g.cells_length g.cells_one (fun e => nomatch e) (by decide) (by decide) (by simp only [i63]; omega) rfl ((gs ++ [g]).length) (lgC (gs ++ [g])) (by simp) (by rw [lgC_app, lgC_one1]) (fun w m => m.pick [1, 2] 4 rfl rfl) rfl (fun ob2 rr2 c2 o2 => (Z10 7 rfl (by kernel_rfl) rfl (RV.nilCheck rfl) rfl (Z19 (M' := (some b, blk (l.set off (sl ob' 0 gs.length c')) te) :: (ob2, blk (lgC (gs ++ [g]) ++ rr2) 63) :: (some b8, blk g.cells 63) :: (some br, blk q.C 109) :: (g.ents 24 5 ++ (lgs 24 5 gs ++ (BK ++ N)))) (fun w m => m.pick [4, 0, 2, 3] 5 rfl rfl) (fun w m => m.pick [2, 3] 4 rfl rfl) ?_))))
   refine XW.sv 8 rfl (by kernel_rfl) (SV.store rfl rfl rfl rfl rfl (by rw [List.length_set]; exact hlt)) (fun w m => m.pick [2, 3] 4 rfl rfl) ?_
   refine XW.cells (l.set off (sl ob2 0 (gs ++ [g]).length c2)) (List.set_set ..) (XW.nil (by kernel_rfl) ?_)
   (refine Z27 ?_; refine Z1 ?_)
   refine Z2 (Z0 (RV.add rfl rfl (by omega)) rfl (Z0 (Z3 rfl) rfl (Z6 ?_)))
   refine Z114 (k' := p1.length - (i + 1)) (by omega) ⟨i + 1, q, gs ++ [g], ob2, c2, rr2, rfl, by omega, by rw [List.map_append]; exact hfi, ?_, o2, rfl, rfl⟩ ⟨rfl, rfl, rfl, rfl, rfl, trivial⟩ (fun w m => lgs_snoc (X := [_, _, _]) (m.pick [3, 1, 0] 4 rfl rfl))
   intro x hx
   rcases List.mem_append.1 hx with hx | hx
   ·exact hok x hx
   ·obtain rfl := List.mem_singleton.1 hx
    exact gok
 ·rw [List.drop_eq_nil_of_le (by omega), rlogsF] at hfi
  obtain ⟨rfl, rfl⟩ := Prod.mk.inj (Zi hfi)
  (refine CW.exit ?_; refine Z9 ?_; refine Z9 ?_; refine Z15 ?_)
  refine Z104 (rs := []) [] ((some br, blk q.C 109) :: (ob', blk (lgC gs ++ r') 63) :: (some b, blk (l.set off (sl ob' 0 gs.length c')) te) :: (lgs 24 5 gs ++ BK)) rfl trivial rfl ⟨_, _, _, _, _, hok, hoi, rfl, rfl, rfl⟩ (fun w m => by simpa only [List.append_assoc, List.cons_append] using m) _ (.inr rfl)
theorem receipt_Decode_own (w0 : World) (Φ : Ctx) (N : List Ent) (hΦ : ∀ w, Mem w0 w N → Φ w) (A : Option Addr) (c : Nat) (data : List (BitVec 8)) (x : Rcpt) (e : Int) (va : View Φ A data.length c 1 (u8s data)) (hg2 : View Φ (some ⟨2, 0, none⟩) 2 2 1 (u8s firstL)) (hf : receipt_Decode data = some (x, e)) :
  DoesG Tryd.prog 39 [.slice A data.length c] w0 [] N (DecO w0 x e) := by
 have hm := va.mx
 unfold receipt_Decode at hf
 refine DoesG.enter Tryd.func39 rfl Tryd.ntmps39 rfl (M := N) rfl (Z4 (Z2 (OW.alloc (l := RcptZ.C) rfl (by kernel_rfl) rfl (fun b2 => (Z0 (Z5 rfl) rfl (Z6 ?_))))))
 (refine Z1 ?_; refine Z4 ?_; refine Z4 ?_)
 refine Z2 (Z0 (Z3 rfl) rfl (Z0 (RV.len rfl rfl) rfl (Z0 (RV.gtr rfl rfl) rfl (Z6 (Z1 ?_)))))
 refine Z119 rfl (fun hl1 => ?_) (fun hl1 => ?_)
 ·rw [if_pos (by omega)] at hf
  obtain ⟨rfl, rfl⟩ := Prod.mk.inj (Zi hf)
  refine Z4 (Z2 (Z0 (Z107 (l := RcptZ.C) (cs := RcptZ.C) [] rfl rfl rfl (by kernel_rfl) rfl rfl rfl) rfl (Z28 (Z103 rfl rfl rfl (RcptC.C_one _ rfl) rfl (RcptC.C_length _) (RcptC.C_length _)) (Z0 (Z5 rfl) rfl (Z6 ?_)))))
  (refine Z1 ?_; refine CW.ret ?_; refine Z8 ?_)
  refine Z104 (rs := [.cell 2 30, .tmp 3]) [.agg RcptZ.C.toArray, .int .i64 2] ((none, blk [] 63) :: []) rfl ?_ rfl (DecO.zero (by omega) _) (fun w m => m.tail.nil_ent _) _ (.inl rfl)
  exact ⟨⟨_, _, _, _, rfl, List.Mem.head _, rfl, rfl, congrArg some (RcptC.C_length _).symm, rfl⟩, rfl, trivial⟩
 rw [if_neg (by omega)] at hf
 (refine CW.skip ?_; refine Z1 ?_; refine Z4 ?_; refine Z4 ?_)
 refine Z2 (Z0 (Z3 rfl) rfl (Z0 (RV.len rfl rfl) rfl (Z0 (RV.eql rfl rfl) rfl (Z6 (Z1 ?_)))))
 refine Z119 rfl (fun hl0 => ?_) (fun hl0 => ?_)
 ·rw [if_pos (by omega)] at hf
  obtain ⟨rfl, rfl⟩ := Prod.mk.inj (Zi hf)
  refine Z4 (Z2 (Z0 (Z107 (l := RcptZ.C) (cs := RcptZ.C) [] rfl rfl rfl (by kernel_rfl) rfl rfl rfl) rfl (Z28 (Z103 rfl rfl rfl (RcptC.C_one _ rfl) rfl (RcptC.C_length _) (RcptC.C_length _)) (Z0 (Z5 rfl) rfl (Z6 ?_)))))
  (refine Z1 ?_; refine CW.ret ?_; refine Z8 ?_)
  refine Z104 (rs := [.cell 2 30, .tmp 3]) [.agg RcptZ.C.toArray, .int .i64 70] ((none, blk [] 63) :: []) rfl ?_ rfl (DecO.zero (by omega) _) (fun w m => m.tail.nil_ent _) _ (.inl rfl)
  exact ⟨⟨_, _, _, _, rfl, List.Mem.head _, rfl, rfl, congrArg some (RcptC.C_length _).symm, rfl⟩, rfl, trivial⟩
 rw [if_neg (by omega)] at hf
 obtain ⟨b, hb, hf⟩ := Option.bind_eq_some_iff.1 hf
 (refine CW.skip ?_; refine Z1 ?_; refine Z4 ?_)
 refine Z2 (OW.alloc (l := RcptZ.C) rfl (by kernel_rfl) rfl (fun b4 => (Z6 ?_)))
 (refine Z1 ?_; refine Z4 ?_; refine Z4 ?_)
 refine Z2 (Z0 (Z3 rfl) rfl (Z0 (Z131 (0) rfl rfl rfl rfl rfl (va.isSome (by decide) (i := 0) (by omega)) (by omega)) rfl (Z0 (Z21 rfl rfl rfl (fun w m => va.cell (hΦ w m.tail.tail) (Z148 hb))) rfl (Z0 (Z5 rfl) rfl (Z6 (Z1 ?_))))))
 refine Z115 (fun L' M' => ∃ (k : Int) (d : List (BitVec 8)) (A' : Option Addr) (c' : Nat), dkind data b = some (k, d) ∧ View Φ A' d.length c' 1 (u8s d) ∧ (0 ≤ k ∧ k ≤ 4) ∧ L' = [(0, .slice A' d.length c'), (2, ptr (some b2) 0), (4, ptr (some b4) 0)] ∧ M' = (some b4, blk ({ RcptZ with kind := k } : RcptC).C 30) :: (some b2, blk RcptZ.C 30) :: N) ?_ ?_
 ·rintro L' M' ⟨k, d, A', c', hk, vd, hkb, rfl, rfl⟩
  rw [hk] at hf
  replace hf : rdecode2 k d = some (x, e) := hf
  unfold rdecode2 at hf
  obtain ⟨⟨it, ee⟩, hp, hf⟩ := Option.bind_eq_some_iff.1 hf
  dsimp only at hf
  (refine Z1 ?_; refine Z4 ?_)
  refine Z2 (Z0 (Z3 rfl) rfl ?_)
  refine Z12 Tryd.call66 rfl (rlp_Decode_does w0 Φ ((some b4, blk ({ RcptZ with kind := k } : RcptC).C 30) :: (some b2, blk RcptZ.C 30) :: N) (fun w m => hΦ w (m.drop 2)) A' c' d it ee vd hp) rfl rfl ?_; rintro _ B1 ⟨_, cr1, hr1, hb1, rfl, rfl⟩; refine Z20 (M' := (some b4, blk ({ RcptZ with kind := k } : RcptC).C 30) :: (some b2, blk RcptZ.C 30) :: (B1 ++ N)) (fun w m => m.sk0.sk1) ?_
  refine Z0 (Z3 rfl) rfl (Z0 (Z17 rfl rfl) rfl (Z0 (Z17 rfl rfl) rfl (OW.alloc rfl rfl rfl (fun b6 => (Z28 (Z103 rfl rfl rfl (ItRd.one _ _ hr1) rfl rfl (ItRd.len _ _ hr1)) (Z0 (Z5 rfl) rfl (Z6 ?_)))))))
  (refine Z1 ?_; refine Z4 ?_; refine Z4 ?_)
  refine Z2 (Z0 (Z3 rfl) rfl (Z0 (RV.neq rfl rfl) rfl (Z6 (Z1 ?_))))
  refine CW.cond_np rfl (fun hee => ?_) (fun hee => ?_)
  ·rw [if_neg (by omega)] at hf
   obtain ⟨rfl, rfl⟩ := Prod.mk.inj (Zi hf)
   refine CW.mem (M' := (some b2, blk RcptZ.C 30) :: N) (fun w m => (m.drop 2).sublist (List.Sublist.cons_cons _ (List.sublist_append_right _ _))) (Z4 (Z2 (Z0 (Z107 (l := RcptZ.C) (cs := RcptZ.C) [] rfl rfl rfl (by kernel_rfl) rfl rfl rfl) rfl (Z0 (Z3 rfl) rfl (Z28 (Z103 rfl rfl rfl (RcptC.C_one _ rfl) rfl (RcptC.C_length _) (RcptC.C_length _)) (Z0 (Z5 rfl) rfl (Z6 ?_)))))))
   (refine Z1 ?_; refine CW.ret ?_; refine Z8 ?_)
   refine Z104 (rs := [.cell 2 30, .tmp 3]) [.agg RcptZ.C.toArray, .int .i64 (ee : Int)] ((none, blk [] 63) :: []) rfl ?_ rfl (DecO.zero (by omega) _) (fun w m => m.tail.nil_ent _) _ (.inl rfl)
   exact ⟨⟨_, _, _, _, rfl, List.Mem.head _, rfl, rfl, congrArg some (RcptC.C_length _).symm, rfl⟩, rfl, trivial⟩
  rw [if_pos (by omega)] at hf
  obtain ⟨⟨f, e2⟩, hgl, hf⟩ := Option.bind_eq_some_iff.1 hf
  dsimp only at hf
  (refine CW.skip ?_; refine Z1 ?_; refine Z4 ?_)
  refine Z2 (Z0 (Z22 rfl Zh rfl rfl rfl rfl (ItRd.len _ _ hr1)) rfl ?_)
  refine Z12 Tryd.call67 rfl (rlp_GetList_does w0 (More w0 Φ B1) ((some b6, blk cr1 89) :: (some b4, blk ({ RcptZ with kind := k } : RcptC).C 30) :: (some b2, blk RcptZ.C 30) :: (B1 ++ N)) (fun w m => ⟨hΦ w (m.drop 3).appR, (m.drop 3).appL⟩) cr1 it f e2 hr1 hgl) rfl rfl ?_; rintro _ _ ⟨B2, cr, oi, ci, ri, hri, oo, hb2, rfl, rfl⟩; refine Z20 (M' := (some b4, blk ({ RcptZ with kind := k } : RcptC).C 30) :: (some b2, blk RcptZ.C 30) :: ((oi, blk (cr ++ ri) 89) :: (B2 ++ (B1 ++ N)))) (fun w m => (m.sk1.sk2.sk3).pick [2, 3, 0] 4 rfl rfl) ?_
  refine Z0 (Z3 rfl) rfl (Z0 (Z17 rfl rfl) rfl (Z0 (Z17 rfl rfl) rfl (Z0 (Z5 rfl) rfl (Z0 (Z5 rfl) rfl (Z6 ?_)))))
  (refine Z1 ?_; refine Z4 ?_; refine Z4 ?_)
  have hK : ∀ w, Mem w0 w ((oi, blk (cr ++ ri) 89) :: (B2 ++ (B1 ++ N))) → Φ w := fun w q => hΦ w q.tail.appR.appR
  have hvi := oo.view (te := 89) (w0 := w0) (Ψ := fun w => Mem w0 w ((oi, blk (cr ++ ri) 89) :: (B2 ++ (B1 ++ N)))) (by decide) (fun w q => q.sublist (List.singleton_sublist.2 (List.mem_cons_self ..)))
  replace hri := hri.mono (ItRd.mono (Ψ := fun w => Mem w0 w ((oi, blk (cr ++ ri) 89) :: (B2 ++ (B1 ++ N)))) (fun w q => ⟨⟨hK w q, q.tail.appR.appL⟩, q.tail.appL⟩))
  have hmi := oo.mx
  generalize hKe : ((oi, blk (cr ++ ri) 89) :: (B2 ++ (B1 ++ N))) = K at hK hvi hri ⊢
  have hKN : ∃ BK, K = BK ++ N := ⟨(oi, blk (cr ++ ri) 89) :: (B2 ++ B1), by rw [← hKe]; simp⟩
  obtain ⟨BK, rfl⟩ := hKN
  clear hKe
  by_cases hc : e2 = 0 ∧ f.length = 4
  ·rw [if_pos hc] at hf
   obtain ⟨he, h4⟩ := hc
   unfold rfields at hf
   obtain ⟨x0, hx0, hf⟩ := Option.bind_eq_some_iff.1 hf
   obtain ⟨⟨o, r1⟩, ho, hf⟩ := Option.bind_eq_some_iff.1 hf
   obtain ⟨x1, hx1, hf⟩ := Option.bind_eq_some_iff.1 hf
   obtain ⟨⟨u, r2⟩, hu, hf⟩ := Option.bind_eq_some_iff.1 hf
   obtain ⟨x2, hx2, hf⟩ := Option.bind_eq_some_iff.1 hf
   obtain ⟨⟨bl, r3⟩, hbl, hf⟩ := Option.bind_eq_some_iff.1 hf
   obtain ⟨x3, hx3, hf⟩ := Option.bind_eq_some_iff.1 hf
   obtain ⟨⟨lg, r4⟩, hlg, hf⟩ := Option.bind_eq_some_iff.1 hf
   dsimp only at hu hbl hlg hf
   have hbd4 := logs_bd (rbloom_bd (rsmall_bd (routcome_bd (r := ⟨0⟩) ⟨Int.le_refl _, by decide⟩ ho) hu) hbl) hlg
   obtain ⟨hkk, -, -, hlogs⟩ := routcome_keep ho
   replace hkk : o.kind = k := hkk
   replace hlogs : o.logs = .slice none 0 0 := hlogs
   obtain ⟨c0, hc0, hcc0⟩ := hri.get ItRd.len hx0
   obtain ⟨c1, hc1, hcc1⟩ := hri.get ItRd.len hx1
   obtain ⟨c2, hc2, hcc2⟩ := hri.get ItRd.len hx2
   obtain ⟨c3, hc3, hcc3⟩ := hri.get ItRd.len hx3
   refine Z2 (Z0 (Z3 rfl) rfl (Z0 (RV.neq_f rfl rfl (by omega)) rfl (Z0 (Z3 rfl) rfl ?_)))
   refine Z24 rfl ?_; refine Z0 (Z3 rfl) rfl ?_
   refine Z24 rfl ?_; refine Z0 (RV.len rfl rfl) rfl ?_
   refine Z24 rfl ?_; refine Z0 (RV.neq_f rfl rfl (by omega)) rfl ?_
   refine Z0 (Z106 rfl rfl rfl) rfl (Z6 (Z1 (Z154 rfl ?_)))
   (refine CW.skip ?_; refine Z1 ?_; refine Z4 ?_)
   refine Z2 (OW.alloc (l := (⟨0⟩ : Rdr).C) rfl rfl rfl (fun b9 => (Z6 ?_)))
   (refine Z1 ?_; refine Z4 ?_)
   refine Z2 (Z0 (Z3 rfl) rfl (Z0 (Z117 (0) rfl rfl rfl rfl rfl (hvi.isSome (by decide) (i := 0) (by omega)) (by omega)) rfl (Z0 (Z124 rfl rfl rfl rfl (fun w m => hvi.load (m.drop 3) hcc0) (ItRd.len _ _ hc0)) rfl ?_)))
   refine Z12 Tryd.call68 rfl (routcome_does w0 _ ((some b2, blk RcptZ.C 30) :: (BK ++ N)) (fun w m => m.drop 1) b9 b4 ({ RcptZ with kind := k } : RcptC) o ⟨0⟩ r1 c0 x0 hc0 (by dsimp only; omega) ho) rfl rfl ?_; rintro _ _ ⟨B3, rfl, rfl⟩; refine Z20 (M' := (some b9, blk r1.C 109) :: (some b4, blk o.C 30) :: (some b2, blk RcptZ.C 30) :: (BK ++ N)) (fun w m => m.sk2.sublist (List.Sublist.cons_cons _ (List.Sublist.cons_cons _ (List.Sublist.cons_cons _ (List.sublist_append_right _ _))))) ?_
   refine Z6 ?_
   (refine Z1 ?_; refine Z4 ?_)
   refine Z2 ?_
   refine Z0 (Z30 rfl rfl rfl rfl) rfl ?_; refine Z7 (ptr (some b4) 35) rfl ?_
   refine Z0 (Z3 rfl) rfl (Z0 (Z117 (1) rfl rfl rfl rfl rfl (hvi.isSome (by decide) (i := 0) (by omega)) (by omega)) rfl (Z0 (Z124 rfl rfl rfl rfl (fun w m => hvi.load (m.drop 3) hcc1) (ItRd.len _ _ hc1)) rfl ?_))
   refine Z12 Tryd.call69 rfl (rsmall_does w0 _ ((some b2, blk RcptZ.C 30) :: (BK ++ N)) (fun w m => m.drop 1) b9 b4 35 o.C 30 r1 r2 c1 x1 o.used u hc1 (RcptC.C_used _) hu) rfl rfl ?_; rintro _ _ ⟨B4, rfl, rfl⟩; refine Z20 (M' := (some b4, blk (o.C.set 35 (U64 u)) 30) :: (some b9, blk r2.C 109) :: (some b2, blk RcptZ.C 30) :: (BK ++ N)) (fun w m => (m.sk2.sublist (List.Sublist.cons_cons _ (List.Sublist.cons_cons _ (List.Sublist.cons_cons _ (List.sublist_append_right _ _))))).rot1) ?_; refine OW.cells ({ o with used := u } : RcptC).C (RcptC.C_used_set _ _) ?_
   refine Z6 ?_
   (refine Z1 ?_; refine Z4 ?_)
   refine Z2 ?_
   refine Z0 (Z30 rfl rfl rfl rfl) rfl ?_; refine Z7 (ptr (some b4) 36) rfl ?_
   refine Z0 (Z3 rfl) rfl (Z0 (Z117 (2) rfl rfl rfl rfl rfl (hvi.isSome (by decide) (i := 0) (by omega)) (by omega)) rfl (Z0 (Z124 rfl rfl rfl rfl (fun w m => hvi.load (m.drop 3) hcc2) (ItRd.len _ _ hc2)) rfl ?_))
   refine OW.rot1 ?_; refine Z12 Tryd.call70 rfl (rbloom_does w0 _ ((some b2, blk RcptZ.C 30) :: (BK ++ N)) (fun w m => m.drop 1) b9 b4 36 ({ o with used := u } : RcptC).C 30 r2 r3 c2 x2 o.bloom bl hc2 (Z146 ({ o with used := u } : RcptC)) (by rw [RcptC.C_length]; exact Nat.le_of_ble_eq_true rfl) hbl) rfl rfl ?_; rintro _ _ ⟨B5, rfl, rfl⟩; refine Z20 (M' := (some b4, blk (spl ({ o with used := u } : RcptC).C 36 (u8s bl.toList)) 30) :: (some b9, blk r3.C 109) :: (some b2, blk RcptZ.C 30) :: (BK ++ N)) (fun w m => (m.sk2.sublist (List.Sublist.cons_cons _ (List.Sublist.cons_cons _ (List.Sublist.cons_cons _ (List.sublist_append_right _ _))))).rot1) ?_; refine OW.cells ({ { o with used := u } with bloom := bl } : RcptC).C (RcptC.C_bloom_spl _ _) ?_
   refine Z6 ?_
   (refine Z1 ?_; refine Z4 ?_)
   refine Z2 ?_
   refine Z0 (Z30 rfl rfl rfl rfl) rfl ?_; refine Z7 (ptr (some b4) 292) rfl ?_
   refine Z0 (Z3 rfl) rfl (Z0 (Z117 (3) rfl rfl rfl rfl rfl (hvi.isSome (by decide) (i := 0) (by omega)) (by omega)) rfl (Z0 (Z124 rfl rfl rfl rfl (fun w m => hvi.load (m.drop 3) hcc3) (ItRd.len _ _ hc3)) rfl ?_))
   refine OW.rot1 ?_; refine Z12 Tryd.call71 rfl (rlogs_does w0 _ ((some b2, blk RcptZ.C 30) :: (BK ++ N)) (fun w m => m.drop 1) b9 b4 292 ({ { o with used := u } with bloom := bl } : RcptC).C 30 r3 r4 c3 x3 lg hc3 ((Z151 _).trans (congrArg some hlogs)) hlg) rfl rfl ?_; rintro _ _ ⟨B6, gs, ob, cg, rg, gok, og, gval, rfl, rfl⟩; refine Z20 (M' := (some b4, blk (({ { o with used := u } with bloom := bl } : RcptC).C.set 292 (sl ob 0 gs.length cg)) 30) :: (some b9, blk r4.C 109) :: (ob, blk (lgC gs ++ rg) 63) :: (some b2, blk RcptZ.C 30) :: (lgs 24 5 gs ++ (BK ++ N))) (fun w m => by have m1 : Mem w0 w ((some b9, blk r4.C 109) :: (ob, blk (lgC gs ++ rg) 63) :: (some b4, blk (({ { o with used := u } with bloom := bl } : RcptC).C.set 292 (sl ob 0 gs.length cg)) 30) :: ((lgs 24 5 gs ++ B6) ++ ((some b2, blk RcptZ.C 30) :: (BK ++ N)))) := m; have m2 := m1.sk3.pick [2, 0, 1, 3] 4 rfl rfl; rw [List.append_assoc] at m2; exact m2.sublist (List.Sublist.cons_cons _ (List.Sublist.cons_cons _ (List.Sublist.cons_cons _ (List.Sublist.cons_cons _ (List.Sublist.append_left (List.sublist_append_right _ _) _)))))) ?_; refine OW.cells ({ { { o with used := u } with bloom := bl } with logs := sl ob 0 gs.length cg } : RcptC).C (RcptC.C_logs_set _ _) ?_
   refine Z6 ?_
   (refine Z1 ?_; refine Z4 ?_; refine Z4 ?_)
   have hmg := og.mx
   have hvl := og.view (te := 63) (w0 := w0) (Ψ := fun w => Mem w0 w ((some b4, blk ({ { { o with used := u } with bloom := bl } with logs := sl ob 0 gs.length cg } : RcptC).C 30) :: (some b9, blk r4.C 109) :: (ob, blk (lgC gs ++ rg) 63) :: (some b2, blk RcptZ.C 30) :: (lgs 24 5 gs ++ (BK ++ N)))) (by decide) (fun w q => (q.drop 2).sublist (List.singleton_sublist.2 (List.mem_cons_self ..)))
   have hrl := lgs_reps (w0 := w0) (Φ := fun w => Mem w0 w ((some b4, blk ({ { { o with used := u } with bloom := bl } with logs := sl ob 0 gs.length cg } : RcptC).C 30) :: (some b9, blk r4.C 109) :: (ob, blk (lgC gs ++ rg) 63) :: (some b2, blk RcptZ.C 30) :: (lgs 24 5 gs ++ (BK ++ N)))) (tH := 24) (tB := 5) gok (fun w q => (q.drop 4).appL)
   have hvl2 : View (fun w => Mem w0 w ((some b4, blk ({ { { o with used := u } with bloom := bl } with logs := sl ob 0 gs.length cg } : RcptC).C 30) :: (some b9, blk r4.C 109) :: (ob, blk (lgC gs ++ rg) 63) :: (some b2, blk RcptZ.C 30) :: (lgs 24 5 gs ++ (BK ++ N)))) (ob.map fun k => ⟨k, 0, none⟩) (gs.map Lg.val).length cg 22 (lgC gs) := by rw [List.length_map]; exact hvl
   by_cases he4 : r4.err = 0
   ·rw [if_pos he4] at hf
    obtain ⟨y, hy, hf⟩ := Option.bind_eq_some_iff.1 hf
    rw [← gval] at hy
    refine Z138 11 mixed (by kernel_rfl) rfl (Z18 0 rfl (by kernel_rfl) rfl (Z30 rfl rfl rfl rfl) rfl (Z18 1 rfl (by kernel_rfl) rfl (Z29 rfl (List.Mem.tail _ Zh) rfl rfl rfl (Rdr.C_err _)) rfl (Z18 2 rfl (by kernel_rfl) rfl (RV.eql_t rfl rfl he4) rfl (Z18 3 rfl (by kernel_rfl) rfl (Z3 rfl) rfl (Z18 4 rfl (by kernel_rfl) rfl (Z30 rfl rfl rfl rfl) rfl (Z18 5 rfl (by kernel_rfl) rfl (RV.loadAo rfl Zh rfl rfl rfl rfl (Z146 _) ((Z102 _).trans Zv)) rfl (Z18 6 rfl (by kernel_rfl) rfl (Z30 rfl rfl rfl rfl) rfl ?_)))))))
    refine Z18 7 rfl (by kernel_rfl) rfl (Z29 rfl Zh rfl rfl rfl (Z151 _)) rfl (UW.slot (.slice (ob.map fun k => ⟨k, 0, none⟩) (gs.map Lg.val).length cg) (by rw [List.length_map]; rfl) (Z25 8 rfl (by kernel_rfl) rfl Tryd.call28 rfl (fun N' hN' => receipt_BloomOf_does w0 (fun w => Mem w0 w ((some b4, blk ({ { { o with used := u } with bloom := bl } with logs := sl ob 0 gs.length cg } : RcptC).C 30) :: (some b9, blk r4.C 109) :: (ob, blk (lgC gs ++ rg) 63) :: (some b2, blk RcptZ.C 30) :: (lgs 24 5 gs ++ (BK ++ N)))) N' (fun w m => hN' w m) (ob.map fun k => ⟨k, 0, none⟩) cg (lgC gs) (gs.map Lg.val) y hvl2 hrl (hg2.mono fun w q => hK w (q.drop 4).appR) hy) rfl ?_))
    rintro _ G8 rfl
    refine UW.mem (M' := ((some b4, blk ({ { { o with used := u } with bloom := bl } with logs := sl ob 0 gs.length cg } : RcptC).C 30) :: (some b9, blk r4.C 109) :: (ob, blk (lgC gs ++ rg) 63) :: (some b2, blk RcptZ.C 30) :: (lgs 24 5 gs ++ (BK ++ N)))) (fun w m => m.appR) (Z18 9 rfl (by kernel_rfl) rfl (RV.neA8 rfl rfl rfl rfl rfl rfl Zv Zv) rfl (UW.slot (.bool (!decide (bl = y))) (congrArg (fun b => Value.bool (!b)) (decide_eq_decide.2 Vector.toList_inj)) (Z18 10 rfl (by kernel_rfl) rfl (Z108 rfl rfl rfl) rfl (UW.nil (by kernel_rfl) (Z6 (Z1 ?_))))))
    refine CW.cond_np rfl (fun hby => ?_) (fun hby => ?_)
    ·rw [if_neg hby] at hf
     obtain ⟨rfl, rfl⟩ := Prod.mk.inj (Zi hf)
     refine CW.mem (M' := (some b9, blk r4.C 109) :: (some b2, blk RcptZ.C 30) :: N) (fun w m => (m.pick [1, 3] 4 rfl rfl).sublist (List.Sublist.cons_cons _ (List.Sublist.cons_cons _ ((List.sublist_append_right _ _).trans (List.sublist_append_right _ _))))) (Z2 (Z0 (Z30 rfl rfl rfl rfl) rfl ?_))
     refine Z28 (SV.store rfl rfl rfl rfl rfl (by rw [Rdr.C_length]; decide)) ?_; refine OW.cells (⟨173⟩ : Rdr).C (Rdr.C_err_set _ 173) ?_
     refine Z6 ?_
     (refine Z1 ?_; refine Z4 ?_; refine Z4 ?_)
     refine Z2 (Z0 (Z30 rfl rfl rfl rfl) rfl ?_)
     refine Z0 (Z29 rfl (by exact List.Mem.head _; done) rfl rfl rfl rfl) rfl ?_
     refine Z0 (RV.neq_t rfl rfl (by decide)) rfl (Z6 (Z1 (CW.cond_t rfl (Z4 (Z137 ((some b9, blk (⟨173⟩ : Rdr).C 109) :: N) [3] (fun w m => m.pick [0] 2 rfl rfl) mixed (by kernel_rfl) (Z10 0 rfl (by kernel_rfl) rfl (Z107 (l := RcptZ.C) (cs := RcptZ.C) [] rfl rfl rfl (by kernel_rfl) rfl rfl rfl) rfl (Z10 1 rfl (by kernel_rfl) rfl (Z30 rfl rfl rfl rfl) rfl (Z10 2 rfl (by kernel_rfl) rfl (Z29 rfl Zh rfl rfl rfl (Rdr.C_err _)) rfl ?_))))))))
     refine Z19 (M' := (some b2, blk RcptZ.C 30) :: (some b9, blk (⟨173⟩ : Rdr).C 109) :: N) (fun w m => m.rot1) (fun w m => m.tail) (XW.sv 3 rfl (by kernel_rfl) (Z103 rfl rfl rfl (RcptC.C_one _ rfl) rfl (RcptC.C_length _) (RcptC.C_length _)) (fun w m => m.tail) (Z10 4 rfl (by kernel_rfl) rfl (Z5 rfl) rfl (XW.nil (by kernel_rfl) ?_)))
     (refine Z1 ?_; refine CW.ret ?_; refine Z8 ?_)
     refine Z104 (rs := [.cell 2 30, .tmp 3]) [.agg RcptZ.C.toArray, .int .i64 173] ((none, blk [] 63) :: []) rfl ?_ rfl (DecO.zero (by omega) _) (fun w m => m.tail.tail.nil_ent _) _ (.inl rfl)
     exact ⟨⟨_, _, _, _, rfl, List.Mem.head _, rfl, rfl, congrArg some (RcptC.C_length _).symm, rfl⟩, rfl, trivial⟩
    ·rw [if_pos hby] at hf
     obtain ⟨rfl, rfl⟩ := Prod.mk.inj (Zi hf)
     (refine CW.skip ?_; refine Z1 ?_; refine Z4 ?_; refine Z4 ?_)
     refine CW.mem (M' := (some b2, blk RcptZ.C 30) :: (some b4, blk ({ { { o with used := u } with bloom := bl } with logs := sl ob 0 gs.length cg } : RcptC).C 30) :: (some b9, blk r4.C 109) :: (ob, blk (lgC gs ++ rg) 63) :: (lgs 24 5 gs ++ (BK ++ N))) (fun w m => m.pick [3, 0, 1, 2] 4 rfl rfl) (Z2 (Z0 (Z30 rfl rfl rfl rfl) rfl (Z0 (Z29 rfl (List.Mem.tail _ (List.Mem.tail _ Zh)) rfl rfl rfl (Rdr.C_err _)) rfl (Z0 (RV.neq_f rfl rfl he4) rfl (Z6 (Z1 (Z154 rfl ?_)))))))
     (refine CW.skip ?_; refine Z1 ?_; refine Z4 ?_)
     refine Z2 (Z0 (Z22 rfl (List.Mem.tail _ Zh) rfl rfl rfl rfl (RcptC.C_length _)) rfl (Z28 (Z103 rfl rfl rfl (RcptC.C_one _ rfl) rfl (RcptC.C_length _) (RcptC.C_length _)) (Z0 (Z5 rfl) rfl (Z6 ?_))))
     (refine Z1 ?_; refine CW.ret ?_)
     refine Z104 (rs := [.cell 2 30, .tmp 3]) [.agg ({ { { o with used := u } with bloom := bl } with logs := sl ob 0 gs.length cg } : RcptC).C.toArray, .int .i64 0] ((ob, blk (lgC gs ++ rg) 63) :: (lgs 24 5 gs ++ BK)) rfl ?_ rfl ⟨gs, ob, cg, rg, BK, gok, og, gval, by omega, by dsimp only; omega, rfl, rfl⟩ (fun w m => ?_) _ (.inl rfl)
     ·exact ⟨⟨_, _, _, _, rfl, List.Mem.head _, rfl, rfl, congrArg some (RcptC.C_length _).symm, rfl⟩, rfl, trivial⟩
     ·have m2 := m.tail.tail.tail
      simpa only [List.append_assoc, List.cons_append] using m2
   ·rw [if_neg he4] at hf
    obtain ⟨rfl, rfl⟩ := Prod.mk.inj (Zi hf)
    refine Z138 11 mixed (by kernel_rfl) rfl (Z18 0 rfl (by kernel_rfl) rfl (Z30 rfl rfl rfl rfl) rfl (Z18 1 rfl (by kernel_rfl) rfl (Z29 rfl (List.Mem.tail _ Zh) rfl rfl rfl (Rdr.C_err _)) rfl (Z18 2 rfl (by kernel_rfl) rfl (RV.eql_f rfl rfl he4) rfl (Z18 3 rfl (by kernel_rfl) rfl (Z3 rfl) rfl (UW.skip 4 rfl (by kernel_rfl) rfl rfl (UW.skip 5 rfl (by kernel_rfl) rfl rfl (UW.skip 6 rfl (by kernel_rfl) rfl rfl ?_)))))))
    refine UW.skip 7 rfl (by kernel_rfl) rfl rfl (UW.skip 8 rfl (by kernel_rfl) rfl rfl (UW.skip 9 rfl (by kernel_rfl) rfl rfl (Z18 10 rfl (by kernel_rfl) rfl (Z106 rfl rfl rfl) rfl (UW.nil (by kernel_rfl) (Z6 (Z1 (Z154 rfl ?_)))))))
    (refine CW.skip ?_; refine Z1 ?_; refine Z4 ?_; refine Z4 ?_)
    refine CW.mem (M' := (some b9, blk r4.C 109) :: (some b2, blk RcptZ.C 30) :: N) (fun w m => (m.pick [1, 3] 4 rfl rfl).sublist (List.Sublist.cons_cons _ (List.Sublist.cons_cons _ ((List.sublist_append_right _ _).trans (List.sublist_append_right _ _))))) (Z2 (Z0 (Z30 rfl rfl rfl rfl) rfl ?_))
    refine Z0 (Z29 rfl (by exact List.Mem.head _; done) rfl rfl rfl rfl) rfl ?_
    refine Z0 (RV.neq_t rfl rfl he4) rfl (Z6 (Z1 (CW.cond_t rfl (Z4 (Z137 ((some b9, blk r4.C 109) :: N) [3] (fun w m => m.pick [0] 2 rfl rfl) mixed (by kernel_rfl) (Z10 0 rfl (by kernel_rfl) rfl (Z107 (l := RcptZ.C) (cs := RcptZ.C) [] rfl rfl rfl (by kernel_rfl) rfl rfl rfl) rfl (Z10 1 rfl (by kernel_rfl) rfl (Z30 rfl rfl rfl rfl) rfl (Z10 2 rfl (by kernel_rfl) rfl (Z29 rfl Zh rfl rfl rfl (Rdr.C_err _)) rfl ?_))))))))
    refine Z19 (M' := (some b2, blk RcptZ.C 30) :: (some b9, blk r4.C 109) :: N) (fun w m => m.rot1) (fun w m => m.tail) (XW.sv 3 rfl (by kernel_rfl) (Z103 rfl rfl rfl (RcptC.C_one _ rfl) rfl (RcptC.C_length _) (RcptC.C_length _)) (fun w m => m.tail) (Z10 4 rfl (by kernel_rfl) rfl (Z5 rfl) rfl (XW.nil (by kernel_rfl) ?_)))
    (refine Z1 ?_; refine CW.ret ?_; refine Z8 ?_)
    refine Z104 (rs := [.cell 2 30, .tmp 3]) [.agg RcptZ.C.toArray, .int .i64 r4.err] ((none, blk [] 63) :: []) rfl ?_ rfl (DecO.zero (by have := hbd4.1; have := hbd4.2; omega) _) (fun w m => m.tail.tail.nil_ent _) _ (.inl rfl)
    exact ⟨⟨_, _, _, _, rfl, List.Mem.head _, rfl, rfl, congrArg some (RcptC.C_length _).symm, rfl⟩, rfl, trivial⟩
  ·rw [if_neg hc] at hf
   obtain ⟨rfl, rfl⟩ := Prod.mk.inj (Zi hf)
   by_cases he : e2 = 0
   ·skip
    refine Z2 (Z0 (Z3 rfl) rfl (Z0 (RV.neq_f rfl rfl (by omega)) rfl (Z0 (Z3 rfl) rfl ?_)))
    refine Z24 rfl ?_; refine Z0 (Z3 rfl) rfl ?_
    refine Z24 rfl ?_; refine Z0 (RV.len rfl rfl) rfl ?_
    refine Z24 rfl ?_; refine Z0 (RV.neq_t rfl rfl (by omega)) rfl ?_
    refine Z0 (Z106 rfl rfl rfl) rfl (Z6 (Z1 (CW.cond_t rfl (CW.mem (M' := (some b2, blk RcptZ.C 30) :: N) (fun w m => (m.drop 1).sublist (List.Sublist.cons_cons _ (List.sublist_append_right _ _))) (Z4 (Z2 (Z0 (Z107 (l := RcptZ.C) (cs := RcptZ.C) [] rfl rfl rfl (by kernel_rfl) rfl rfl rfl) rfl (Z28 (Z103 rfl rfl rfl (RcptC.C_one _ rfl) rfl (RcptC.C_length _) (RcptC.C_length _)) (Z0 (Z5 rfl) rfl ?_)))))))))
    refine Z6 ?_
    (refine Z1 ?_; refine CW.ret ?_; refine Z8 ?_)
    refine Z104 (rs := [.cell 2 30, .tmp 3]) [.agg RcptZ.C.toArray, .int .i64 171] ((none, blk [] 63) :: []) rfl ?_ rfl (DecO.zero (by omega) _) (fun w m => m.tail.nil_ent _) _ (.inl rfl)
    exact ⟨⟨_, _, _, _, rfl, List.Mem.head _, rfl, rfl, congrArg some (RcptC.C_length _).symm, rfl⟩, rfl, trivial⟩
   ·skip
    refine Z2 (Z0 (Z3 rfl) rfl (Z0 (RV.neq_t rfl rfl (by omega)) rfl (Z0 (Z3 rfl) rfl (Z23 rfl rfl rfl (Z23 rfl rfl rfl (Z23 rfl rfl rfl (Z0 (Z108 rfl rfl rfl) rfl ?_)))))))
    refine Z6 (Z1 (CW.cond_t rfl (CW.mem (M' := (some b2, blk RcptZ.C 30) :: N) (fun w m => (m.drop 1).sublist (List.Sublist.cons_cons _ (List.sublist_append_right _ _))) (Z4 (Z2 (Z0 (Z107 (l := RcptZ.C) (cs := RcptZ.C) [] rfl rfl rfl (by kernel_rfl) rfl rfl rfl) rfl (Z28 (Z103 rfl rfl rfl (RcptC.C_one _ rfl) rfl (RcptC.C_length _) (RcptC.C_length _)) (Z0 (Z5 rfl) rfl (Z6 ?_)))))))))
    (refine Z1 ?_; refine CW.ret ?_; refine Z8 ?_)
    refine Z104 (rs := [.cell 2 30, .tmp 3]) [.agg RcptZ.C.toArray, .int .i64 171] ((none, blk [] 63) :: []) rfl ?_ rfl (DecO.zero (by omega) _) (fun w m => m.tail.nil_ent _) _ (.inl rfl)
    exact ⟨⟨_, _, _, _, rfl, List.Mem.head _, rfl, rfl, congrArg some (RcptC.C_length _).symm, rfl⟩, rfl, trivial⟩
 ·have hbm := b.isLt
  by_cases h192 : 192 ≤ b.toNat
  ·(refine CW.block ?_; refine Z4 ?_)
   refine Z2 (Z0 (Z3 rfl) rfl ?_)
   refine Z0 (RV.geq rfl rfl) rfl ?_; refine Z7 (.bool true) (congrArg Value.bool (decide_eq_true (by omega))) ?_
   refine Z0 (Z5 rfl) rfl (Z6 (Z1 (CW.cond_t rfl ?_)))
   (refine CW.skip ?_; refine Z27 ?_)
   refine QW.join ⟨0, data, A, c, by unfold dkind; rw [if_pos h192], va, by omega, rfl, rfl⟩ ⟨rfl, rfl, rfl, trivial⟩ (fun w m => m)
  ·(refine CW.block ?_; refine Z4 ?_)
   refine Z2 (Z0 (Z3 rfl) rfl ?_)
   refine Z0 (RV.geq rfl rfl) rfl ?_; refine Z7 (.bool false) (congrArg Value.bool (decide_eq_false (by omega))) ?_
   refine Z0 (Z5 rfl) rfl (Z6 (Z1 (Z154 rfl (Z4 ?_))))
   by_cases h1 : 1 ≤ b.toNat
   ·by_cases h4 : b.toNat ≤ 4
    ·skip
     refine Z2 (Z0 (Z3 rfl) rfl ?_)
     refine Z0 (RV.geq rfl rfl) rfl ?_; refine Z7 (.bool true) (congrArg Value.bool (decide_eq_true (by omega))) ?_
     refine Z0 (Z3 rfl) rfl ?_
     refine Z24 rfl ?_; refine Z0 (Z3 rfl) rfl ?_
     refine Z24 rfl ?_; refine Z0 (RV.leq rfl rfl) rfl ?_; refine Z7 (.bool true) (congrArg Value.bool (decide_eq_true (by omega))) ?_
     refine Z0 (Z108 rfl rfl rfl) rfl (Z0 (Z5 rfl) rfl (Z6 (Z1 (CW.cond_t rfl (Z4 (Z2 (Z0 (Z3 rfl) rfl (Z0 (Z167 rfl rfl rfl rfl) rfl (Z0 (Z30 rfl rfl rfl rfl) rfl ?_)))))))))
     refine Z28 (SV.store rfl rfl rfl rfl rfl (by rw [RcptC.C_length]; exact Nat.le_of_ble_eq_true rfl)) ?_; refine OW.cells ({ RcptZ with kind := (b.toNat : Int) } : RcptC).C (RcptC.C_kind_set _ (b.toNat : Int)) ?_
     refine Z6 (Z1 (Z2 (Z0 (Z3 rfl) rfl ?_)))
     refine Z0 (RV.cut_lo (s := 1) (1) rfl rfl (by omega) rfl rfl (by omega)) rfl ?_; refine Z7 (.slice (subA A c 1 1) (data.drop 1).length (c - 1)) (by rw [List.length_drop]) ?_
     refine Z0 (Z5 rfl) rfl (Z6 (Z27 ?_))
     refine QW.join ⟨(b.toNat : Int), data.drop 1, subA A c 1 1, c - 1, by unfold dkind; rw [if_neg h192, if_pos ⟨h1, h4⟩], va.lo8 (by omega), by omega, rfl, rfl⟩ ⟨rfl, rfl, rfl, trivial⟩ (fun w m => m)
    ·have hk0 : dkind data b = none := by unfold dkind; rw [if_neg h192, if_neg (fun h => h4 h.2)]
     rw [hk0] at hf
     obtain ⟨rfl, rfl⟩ := Prod.mk.inj (Zi hf)
     refine Z2 (Z0 (Z3 rfl) rfl ?_)
     refine Z0 (RV.geq rfl rfl) rfl ?_; refine Z7 (.bool true) (congrArg Value.bool (decide_eq_true (by omega))) ?_
     refine Z0 (Z3 rfl) rfl ?_
     refine Z24 rfl ?_; refine Z0 (Z3 rfl) rfl ?_
     refine Z24 rfl ?_; refine Z0 (RV.leq rfl rfl) rfl ?_; refine Z7 (.bool false) (congrArg Value.bool (decide_eq_false (by omega))) ?_
     refine Z0 (Z108 rfl rfl rfl) rfl (Z0 (Z5 rfl) rfl (Z6 (Z1 (Z154 rfl (CW.mem (M' := (some b2, blk RcptZ.C 30) :: N) (fun w m => m.drop 1) (Z4 (Z2 (Z0 (Z107 (l := RcptZ.C) (cs := RcptZ.C) [] rfl rfl rfl (by kernel_rfl) rfl rfl rfl) rfl (Z28 (Z103 rfl rfl rfl (RcptC.C_one _ rfl) rfl (RcptC.C_length _) (RcptC.C_length _)) ?_)))))))))
     refine Z0 (Z5 rfl) rfl (Z6 ?_)
     (refine Z1 ?_; refine CW.ret ?_; refine Z16 ?_; refine Z8 ?_; refine Z8 ?_)
     refine Z104 (rs := [.cell 2 30, .tmp 3]) [.agg RcptZ.C.toArray, .int .i64 170] ((none, blk [] 63) :: []) rfl ?_ rfl (DecO.zero (by omega) _) (fun w m => m.tail.nil_ent _) _ (.inl rfl)
     exact ⟨⟨_, _, _, _, rfl, List.Mem.head _, rfl, rfl, congrArg some (RcptC.C_length _).symm, rfl⟩, rfl, trivial⟩
   ·have hk0 : dkind data b = none := by unfold dkind; rw [if_neg h192, if_neg (fun h => h1 h.1)]
    rw [hk0] at hf
    obtain ⟨rfl, rfl⟩ := Prod.mk.inj (Zi hf)
    refine Z2 (Z0 (Z3 rfl) rfl ?_)
    refine Z0 (RV.geq rfl rfl) rfl ?_; refine Z7 (.bool false) (congrArg Value.bool (decide_eq_false (by omega))) ?_
    refine Z0 (Z3 rfl) rfl (Z23 rfl rfl rfl (Z23 rfl rfl rfl (Z0 (Z106 rfl rfl rfl) rfl (Z0 (Z5 rfl) rfl (Z6 (Z1 (Z154 rfl (CW.mem (M' := (some b2, blk RcptZ.C 30) :: N) (fun w m => m.drop 1) ?_))))))))
    refine Z4 (Z2 (Z0 (Z107 (l := RcptZ.C) (cs := RcptZ.C) [] rfl rfl rfl (by kernel_rfl) rfl rfl rfl) rfl (Z28 (Z103 rfl rfl rfl (RcptC.C_one _ rfl) rfl (RcptC.C_length _) (RcptC.C_length _)) (Z0 (Z5 rfl) rfl (Z6 ?_)))))
    (refine Z1 ?_; refine CW.ret ?_; refine Z16 ?_; refine Z8 ?_; refine Z8 ?_)
    refine Z104 (rs := [.cell 2 30, .tmp 3]) [.agg RcptZ.C.toArray, .int .i64 170] ((none, blk [] 63) :: []) rfl ?_ rfl (DecO.zero (by omega) _) (fun w m => m.tail.nil_ent _) _ (.inl rfl)
    exact ⟨⟨_, _, _, _, rfl, List.Mem.head _, rfl, rfl, congrArg some (RcptC.C_length _).symm, rfl⟩, rfl, trivial⟩
theorem waybilllaw17_stand_does (w0 : World) (Φ : Ctx) (N : List Ent) (hΦ : ∀ w, Mem w0 w N → Φ w) (A0_ : Option Addr) (c0_ : Nat) (cs0_ : List Value) (a0 : List (Log)) (a1 : BitVec 8) (res0 : Bool) (va0 : View Φ A0_ a0.length c0_ 22 cs0_) (ha0 : Reps (LogRd Φ) cs0_ a0) (hf : waybilllaw17_stand a0 a1 = some res0) : DoesG Tryd.prog 56 [.slice A0_ a0.length c0_, U8 a1] w0 [] N (fun v G => v = .bool res0) := by
 unfold waybilllaw17_stand at hf
 replace va0 := va0.mono (Ψ := More w0 Φ []) (fun w q => q.1)
 replace ha0 := ha0.mono (LogRd.mono (Ψ := More w0 Φ []) (fun w q => q.1))
 have m1 := va0.mx
 refine DoesG.enter Tryd.func56 rfl Tryd.ntmps56 rfl (M := (([] ++ N))) rfl (Z4 (Z2 (Z0 (Z5 rfl) rfl (Z6 (Z1 (Z4 (Z4 (Z2 (Z0 (Z5 rfl) rfl (Z6 (Z1 ?_)))))))))))
 obtain ⟨q2, hq3, hf⟩ := Z100 hf
 refine Z115 (fun L' M' => q2 = Lp.go () ∧ L' = [] ∧ M' = (([] ++ N))) ?_ ?_
 ·rintro L5 M6 ⟨e4, e7, e8⟩
  rw [e7, e8]
  clear e7 e8 L5 M6
  clear hq3
  rw [e4] at hf
  clear e4
  try dsimp only at hf
  refine Z1 (Z4 (Z2 (Z0 (Z5 rfl) rfl (Z6 (Z1 (CW.ret ?_))))))
  have e0 := Zi hf
  subst e0
  refine Z104 (rs := [.tmp 4]) ([.bool true]) ([]) rfl ?_ rfl ?_ ?_ _ (.inl rfl)
  ·exact ⟨rfl, trivial⟩
  ·exact rfl
  ·exact (fun w m => m)
 ·skip
  refine CW.block (Z121 (fun k L' M' => ∃ n9 : Nat, (waybilllaw17_stand.l1 a0 a1 k n9) = some q2 ∧ (n9 ≤ 9223372036854775807) ∧ L' = [(0, .slice A0_ a0.length c0_), (1, U8 a1), (5, .int .i64 ((n9 : Nat) : Int))] ∧ M' = (([] ++ N))) (k0 := (a0.length - 0 + 2)) ⟨0, hq3, (by omega), rfl, rfl⟩ ⟨rfl, rfl, rfl, trivial⟩ (fun w m => m.pick [] 0 rfl rfl) ?_)
  clear hq3
  rintro k11 L14 M15 ⟨n9, hl12, b10, e16, e17⟩
  rw [e16, e17]
  clear e16 e17 L14 M15
  rcases k11 with _ | k11
  ·rw [waybilllaw17_stand.l1] at hl12; cases hl12
  rw [waybilllaw17_stand.l1] at hl12
  refine Z4 (Z4 (Z2 (Z0 (Z3 rfl) rfl (Z0 (Z3 rfl) rfl (Z0 (RV.len rfl rfl) rfl (Z0 (RV.lss rfl rfl) rfl (Z7 (.bool (decide (n9 < a0.length))) (congrArg Value.bool (decide_eq_decide.2 (by omega))) (Z6 (Z1 ?_)))))))))
  by_cases h18 : n9 < a0.length
  ·replace hl12 := if_t hl12 h18
   refine Z13 rfl (decide_eq_true h18) (CW.skip (Z1 (Z4 (CW.block (Z4 (Z4 (Z2 (Z0 (Z5 rfl) rfl (Z6 (Z1 ?_))))))))))
   obtain ⟨q19, hq20, hl12⟩ := Z100 hl12
   refine Z115 (fun L' M' => q19 = Lp.go () ∧ L' = [(0, .slice A0_ a0.length c0_), (1, U8 a1), (5, .int .i64 ((n9 : Nat) : Int))] ∧ M' = (([] ++ N))) ?_ ?_
   ·rintro L22 M23 ⟨e21, e24, e25⟩
    rw [e24, e25]
    clear e24 e25 L22 M23
    clear hq20
    rw [e21] at hl12
    clear e21
    try dsimp only at hl12
    refine Z1 (Z4 (Z2 (Z0 (Z5 rfl) rfl (Z6 (Z1 ?_)))))
    obtain ⟨q26, hq27, hl12⟩ := Z100 hl12
    refine Z115 (fun L' M' => q26 = Lp.go () ∧ L' = [(0, .slice A0_ a0.length c0_), (1, U8 a1), (5, .int .i64 ((n9 : Nat) : Int))] ∧ M' = (([] ++ N))) ?_ ?_
    ·rintro L29 M30 ⟨e28, e31, e32⟩
     rw [e31, e32]
     clear e31 e32 L29 M30
     clear hq27
     rw [e28] at hl12
     clear e28
     try dsimp only at hl12
     refine Z27 (Z1 (Z2 (Z0 (Z3 rfl) rfl (Z0 (RV.add rfl rfl (by omega)) rfl (Z7 (.int .i64 (((n9 + 1) : Nat) : Int)) (by first | rfl | (congr 1) | (congr 1; omega)) (Z0 (Z5 rfl) rfl (Z6 ?_)))))))
     exact Z114 (k' := k11) (Nat.lt_succ_self _) ⟨(n9 + 1), hl12, (by omega), rfl, rfl⟩ ⟨rfl, rfl, rfl, trivial⟩ (fun w m => m.pick [] 0 rfl rfl)
    ·skip
     refine CW.block (Z121 (fun k L' M' => ∃ n33 : Nat, (waybilllaw17_stand.l2 a0 a1 n9 k n33) = some q26 ∧ (n33 ≤ 9223372036854775807) ∧ L' = [(0, .slice A0_ a0.length c0_), (1, U8 a1), (5, .int .i64 ((n9 : Nat) : Int)), (7, .int .i64 ((n33 : Nat) : Int))] ∧ M' = (([] ++ N))) (k0 := (((a0[n9]?)).elim 2 fun x37 => (x37.data.length - 0 + 2))) ⟨0, hq27, (by omega), rfl, rfl⟩ ⟨rfl, rfl, rfl, rfl, trivial⟩ (fun w m => m.pick [] 0 rfl rfl) ?_)
     clear hq27
     rintro k35 L38 M39 ⟨n33, hl36, b34, e40, e41⟩
     rw [e40, e41]
     clear e40 e41 L38 M39
     rcases k35 with _ | k35
     ·rw [waybilllaw17_stand.l2] at hl36; cases hl36
     rw [waybilllaw17_stand.l2] at hl36
     refine Z4 (Z4 (Z2 (Z0 (Z3 rfl) rfl (Z0 (Z3 rfl) rfl (Z0 (Z3 rfl) rfl ?_)))))
     obtain ⟨x42, hx43, hl36⟩ := Z100 hl36
     have hl44 := Z111 hx43
     refine Z0 (Z117 (n9) rfl rfl rfl rfl rfl (va0.isSome (by decide) hl44) (by omega)) rfl ?_
     obtain ⟨cs45, h46, h47⟩ := ha0.get LogRd.len hx43
     have h57 := h46
     obtain ⟨A48, c49, cs51, A53, c54, e56, v50, h52, v55⟩ := LogRd.opn h46
     subst e56
     have m58 := v50.mx
     have m59 := v55.mx
     refine Z0 (Z31 rfl rfl rfl rfl) rfl (Z0 (Z21 rfl rfl rfl (fun w m => va0.load_fld (Z105 hΦ 0 m rfl) h47 (LogC.C_data (⟨x42.address, .slice A48 x42.topics.length c49, .slice A53 x42.data.length c54⟩ : LogC)))) rfl (Z0 (RV.len rfl rfl) rfl (Z0 (RV.lss rfl rfl) rfl (Z7 (.bool (decide (n33 < x42.data.length))) (congrArg Value.bool (decide_eq_decide.2 (by omega))) (Z6 (Z1 ?_))))))
     by_cases h60 : n33 < x42.data.length
     ·replace hl36 := if_t hl36 h60
      refine Z13 rfl (decide_eq_true h60) (CW.skip (Z1 (Z4 (CW.block (Z4 (Z2 (Z0 (Z3 rfl) rfl (Z0 (Z3 rfl) rfl ?_))))))))
      obtain ⟨x61, hx62, hl36⟩ := Z100 hl36
      have hl63 := Z111 hx62
      refine Z0 (Z117 (n9) rfl rfl rfl rfl rfl (va0.isSome (by decide) hl63) (by omega)) rfl ?_
      obtain ⟨cs64, h65, h66⟩ := ha0.get LogRd.len hx62
      have h76 := h65
      obtain ⟨A67, c68, cs70, A72, c73, e75, v69, h71, v74⟩ := LogRd.opn h65
      subst e75
      have m77 := v69.mx
      have m78 := v74.mx
      refine Z0 (Z31 rfl rfl rfl rfl) rfl (Z0 (Z21 rfl rfl rfl (fun w m => va0.load_fld (Z105 hΦ 0 m rfl) h66 (LogC.C_data (⟨x61.address, .slice A67 x61.topics.length c68, .slice A72 x61.data.length c73⟩ : LogC)))) rfl (Z0 (Z3 rfl) rfl ?_))
      obtain ⟨x79, hx80, hl36⟩ := Z100 hl36
      have hl81 := Z111 hx80
      refine Z0 (Z131 (n33) rfl rfl rfl rfl rfl (v74.isSome (by decide) hl81) (by omega)) rfl (Z0 (Z21 rfl rfl rfl (fun w m => v74.cell (Z105 hΦ 0 m rfl) (Z148 hx80))) rfl (Z0 (Z3 rfl) rfl (Z0 (Z3 rfl) rfl (Z0 (RV.rem rfl rfl (by omega) (by omega)) rfl (Z7 (.int .i64 ((n9 % 8 : Nat) : Int)) (by first | rfl | (congr 1; omega)) (Z0 (RV.conv_i8 rfl rfl rfl) rfl (Z7 (U8 (BitVec.ofNat 8 (n9 % 8))) (congrArg U8 (BitVec.ofInt_natCast ..)) ?_)))))))
      refine Z0 (RV.add8 rfl (by first | rfl | exact lit8 _ rfl) rfl (by first | rfl | exact lit8 _ rfl)) rfl (Z0 (RV.neq8 rfl (by first | rfl | exact lit8 _ rfl) rfl (by first | rfl | exact lit8 _ rfl)) rfl (Z6 (Z1 ?_)))
      by_cases h82 : x79 = (a1 + (BitVec.ofNat 8 (n9 % 8)))
      ·replace hl36 := if_t hl36 h82
       refine Z14 rfl (congrArg (fun b => !b) (decide_eq_true h82)) (CW.skip (Z27 (Z1 (Z2 (Z0 (Z3 rfl) rfl (Z0 (RV.add rfl rfl (by omega)) rfl (Z7 (.int .i64 (((n33 + 1) : Nat) : Int)) (by first | rfl | (congr 1) | (congr 1; omega)) (Z0 (Z5 rfl) rfl (Z6 ?_)))))))))
       exact Z114 (k' := k35) (Nat.lt_succ_self _) ⟨(n33 + 1), hl36, (by omega), rfl, rfl⟩ ⟨rfl, rfl, rfl, rfl, trivial⟩ (fun w m => m.pick [] 0 rfl rfl)
      ·replace hl36 := if_f hl36 h82
       refine Z13 rfl (congrArg (fun b => !b) (decide_eq_false h82)) (Z4 (Z2 (Z0 (Z5 rfl) rfl (Z6 (Z1 (CW.ret (Z16 (Z8 (Z8 (Z16 (Z8 ?_)))))))))))
       have hc := Zi hl36
       subst hc
       try dsimp only at hl12
       refine Z16 (Z8 (Z8 (Z16 (Z8 ?_))))
       have hc := Zi hl12
       subst hc
       try dsimp only at hf
       refine Z8 ?_
       have e0 := Zi hf
       subst e0
       refine Z104 (rs := [.tmp 4]) ([.bool false]) ([]) rfl ?_ rfl ?_ ?_ _ (.inl rfl)
       ·exact ⟨rfl, trivial⟩
       ·exact rfl
       ·exact (fun w m => m)
     ·replace hl36 := if_f hl36 h60
      refine Z14 rfl (decide_eq_false h60) (CW.exit (Z9 (Z9 (Z15 ?_))))
      exact QW.join ⟨(Zi hl36).symm, rfl, rfl⟩ ⟨rfl, rfl, rfl, trivial⟩ (fun w m => m.pick [] 0 rfl rfl)
   ·skip
    refine CW.block (Z121 (fun k L' M' => ∃ n83 : Nat, (waybilllaw17_stand.l3 a0 a1 n9 k n83) = some q19 ∧ (n83 ≤ 9223372036854775807) ∧ L' = [(0, .slice A0_ a0.length c0_), (1, U8 a1), (5, .int .i64 ((n9 : Nat) : Int)), (6, .int .i64 ((n83 : Nat) : Int))] ∧ M' = (([] ++ N))) (k0 := (((a0[n9]?)).elim 2 fun x87 => (x87.topics.length - 0 + 2))) ⟨0, hq20, (by omega), rfl, rfl⟩ ⟨rfl, rfl, rfl, rfl, trivial⟩ (fun w m => m.pick [] 0 rfl rfl) ?_)
    clear hq20
    rintro k85 L88 M89 ⟨n83, hl86, b84, e90, e91⟩
    rw [e90, e91]
    clear e90 e91 L88 M89
    rcases k85 with _ | k85
    ·rw [waybilllaw17_stand.l3] at hl86; cases hl86
    rw [waybilllaw17_stand.l3] at hl86
    refine Z4 (Z4 (Z2 (Z0 (Z3 rfl) rfl (Z0 (Z3 rfl) rfl (Z0 (Z3 rfl) rfl ?_)))))
    obtain ⟨x92, hx93, hl86⟩ := Z100 hl86
    have hl94 := Z111 hx93
    refine Z0 (Z117 (n9) rfl rfl rfl rfl rfl (va0.isSome (by decide) hl94) (by omega)) rfl ?_
    obtain ⟨cs95, h96, h97⟩ := ha0.get LogRd.len hx93
    have h107 := h96
    obtain ⟨A98, c99, cs101, A103, c104, e106, v100, h102, v105⟩ := LogRd.opn h96
    subst e106
    have m108 := v100.mx
    have m109 := v105.mx
    refine Z0 (Z31 rfl rfl rfl rfl) rfl (Z0 (Z21 rfl rfl rfl (fun w m => va0.load_fld (Z105 hΦ 0 m rfl) h97 (Z122 (⟨x92.address, .slice A98 x92.topics.length c99, .slice A103 x92.data.length c104⟩ : LogC)))) rfl (Z0 (RV.len rfl rfl) rfl (Z0 (RV.lss rfl rfl) rfl (Z7 (.bool (decide (n83 < x92.topics.length))) (congrArg Value.bool (decide_eq_decide.2 (by omega))) (Z6 (Z1 ?_))))))
    by_cases h110 : n83 < x92.topics.length
    ·replace hl86 := if_t hl86 h110
     refine Z13 rfl (decide_eq_true h110) (CW.skip (Z1 (Z4 (CW.block (Z4 (Z2 (Z0 (Z3 rfl) rfl (Z0 (Z3 rfl) rfl ?_))))))))
     obtain ⟨x111, hx112, hl86⟩ := Z100 hl86
     have hl113 := Z111 hx112
     refine Z0 (Z117 (n9) rfl rfl rfl rfl rfl (va0.isSome (by decide) hl113) (by omega)) rfl ?_
     obtain ⟨cs114, h115, h116⟩ := ha0.get LogRd.len hx112
     have h126 := h115
     obtain ⟨A117, c118, cs120, A122, c123, e125, v119, h121, v124⟩ := LogRd.opn h115
     subst e125
     have m127 := v119.mx
     have m128 := v124.mx
     refine Z0 (Z31 rfl rfl rfl rfl) rfl (Z0 (Z21 rfl rfl rfl (fun w m => va0.load_fld (Z105 hΦ 0 m rfl) h116 (Z122 (⟨x111.address, .slice A117 x111.topics.length c118, .slice A122 x111.data.length c123⟩ : LogC)))) rfl (Z0 (Z3 rfl) rfl ?_))
     obtain ⟨x129, hx130, hl86⟩ := Z100 hl86
     have hl131 := Z111 hx130
     refine Z0 (Z117 (n83) rfl rfl rfl rfl rfl (v119.isSome (by decide) hl131) (by omega)) rfl ?_
     obtain ⟨cs132, h133, h134⟩ := h121.get Ar8Rd.len hx130
     have h133a := h133
     subst h133a
     refine Z0 (Z124 rfl rfl rfl rfl (fun w m => v119.load (Z105 hΦ 0 m rfl) h134) ((Z102 _).trans Zv)) rfl (Z0 (Z3 rfl) rfl (Z0 (Z3 rfl) rfl (Z0 (RV.conv_i8 rfl rfl rfl) rfl (Z7 (U8 (BitVec.ofNat 8 n9)) (congrArg U8 (BitVec.ofInt_natCast ..)) (Z0 (Z3 rfl) rfl (Z0 (RV.quo rfl rfl (by omega) (by omega) (by omega)) rfl (Z7 (.int .i64 ((n9 / 256 : Nat) : Int)) (by first | rfl | (congr 1; omega)) ?_)))))))
     refine Z0 (RV.conv_i8 rfl rfl rfl) rfl (Z7 (U8 (BitVec.ofNat 8 (n9 / 256))) (congrArg U8 (BitVec.ofInt_natCast ..)) ?_)
     refine Z0 (RV.buildA (l := (u8s (Vector.replicate 32 0#8).toList)) (cs := (u8s ((((Vector.replicate 32 0#8).setIfInBounds 0 a1).setIfInBounds 1 (BitVec.ofNat 8 n9)).setIfInBounds 2 (BitVec.ofNat 8 (n9 / 256))).toList)) rfl rfl rfl (by rw [Vector.toList_replicate, ← Z135]; rfl) rfl rfl (by simp only [setL, List.foldl, ← vset, Vector.toList_replicate, ← Z163] <;> rfl)) rfl ?_
     refine Z0 (RV.neA8 rfl rfl rfl rfl rfl rfl (Zv) (Zv)) rfl (Z7 (.bool (!decide (x129 = ((((Vector.replicate 32 0#8).setIfInBounds 0 a1).setIfInBounds 1 (BitVec.ofNat 8 n9)).setIfInBounds 2 (BitVec.ofNat 8 (n9 / 256)))))) (congrArg (fun b => Value.bool (!b)) (decide_eq_decide.2 Vector.toList_inj)) (Z6 (Z1 ?_)))
     by_cases h135 : x129 = ((((Vector.replicate 32 0#8).setIfInBounds 0 a1).setIfInBounds 1 (BitVec.ofNat 8 n9)).setIfInBounds 2 (BitVec.ofNat 8 (n9 / 256)))
     ·replace hl86 := if_t hl86 h135
      refine Z14 rfl (congrArg (fun b => !b) (decide_eq_true h135)) (CW.skip (Z27 (Z1 (Z2 (Z0 (Z3 rfl) rfl (Z0 (RV.add rfl rfl (by omega)) rfl (Z7 (.int .i64 (((n83 + 1) : Nat) : Int)) (by first | rfl | (congr 1) | (congr 1; omega)) (Z0 (Z5 rfl) rfl (Z6 ?_)))))))))
      exact Z114 (k' := k85) (Nat.lt_succ_self _) ⟨(n83 + 1), hl86, (by omega), rfl, rfl⟩ ⟨rfl, rfl, rfl, rfl, trivial⟩ (fun w m => m.pick [] 0 rfl rfl)
     ·replace hl86 := if_f hl86 h135
      refine Z13 rfl (congrArg (fun b => !b) (decide_eq_false h135)) (Z4 (Z2 (Z0 (Z5 rfl) rfl (Z6 (Z1 (CW.ret (Z16 (Z8 (Z8 (Z16 (Z8 ?_)))))))))))
      have hc := Zi hl86
      subst hc
      try dsimp only at hl12
      refine Z8 (Z16 (Z8 (Z8 (Z16 (Z8 ?_)))))
      have hc := Zi hl12
      subst hc
      try dsimp only at hf
      refine Z8 ?_
      have e0 := Zi hf
      subst e0
      refine Z104 (rs := [.tmp 4]) ([.bool false]) ([]) rfl ?_ rfl ?_ ?_ _ (.inl rfl)
      ·exact ⟨rfl, trivial⟩
      ·exact rfl
      ·exact (fun w m => m)
    ·replace hl86 := if_f hl86 h110
     refine Z14 rfl (decide_eq_false h110) (CW.exit (Z9 (Z9 (Z15 ?_))))
     exact QW.join ⟨(Zi hl86).symm, rfl, rfl⟩ ⟨rfl, rfl, rfl, trivial⟩ (fun w m => m.pick [] 0 rfl rfl)
  ·replace hl12 := if_f hl12 h18
   refine Z14 rfl (decide_eq_false h18) (CW.exit (Z9 (Z9 (Z15 ?_))))
   exact QW.join ⟨(Zi hl12).symm, rfl, rfl⟩ trivial (fun w m => m.pick [] 0 rfl rfl)
theorem Z158 (w0 : World) (N : List Ent) (ob : Option Nat) (c : Nat) (r : List Value) (gs : List Lg) (mark : BitVec 8) (hok : ∀ g ∈ gs, g.Ok) (ho : OwnS ob gs.length c 22 (lgC gs) r) :
  DoesG Tryd.prog 54 [sl ob 0 gs.length c, U8 mark] w0 ((ob, blk (lgC gs ++ r) 63) :: lgs 24 5 gs) N (fun v G => ∃ hs : List Lg, SameG gs hs ∧ Wrt mark hs.length hs ∧ hs.map (fun g => (g.t.length, g.d.length)) = gs.map (fun g => (g.t.length, g.d.length)) ∧ v = .tuple #[] ∧ G = (ob, blk (lgC hs ++ r) 63) :: lgs 24 5 hs) := by
 have hm := ho.mx
 refine DoesG.enter Tryd.func54 rfl Tryd.ntmps54 rfl (M := (ob, blk (lgC gs ++ r) 63) :: (lgs 24 5 gs ++ N)) rfl (Z4 (Z2 (Z0 (Z5 rfl) rfl (Z6 ?_))))
 (refine Z1 ?_; refine CW.block ?_)
 refine Z121 (fun k L' M' => ∃ (i : Nat) (hs : List Lg), k = gs.length - i ∧ i ≤ gs.length ∧ SameG gs hs ∧ Wrt mark i hs ∧ hs.map (fun g => (g.t.length, g.d.length)) = gs.map (fun g => (g.t.length, g.d.length)) ∧ L' = [(0, sl ob 0 gs.length c), (1, U8 mark), (4, .int .i64 (i : Int))] ∧
  M' = (ob, blk (lgC gs ++ r) 63) :: (lgs 24 5 hs ++ N)) (k0 := gs.length) ⟨0, gs, rfl, by omega, ⟨rfl, rfl, hok⟩, (fun k g _ h => by omega), rfl, rfl, rfl⟩ ⟨rfl, rfl, rfl, trivial⟩ (fun w m => m) ?_
 rintro k L' M' ⟨i, hs, rfl, hi, hS, hW, hln, rfl, rfl⟩
 (refine Z4 ?_; refine Z4 ?_)
 refine Z2 (Z0 (Z3 rfl) rfl (Z0 (Z3 rfl) rfl (Z0 (RV.len rfl rfl) rfl (Z0 (RV.lss rfl rfl) rfl (Z6 (Z1 ?_))))))
 refine Z119 rfl (fun hlt2 => ?_) (fun hlt2 => ?_)
 ·have h1 : i < gs.length := by omega
  have h1h : i < hs.length := by rw [hS.n]; exact h1
  have hx : hs[i]? = some hs[i] := List.getElem?_eq_getElem h1h
  have gok := hS.ok _ (List.getElem_mem h1h)
  generalize hgx : hs[i] = g at hx gok
  have hot := gok.t
  have hod := gok.d
  have hmt := hot.mx
  have hmd := hod.mx
  have hsome : ob.isSome = true := ho.isSome (by decide) h1
  have hcell : ∀ j u, g.cells[j]? = some u → (lgC gs ++ r)[0 + i * 22 + j]? = some u := fun j u hu => by
   have h2 := lgC_at hx j u hu
   rw [hS.c] at h2
   rw [Nat.zero_add, List.getElem?_append_left (List.getElem?_eq_some_iff.1 h2).1]
   exact h2
  have ct : (lgC gs ++ r)[0 + i * 22 + 20]? = some (sl g.tb 0 g.t.length g.tc) := hcell 20 _ (Z122 _)
  have cd : (lgC gs ++ r)[0 + i * 22 + 21]? = some (sl g.db 0 g.d.length g.dc) := hcell 21 _ (LogC.C_data _)
  (refine CW.skip ?_; refine Z1 ?_; refine Z4 ?_; refine CW.block ?_; refine Z4 ?_; refine Z4 ?_)
  refine CW.mem (fun w m => Mem.outG hx m) (Z2 (Z0 (Z5 rfl) rfl (Z6 ?_)))
  (refine Z1 ?_; refine CW.block ?_)
  refine Z121 (fun k L' M' => ∃ (j : Nat) (t : List (Vector (BitVec 8) 32)), k = g.t.length - j ∧ j ≤ g.t.length ∧ t.length = g.t.length ∧ (∀ (q : Nat) x, t[q]? = some x → q < j → x = wh mark i) ∧ L' = [(0, sl ob 0 gs.length c), (1, U8 mark), (4, .int .i64 (i : Int)), (5, .int .i64 (j : Int))] ∧
   M' = (g.tb, blk (hs32 t ++ g.tr) 24) :: (g.db, blk (u8s g.d ++ g.dr) 5) :: (ob, blk (lgC gs ++ r) 63) :: (lgs 24 5 (hs.eraseIdx i) ++ N)) (k0 := g.t.length) ⟨0, g.t, rfl, by omega, rfl, (fun q x _ h => by omega), rfl, rfl⟩ ⟨rfl, rfl, rfl, rfl, trivial⟩ (fun w m => m) ?_
  rintro k L' M' ⟨j, t, rfl, hj, htl, htw, rfl, rfl⟩
  (refine Z4 ?_; refine Z4 ?_)
  refine Z2 (Z0 (Z3 rfl) rfl (Z0 (Z3 rfl) rfl (Z0 (Z3 rfl) rfl (Z0 (Z142 (i) rfl rfl rfl rfl rfl hsome (by omega)) rfl (Z0 (Z30 rfl rfl rfl rfl) rfl (Z0 (Z29 rfl (List.Mem.tail _ (List.Mem.tail _ Zh)) hsome rfl rfl ct) rfl (Z0 (RV.len rfl rfl) rfl ?_)))))))
  refine Z0 (RV.lss rfl rfl) rfl (Z6 (Z1 ?_))
  refine Z119 rfl (fun hjt => ?_) (fun hjt => ?_)
  ·have h2 : j < g.t.length := by omega
   have h3 : j < t.length := by omega
   have hts : g.tb.isSome = true := hot.isSome (by decide) h2
   (refine CW.skip ?_; refine Z1 ?_; refine Z4 ?_; refine CW.block ?_)
   refine Z2 (Z0 (Z3 rfl) rfl (Z0 (Z3 rfl) rfl (Z0 (Z142 (i) rfl rfl rfl rfl rfl hsome (by omega)) rfl (Z0 (Z30 rfl rfl rfl rfl) rfl (Z0 (Z29 rfl (List.Mem.tail _ (List.Mem.tail _ Zh)) hsome rfl rfl ct) rfl (Z0 (Z3 rfl) rfl (Z0 (Z3 rfl) rfl ?_)))))))
   refine Z0 (Z3 rfl) rfl ?_
   refine Z0 (RV.conv_i8 rfl rfl rfl) rfl ?_; refine Z7 (U8 (BitVec.ofNat 8 i)) (congrArg U8 (BitVec.ofInt_natCast ..)) ?_
   refine Z0 (Z3 rfl) rfl ?_
   refine Z0 (RV.quo rfl rfl (by omega) (by omega) (by omega)) rfl ?_; refine Z7 (.int .i64 ((i / 256 : Nat) : Int)) rfl ?_
   refine Z0 (RV.conv_i8 rfl rfl rfl) rfl ?_; refine Z7 (U8 (BitVec.ofNat 8 (i / 256))) (congrArg U8 (BitVec.ofInt_natCast ..)) ?_
   refine Z0 (RV.buildA (l := (u8s (Vector.replicate 32 0#8).toList)) (cs := u8s (wh mark i).toList) rfl rfl rfl (by rw [Vector.toList_replicate, ← Z135]; rfl) rfl rfl (by simp only [wh, setL, List.foldl, ← vset, Vector.toList_replicate, ← Z163] <;> rfl)) rfl ?_
   refine Z0 (Z142 (j) rfl rfl rfl rfl rfl hts (by omega)) rfl ?_
   refine Z28 (SV.storeAs rfl hts rfl (Z129 _) rfl ((Z102 _).trans Zv) (by show 0 + j * 32 + 32 ≤ _; rw [List.length_append, hs32_length]; omega)) ?_; refine OW.cells (hs32 (t.set j (wh mark i)) ++ g.tr) (hs32_set h3 _ _) ?_
   refine Z6 ?_
   (refine Z27 ?_; refine Z1 ?_)
   refine Z2 (Z0 (Z3 rfl) rfl (Z0 (RV.add rfl rfl (by omega)) rfl (Z0 (Z5 rfl) rfl (Z6 ?_))))
   refine Z114 (k' := g.t.length - (j + 1)) (by omega) ⟨j + 1, t.set j (wh mark i), rfl, by omega, by rw [List.length_set]; exact htl, ?_, rfl, rfl⟩ ⟨rfl, rfl, rfl, rfl, trivial⟩ (fun w m => m)
   intro q x hq hqj
   rcases set_at hq with ⟨_, e⟩ | ⟨hne, hq⟩
   ·exact e
   ·exact htw q x hq (by omega)
  ·have hje : j = g.t.length := by omega
   subst hje
   refine CW.mem (M' := (g.db, blk (u8s g.d ++ g.dr) 5) :: (g.tb, blk (hs32 t ++ g.tr) 24) :: (ob, blk (lgC gs ++ r) 63) :: (lgs 24 5 (hs.eraseIdx i) ++ N)) (fun w m => m.pick [1, 0] 2 rfl rfl) ?_
   (refine CW.exit ?_; refine Z9 ?_; refine Z9 ?_; refine Z15 ?_; refine Z1 ?_; refine Z4 ?_)
   refine Z2 (Z0 (Z5 rfl) rfl (Z6 ?_))
   (refine Z1 ?_; refine CW.block ?_)
   refine Z121 (fun k L' M' => ∃ (j : Nat) (b : List (BitVec 8)), k = g.d.length - j ∧ j ≤ g.d.length ∧ b.length = g.d.length ∧ (∀ (q : Nat) x, b[q]? = some x → q < j → x = wd mark i) ∧ L' = [(0, sl ob 0 gs.length c), (1, U8 mark), (4, .int .i64 (i : Int)), (6, .int .i64 (j : Int))] ∧
    M' = (g.db, blk (u8s b ++ g.dr) 5) :: (g.tb, blk (hs32 t ++ g.tr) 24) :: (ob, blk (lgC gs ++ r) 63) :: (lgs 24 5 (hs.eraseIdx i) ++ N)) (k0 := g.d.length) ⟨0, g.d, rfl, by omega, rfl, (fun q x _ h => by omega), rfl, rfl⟩ ⟨rfl, rfl, rfl, rfl, trivial⟩ (fun w m => m) ?_
   rintro k L' M' ⟨j, b, rfl, hj, hbl, hbw, rfl, rfl⟩
   (refine Z4 ?_; refine Z4 ?_)
   refine Z2 (Z0 (Z3 rfl) rfl (Z0 (Z3 rfl) rfl (Z0 (Z3 rfl) rfl (Z0 (Z142 (i) rfl rfl rfl rfl rfl hsome (by omega)) rfl (Z0 (Z30 rfl rfl rfl rfl) rfl (Z0 (Z29 rfl (List.Mem.tail _ (List.Mem.tail _ Zh)) hsome rfl rfl cd) rfl (Z0 (RV.len rfl rfl) rfl ?_)))))))
   refine Z0 (RV.lss rfl rfl) rfl (Z6 (Z1 ?_))
   refine Z119 rfl (fun hjd => ?_) (fun hjd => ?_)
   ·have h2 : j < g.d.length := by omega
    have h3 : j < b.length := by omega
    have hds : g.db.isSome = true := hod.isSome (by decide) h2
    (refine CW.skip ?_; refine Z1 ?_; refine Z4 ?_; refine CW.block ?_)
    refine Z2 (Z0 (Z3 rfl) rfl (Z0 (Z3 rfl) rfl (Z0 (Z142 (i) rfl rfl rfl rfl rfl hsome (by omega)) rfl (Z0 (Z30 rfl rfl rfl rfl) rfl (Z0 (Z29 rfl (List.Mem.tail _ (List.Mem.tail _ Zh)) hsome rfl rfl cd) rfl (Z0 (Z3 rfl) rfl (Z0 (Z3 rfl) rfl ?_)))))))
    refine Z0 (Z3 rfl) rfl ?_
    refine Z0 (RV.rem rfl rfl (by omega) (by omega)) rfl ?_; refine Z7 (.int .i64 ((i % 8 : Nat) : Int)) rfl ?_
    refine Z0 (RV.conv_i8 rfl rfl rfl) rfl ?_; refine Z7 (U8 (BitVec.ofNat 8 (i % 8))) (congrArg U8 (BitVec.ofInt_natCast ..)) ?_
    refine Z0 (RV.add8 rfl rfl rfl rfl) rfl (Z0 (RV.idx_o (j) rfl rfl rfl rfl rfl hds (by omega)) rfl ?_)
    refine Z28 (SV.store rfl hds rfl rfl rfl (by rw [List.length_append, Z102]; omega)) ?_; refine OW.cells (u8s (b.set j (wd mark i)) ++ g.dr) (by rw [Nat.zero_add, List.set_append_left _ _ (by rw [Z102]; omega)]; exact congrArg (fun l => l ++ g.dr) (Z163 ..)) ?_
    refine Z6 ?_
    (refine Z27 ?_; refine Z1 ?_)
    refine Z2 (Z0 (Z3 rfl) rfl (Z0 (RV.add rfl rfl (by omega)) rfl (Z0 (Z5 rfl) rfl (Z6 ?_))))
    refine Z114 (k' := g.d.length - (j + 1)) (by omega) ⟨j + 1, b.set j (wd mark i), rfl, by omega, by rw [List.length_set]; exact hbl, ?_, rfl, rfl⟩ ⟨rfl, rfl, rfl, rfl, trivial⟩ (fun w m => m)
    intro q x hq hqj
    rcases set_at hq with ⟨_, e⟩ | ⟨hne, hq⟩
    ·exact e
    ·exact hbw q x hq (by omega)
   ·have hje : j = g.d.length := by omega
    subst hje
    (refine CW.exit ?_; refine Z9 ?_; refine Z9 ?_; refine Z15 ?_; refine Z27 ?_; refine Z1 ?_)
    refine Z2 (Z0 (Z3 rfl) rfl (Z0 (RV.add rfl rfl (by omega)) rfl (Z0 (Z5 rfl) rfl (Z6 ?_))))
    generalize hgn : ({ g with t := t, d := b } : Lg) = g2
    have gcells : g2.cells = g.cells := by rw [← hgn]; unfold Lg.cells Lg.cell; dsimp only; rw [htl, hbl]
    have gok2 : g2.Ok := by
     rw [← hgn]
     refine ⟨⟨hs32_length _, ?_, hot.hn, ?_⟩, ⟨?_, ?_, hod.hn, ?_⟩⟩
     ·have := hot.hr; rw [List.length_append, hs32_length] at this ⊢; dsimp only; rw [htl]; exact this
     ·dsimp only; omega
     ·dsimp only; rw [Z102]; omega
     ·have := hod.hr; rw [List.length_append, Z102] at this ⊢; dsimp only; rw [hbl]; exact this
     ·dsimp only; omega
    refine Z114 (k' := gs.length - (i + 1)) (by omega) ⟨i + 1, hs.set i g2, rfl, by omega, ⟨by rw [lgC_set gcells hx]; exact hS.c, by rw [List.length_set]; exact hS.n, ?_⟩, ?_, ?_, rfl, rfl⟩ ⟨rfl, rfl, rfl, trivial⟩ (fun w m => ?_)
    ·intro x hx2
     rcases List.mem_or_eq_of_mem_set hx2 with h | rfl
     ·exact hS.ok _ h
     ·exact gok2
    ·intro q x hq hqi
     rcases set_at hq with ⟨hiq, hxe⟩ | ⟨hne, hq⟩
     ·subst hiq
      subst hxe
      rw [← hgn]
      refine ⟨fun x hx => ?_, fun y hy => ?_⟩
      ·obtain ⟨z, hz⟩ := List.getElem?_of_mem hx
       exact htw z x hz (by have := (List.getElem?_eq_some_iff.1 hz).1; dsimp only at this; omega)
      ·obtain ⟨z, hz⟩ := List.getElem?_of_mem hy
       exact hbw z y hz (by have := (List.getElem?_eq_some_iff.1 hz).1; dsimp only at this; omega)
     ·exact hW q x hq (by omega)
    ·rw [List.map_set, ← hgn]
     dsimp only
     rw [htl, hbl, ← hln]
     apply List.ext_getElem?
     intro q
     rw [List.getElem?_set]
     split
     ·rename_i hiq
      subst hiq
      rw [List.length_map, if_pos h1h, List.getElem?_map, hx]; rfl
     ·rfl
    ·refine Mem.inG h1h ?_
     rw [← hgn]
     exact m.pick [1, 0, 2] 3 rfl rfl
 ·have hie : i = gs.length := by omega
  subst hie
  (refine CW.exit ?_; refine Z9 ?_; refine Z9 ?_; refine Z15 ?_)
  refine Z104 (rs := []) [] ((ob, blk (lgC hs ++ r) 63) :: lgs 24 5 hs) rfl trivial rfl ⟨hs, hS, by rw [hS.n]; exact hW, hln, rfl, rfl⟩ (fun w m => by rw [hS.c]; exact m) _ (.inr rfl)
theorem waybilllaw17_grown_does (w0 : World) (N : List Ent) (ob : Option Nat) (c : Nat) (r : List Value) (gs : List Lg) (mark : BitVec 8) (hok : ∀ g ∈ gs, g.Ok) (ho : OwnS ob gs.length c 22 (lgC gs) r) (hfit : ∀ g ∈ gs, (g.t.length + 101) * 32 ≤ 140737488355328 ∧ g.d.length + 100 ≤ 140737488355328) :
  DoesG Tryd.prog 55 [sl ob 0 gs.length c, U8 mark] w0 ((ob, blk (lgC gs ++ r) 63) :: lgs 24 5 gs) N (fun v G => ∃ hs : List Lg, SameG gs hs ∧ hs.map Lg.val = gs.map Lg.val ∧ v = .bool true ∧ G = (ob, blk (lgC hs ++ r) 63) :: lgs 24 5 hs) := by
 have hm := ho.mx
 refine DoesG.enter Tryd.func55 rfl Tryd.ntmps55 rfl (M := (ob, blk (lgC gs ++ r) 63) :: (lgs 24 5 gs ++ N)) rfl (Z4 (Z2 (Z0 (Z5 rfl) rfl (Z6 ?_))))
 (refine Z1 ?_; refine Z4 ?_; refine Z4 ?_)
 refine Z2 (Z0 (Z5 rfl) rfl (Z6 ?_))
 (refine Z1 ?_; refine CW.block ?_)
 refine Z121 (fun k L' M' => ∃ (i : Nat) (hs : List Lg), k = gs.length - i ∧ i ≤ gs.length ∧ SameG gs hs ∧ hs.map Lg.val = gs.map Lg.val ∧ L' = [(0, sl ob 0 gs.length c), (1, U8 mark), (5, .int .i64 (i : Int))] ∧
  M' = (ob, blk (lgC gs ++ r) 63) :: (lgs 24 5 hs ++ N)) (k0 := gs.length) ⟨0, gs, rfl, by omega, ⟨rfl, rfl, hok⟩, rfl, rfl, rfl⟩ ⟨rfl, rfl, rfl, trivial⟩ (fun w m => m) ?_
 rintro k L' M' ⟨i, hs, rfl, hi, hS, hln, rfl, rfl⟩
 (refine Z4 ?_; refine Z4 ?_)
 refine Z2 (Z0 (Z3 rfl) rfl (Z0 (Z3 rfl) rfl (Z0 (RV.len rfl rfl) rfl (Z0 (RV.lss rfl rfl) rfl (Z6 (Z1 ?_))))))
 refine Z119 rfl (fun hlt2 => ?_) (fun hlt2 => ?_)
 ·have h1 : i < gs.length := by omega
  have h1h : i < hs.length := by rw [hS.n]; exact h1
  have hx : hs[i]? = some hs[i] := List.getElem?_eq_getElem h1h
  have gok := hS.ok _ (List.getElem_mem h1h)
  have gfit : ((hs[i]).t.length + 101) * 32 ≤ 140737488355328 ∧ (hs[i]).d.length + 100 ≤ 140737488355328 := by
   have h2 : (hs.map Lg.val)[i]? = (gs.map Lg.val)[i]? := by rw [hln]
   rw [List.getElem?_map, List.getElem?_map, hx, List.getElem?_eq_getElem h1] at h2
   have h3 := Zi h2
   have h4 := hfit _ (List.getElem_mem h1)
   have h5 : (hs[i]).t = (gs[i]).t := congrArg Log.topics h3
   have h6 : (hs[i]).d = (gs[i]).d := congrArg Log.data h3
   rw [h5, h6]; exact h4
  generalize hgx : hs[i] = g at hx gok gfit
  obtain ⟨gf1, gf2⟩ := gfit
  have hot := gok.t
  have hod := gok.d
  have hmt := hot.mx
  have hmd := hod.mx
  have hsome : ob.isSome = true := ho.isSome (by decide) h1
  have hcell : ∀ j u, g.cells[j]? = some u → (lgC gs ++ r)[0 + i * 22 + j]? = some u := fun j u hu => by
   have h2 := lgC_at hx j u hu
   rw [hS.c] at h2
   rw [Nat.zero_add, List.getElem?_append_left (List.getElem?_eq_some_iff.1 h2).1]
   exact h2
  have ct : (lgC gs ++ r)[0 + i * 22 + 20]? = some (sl g.tb 0 g.t.length g.tc) := hcell 20 _ (Z122 _)
  have cd : (lgC gs ++ r)[0 + i * 22 + 21]? = some (sl g.db 0 g.d.length g.dc) := hcell 21 _ (LogC.C_data _)
  (refine CW.skip ?_; refine Z1 ?_; refine Z4 ?_; refine CW.block ?_; refine Z4 ?_)
  refine CW.mem (fun w m => Mem.outG hx m) (Z2 (Z0 (Z3 rfl) rfl (Z0 (Z3 rfl) rfl (Z0 (Z142 (i) rfl rfl rfl rfl rfl hsome (by omega)) rfl (Z0 (Z30 rfl rfl rfl rfl) rfl (Z0 (Z29 rfl (List.Mem.tail _ (List.Mem.tail _ Zh)) hsome rfl rfl ct) rfl (Z0 (Z3 rfl) rfl ?_)))))))
  refine Z0 (RV.add8 rfl rfl rfl (lit8 _ rfl)) rfl ?_
  refine Z0 (RV.buildA (l := (u8s (Vector.replicate 32 0#8).toList)) (cs := u8s (gh mark 1#8).toList) rfl rfl rfl (by rw [Vector.toList_replicate, ← Z135]; rfl) rfl rfl (by simp only [gh, setL, List.foldl, ← vset, Vector.toList_replicate, ← Z163] <;> rfl)) rfl ?_
  refine Z0 (Z3 rfl) rfl (Z0 (RV.add8 rfl rfl rfl (lit8 _ rfl)) rfl ?_)
  refine Z0 (RV.buildA (l := (u8s (Vector.replicate 32 0#8).toList)) (cs := u8s (gh mark 2#8).toList) rfl rfl rfl (by rw [Vector.toList_replicate, ← Z135]; rfl) rfl rfl (by simp only [gh, setL, List.foldl, ← vset, Vector.toList_replicate, ← Z163] <;> rfl)) rfl ?_
  refine OW.ofN (NV.bsA rfl rfl (by intro x hx; simp at hx; rcases hx with rfl | rfl <;> exact (Z102 _).trans Zv) rfl rfl rfl (by decide) (by decide) rfl) rfl (fun bs => ?_)
  refine OW.rot1 ?_; refine OW.appendGw (X := []) (s := 32) (vs := u8s (gh mark 1#8).toList ++ u8s (gh mark 2#8).toList) (m := 2) (Grw.start g.tb (hs32 g.t) g.tr 24) hot rfl rfl rfl rfl rfl rfl (fun w m => m.rd0 (List.Mem.tail _ Zh) (fun e => nomatch e)) (by rfl) (by intro u hu; rcases List.mem_append.1 hu with hu | hu <;> exact Z129 _ u hu) (fun e => nomatch e) (by decide) (by decide) (by decide) (by simp only [i24]; omega) rfl rfl (g.t.length + 2) (hs32 (g.t ++ [gh mark 1#8, gh mark 2#8])) rfl (by rw [hs32_app]; rfl) (fun obt rt ct1 XT GT oT => ?_); refine Z20 (fun w m => Mem.dropX m) ?_
  refine Z0 (Z5 rfl) rfl (Z6 ?_)
  (refine Z1 ?_; refine Z4 ?_)
  refine CW.mem (M' := (g.db, blk (u8s g.d ++ g.dr) 5) :: (obt, blk (hs32 (g.t ++ [gh mark 1#8, gh mark 2#8]) ++ rt) 24) :: (XT ++ ((ob, blk (lgC gs ++ r) 63) :: (lgs 24 5 (hs.eraseIdx i) ++ N)))) (fun w m => Mem.swapX (Y := []) m) (Z2 (Z0 (Z3 rfl) rfl (Z0 (Z3 rfl) rfl (Z0 (Z142 (i) rfl rfl rfl rfl rfl hsome (by omega)) rfl (Z0 (Z30 rfl rfl rfl rfl) rfl (Z0 (Z29 rfl (List.Mem.tail _ (List.Mem.tail _ (List.mem_append_right _ Zh))) hsome rfl rfl cd) rfl (Z0 (Z3 rfl) rfl ?_)))))))
  refine Z0 (RV.add8 rfl rfl rfl (lit8 _ rfl)) rfl (OW.ofN (NV.bs1 (v := U8 (mark + 9#8)) rfl rfl rfl rfl rfl rfl) rfl (fun bs => ?_))
  refine OW.rot1 ?_; refine OW.appendGw (X := []) (s := 1) (vs := [U8 (mark + 9#8)]) (m := 1) (Grw.start g.db (u8s g.d) g.dr 5) hod rfl rfl rfl rfl rfl rfl (fun w m => m.rd0 (List.Mem.tail _ Zh) (fun e => nomatch e)) (by rfl) (by intro u hu; simp at hu; subst hu; rfl) (fun e => nomatch e) (by decide) (by decide) (by decide) (by simp only [i5]; omega) rfl rfl (g.d.length + 1) (u8s (g.d ++ [mark + 9#8])) rfl (by rw [← u8s_app]; rfl) (fun obd rd cd1 XD GD oD => ?_); refine Z20 (fun w m => Mem.dropX m) ?_
  refine Z0 (Z5 rfl) rfl (Z6 ?_)
  (refine Z1 ?_; refine Z4 ?_; refine Z4 ?_)
  refine Z2 (Z0 (Z5 rfl) rfl (Z6 ?_))
  (refine Z1 ?_; refine CW.block ?_)
  refine Z121 (fun k L' M' => ∃ (j : Nat) (et : List (Vector (BitVec 8) 32)) (ed : List (BitVec 8)) (obt obd : Option Nat) (rt rd : List Value) (ct1 cd1 : Nat) (XT XD : List Ent), k = 99 - j ∧ j ≤ 99 ∧ et.length = 2 + j ∧ ed.length = 1 + j ∧
   Grw g.tb (hs32 g.t) g.tr.length 24 obt (hs32 (g.t ++ et)) rt XT ∧ OwnS obt (g.t ++ et).length ct1 32 (hs32 (g.t ++ et)) rt ∧ Grw g.db (u8s g.d) g.dr.length 5 obd (u8s (g.d ++ ed)) rd XD ∧ OwnS obd (g.d ++ ed).length cd1 1 (u8s (g.d ++ ed)) rd ∧
   L' = [(0, sl ob 0 gs.length c), (1, U8 mark), (5, .int .i64 (i : Int)), (6, sl obt 0 (g.t ++ et).length ct1), (7, sl obd 0 (g.d ++ ed).length cd1), (8, .int .i64 (j : Int))] ∧
   M' = (obd, blk (u8s (g.d ++ ed) ++ rd) 5) :: (XD ++ ((obt, blk (hs32 (g.t ++ et) ++ rt) 24) :: (XT ++ ((ob, blk (lgC gs ++ r) 63) :: (lgs 24 5 (hs.eraseIdx i) ++ N)))))) (k0 := 99)
   ⟨0, [gh mark 1#8, gh mark 2#8], [mark + 9#8], obt, obd, rt, rd, ct1, cd1, XT, XD, rfl, by omega, rfl, rfl, GT, by rw [List.length_append]; exact oT, GD, by rw [List.length_append]; exact oD, rfl, rfl⟩ ⟨rfl, rfl, rfl, congrArg (fun k => some (sl obt 0 k ct1)) (by rw [List.length_append]; rfl), congrArg (fun k => some (sl obd 0 k cd1)) (by rw [List.length_append]; rfl), rfl, trivial⟩ (fun w m => m) ?_
  clear GT oT GD oD
  clear XT XD rt rd ct1 cd1 obt obd
  rintro k L' M' ⟨j, et, ed, obt, obd, rt, rd, ct1, cd1, XT, XD, rfl, hj, het, hed, GT, oT, GD, oD, rfl, rfl⟩
  have hlt : (g.t ++ et).length = g.t.length + 2 + j := by rw [List.length_append]; omega
  have hld : (g.d ++ ed).length = g.d.length + 1 + j := by rw [List.length_append]; omega
  have hmT := oT.mx
  have hmD := oD.mx
  (refine Z4 ?_; refine Z4 ?_)
  refine Z2 (Z0 (Z3 rfl) rfl (Z0 (RV.lss rfl rfl) rfl (Z6 (Z1 ?_))))
  refine Z119 rfl (fun hjt => ?_) (fun hjt => ?_)
  ·(refine CW.skip ?_; refine Z1 ?_; refine Z4 ?_; refine CW.block ?_; refine Z4 ?_)
   refine CW.mem (fun w m => Mem.swapX m) (Z2 (Z0 (Z3 rfl) rfl (Z0 (Z3 rfl) rfl (Z0 (RV.add8 rfl rfl rfl (lit8 _ rfl)) rfl ?_))))
   refine Z0 (RV.buildA (l := (u8s (Vector.replicate 32 0#8).toList)) (cs := u8s (gh mark 3#8).toList) rfl rfl rfl (by rw [Vector.toList_replicate, ← Z135]; rfl) rfl rfl (by simp only [gh, setL, List.foldl, ← vset, Vector.toList_replicate, ← Z163] <;> rfl)) rfl ?_
   refine OW.ofN (NV.bsA rfl rfl (by intro x hx; simp at hx; subst hx; exact (Z102 _).trans Zv) rfl rfl rfl (by decide) (by decide) rfl) rfl (fun bs => ?_)
   refine Z20 (fun w m => Mem.moveX m) ?_; refine OW.appendGw (s := 32) (vs := u8s (gh mark 3#8).toList) (m := 1) GT oT rfl rfl rfl rfl rfl rfl (fun w m => m.rd0 (List.Mem.tail _ (List.mem_append_right _ Zh)) (fun e => nomatch e)) ((Z102 _).trans Zv) (Z129 _) (fun e => nomatch e) (by decide) (by decide) (by decide) (by simp only [i24]; omega) rfl rfl ((g.t ++ et).length + 1) (hs32 (g.t ++ (et ++ [gh mark 3#8]))) rfl (by rw [show g.t ++ (et ++ [gh mark 3#8]) = (g.t ++ et) ++ [gh mark 3#8] from (List.append_assoc ..).symm, hs32_app (g.t ++ et)]; exact congrArg (hs32 (g.t ++ et) ++ ·) (List.append_nil _).symm) (fun obt2 rt2 ct2 XT2 GT2 oT2 => ?_); refine Z20 (fun w m => Mem.dropX m) ?_
   refine Z0 (Z5 rfl) rfl (Z6 (Z1 (CW.mem (fun w m => Mem.swapX m) (Z2 (Z0 (Z3 rfl) rfl (Z0 (Z3 rfl) rfl (Z0 (RV.add8 rfl rfl rfl (lit8 _ rfl)) rfl (OW.ofN (NV.bs1 (v := U8 (mark + 9#8)) rfl rfl rfl rfl rfl rfl) rfl (fun bs2 => ?_)))))))))
   refine Z20 (fun w m => Mem.moveX m) ?_; refine OW.appendGw (s := 1) (vs := [U8 (mark + 9#8)]) (m := 1) GD oD rfl rfl rfl rfl rfl rfl (fun w m => m.rd0 (List.Mem.tail _ (List.mem_append_right _ Zh)) (fun e => nomatch e)) rfl (by intro u hu; simp at hu; subst hu; rfl) (fun e => nomatch e) (by decide) (by decide) (by decide) (by simp only [i5]; omega) rfl rfl ((g.d ++ ed).length + 1) (u8s (g.d ++ (ed ++ [mark + 9#8]))) rfl (show u8s (g.d ++ ed) ++ u8s [mark + 9#8] = _ by rw [u8s_app, List.append_assoc]) (fun obd2 rd2 cd2 XD2 GD2 oD2 => ?_); refine Z20 (fun w m => Mem.dropX m) ?_
   refine Z0 (Z5 rfl) rfl (Z6 ?_)
   (refine Z27 ?_; refine Z1 ?_)
   refine Z2 (Z0 (Z3 rfl) rfl (Z0 (RV.add rfl rfl (by omega)) rfl (Z0 (Z5 rfl) rfl (Z6 ?_))))
   have hl1 : (g.t ++ (et ++ [gh mark 3#8])).length = (g.t ++ et).length + 1 := by rw [← List.append_assoc, List.length_append, List.length_singleton]
   have hl2 : (g.d ++ (ed ++ [mark + 9#8])).length = (g.d ++ ed).length + 1 := by rw [← List.append_assoc, List.length_append, List.length_singleton]
   refine Z114 (k' := 99 - (j + 1)) (by omega) ⟨j + 1, et ++ [gh mark 3#8], ed ++ [mark + 9#8], obt2, obd2, rt2, rd2, ct2, cd2, XT2, XD2, rfl, by omega, by rw [List.length_append, List.length_singleton]; omega, by rw [List.length_append, List.length_singleton]; omega, GT2, by rw [hl1]; exact oT2, GD2, by rw [hl2]; exact oD2, rfl, rfl⟩ ⟨rfl, rfl, rfl, congrArg (fun k => some (sl obt2 0 k ct2)) hl1.symm, congrArg (fun k => some (sl obd2 0 k cd2)) hl2.symm, rfl, trivial⟩ (fun w m => m)
  ·have hje : j = 99 := by omega
   subst hje
   (refine CW.exit ?_; refine Z9 ?_; refine Z9 ?_; refine Z15 ?_; refine Z1 ?_; refine Z4 ?_)
   refine Z2 (Z0 (Z3 rfl) rfl (Z0 (RV.len rfl rfl) rfl (Z0 (Z3 rfl) rfl (Z0 (Z3 rfl) rfl (Z0 (Z142 (i) rfl rfl rfl rfl rfl hsome (by omega)) rfl (Z0 (Z30 rfl rfl rfl rfl) rfl (Z0 (Z29 rfl (List.Mem.tail _ (List.mem_append_right _ (List.Mem.tail _ (List.mem_append_right _ Zh)))) hsome rfl rfl ct) rfl ?_)))))))
   refine Z0 (RV.len rfl rfl) rfl (Z0 (RV.add rfl rfl (by omega)) rfl (Z0 (RV.neq_f rfl rfl (by omega)) rfl (Z0 (Z3 rfl) rfl ?_)))
   refine Z24 rfl ?_; refine Z0 (Z3 rfl) rfl ?_
   refine Z24 rfl ?_; refine Z0 (RV.len rfl rfl) rfl ?_
   refine Z24 rfl ?_; refine Z0 (Z3 rfl) rfl ?_
   refine Z24 rfl ?_; refine Z0 (Z3 rfl) rfl ?_
   refine Z24 rfl ?_; refine Z0 (Z142 (i) rfl rfl rfl rfl rfl hsome (by omega)) rfl ?_
   refine Z24 rfl ?_; refine Z0 (Z30 rfl rfl rfl rfl) rfl ?_
   refine Z24 rfl ?_; refine Z0 (Z29 rfl (List.Mem.tail _ (List.mem_append_right _ (List.Mem.tail _ (List.mem_append_right _ Zh)))) hsome rfl rfl cd) rfl ?_
   refine Z24 rfl ?_; refine Z0 (RV.len rfl rfl) rfl ?_
   refine Z24 rfl ?_; refine Z0 (RV.add rfl rfl (by omega)) rfl ?_
   refine Z24 rfl ?_; refine Z0 (RV.neq_f rfl rfl (by omega)) rfl ?_
   refine Z0 (Z106 rfl rfl rfl) rfl (Z6 (Z1 (Z154 rfl ?_)))
   (refine CW.skip ?_; refine Z27 ?_; refine Z1 ?_)
   refine Z2 (Z0 (Z3 rfl) rfl (Z0 (RV.add rfl rfl (by omega)) rfl (Z0 (Z5 rfl) rfl (Z6 ?_))))
   obtain ⟨tr2, htr2, hT2⟩ := GT.fin
   obtain ⟨dr2, hdr2, hD2⟩ := GD.fin
   generalize hgn : ({ g with tr := tr2, dr := dr2 } : Lg) = g2
   have gcells : g2.cells = g.cells := by rw [← hgn]; rfl
   have gok2 : g2.Ok := by
    rw [← hgn]
    refine ⟨⟨hot.n, ?_, hot.hn, hot.mx⟩, ⟨hod.n, ?_, hod.hn, hod.mx⟩⟩
    ·have := hot.hr; rw [List.length_append] at this ⊢; dsimp only; omega
    ·have := hod.hr; rw [List.length_append] at this ⊢; dsimp only; omega
   refine Z114 (k' := gs.length - (i + 1)) (by omega) ⟨i + 1, hs.set i g2, rfl, by omega, ⟨by rw [lgC_set gcells hx]; exact hS.c, by rw [List.length_set]; exact hS.n, ?_⟩, ?_, rfl, rfl⟩ ⟨rfl, rfl, rfl, trivial⟩ (fun w m => ?_)
   ·intro x hx2
    rcases List.mem_or_eq_of_mem_set hx2 with h | rfl
    ·exact hS.ok _ h
    ·exact gok2
   ·rw [List.map_set, ← hgn, ← hln]
    apply List.ext_getElem?
    intro q
    rw [List.getElem?_set]
    split
    ·rename_i hiq
     subst hiq
     rw [List.length_map, if_pos h1h, List.getElem?_map, hx]; rfl
    ·rfl
   ·refine Mem.inG h1h ?_
    rw [← hgn]
    exact (hT2 _ _ _ (Mem.swapX (X := []) (hD2 _ _ _ m)))
 ·have hie : i = gs.length := by omega
  subst hie
  (refine CW.exit ?_; refine Z9 ?_; refine Z9 ?_; refine Z15 ?_; refine Z1 ?_; refine Z4 ?_)
  refine Z2 (Z0 (Z5 rfl) rfl (Z6 ?_))
  (refine Z1 ?_; refine CW.ret ?_)
  refine Z104 (rs := [.tmp 4]) [.bool true] ((ob, blk (lgC hs ++ r) 63) :: lgs 24 5 hs) rfl ?_ rfl ⟨hs, hS, hln, rfl, rfl⟩ (fun w m => by rw [hS.c]; exact m) _ (.inl rfl)
  exact ⟨rfl, trivial⟩
theorem waybilllaw17_apart_does (w0 : World) (N : List Ent) (ob1 ob2 : Option Nat) (c1 c2 : Nat) (r1 r2 : List Value) (gs1 gs2 : List Lg) (hok1 : ∀ g ∈ gs1, g.Ok) (ho1 : OwnS ob1 gs1.length c1 22 (lgC gs1) r1) (hok2 : ∀ g ∈ gs2, g.Ok) (ho2 : OwnS ob2 gs2.length c2 22 (lgC gs2) r2)
  (hf1 : ∀ g ∈ gs1, (g.t.length + 101) * 32 ≤ 140737488355328 ∧ g.d.length + 100 ≤ 140737488355328) (hf2 : ∀ g ∈ gs2, (g.t.length + 101) * 32 ≤ 140737488355328 ∧ g.d.length + 100 ≤ 140737488355328) :
  DoesG Tryd.prog 30 [sl ob1 0 gs1.length c1, sl ob2 0 gs2.length c2] w0 (((ob1, blk (lgC gs1 ++ r1) 63) :: lgs 24 5 gs1) ++ ((ob2, blk (lgC gs2 ++ r2) 63) :: lgs 24 5 gs2)) N (fun v G => v = .bool true ∧ G = []) := by
 refine DoesG.enter Tryd.func30 rfl Tryd.ntmps30 rfl (M := ((ob1, blk (lgC gs1 ++ r1) 63) :: lgs 24 5 gs1) ++ (((ob2, blk (lgC gs2 ++ r2) 63) :: lgs 24 5 gs2) ++ N)) (by simp only [List.append_assoc]) (Z4 (Z2 (Z0 (Z5 rfl) rfl (Z6 ?_))))
 (refine Z1 ?_; refine Z4 ?_)
 refine Z2 (Z0 (Z3 rfl) rfl ?_)
 refine Z12 Tryd.call54 rfl (Z158 w0 (((ob2, blk (lgC gs2 ++ r2) 63) :: lgs 24 5 gs2) ++ N) ob1 c1 r1 gs1 50#8 hok1 ho1) rfl rfl ?_; rintro _ _ ⟨hs1, hS1, hW1, hl1, rfl, rfl⟩
 refine Z6 ?_
 (refine Z1 ?_; refine Z4 ?_)
 refine CW.mem (M' := ((ob2, blk (lgC gs2 ++ r2) 63) :: lgs 24 5 gs2) ++ (((ob1, blk (lgC hs1 ++ r1) 63) :: lgs 24 5 hs1) ++ N)) (fun w m => m.perm (List.perm_append_comm_assoc ..)) (Z2 (Z0 (Z3 rfl) rfl ?_))
 refine Z12 Tryd.call54 rfl (Z158 w0 (((ob1, blk (lgC hs1 ++ r1) 63) :: lgs 24 5 hs1) ++ N) ob2 c2 r2 gs2 90#8 hok2 ho2) rfl rfl ?_; rintro _ _ ⟨hs2, hS2, hW2, hl2, rfl, rfl⟩
 refine Z6 ?_
 (refine Z1 ?_; refine Z4 ?_)
 have o1 := hS1.own ho1
 have o2 := hS2.own ho2
 rw [← hS1.n, ← hS2.n]
 refine CW.mem (M' := ((ob1, blk (lgC hs1 ++ r1) 63) :: lgs 24 5 hs1) ++ (((ob2, blk (lgC hs2 ++ r2) 63) :: lgs 24 5 hs2) ++ N)) (fun w m => m.perm (List.perm_append_comm_assoc ..)) (Z2 (Z0 (Z3 rfl) rfl ?_))
 refine Z12 Tryd.call55 rfl (waybilllaw17_grown_does w0 (((ob2, blk (lgC hs2 ++ r2) 63) :: lgs 24 5 hs2) ++ N) ob1 c1 r1 hs1 50#8 hS1.ok o1 (lens_fit hl1 hf1)) rfl rfl ?_; rintro _ _ ⟨ks1, kS1, kv1, rfl, rfl⟩
 refine Z0 (Z5 rfl) rfl (Z6 ?_)
 (refine Z1 ?_; refine Z4 ?_)
 refine CW.mem (M' := ((ob2, blk (lgC hs2 ++ r2) 63) :: lgs 24 5 hs2) ++ (((ob1, blk (lgC ks1 ++ r1) 63) :: lgs 24 5 ks1) ++ N)) (fun w m => m.perm (List.perm_append_comm_assoc ..)) (Z2 (Z0 (Z3 rfl) rfl ?_))
 refine Z12 Tryd.call55 rfl (waybilllaw17_grown_does w0 (((ob1, blk (lgC ks1 ++ r1) 63) :: lgs 24 5 ks1) ++ N) ob2 c2 r2 hs2 90#8 hS2.ok o2 (lens_fit hl2 hf2)) rfl rfl ?_; rintro _ _ ⟨ks2, kS2, kv2, rfl, rfl⟩
 refine Z0 (Z5 rfl) rfl (Z6 ?_)
 (refine Z1 ?_; refine Z4 ?_)
 have p1 := kS1.own o1
 have p2 := kS2.own o2
 rw [← kS1.n, ← kS2.n]
 generalize hM : (((ob2, blk (lgC ks2 ++ r2) 63) :: lgs 24 5 ks2) ++ (((ob1, blk (lgC ks1 ++ r1) 63) :: lgs 24 5 ks1) ++ N)) = M
 have v1 := p1.view (te := 63) (w0 := w0) (Ψ := fun w => Mem w0 w M) (by decide) (fun w q => by rw [← hM] at q; exact (q.appR.appL).sublist (List.singleton_sublist.2 (List.mem_cons_self ..)))
 have v2 := p2.view (te := 63) (w0 := w0) (Ψ := fun w => Mem w0 w M) (by decide) (fun w q => by rw [← hM] at q; exact (q.appL).sublist (List.singleton_sublist.2 (List.mem_cons_self ..)))
 have q1 := lgs_reps (w0 := w0) (Φ := fun w => Mem w0 w M) (tH := 24) (tB := 5) kS1.ok (fun w q => by rw [← hM] at q; exact (q.appR.appL).tail)
 have q2 := lgs_reps (w0 := w0) (Φ := fun w => Mem w0 w M) (tH := 24) (tB := 5) kS2.ok (fun w q => by rw [← hM] at q; exact (q.appL).tail)
 have s1 := hW1.stand
 have s2 := hW2.stand
 rw [← kv1] at s1
 rw [← kv2] at s2
 have e1 : ks1.length = (ks1.map Lg.val).length := (List.length_map ..).symm
 have e2 : ks2.length = (ks2.map Lg.val).length := (List.length_map ..).symm
 rw [e1] at v1 ⊢
 rw [e2] at v2 ⊢
 refine Z2 (Z0 (Z3 rfl) rfl (Z0 (Z3 rfl) rfl ?_))
 refine Z24 rfl ?_; refine Z0 (Z3 rfl) rfl ?_
 refine Z0 (Z108 rfl rfl rfl) rfl (Z0 (Z3 rfl) rfl ?_)
 refine Z24 rfl ?_; refine Z0 (Z3 rfl) rfl ?_
 refine Z24 rfl ?_; refine Z12 Tryd.call56 rfl (waybilllaw17_stand_does w0 (fun w => Mem w0 w M) M (fun w m => m) _ c1 (lgC ks1) (ks1.map Lg.val) 50#8 true v1 q1 s1) rfl rfl ?_; rintro _ G5 rfl; refine Z20 (M' := M) (fun w m => m.appR) ?_
 refine Z0 (Z108 rfl rfl rfl) rfl (Z0 (Z3 rfl) rfl ?_)
 refine Z24 rfl ?_; refine Z0 (Z3 rfl) rfl ?_
 refine Z24 rfl ?_; refine Z12 Tryd.call56 rfl (waybilllaw17_stand_does w0 (fun w => Mem w0 w M) M (fun w m => m) _ c2 (lgC ks2) (ks2.map Lg.val) 90#8 true v2 q2 s2) rfl rfl ?_; rintro _ G6 rfl; refine Z20 (M' := N) (fun w m => by rw [← hM] at m; exact m.appR.appR.appR) ?_
 refine Z0 (Z108 rfl rfl rfl) rfl (Z0 (Z5 rfl) rfl (Z6 ?_))
 (refine Z1 ?_; refine CW.ret ?_)
 refine Z104 (rs := [.tmp 4]) [.bool true] [] rfl ?_ rfl ⟨rfl, rfl⟩ (fun w m => m) _ (.inl rfl)
 exact ⟨rfl, trivial⟩
theorem waybilllaw17_ReceiptReads_does (w0 : World) (Φ : Ctx) (N : List Ent) (hΦ : ∀ w, Mem w0 w N → Φ w) (A : Option Addr) (c : Nat) (data : List (BitVec 8)) (x y : Rcpt) (e f : Int) (e2 f2 : Nat) (other : List (BitVec 8)) (va : View Φ A data.length c 1 (u8s data))
  (hTn : ∀ i, i < 25 → w0.cell? ⟨4, i, none⟩ = some (.int .i64 (turnsL.getD i 0))) (hRn : ∀ i, i < 24 → w0.cell? ⟨3, i, none⟩ = some (U64 (g64 roundsL i))) (hg2 : View Φ (some ⟨2, 0, none⟩) 2 2 1 (u8s firstL))
  (hlen : data.length + 70 ≤ 140737488355328) (hd1 : receipt_Decode data = some (x, e)) (hr1 : waybillref17_Decode data = some (x, e2)) (he : e = (e2 : Int)) (hbk : waybilllaw17_backward data = some other) (hol : other.length = data.length)
  (hd2 : receipt_Decode other = some (y, f)) (hr2 : waybillref17_Decode other = some (y, f2)) (hfe : f = (f2 : Int)) (hsx : waybilllaw17_sameReceipt x x = some true) (hsy : waybilllaw17_sameReceipt y y = some true) (hn1 : waybilllaw17_num e = some e) (hn2 : waybilllaw17_num f = some f)
  (hs1 : waybilllaw17_still data data = some true) (hs2 : waybilllaw17_still other other = some true) (hfit : ∀ z ∈ x.logs, (z.topics.length + 101) * 32 ≤ 140737488355328 ∧ z.data.length + 100 ≤ 140737488355328) :
  DoesG Tryd.prog 8 [.slice A data.length c] w0 [] N (fun v G => v = .bool true) := by
 have lentE : waybilllaw17_lent data = some data := by unfold waybilllaw17_lent lentN; exact if_pos hlen
 refine DoesG.enter Tryd.func8 rfl Tryd.ntmps8 rfl (M := N) rfl (Z4 (Z2 (Z0 (Z5 rfl) rfl (Z6 ?_))))
 (refine Z1 ?_; refine Z4 ?_)
 refine Z2 (Z0 (Z3 rfl) rfl ?_)
 refine Z12 Tryd.call38 rfl (waybilllaw17_lent_raw w0 Φ N hΦ A c data data va lentE) rfl rfl ?_; rintro _ _ ⟨bi, od, _, rfl, rfl⟩
 refine Z0 (Z5 rfl) rfl (Z6 ?_)
 (refine Z1 ?_; refine Z4 ?_)
 have inV : ∀ M : List Ent, (some bi, blk (u8s data ++ (u8s (List.replicate 70 195#8) ++ [])) 5) ∈ M → View (fun w => Mem w0 w M) (some ⟨bi, 0, none⟩) data.length (data.length + 70) 1 (u8s data) := fun M hM => od.view (te := 5) (w0 := w0) (Ψ := fun w => Mem w0 w M) (by decide) (fun w q => q.sublist (List.singleton_sublist.2 hM))
 have inF : ∀ M : List Ent, (some bi, blk (u8s data ++ (u8s (List.replicate 70 195#8) ++ [])) 5) ∈ M → View (fun w => Mem w0 w M) (some ⟨bi, 0, none⟩) (data ++ List.replicate 70 195#8).length (data.length + 70) 1 (u8s (data ++ List.replicate 70 195#8)) := fun M hM => OwnS.mroom (te := 5) (w0 := w0) od (fun w q => q.sublist (List.singleton_sublist.2 hM)) (by rw [List.length_replicate]; omega)
 refine Z2 (Z0 (Z3 rfl) rfl ?_)
 refine Z12 Tryd.call39 rfl (receipt_Decode_own w0 (fun w => Mem w0 w ((some bi, blk (u8s data ++ (u8s (List.replicate 70 195#8) ++ [])) 5) :: N)) ((some bi, blk (u8s data ++ (u8s (List.replicate 70 195#8) ++ [])) 5) :: N) (fun w m => m) _ (data.length + 70) data x e (inV _ Zh) (hg2.mono (fun w q => hΦ w q.tail)) hd1) rfl rfl ?_; rintro _ _ ⟨gs1, ob1, c1, r1, B1, hok1, ho1, hv1, heb, hxk, rfl, rfl⟩; refine Z20 (M' := (some bi, blk (u8s data ++ (u8s (List.replicate 70 195#8) ++ [])) 5) :: (((ob1, blk (lgC gs1 ++ r1) 63) :: lgs 24 5 gs1) ++ N)) (fun w m => by rw [List.cons_append, List.append_assoc] at m; exact (m.sublist (List.Sublist.cons_cons _ (List.Sublist.append (List.Sublist.refl _) (List.sublist_append_right _ _)))).perm (List.perm_middle (l₁ := ((ob1, blk (lgC gs1 ++ r1) 63) :: lgs 24 5 gs1)))) ?_
 refine Z0 (Z3 rfl) rfl (Z0 (Z17 rfl rfl) rfl (Z0 (Z17 rfl rfl) rfl (OW.alloc (l := RcptZ.C) rfl (by kernel_rfl) rfl (fun b4 => (Z28 (Z103 rfl rfl rfl (RcptC.C_one _ rfl) rfl (RcptC.C_length _) (RcptC.C_length _)) (Z0 (Z5 rfl) rfl (Z6 ?_)))))))
 (refine Z1 ?_; refine Z4 ?_)
 refine Z2 (Z0 (Z3 rfl) rfl ?_)
 refine Z12 Tryd.call39 rfl (receipt_Decode_own w0 (fun w => Mem w0 w ((some b4, blk (⟨x.kind, x.rooted, x.root, x.status, x.used, x.bloom, sl ob1 0 gs1.length c1⟩ : RcptC).C 30) :: (some bi, blk (u8s data ++ (u8s (List.replicate 70 195#8) ++ [])) 5) :: (((ob1, blk (lgC gs1 ++ r1) 63) :: lgs 24 5 gs1) ++ N))) ((some b4, blk (⟨x.kind, x.rooted, x.root, x.status, x.used, x.bloom, sl ob1 0 gs1.length c1⟩ : RcptC).C 30) :: (some bi, blk (u8s data ++ (u8s (List.replicate 70 195#8) ++ [])) 5) :: (((ob1, blk (lgC gs1 ++ r1) 63) :: lgs 24 5 gs1) ++ N)) (fun w m => m) _ (data.length + 70) data x e (inV _ (List.Mem.tail _ Zh)) (hg2.mono (fun w q => hΦ w (q.drop 2).appR)) hd1) rfl rfl ?_; rintro _ _ ⟨gs2, ob2, c2, r2, B2, hok2, ho2, hv2, _, _, rfl, rfl⟩; refine Z20 (M' := (some b4, blk (⟨x.kind, x.rooted, x.root, x.status, x.used, x.bloom, sl ob1 0 gs1.length c1⟩ : RcptC).C 30) :: (some bi, blk (u8s data ++ (u8s (List.replicate 70 195#8) ++ [])) 5) :: (((ob2, blk (lgC gs2 ++ r2) 63) :: lgs 24 5 gs2) ++ (((ob1, blk (lgC gs1 ++ r1) 63) :: lgs 24 5 gs1) ++ N))) (fun w m => by rw [List.cons_append, List.append_assoc] at m; exact (m.sublist (List.Sublist.cons_cons _ (List.Sublist.append (List.Sublist.refl _) (List.sublist_append_right _ _)))).perm (List.perm_append_comm_assoc ((ob2, blk (lgC gs2 ++ r2) 63) :: lgs 24 5 gs2) [_, _] _)) ?_
 refine Z0 (Z3 rfl) rfl (Z0 (Z17 rfl rfl) rfl (Z0 (Z17 rfl rfl) rfl (OW.alloc (l := RcptZ.C) rfl (by kernel_rfl) rfl (fun b6 => (Z28 (Z103 rfl rfl rfl (RcptC.C_one _ rfl) rfl (RcptC.C_length _) (RcptC.C_length _)) (Z0 (Z5 rfl) rfl (Z6 ?_)))))))
 (refine Z1 ?_; refine Z4 ?_)
 refine Z2 (Z0 (Z3 rfl) rfl ?_)
 refine Z12 Tryd.call40 rfl (Z162 w0 Φ ((some b6, blk (⟨x.kind, x.rooted, x.root, x.status, x.used, x.bloom, sl ob2 0 gs2.length c2⟩ : RcptC).C 30) :: (some b4, blk (⟨x.kind, x.rooted, x.root, x.status, x.used, x.bloom, sl ob1 0 gs1.length c1⟩ : RcptC).C 30) :: (some bi, blk (u8s data ++ (u8s (List.replicate 70 195#8) ++ [])) 5) :: (((ob2, blk (lgC gs2 ++ r2) 63) :: lgs 24 5 gs2) ++ (((ob1, blk (lgC gs1 ++ r1) 63) :: lgs 24 5 gs1) ++ N))) (fun w m => hΦ w ((m.drop 3).appR (B := ((ob2, blk (lgC gs2 ++ r2) 63) :: lgs 24 5 gs2))).appR) A c data x e2 va hTn hRn hr1) rfl rfl ?_; rintro _ BB ⟨B3, cr3, hr3, heb2, rfl, hB⟩; rw [hB]; clear hB BB; refine Z20 (M' := (some b6, blk (⟨x.kind, x.rooted, x.root, x.status, x.used, x.bloom, sl ob2 0 gs2.length c2⟩ : RcptC).C 30) :: (some b4, blk (⟨x.kind, x.rooted, x.root, x.status, x.used, x.bloom, sl ob1 0 gs1.length c1⟩ : RcptC).C 30) :: (some bi, blk (u8s data ++ (u8s (List.replicate 70 195#8) ++ [])) 5) :: (B3 ++ (((ob2, blk (lgC gs2 ++ r2) 63) :: lgs 24 5 gs2) ++ (((ob1, blk (lgC gs1 ++ r1) 63) :: lgs 24 5 gs1) ++ N)))) (fun w m => m.perm (List.perm_append_comm_assoc B3 [_, _, _] _)) ?_
 refine Z0 (Z3 rfl) rfl (Z0 (Z17 rfl rfl) rfl (Z0 (Z17 rfl rfl) rfl (OW.alloc (l := RcptZ.C) rfl (by kernel_rfl) rfl (fun b8 => (Z28 (Z103 rfl rfl rfl (RcptRd.one _ _ hr3) rfl (RcptC.C_length _) (RcptRd.len _ _ hr3)) (Z0 (Z5 rfl) rfl (Z6 ?_)))))))
 (refine Z1 ?_; refine Z4 ?_; refine Z4 ?_)
 have hr3l := RcptRd.len _ _ hr3
 generalize hR : (B3 ++ (((ob2, blk (lgC gs2 ++ r2) 63) :: lgs 24 5 gs2) ++ (((ob1, blk (lgC gs1 ++ r1) 63) :: lgs 24 5 gs1) ++ N))) = R
 have hRN : ∀ w, Mem w0 w R → Mem w0 w N := fun w m => by rw [← hR] at m; exact ((m.appR).appR (B := ((ob2, blk (lgC gs2 ++ r2) 63) :: lgs 24 5 gs2))).appR
 have q3 : ∀ Ψ : Ctx, (∀ w, Ψ w → Mem w0 w R) → RcptRd Ψ cr3 x := fun Ψ h => RcptRd.mono (fun w m => ⟨hΦ w (hRN w (h w m)), by have := h w m; rw [← hR] at this; exact this.appL⟩) _ _ hr3
 have q2 : ∀ Ψ : Ctx, (∀ w, Ψ w → Mem w0 w R) → RcptRd Ψ (⟨x.kind, x.rooted, x.root, x.status, x.used, x.bloom, sl ob2 0 gs2.length c2⟩ : RcptC).C x := fun Ψ h => own_rcpt (w0 := w0) hok2 ho2 hv2 hxk (fun w m => by have := h w m; rw [← hR] at this; exact this.appR.appL)
 have q1 : ∀ Ψ : Ctx, (∀ w, Ψ w → Mem w0 w R) → RcptRd Ψ (⟨x.kind, x.rooted, x.root, x.status, x.used, x.bloom, sl ob1 0 gs1.length c1⟩ : RcptC).C x := fun Ψ h => own_rcpt (w0 := w0) hok1 ho1 hv1 hxk (fun w m => by have := h w m; rw [← hR] at this; exact (this.appR.appR (B := ((ob2, blk (lgC gs2 ++ r2) 63) :: lgs 24 5 gs2))).appL)
 generalize hM : ((some b8, blk cr3 30) :: (some b6, blk (⟨x.kind, x.rooted, x.root, x.status, x.used, x.bloom, sl ob2 0 gs2.length c2⟩ : RcptC).C 30) :: (some b4, blk (⟨x.kind, x.rooted, x.root, x.status, x.used, x.bloom, sl ob1 0 gs1.length c1⟩ : RcptC).C 30) :: (some bi, blk (u8s data ++ (u8s (List.replicate 70 195#8) ++ [])) 5) :: R) = M
 have hMR : ∀ w, Mem w0 w M → Mem w0 w R := fun w m => by rw [← hM] at m; exact m.drop 4
 have in8 : (some b8, blk cr3 30) ∈ M := by rw [← hM]; exact List.Mem.head _
 have in6 : (some b6, blk (⟨x.kind, x.rooted, x.root, x.status, x.used, x.bloom, sl ob2 0 gs2.length c2⟩ : RcptC).C 30) ∈ M := by rw [← hM]; exact List.Mem.tail _ Zh
 have in4 : (some b4, blk (⟨x.kind, x.rooted, x.root, x.status, x.used, x.bloom, sl ob1 0 gs1.length c1⟩ : RcptC).C 30) ∈ M := by rw [← hM]; exact List.Mem.tail _ (List.Mem.tail _ Zh)
 have inI : (some bi, blk (u8s data ++ (u8s (List.replicate 70 195#8) ++ [])) 5) ∈ M := by rw [← hM]; exact List.Mem.tail _ (List.Mem.tail _ (List.Mem.tail _ Zh))
 have hMN : ∀ w, Mem w0 w M → Φ w := fun w m => hΦ w (hRN w (hMR w m))
 refine Z2 (Z0 (Z22 rfl in4 rfl rfl rfl rfl (RcptC.C_length _)) rfl (Z0 (Z22 rfl in8 rfl rfl rfl rfl hr3l) rfl (Z12 Tryd.call16 rfl (Z127 w0 (fun w => Mem w0 w M) M (fun w m => m) _ x cr3 x true (q1 _ hMR) (q3 _ hMR) hsx) rfl rfl ?_)))
 rintro _ G1 rfl
 refine Z20 (M' := M) (fun w m => m.appR) (Z0 (RV.not rfl) rfl (Z0 (Z3 rfl) rfl (Z24 rfl (Z0 (Z22 rfl in6 rfl rfl rfl rfl (RcptC.C_length _)) rfl (Z24 rfl (Z0 (Z22 rfl in8 rfl rfl rfl rfl hr3l) rfl (Z24 rfl ?_)))))))
 refine Z12 Tryd.call16 rfl (Z127 w0 (fun w => Mem w0 w M) M (fun w m => m) _ x cr3 x true (q2 _ hMR) (q3 _ hMR) hsx) rfl rfl ?_
 rintro _ G2 rfl
 refine Z20 (M' := M) (fun w m => m.appR) (Z24 rfl (Z0 (RV.not rfl) rfl (Z0 (Z106 rfl rfl rfl) rfl (Z0 (Z3 rfl) rfl (Z24 rfl (Z0 (Z3 rfl) rfl (Z24 rfl ?_)))))))
 refine Z12 Tryd.call15 rfl (waybilllaw17_num_does w0 (fun w => Mem w0 w M) M (fun w m => m) e e heb hn1) rfl rfl ?_
 rintro _ G3 ⟨_, rfl⟩
 refine Z20 (M' := M) (fun w m => m.appR) (Z24 rfl (Z0 (Z3 rfl) rfl (Z24 rfl (Z0 (RV.neq_f rfl rfl (by omega)) rfl (Z0 (Z106 rfl rfl rfl) rfl (Z0 (Z3 rfl) rfl (Z24 rfl ?_)))))))
 refine Z0 (Z3 rfl) rfl (Z24 rfl (Z0 (Z3 rfl) rfl (Z24 rfl (Z12 Tryd.call41 rfl (waybilllaw17_still_does w0 (fun w => Mem w0 w M) M (fun w m => m) (some ⟨bi, 0, none⟩) (data.length + 70) data A c data true (inF _ inI) (va.mono hMN) hs1) rfl rfl ?_))))
 rintro _ G4 rfl
 refine Z20 (M' := M) (fun w m => m.appR) (Z24 rfl (Z0 (RV.not rfl) rfl (Z0 (Z106 rfl rfl rfl) rfl (Z6 (Z1 (Z154 rfl ?_))))))
 (refine CW.skip ?_; refine Z1 ?_; refine Z4 ?_)
 refine Z2 (Z0 (Z3 rfl) rfl ?_)
 refine Z12 Tryd.call42 rfl (waybilllaw17_backward_does w0 (fun w => Mem w0 w M) M (fun w m => m) A c data other (va.mono hMN) hbk) rfl rfl ?_; rintro _ _ ⟨B4, oo, ko, ro, hoo, rfl, rfl⟩; refine Z20 (M' := (some bi, blk (u8s data ++ (u8s (List.replicate 70 195#8) ++ [])) 5) :: (oo, blk (u8s other ++ ro) 5) :: (some b8, blk cr3 30) :: (some b6, blk (⟨x.kind, x.rooted, x.root, x.status, x.used, x.bloom, sl ob2 0 gs2.length c2⟩ : RcptC).C 30) :: (some b4, blk (⟨x.kind, x.rooted, x.root, x.status, x.used, x.bloom, sl ob1 0 gs1.length c1⟩ : RcptC).C 30) :: R) (fun w m => by rw [← hM] at m; exact (Mem.dropL m).pick [4, 0, 1, 2, 3] 5 rfl rfl) ?_
 refine Z0 (Z5 rfl) rfl (Z6 ?_)
 (refine Z1 ?_; refine Z4 ?_)
 clear inI in4 in6 in8 hMR hMN
 clear hM
 refine Z2 (Z0 (Z3 rfl) rfl (Z0 (Z3 rfl) rfl ?_))
 refine OW.copy (ob := some bi) (off := 0) (l := (u8s data ++ (u8s (List.replicate 70 195#8) ++ []))) (te := 5) rfl rfl rfl rfl (fun h => nomatch h) (by rw [List.length_append, Z102]; omega) (fun w m => m.rd0 (List.Mem.tail _ Zh) (fun hne => by have h9 := hoo.hn hne; have h8 := hoo.le (by decide); exact List.length_eq_zero_iff.1 (by rw [Z102]; omega))) (Z102 _) (Z129 _) (fun hne => by have : oo = none := (by cases oo <;> simp_all); have h9 := hoo.hn this; have h8 := hoo.le (by decide); omega) rfl ?_; refine OW.cells (u8s other ++ (u8s (List.replicate 70 195#8) ++ [])) (by rw [show (u8s other).take (min other.length data.length) = u8s other from List.take_of_length_le (by rw [Z102]; omega)]; exact spl_seg (a := []) (y := u8s data) rfl (by rw [Z102, Z102, hol])) ?_
 refine Z6 ?_
 (refine Z1 ?_; refine Z4 ?_)
 rw [← hol]
 have od2 : OwnS (some bi) other.length (other.length + 70) 1 (u8s other) (u8s (List.replicate 70 195#8) ++ []) := ⟨by rw [Z102]; omega, by rw [List.append_nil, List.length_append, Z102, Z102, List.length_replicate]; omega, (fun h => nomatch h), by omega⟩
 have inV2 : ∀ M : List Ent, (some bi, blk (u8s other ++ (u8s (List.replicate 70 195#8) ++ [])) 5) ∈ M → View (fun w => Mem w0 w M) (some ⟨bi, 0, none⟩) other.length (other.length + 70) 1 (u8s other) := fun M hM => od2.view (te := 5) (w0 := w0) (Ψ := fun w => Mem w0 w M) (by decide) (fun w q => q.sublist (List.singleton_sublist.2 hM))
 have inF2 : ∀ M : List Ent, (some bi, blk (u8s other ++ (u8s (List.replicate 70 195#8) ++ [])) 5) ∈ M → View (fun w => Mem w0 w M) (some ⟨bi, 0, none⟩) (other ++ List.replicate 70 195#8).length (other.length + 70) 1 (u8s (other ++ List.replicate 70 195#8)) := fun M hM => OwnS.mroom (te := 5) (w0 := w0) od2 (fun w q => q.sublist (List.singleton_sublist.2 hM)) (by rw [List.length_replicate]; omega)
 have ooV : ∀ M : List Ent, (oo, blk (u8s other ++ ro) 5) ∈ M → View (fun w => Mem w0 w M) (oo.map fun k => ⟨k, 0, none⟩) other.length ko 1 (u8s other) := fun M hM => hoo.view (te := 5) (w0 := w0) (Ψ := fun w => Mem w0 w M) (by decide) (fun w q => q.sublist (List.singleton_sublist.2 hM))
 generalize hM2 : ((some bi, blk (u8s other ++ (u8s (List.replicate 70 195#8) ++ [])) 5) :: (oo, blk (u8s other ++ ro) 5) :: (some b8, blk cr3 30) :: (some b6, blk (⟨x.kind, x.rooted, x.root, x.status, x.used, x.bloom, sl ob2 0 gs2.length c2⟩ : RcptC).C 30) :: (some b4, blk (⟨x.kind, x.rooted, x.root, x.status, x.used, x.bloom, sl ob1 0 gs1.length c1⟩ : RcptC).C 30) :: R) = M2
 have iI : (some bi, blk (u8s other ++ (u8s (List.replicate 70 195#8) ++ [])) 5) ∈ M2 := by rw [← hM2]; exact List.Mem.head _
 have iO : (oo, blk (u8s other ++ ro) 5) ∈ M2 := by rw [← hM2]; exact List.Mem.tail _ Zh
 have i8 : (some b8, blk cr3 30) ∈ M2 := by rw [← hM2]; exact List.Mem.tail _ (List.Mem.tail _ Zh)
 have i6 : (some b6, blk (⟨x.kind, x.rooted, x.root, x.status, x.used, x.bloom, sl ob2 0 gs2.length c2⟩ : RcptC).C 30) ∈ M2 := by rw [← hM2]; exact List.Mem.tail _ (List.Mem.tail _ (List.Mem.tail _ Zh))
 have i4 : (some b4, blk (⟨x.kind, x.rooted, x.root, x.status, x.used, x.bloom, sl ob1 0 gs1.length c1⟩ : RcptC).C 30) ∈ M2 := by rw [← hM2]; exact List.Mem.tail _ (List.Mem.tail _ (List.Mem.tail _ (List.Mem.tail _ Zh)))
 have h2R : ∀ w, Mem w0 w M2 → Mem w0 w R := fun w m => by rw [← hM2] at m; exact m.drop 5
 have h2Φ : ∀ w, Mem w0 w M2 → Φ w := fun w m => hΦ w (hRN w (h2R w m))
 refine Z2 (Z0 (Z3 rfl) rfl ?_)
 refine Z12 Tryd.call39 rfl (receipt_Decode_own w0 (fun w => Mem w0 w M2) M2 (fun w m => m) _ (other.length + 70) other y f (inV2 _ iI) (hg2.mono h2Φ) hd2) rfl rfl ?_; rintro _ _ ⟨gs3, ob3, c3, r3, B5, hok3, ho3, hv3, hfb, hyk, rfl, rfl⟩; refine Z20 (M' := ((ob3, blk (lgC gs3 ++ r3) 63) :: lgs 24 5 gs3) ++ M2) (fun w m => by rw [List.cons_append, List.append_assoc] at m; exact m.sublist (List.Sublist.cons_cons _ (List.Sublist.append (List.Sublist.refl _) (List.sublist_append_right _ _)))) ?_
 refine Z0 (Z3 rfl) rfl (Z0 (Z17 rfl rfl) rfl (Z0 (Z17 rfl rfl) rfl (OW.alloc (l := RcptZ.C) rfl (by kernel_rfl) rfl (fun b11 => (Z28 (Z103 rfl rfl rfl (RcptC.C_one _ rfl) rfl (RcptC.C_length _) (RcptC.C_length _)) (Z0 (Z5 rfl) rfl (Z6 ?_)))))))
 (refine Z1 ?_; refine Z4 ?_)
 generalize hM3 : ((some b11, blk (⟨y.kind, y.rooted, y.root, y.status, y.used, y.bloom, sl ob3 0 gs3.length c3⟩ : RcptC).C 30) :: (((ob3, blk (lgC gs3 ++ r3) 63) :: lgs 24 5 gs3) ++ M2)) = M3
 have h32 : ∀ w, Mem w0 w M3 → Mem w0 w M2 := fun w m => by rw [← hM3] at m; exact m.tail.appR (B := ((ob3, blk (lgC gs3 ++ r3) 63) :: lgs 24 5 gs3))
 have s32 : ∀ q : Ent, q ∈ M2 → q ∈ M3 := fun q hq => by rw [← hM3]; exact List.Mem.tail _ (List.mem_append_right _ hq)
 refine Z2 (Z0 (Z3 rfl) rfl ?_)
 refine Z12 Tryd.call40 rfl (Z162 w0 (fun w => Mem w0 w M3) M3 (fun w m => m) _ ko other y f2 (ooV _ (s32 _ iO)) hTn hRn hr2) rfl rfl ?_; rintro _ BB ⟨B6, cr6, hr6, hfb2, rfl, hB⟩; rw [hB]; clear hB BB
 refine Z0 (Z3 rfl) rfl (Z0 (Z17 rfl rfl) rfl (Z0 (Z17 rfl rfl) rfl (OW.alloc (l := RcptZ.C) rfl (by kernel_rfl) rfl (fun b13 => (Z28 (Z103 rfl rfl rfl (RcptRd.one _ _ hr6) rfl (RcptC.C_length _) (RcptRd.len _ _ hr6)) (Z0 (Z5 rfl) rfl (Z6 ?_)))))))
 (refine Z1 ?_; refine Z4 ?_; refine Z4 ?_)
 have hr6l := RcptRd.len _ _ hr6
 generalize hM4 : ((some b13, blk cr6 30) :: (B6 ++ M3)) = M4
 have h43 : ∀ w, Mem w0 w M4 → Mem w0 w M3 := fun w m => by rw [← hM4] at m; exact m.tail.appR
 have s43 : ∀ q : Ent, q ∈ M3 → q ∈ M4 := fun q hq => by rw [← hM4]; exact List.Mem.tail _ (List.mem_append_right _ hq)
 have k13 : (some b13, blk cr6 30) ∈ M4 := by rw [← hM4]; exact List.Mem.head _
 have k11 : (some b11, blk (⟨y.kind, y.rooted, y.root, y.status, y.used, y.bloom, sl ob3 0 gs3.length c3⟩ : RcptC).C 30) ∈ M4 := s43 _ (by rw [← hM3]; exact List.Mem.head _)
 have k8 := s43 _ (s32 _ i8)
 have k6 := s43 _ (s32 _ i6)
 have k4 := s43 _ (s32 _ i4)
 have h4R : ∀ w, Mem w0 w M4 → Mem w0 w R := fun w m => h2R w (h32 w (h43 w m))
 have q6 : RcptRd (fun w => Mem w0 w M4) cr6 y := RcptRd.mono (fun w m => ⟨h43 w m, by rw [← hM4] at m; exact m.tail.appL⟩) _ _ hr6
 have q4 : RcptRd (fun w => Mem w0 w M4) (⟨y.kind, y.rooted, y.root, y.status, y.used, y.bloom, sl ob3 0 gs3.length c3⟩ : RcptC).C y := own_rcpt (w0 := w0) hok3 ho3 hv3 hyk (fun w m => by have := h43 w m; rw [← hM3] at this; exact this.tail.appL)
 refine Z2 (Z0 (Z22 rfl k11 rfl rfl rfl rfl (RcptC.C_length _)) rfl (Z0 (Z22 rfl k13 rfl rfl rfl rfl hr6l) rfl (Z12 Tryd.call16 rfl (Z127 w0 (fun w => Mem w0 w M4) M4 (fun w m => m) _ y cr6 y true q4 q6 hsy) rfl rfl ?_)))
 rintro _ H1 rfl
 refine Z20 (M' := M4) (fun w m => m.appR) (Z0 (RV.not rfl) rfl (Z0 (Z3 rfl) rfl (Z24 rfl (Z0 (Z3 rfl) rfl (Z24 rfl (Z12 Tryd.call15 rfl (waybilllaw17_num_does w0 (fun w => Mem w0 w M4) M4 (fun w m => m) f f hfb hn2) rfl rfl ?_))))))
 rintro _ H2 ⟨_, rfl⟩
 refine Z20 (M' := M4) (fun w m => m.appR) (Z24 rfl (Z0 (Z3 rfl) rfl (Z24 rfl (Z0 (RV.neq_f rfl rfl (by omega)) rfl (Z0 (Z106 rfl rfl rfl) rfl (Z0 (Z3 rfl) rfl (Z24 rfl ?_)))))))
 refine Z0 (Z22 rfl k4 rfl rfl rfl rfl (RcptC.C_length _)) rfl (Z24 rfl (Z0 (Z22 rfl k8 rfl rfl rfl rfl hr3l) rfl (Z24 rfl (Z12 Tryd.call16 rfl (Z127 w0 (fun w => Mem w0 w M4) M4 (fun w m => m) _ x cr3 x true (q1 _ h4R) (q3 _ h4R) hsx) rfl rfl ?_))))
 rintro _ H3 rfl
 refine Z20 (M' := M4) (fun w m => m.appR) (Z24 rfl (Z0 (RV.not rfl) rfl (Z0 (Z106 rfl rfl rfl) rfl (Z0 (Z3 rfl) rfl (Z24 rfl (Z0 (Z22 rfl k6 rfl rfl rfl rfl (RcptC.C_length _)) rfl (Z24 rfl ?_)))))))
 refine Z0 (Z22 rfl k8 rfl rfl rfl rfl hr3l) rfl (Z24 rfl (Z12 Tryd.call16 rfl (Z127 w0 (fun w => Mem w0 w M4) M4 (fun w m => m) _ x cr3 x true (q2 _ h4R) (q3 _ h4R) hsx) rfl rfl ?_))
 rintro _ H4 rfl
 refine Z20 (M' := M4) (fun w m => m.appR) (Z24 rfl (Z0 (RV.not rfl) rfl (Z0 (Z106 rfl rfl rfl) rfl (Z6 (Z1 (Z154 rfl ?_))))))
 (refine CW.skip ?_; refine Z1 ?_; refine Z4 ?_)
 refine Z2 (Z0 (Z30 rfl rfl rfl rfl) rfl (Z0 (Z29 rfl k4 rfl rfl rfl (Z151 _)) rfl (Z0 (Z30 rfl rfl rfl rfl) rfl (Z0 (Z29 rfl k6 rfl rfl rfl (Z151 _)) rfl ?_))))
 refine Z20 (M' := (((ob1, blk (lgC gs1 ++ r1) 63) :: lgs 24 5 gs1) ++ ((ob2, blk (lgC gs2 ++ r2) 63) :: lgs 24 5 gs2)) ++ ((some bi, blk (u8s other ++ (u8s (List.replicate 70 195#8) ++ [])) 5) :: (oo, blk (u8s other ++ ro) 5) :: N)) (fun w m => by
  have m2 := h32 w (h43 w m)
  rw [← hM2, ← hR] at m2
  have m3 := (m2.pick [0, 1] 5 rfl rfl)
  have m4 : Mem w0 w ([(some bi, blk (u8s other ++ (u8s (List.replicate 70 195#8) ++ [])) 5), (oo, blk (u8s other ++ ro) 5)] ++ (((ob2, blk (lgC gs2 ++ r2) 63) :: lgs 24 5 gs2) ++ (((ob1, blk (lgC gs1 ++ r1) 63) :: lgs 24 5 gs1) ++ N))) := m3.sublist (List.Sublist.cons_cons _ (List.Sublist.cons_cons _ (List.sublist_append_right _ _)))
  rw [List.append_assoc]
  refine m4.perm ?_
  refine (List.Perm.append_left _ (List.perm_append_comm_assoc ..)).trans ?_
  refine (List.perm_append_comm_assoc ..).trans ?_
  exact List.Perm.append_left _ (List.perm_append_comm_assoc ..)) ?_
 have fit1 : ∀ g ∈ gs1, (g.t.length + 101) * 32 ≤ 140737488355328 ∧ g.d.length + 100 ≤ 140737488355328 := fun g hg => hfit g.val (by rw [← hv1]; exact List.mem_map.2 ⟨g, hg, rfl⟩)
 have fit2 : ∀ g ∈ gs2, (g.t.length + 101) * 32 ≤ 140737488355328 ∧ g.d.length + 100 ≤ 140737488355328 := fun g hg => hfit g.val (by rw [← hv2]; exact List.mem_map.2 ⟨g, hg, rfl⟩)
 refine Z12 Tryd.call30 rfl (waybilllaw17_apart_does w0 ((some bi, blk (u8s other ++ (u8s (List.replicate 70 195#8) ++ [])) 5) :: (oo, blk (u8s other ++ ro) 5) :: N) ob1 ob2 c1 c2 r1 r2 gs1 gs2 hok1 ho1 hok2 ho2 fit1 fit2) rfl rfl ?_
 rintro _ _ ⟨rfl, rfl⟩
 refine Z20 (M' := (some bi, blk (u8s other ++ (u8s (List.replicate 70 195#8) ++ [])) 5) :: (oo, blk (u8s other ++ ro) 5) :: N) (fun w m => m) (Z0 (Z5 rfl) rfl (Z6 ?_))
 (refine Z1 ?_; refine Z4 ?_)
 refine Z2 (Z0 (Z3 rfl) rfl (Z0 (Z3 rfl) rfl (Z24 rfl (Z0 (Z3 rfl) rfl (Z24 rfl (Z0 (Z3 rfl) rfl (Z24 rfl ?_)))))))
 refine Z12 Tryd.call41 rfl (waybilllaw17_still_does w0 (fun w => Mem w0 w ((some bi, blk (u8s other ++ (u8s (List.replicate 70 195#8) ++ [])) 5) :: (oo, blk (u8s other ++ ro) 5) :: N)) ((some bi, blk (u8s other ++ (u8s (List.replicate 70 195#8) ++ [])) 5) :: (oo, blk (u8s other ++ ro) 5) :: N) (fun w m => m) (some ⟨bi, 0, none⟩) (other.length + 70) other _ ko other true (inF2 _ Zh) (ooV _ (List.Mem.tail _ Zh)) hs2) rfl rfl ?_
 rintro _ G7 rfl
 refine Z20 (M' := N) (fun w m => m.appR.drop 2) (Z0 (Z108 rfl rfl rfl) rfl (Z0 (Z5 rfl) rfl (Z6 ?_)))
 (refine Z1 ?_; refine CW.ret ?_)
 refine Z104 (rs := [.tmp 2]) [.bool true] [] rfl ?_ rfl rfl (fun w m => m) _ (.inl rfl)
 exact ⟨rfl, trivial⟩
end Go.Fw.Tryd
namespace Go.Fw
def val4 (v : Vector (BitVec 64) 4) : Nat := v[0].toNat + 2 ^ 64 * v[1].toNat + 2 ^ 128 * v[2].toNat + 2 ^ 192 * v[3].toNat
def lim (n : Nat) : Vector (BitVec 64) 4 := #v[BitVec.ofNat 64 n, BitVec.ofNat 64 (n / 2 ^ 64), BitVec.ofNat 64 (n / 2 ^ 128), BitVec.ofNat 64 (n / 2 ^ 192)]
theorem vec4_ext {a b : Vector (BitVec 64) 4} (h0 : a[0] = b[0]) (h1 : a[1] = b[1]) (h2 : a[2] = b[2]) (h3 : a[3] = b[3]) : a = b := by
 apply Vector.ext
 intro i hi
 match i, hi with
 | 0, _ => exact h0
 | 1, _ => exact h1
 | 2, _ => exact h2
 | 3, _ => exact h3
theorem val4_lim (n : Nat) (h : n < 2 ^ 256) : val4 (lim n) = n := by
 simp only [val4, lim, Vector.getElem_mk, List.getElem_toArray, List.getElem_cons_zero, List.getElem_cons_succ, BitVec.toNat_ofNat]
 omega
theorem lim_val4 (v : Vector (BitVec 64) 4) : lim (val4 v) = v := by
 have h0 := v[0].isLt; have h1 := v[1].isLt; have h2 := v[2].isLt; have h3 := v[3].isLt
 apply vec4_ext <;> (apply BitVec.eq_of_toNat_eq; simp only [lim, Vector.getElem_mk, List.getElem_toArray, List.getElem_cons_zero, List.getElem_cons_succ, BitVec.toNat_ofNat, val4]; omega)
theorem val4_inj {a b : Vector (BitVec 64) 4} (h : val4 a = val4 b) : a = b := by rw [← lim_val4 a, ← lim_val4 b, h]
theorem from_eq (x : BitVec 64) : u256_From x = some (lim x.toNat) := by
 unfold u256_From
 congr 1
 have := x.isLt
 apply vec4_ext <;> (apply BitVec.eq_of_toNat_eq; simp [lim]; try omega)
theorem rfrom_eq (x : BitVec 64) : waybillref01_From x = some (lim x.toNat) := by
 unfold waybillref01_From
 congr 1
 have := x.isLt
 apply vec4_ext <;> (apply BitVec.eq_of_toNat_eq; simp [lim]; try omega)
def cmpN (a b : Nat) : Int := if a < b then -1 else if a = b then 0 else 1
theorem sub64c_eq (x y b : BitVec 64) (hb : b.toNat ≤ 1) : sub64c x y b = some (x - y - b, if x.toNat < y.toNat + b.toNat then 1#64 else 0#64) := by
 unfold sub64c; rw [if_pos hb]
theorem brw (p : Prop) [Decidable p] : (if p then 1#64 else 0#64).toNat = if p then 1 else 0 := by split <;> rfl
theorem u256_Sub_brw (x y : Vector (BitVec 64) 4) : ∃ d, u256_Sub x y = some (d, if val4 x < val4 y then 1#64 else 0#64) := by
 have g : ∀ (v : Vector (BitVec 64) 4) (i : Nat) (h : i < 4), v[i]? = some v[i] := fun v i h => Vector.getElem?_eq_getElem h
 have hb : ∀ (p : Prop) [Decidable p], (if p then 1#64 else 0#64).toNat ≤ 1 := fun p _ => by rw [brw]; split <;> omega
 have x0 := x[0].isLt; have x1 := x[1].isLt; have x2 := x[2].isLt; have x3 := x[3].isLt
 have y0 := y[0].isLt; have y1 := y[1].isLt; have y2 := y[2].isLt; have y3 := y[3].isLt
 unfold u256_Sub
 simp only [u256_Sub.l1, g x 0 (by omega), g x 1 (by omega), g x 2 (by omega), g x 3 (by omega), g y 0 (by omega), g y 1 (by omega), g y 2 (by omega), g y 3 (by omega), Zb, Nat.zero_add, Nat.reduceAdd, Nat.reduceLT, if_true, if_false, Nat.lt_irrefl, Nat.reduceSub]
 rw [sub64c_eq _ _ _ (by simp)]
 simp only [Zb]
 rw [sub64c_eq _ _ _ (hb _)]
 simp only [Zb]
 rw [sub64c_eq _ _ _ (hb _)]
 simp only [Zb]
 rw [sub64c_eq _ _ _ (hb _)]
 simp only [Zb, brw]
 have key : (x[3].toNat < y[3].toNat + if x[2].toNat < y[2].toNat + (if x[1].toNat < y[1].toNat + (if x[0].toNat < y[0].toNat + (0#64).toNat then 1 else 0) then 1 else 0) then 1 else 0) ↔ val4 x < val4 y := by
  unfold val4
  have h0 : (0#64).toNat = 0 := rfl
  rw [h0]
  split <;> split <;> split <;> omega
 simp only [key]
 exact ⟨_, rfl⟩
theorem cmp_eq (x y : Vector (BitVec 64) 4) : u256_Cmp x y = some (cmpN (val4 x) (val4 y)) := by
 unfold u256_Cmp cmpN
 by_cases h : x = y
 ·subst h; simp
 ·rw [if_neg h]
  obtain ⟨d, hd⟩ := u256_Sub_brw x y
  rw [hd]
  have hne : ¬ val4 x = val4 y := fun e => h (val4_inj e)
  by_cases hl : val4 x < val4 y
  ·simp [hl]
  ·simp [hl, hne]
theorem rcmp_eq (x y : Vector (BitVec 64) 4) : waybillref01_Cmp x y = some (cmpN (val4 x) (val4 y)) := by
 have g : ∀ (v : Vector (BitVec 64) 4) (i : Nat) (h : i < 4), v[i]? = some v[i] := fun v i h => Vector.getElem?_eq_getElem h
 have x0 := x[0].isLt; have x1 := x[1].isLt; have x2 := x[2].isLt; have x3 := x[3].isLt
 have y0 := y[0].isLt; have y1 := y[1].isLt; have y2 := y[2].isLt; have y3 := y[3].isLt
 unfold waybillref01_Cmp cmpN val4
 simp only [waybillref01_Cmp.l1, Int.reduceLE, if_true, Int.reduceSub, Int.reduceToNat, Int.toNat_zero, Int.reduceNeg, and_self, Nat.reduceLT, g x 0 (by omega), g x 1 (by omega), g x 2 (by omega), g x 3 (by omega), g y 0 (by omega), g y 1 (by omega), g y 2 (by omega), g y 3 (by omega), Zb, if_false, Nat.zero_lt_succ, Nat.lt_add_one]
 repeat' split
 all_goals first
  | rfl
  | (simp; omega)
  | (simp_all; omega)
  | omega
end Go.Fw
namespace Go.Fw
def be : Nat → Nat → List (BitVec 8)
 | 0, _ => []
 | k + 1, n => BitVec.ofNat 8 (n / 256 ^ k) :: be k n
theorem be_length : ∀ (k n : Nat), (be k n).length = k
 | 0, _ => rfl
 | k + 1, n => by simp [be, be_length k n]
theorem be_get (n : Nat) : ∀ (k i : Nat), i < k → (be k n)[i]? = some (BitVec.ofNat 8 (n / 256 ^ (k - 1 - i)))
 | 0, i, h => by omega
 | k + 1, 0, h => by simp [be]
 | k + 1, i + 1, h => by
  simp only [be, List.getElem?_cons_succ]
  rw [be_get n k i (by omega)]
  rw [show k + 1 - 1 - (i + 1) = k - 1 - i by omega]
def bl (n : Nat) : Nat := if n = 0 then 0 else n.log2 + 1
theorem bl_spec {n : Nat} (h : n ≠ 0) : ∃ k, bl n = k + 1 ∧ 2 ^ k ≤ n ∧ n < 2 ^ (k + 1) := ⟨n.log2, by unfold bl; rw [if_neg h], Nat.log2_self_le h, Nat.lt_log2_self⟩
theorem bl_le {n k : Nat} (h : n < 2 ^ k) : bl n ≤ k := by
 unfold bl
 split
 ·omega
 ·have := (Nat.log2_lt (n := n) (k := k) (by omega)).2 h; omega
theorem vget (v : Vector (BitVec 64) 4) (i : Nat) (h : i < 4) : v[i]? = some v[i] := Vector.getElem?_eq_getElem h
end Go.Fw
namespace Go.Fw
theorem limb (v : Vector (BitVec 64) 4) (q : Nat) (h : q < 4) : val4 v / 2 ^ (64 * q) % 2 ^ 64 = v[q].toNat := by
 have x0 := v[0].isLt; have x1 := v[1].isLt; have x2 := v[2].isLt; have x3 := v[3].isLt
 unfold val4
 match q, h with
 | 0, _ => simp only [Nat.mul_zero, Nat.pow_zero, Nat.div_one]; omega
 | 1, _ => simp only [Nat.mul_one]; omega
 | 2, _ => simp only [Nat.reduceMul]; omega
 | 3, _ => simp only [Nat.reduceMul]; omega
theorem pow256 (r : Nat) : 256 ^ r = 2 ^ (8 * r) := by rw [show (256 : Nat) = 2 ^ 8 by rfl, ← Nat.pow_mul]
def nb (n : Nat) : Nat := (bl n + 7) / 8
def bytesN (n : Nat) : List (BitVec 8) := be (nb n) n
theorem byte_top {n : Nat} (h : n ≠ 0) : BitVec.ofNat 8 (n / 256 ^ (nb n - 1)) ≠ 0#8 := by
 obtain ⟨j, h1, h2, h3⟩ := bl_spec h
 have hnb : nb n = j / 8 + 1 := by unfold nb; omega
 rw [hnb, Nat.add_sub_cancel, pow256]
 have hp : 0 < 2 ^ (8 * (j / 8)) := Nat.two_pow_pos _
 have ha : 0 < n / 2 ^ (8 * (j / 8)) := Nat.div_pos (Nat.le_trans (Nat.pow_le_pow_right (by omega) (by omega)) h2) hp
 have hb : n / 2 ^ (8 * (j / 8)) < 256 := by
  rw [Nat.div_lt_iff_lt_mul hp]
  refine Nat.lt_of_lt_of_le h3 ?_
  rw [show (256 : Nat) = 2 ^ 8 by rfl, ← Nat.pow_add]
  exact Nat.pow_le_pow_right (by omega) (by omega)
 intro e
 have := congrArg BitVec.toNat e
 rw [BitVec.toNat_ofNat] at this
 simp at this
 omega
end Go.Fw
namespace Go.Fw
def beV (l : List (BitVec 8)) : Nat := l.foldl (fun n x => n * 256 + x.toNat) 0
theorem beV_snoc (l : List (BitVec 8)) (x : BitVec 8) : beV (l ++ [x]) = beV l * 256 + x.toNat := by simp [beV]
theorem lim_get (n j : Nat) (h : j < 4) : (lim n)[j] = BitVec.ofNat 64 (n / 2 ^ (64 * j)) := by
 match j, h with
 | 0, _ => simp [lim]
 | 1, _ => simp [lim]
 | 2, _ => simp [lim]
 | 3, _ => simp [lim]
theorem or_low (A B : BitVec 64) (k a : Nat) (hA : A.toNat = 2 ^ k * a) (hB : B.toNat < 2 ^ k) : A ||| B = A + B := by
 apply BitVec.eq_of_toNat_eq
 have h1 : (A ||| B).toNat = A.toNat + B.toNat := by rw [BitVec.toNat_or, hA, ← Nat.two_pow_add_eq_or_of_lt hB]
 have h2 := (A ||| B).isLt
 rw [BitVec.toNat_add, h1, Nat.mod_eq_of_lt (by omega)]
theorem shl_toNat (x : BitVec 8) (r : Nat) (h : r < 8) : ((x.setWidth 64) <<< (8 * r)).toNat = x.toNat * 2 ^ (8 * r) := by
 have hx := x.isLt
 rw [BitVec.toNat_shiftLeft, BitVec.toNat_setWidth, Nat.shiftLeft_eq, Nat.mod_eq_of_lt (a := x.toNat) (by omega), Nat.mod_eq_of_lt]
 have h1 : 2 ^ (8 * r) ≤ 2 ^ 56 := Nat.pow_le_pow_right (by omega) (by omega)
 have h2 : x.toNat * 2 ^ (8 * r) ≤ 255 * 2 ^ 56 := Nat.mul_le_mul (by omega) h1
 omega
theorem set_byte (m p : Nat) (x : BitVec 8) (hp : p / 8 < 4) :
  (lim (m * 256 ^ (p + 1))).setIfInBounds (p / 8) ((lim (m * 256 ^ (p + 1)))[p / 8] + (x.setWidth 64) <<< (8 * (p % 8))) = lim ((m * 256 + x.toNat) * 256 ^ p) := by
 have hx := x.isLt
 have hr : p % 8 < 8 := Nat.mod_lt _ (by omega)
 have e0 : (m * 256 + x.toNat) * 256 ^ p = m * 256 ^ (p + 1) + x.toNat * 256 ^ p := by rw [Nat.add_mul, Nat.pow_succ]; rw [Nat.mul_assoc, Nat.mul_comm 256]
 have e1 : 256 ^ p = 2 ^ (64 * (p / 8)) * 2 ^ (8 * (p % 8)) := by rw [pow256, ← Nat.pow_add]; congr 1; omega
 apply Vector.ext
 intro j hj
 rw [Vector.getElem_setIfInBounds]
 by_cases hjq : p / 8 = j
 ·subst hjq
  rw [if_pos rfl, lim_get _ _ hp, lim_get _ _ hp]
  apply BitVec.eq_of_toNat_eq
  rw [BitVec.toNat_add, shl_toNat x _ hr, BitVec.toNat_ofNat, BitVec.toNat_ofNat, e0, e1]
  have hpos : 0 < 2 ^ (64 * (p / 8)) := Nat.two_pow_pos _
  rw [show x.toNat * (2 ^ (64 * (p / 8)) * 2 ^ (8 * (p % 8))) = 2 ^ (64 * (p / 8)) * (x.toNat * 2 ^ (8 * (p % 8))) by rw [← Nat.mul_assoc, Nat.mul_comm x.toNat, Nat.mul_assoc], Nat.add_mul_div_left _ _ hpos]
  rw [Nat.add_mod, Nat.mod_mod, ← Nat.add_mod]
 ·rw [if_neg hjq, lim_get _ _ hj, lim_get _ _ hj]
  apply BitVec.eq_of_toNat_eq
  rw [BitVec.toNat_ofNat, BitVec.toNat_ofNat, e0]
  rcases Nat.lt_or_gt_of_ne hjq with h | h
  ·-- the limb lies above
   have hy : x.toNat * 256 ^ p < 256 ^ (p + 1) := by
    rw [Nat.pow_succ, Nat.mul_comm]; exact Nat.mul_lt_mul_of_pos_left hx (Nat.pow_pos (by omega))
   have hc : 2 ^ (64 * j) = 256 ^ (p + 1) * 2 ^ (64 * j - 8 * (p + 1)) := by rw [pow256, ← Nat.pow_add]; congr 1; omega
   rw [hc, ← Nat.div_div_eq_div_mul, ← Nat.div_div_eq_div_mul]
   rw [Nat.mul_comm m, Nat.mul_add_div (Nat.pow_pos (by omega)), Nat.div_eq_of_lt hy, Nat.mul_div_cancel_left _ (Nat.pow_pos (by omega))]
   rfl
  ·-- the limb lies below
   have hc : x.toNat * 256 ^ p = 2 ^ (64 * j) * (2 ^ 64 * (x.toNat * 2 ^ (8 * p - 64 * j - 64))) := by
    rw [show 2 ^ (64 * j) * (2 ^ 64 * (x.toNat * 2 ^ (8 * p - 64 * j - 64))) = x.toNat * (2 ^ (64 * j) * (2 ^ 64 * 2 ^ (8 * p - 64 * j - 64))) by
     rw [Nat.mul_left_comm (2 ^ 64), Nat.mul_left_comm (2 ^ (64 * j))]]
    rw [pow256, ← Nat.pow_add, ← Nat.pow_add]
    congr 2; omega
   rw [hc, Nat.add_mul_div_left _ _ (Nat.two_pow_pos _), Nat.add_mul_mod_self_left]
theorem lim_mult (m p : Nat) (hp : p / 8 < 4) : ∃ a, ((lim (m * 256 ^ (p + 1)))[p / 8]).toNat = 2 ^ (8 * (p % 8 + 1)) * a := by
 rw [lim_get _ _ hp, BitVec.toNat_ofNat]
 have e1 : 256 ^ (p + 1) = 2 ^ (64 * (p / 8)) * 2 ^ (8 * (p % 8 + 1)) := by rw [pow256, ← Nat.pow_add]; congr 1; omega
 rw [e1, Nat.mul_left_comm, Nat.mul_div_cancel_left _ (Nat.two_pow_pos _)]
 have e2 : (2 : Nat) ^ 64 = 2 ^ (8 * (p % 8 + 1)) * 2 ^ (64 - 8 * (p % 8 + 1)) := by rw [← Nat.pow_add]; congr 1; omega
 rw [e2, Nat.mul_comm m, Nat.mul_mod_mul_left]
 exact ⟨_, rfl⟩
theorem lim0 : lim 0 = Vector.replicate 4 0#64 := by
 apply vec4_ext <;> simp [lim]
theorem take_at {l : List (BitVec 8)} {i : Nat} (h : i < l.length) : ∃ x, l[i]? = some x ∧ l.take (i + 1) = l.take i ++ [x] := by
 refine ⟨l[i], List.getElem?_eq_getElem h, ?_⟩
 rw [List.take_add_one, List.getElem?_eq_getElem h]; rfl
theorem get_loop (l : List (BitVec 8)) (hl : l.length ≤ 32) : ∀ (d i k : Nat), i + d = l.length → d < k → u256_Get.l1 l k i (lim (beV (l.take i) * 256 ^ d)) = some (lim (beV l))
 | 0, i, k, h, hk => by
  obtain ⟨k, rfl⟩ : ∃ m, k = m + 1 := ⟨k - 1, by omega⟩
  rw [u256_Get.l1, if_neg (by omega), List.take_of_length_le (by omega), Nat.pow_zero, Nat.mul_one]
 | d + 1, i, k, h, hk => by
  obtain ⟨k, rfl⟩ : ∃ m, k = m + 1 := ⟨k - 1, by omega⟩
  obtain ⟨x, hx, ht⟩ := take_at (l := l) (i := i) (by omega)
  have hp : l.length - 1 - i = d := by omega
  have hd : d / 8 < 4 := by omega
  have hr : d % 8 < 8 := Nat.mod_lt _ (by omega)
  rw [u256_Get.l1, if_pos (by omega), if_pos (by omega), if_pos (by omega), hp, if_pos hd, vget _ _ hd, Zb, hx, Zb]
  obtain ⟨a, ha⟩ := lim_mult (beV (l.take i)) d hd
  have hxl := x.isLt
  rw [or_low _ _ _ a ha (by
   rw [shl_toNat x _ hr, Nat.mul_add, Nat.pow_add, Nat.mul_comm]
   exact Nat.mul_lt_mul_of_pos_left (by omega) (Nat.two_pow_pos _)), set_byte _ _ _ hd, ← beV_snoc, ← ht]
  exact get_loop l hl d (i + 1) k (by omega) (by omega)
theorem rget_loop (l : List (BitVec 8)) (hl : l.length ≤ 32) : ∀ (d i k : Nat), i + d = l.length → d < k → waybillref01_Get.l1 l k i (lim (beV (l.take i) * 256 ^ d)) = some (lim (beV l))
 | 0, i, k, h, hk => by
  obtain ⟨k, rfl⟩ : ∃ m, k = m + 1 := ⟨k - 1, by omega⟩
  rw [waybillref01_Get.l1, if_neg (by omega), List.take_of_length_le (by omega), Nat.pow_zero, Nat.mul_one]
 | d + 1, i, k, h, hk => by
  obtain ⟨k, rfl⟩ : ∃ m, k = m + 1 := ⟨k - 1, by omega⟩
  obtain ⟨x, hx, ht⟩ := take_at (l := l) (i := i) (by omega)
  have hp : l.length - 1 - i = d := by omega
  have hd : d / 8 < 4 := by omega
  have hr : d % 8 < 8 := Nat.mod_lt _ (by omega)
  have e : (BitVec.ofNat 64 (8 * (d % 8))).toNat = 8 * (d % 8) := by rw [BitVec.toNat_ofNat]; omega
  rw [waybillref01_Get.l1, if_pos (by omega), if_pos (by omega), if_pos (by omega), hp, if_pos hd, vget _ _ hd, Zb, hx, Zb, e, set_byte _ _ _ hd, ← beV_snoc, ← ht]
  exact rget_loop l hl d (i + 1) k (by omega) (by omega)
theorem get_eq (l : List (BitVec 8)) (hl : l.length ≤ 32) : u256_Get l = some (lim (beV l), 0) := by
 have h := get_loop l hl l.length 0 (l.length - 0 + 2) (by omega) (by omega)
 rw [List.take_zero, show beV [] = 0 by rfl, Nat.zero_mul, lim0] at h
 unfold u256_Get
 rw [if_neg (by omega), h, Zb]
theorem rget_eq (l : List (BitVec 8)) (hl : l.length ≤ 32) : waybillref01_Get l = some (lim (beV l), 0) := by
 have h := rget_loop l hl l.length 0 (l.length - 0 + 2) (by omega) (by omega)
 rw [List.take_zero, show beV [] = 0 by rfl, Nat.zero_mul, lim0] at h
 unfold waybillref01_Get
 rw [if_neg (by omega), h, Zb]
theorem beV_from (l : List (BitVec 8)) : ∀ n, l.foldl (fun n x => n * 256 + x.toNat) n = n * 256 ^ l.length + beV l := by
 induction l with
 | nil => intro n; simp [beV]
 | cons x r ih =>
  intro n
  unfold beV
  rw [List.foldl_cons, List.foldl_cons, ih, ih (0 * 256 + x.toNat), List.length_cons, Nat.pow_succ, Nat.add_mul, Nat.add_mul, Nat.zero_mul]
  have e : n * 256 * 256 ^ r.length = n * (256 ^ r.length * 256) := by rw [Nat.mul_assoc, Nat.mul_comm 256]
  omega
theorem beV_append (a b : List (BitVec 8)) : beV (a ++ b) = beV a * 256 ^ b.length + beV b := by
 rw [beV, List.foldl_append, beV_from]; rfl
theorem beV_lt (l : List (BitVec 8)) : beV l < 256 ^ l.length := by
 induction l with
 | nil => simp [beV]
 | cons x r ih =>
  have hx := x.isLt
  have h := beV_append [x] r
  rw [List.singleton_append] at h
  rw [h, List.length_cons, Nat.pow_succ, Nat.mul_comm (256 ^ r.length)]
  have h1 : beV [x] = x.toNat := by simp [beV]
  rw [h1]
  have h2 : x.toNat * 256 ^ r.length + 256 ^ r.length ≤ 256 * 256 ^ r.length := by
   rw [← Nat.succ_mul]; exact Nat.mul_le_mul_right _ (by omega)
  omega
end Go.Fw
namespace Go.Fw
def small (s : List (BitVec 8)) (h : Nat) : Bool := match s[h]? with
 | some x => decide (x.toNat < 128)
 | none => false
def finS (s : List (BitVec 8)) (list : Bool) (h n : Nat) : Nat × Bool × Nat × Nat :=
 if s.length - h < n then (70, false, 0, 0) else if list = false ∧ n = 1 ∧ small s h = true then (71, false, 0, 0) else (0, list, h, n)
def cutS (s : List (BitVec 8)) : Nat × Bool × Nat × Nat := match s[0]? with
 | none => (70, false, 0, 0)
 | some c => if c.toNat < 128 then (0, false, 0, 1) else
  if 55 < c.toNat % 64 then
   (if s.length - 1 < c.toNat % 64 - 55 then (70, false, 0, 0) else
    if s[1]? = some 0#8 ∨ beV ((s.drop 1).take (c.toNat % 64 - 55)) ≤ 55 then (72, false, 0, 0) else
     if s.length - 1 - (c.toNat % 64 - 55) < beV ((s.drop 1).take (c.toNat % 64 - 55)) then (70, false, 0, 0) else
      finS s (decide (192 ≤ c.toNat)) (1 + (c.toNat % 64 - 55)) (beV ((s.drop 1).take (c.toNat % 64 - 55))))
  else finS s (decide (192 ≤ c.toNat)) 1 (c.toNat % 64)
theorem pow8 : 256 ^ 8 = 2 ^ 64 := by decide
theorem beV_small {l : List (BitVec 8)} {k : Nat} (h : l.length ≤ k) (hk : k ≤ 8) : beV l < 2 ^ 64 := by
 have h1 := beV_lt l
 have h2 : 256 ^ l.length ≤ 256 ^ 8 := Nat.pow_le_pow_right (by omega) (by omega)
 have := pow8
 omega
theorem val4_lim' {n : Nat} (h : n < 2 ^ 64) : val4 (lim n) = n := val4_lim n (Nat.lt_trans h (by decide))
theorem lim0_toNat {n : Nat} (h : n < 2 ^ 64) : ((lim n)[0]).toNat = n := by
 rw [lim_get n 0 (by omega), BitVec.toNat_ofNat, Nat.mul_zero, Nat.pow_zero, Nat.div_one, Nat.mod_eq_of_lt h]
theorem cmpN_le (a b : Nat) : cmpN a b ≤ 0 ↔ a ≤ b := by unfold cmpN; split <;> (try split) <;> omega
theorem cmpN_lt (a b : Nat) : cmpN a b < 0 ↔ a < b := by unfold cmpN; split <;> (try split) <;> omega
theorem cmpN_gt (a b : Nat) : 0 < cmpN a b ↔ b < a := by unfold cmpN; split <;> (try split) <;> omega
theorem cmp_of {v n : Nat} (hv : v < 2 ^ 64) (hn : n < 2 ^ 64) : u256_Cmp (lim v) (lim (BitVec.ofNat 64 n).toNat) = some (cmpN v n) := by
 rw [cmp_eq, val4_lim' hv, BitVec.toNat_ofNat, Nat.mod_eq_of_lt hn, val4_lim' hn]
theorem rcmp_of {v n : Nat} (hv : v < 2 ^ 64) (hn : n < 2 ^ 64) : waybillref01_Cmp (lim v) (lim (BitVec.ofNat 64 n).toNat) = some (cmpN v n) := by
 rw [rcmp_eq, val4_lim' hv, BitVec.toNat_ofNat, Nat.mod_eq_of_lt hn, val4_lim' hn]
def cutR (s : List (BitVec 8)) : Option (Bool × List (BitVec 8) × List (BitVec 8) × Nat) :=
 match cutS s with
 | (e, l, h, n) => if e = 0 then some (l, (s.drop h).take n, s.drop (h + n), 0) else some (false, [], [], e)
theorem get0 {s : List (BitVec 8)} {i : Nat} (h : i < s.length) : s[i]? = some (s[i]) := List.getElem?_eq_getElem h
theorem cut_fin (s : List (BitVec 8)) (c : BitVec 8) (hc : ¬ c.toNat < 128) (h n : Nat) (hh : h ≤ s.length) :
  (if (s.drop h).length < n then (some (false, ([] : List (BitVec 8)), ([] : List (BitVec 8)), 70)) else (((if 192 ≤ c.toNat then (some (false)) else (if n = 1 then ((s.drop h)[0]?).bind fun x56 => (some ((decide (x56.toNat < 128)))) else (some (false)))) : Option ((Bool))).bind fun p42 => (if p42 = true then (some (false, ([] : List (BitVec 8)), ([] : List (BitVec 8)), 71)) else (if n ≤ (s.drop h).length then (some ((decide (192 ≤ c.toNat)), ((s.drop h).take n), ((s.drop h).drop n), 0)) else none)))) =
  (match finS s (decide (192 ≤ c.toNat)) h n with
  | (e, l, h, n) => if e = 0 then some (l, (s.drop h).take n, s.drop (h + n), 0) else some (false, [], [], e)) := by
 unfold finS
 rw [List.length_drop]
 by_cases h1 : s.length - h < n
 ·rw [if_pos h1, if_pos h1]; rfl
 rw [if_neg h1, if_neg h1]
 by_cases h2 : 192 ≤ c.toNat
 ·rw [if_pos h2, Zb, if_neg (by simp), if_pos (by omega), if_neg (by simp [h2])]
  simp [h2, List.drop_drop]
 ·rw [if_neg h2]
  by_cases h3 : n = 1
  ·subst h3
   have hlt : h < s.length := by omega
   rw [if_pos rfl, List.getElem?_drop, Nat.add_zero, get0 hlt, Zb, Zb]
   by_cases h4 : (s[h]).toNat < 128
   ·rw [if_pos (by simpa using h4), if_pos ⟨by simp [h2], rfl, by simp [small, get0 hlt, h4]⟩]; rfl
   ·rw [if_neg (by simpa using h4), if_pos (by omega), if_neg (by simp [small, get0 hlt, h4])]
    simp [h2, List.drop_drop]
  ·rw [if_neg h3, Zb, if_neg (by simp), if_pos (by omega), if_neg (by simp [h3])]
   simp [h2, List.drop_drop]
theorem cut_eq (s : List (BitVec 8)) (hs : s.length ≤ 140737488355328) : rlp_cut s = cutR s := by
 unfold rlp_cut cutR cutS
 by_cases h0 : s.length = 0
 ·rw [if_pos h0, List.getElem?_eq_none (by omega)]; rfl
 rw [if_neg h0, get0 (by omega : 0 < s.length), Zb]
 generalize hc : s[0] = c
 have hcl := c.isLt
 simp only []
 by_cases h1 : c.toNat < 128
 ·rw [if_pos h1, if_pos h1, if_pos (by omega)]; simp
 rw [if_neg h1, if_neg h1]
 have hn0 : (if 192 ≤ c.toNat then (some ((c - 192#8).toNat)) else (some ((c - 128#8).toNat))) = some (c.toNat % 64) := by
  by_cases h2 : 192 ≤ c.toNat
  ·rw [if_pos h2, BitVec.toNat_sub]; congr 1; simp; omega
  ·rw [if_neg h2, BitVec.toNat_sub]; congr 1; simp; omega
 rw [hn0, Zb, if_pos (by omega)]
 by_cases h3 : 55 < c.toNat % 64
 ·rw [if_pos h3, if_pos h3]
  generalize hk : c.toNat % 64 - 55 = k
  have hk8 : k ≤ 8 := by omega
  rw [List.length_drop]
  by_cases h4 : s.length - 1 < k
  ·rw [if_pos h4, if_pos h4]; rfl
  rw [if_neg h4, if_neg h4, if_pos (by omega)]
  have hlen : ((s.drop 1).take k).length = k := by rw [List.length_take, List.length_drop]; omega
  have hv := beV_small (l := (s.drop 1).take k) (k := k) (by omega) hk8
  rw [get_eq _ (by omega), Zb]
  generalize hV : beV ((s.drop 1).take k) = v at hv
  have h1k : (s.drop 1)[0]? = some s[1] := by rw [List.getElem?_drop]; exact get0 (by omega)
  rw [h1k, Zb, get0 (by omega : 1 < s.length)]
  by_cases h5 : s[1] = 0#8
  ·rw [if_pos h5, Zb, if_pos rfl, if_pos (show some s[1] = some 0#8 ∨ v ≤ 55 from .inl (by rw [h5]))]; rfl
  rw [if_neg h5, show (55#64 : BitVec 64) = BitVec.ofNat 64 55 by rfl, from_eq, Zb, cmp_of hv (by decide), Zb, Zb]
  by_cases h6 : v ≤ 55
  ·rw [if_pos (by simpa using (cmpN_le v 55).2 h6), if_pos (show some s[1] = some 0#8 ∨ v ≤ 55 from .inr h6)]; rfl
  rw [if_neg (by simpa using fun h => h6 ((cmpN_le v 55).1 h)), if_neg (show ¬ (some s[1] = some 0#8 ∨ v ≤ 55) by rintro (h | h); exact h5 (by simpa using h); exact h6 h)]
  rw [from_eq, Zb, List.length_drop, List.length_drop, cmp_of hv (by omega), Zb]
  by_cases h7 : s.length - 1 - k < v
  ·rw [if_pos ((cmpN_gt _ _).2 h7), if_pos h7]; rfl
  rw [if_neg (fun h => h7 ((cmpN_gt _ _).1 h)), if_neg h7, lim0_toNat hv, if_pos (by omega), Zb]
  simp only []
  rw [List.drop_drop]
  exact cut_fin s c h1 (1 + k) v (by omega)
 ·rw [if_neg h3, if_neg h3, Zb]
  exact cut_fin s c h1 1 _ (by omega)
end Go.Fw
namespace Go.Fw
def btw (b : List (BitVec 8)) (p q : Nat) : List (BitVec 8) := (b.take q).drop p
theorem btw_length {b : List (BitVec 8)} {p q : Nat} (h : q ≤ b.length) : (btw b p q).length = q - p := by
 unfold btw; rw [List.length_drop, List.length_take]; omega
theorem btw_get {b : List (BitVec 8)} {p q i : Nat} (h : p + i < q) : (btw b p q)[i]? = b[p + i]? := by
 unfold btw; rw [List.getElem?_drop, List.getElem?_take, if_pos h]
theorem btw_sub {b : List (BitVec 8)} {p q i k : Nat} (h : p + i + k ≤ q) : ((btw b p q).drop i).take k = (b.take (p + i + k)).drop (p + i) := by
 unfold btw
 rw [List.drop_drop, List.take_drop, List.take_take]
 congr 2
 omega
def headR (s : List (BitVec 8)) (p : Nat) : Option (Hd × Nat) := match cutS s with
 | (e, l, h, n) => if e = 0 then some (Hd.mk l (p + h) (p + h + n), 0) else some (Hd.mk false 0 0, e)
theorem head_fin (b : List (BitVec 8)) (p q : Nat) (hq : q ≤ b.length) (hb : b.length ≤ 140737488355328) (l : Bool) (h n : Nat) (hn : n < 2 ^ 62) (hh : p + h ≤ q) :
  (if (((q : Nat) : Int) - (((p + h) : Nat) : Int)) < ((n : Nat) : Int) then (some ((Hd.mk false 0 0), 70)) else (if ((p + h) + n) ≤ 9223372036854775807 then (((if l = true then (some (false)) else (if n = 1 then (b[(p + h)]?).bind fun x42 => (some ((decide (x42.toNat < 128)))) else (some (false)))) : Option ((Bool))).bind fun p31 => (if p31 = true then (some ((Hd.mk false 0 0), 71)) else (some ((Hd.mk (l) (p + h) ((p + h) + n)), 0)))) else none)) =
  (match finS (btw b p q) l h n with
  | (e, l, h, n) => if e = 0 then some (Hd.mk l (p + h) (p + h + n), 0) else some (Hd.mk false 0 0, e)) := by
 unfold finS
 rw [btw_length hq]
 by_cases h1 : q - p - h < n
 ·rw [if_pos (by omega), if_pos h1]; rfl
 rw [if_neg (by omega), if_neg h1, if_pos (by omega)]
 by_cases h2 : l = true
 ·rw [if_pos h2, Zb, if_neg (by simp), if_neg (show ¬ (l = false ∧ n = 1 ∧ small (btw b p q) h = true) by simp [h2])]; rfl
 ·rw [if_neg h2]
  have hlf : l = false := by simpa using h2
  by_cases h3 : n = 1
  ·subst h3
   have hlt : p + h < b.length := by omega
   rw [if_pos rfl, get0 hlt, Zb, Zb]
   have hsm : small (btw b p q) h = decide ((b[p + h]).toNat < 128) := by unfold small; rw [btw_get (by omega), get0 hlt]
   by_cases h4 : (b[p + h]).toNat < 128
   ·rw [if_pos (by simpa using h4), if_pos (show l = false ∧ 1 = 1 ∧ small (btw b p q) h = true from ⟨hlf, rfl, by rw [hsm]; simpa using h4⟩)]; rfl
   ·rw [if_neg (by simpa using h4), if_neg (show ¬ (l = false ∧ 1 = 1 ∧ small (btw b p q) h = true) by rw [hsm]; simp [h4])]; rfl
  ·rw [if_neg h3, Zb, if_neg (by simp), if_neg (show ¬ (l = false ∧ n = 1 ∧ small (btw b p q) h = true) by simp [h3])]; rfl
theorem head_eq (b : List (BitVec 8)) (p q : Nat) (hp : p ≤ q) (hq : q ≤ b.length) (hb : b.length ≤ 140737488355328) : waybillref07_head b p q = headR (btw b p q) p := by
 unfold waybillref07_head headR cutS
 have hlen := btw_length (p := p) hq
 by_cases h0 : q ≤ p
 ·rw [if_pos h0, List.getElem?_eq_none (by omega)]; rfl
 have g0 : (btw b p q)[0]? = some (b[p]'(by omega)) := by rw [btw_get (by omega)]; exact get0 (by omega : p < b.length)
 rw [if_neg h0, get0 (by omega : p < b.length), Zb, g0]
 generalize hc : b[p] = c
 have hcl := c.isLt
 simp only []
 by_cases h1 : c.toNat < 128
 ·rw [if_pos h1, if_pos h1]; simp
 rw [if_neg h1, if_neg h1]
 by_cases h3 : 55 < c.toNat % 64
 ·rw [if_pos h3, if_pos h3]
  generalize hk : c.toNat % 64 - 55 = k
  have hk8 : k ≤ 8 := by omega
  rw [hlen]
  by_cases h4 : q - p - 1 < k
  ·rw [if_pos (by omega), if_pos h4]; rfl
  rw [if_neg (by omega), if_neg h4, if_pos (by omega), if_pos (by omega), if_pos (by omega)]
  rw [← btw_sub (b := b) (p := p) (q := q) (i := 1) (k := k) (by omega)]
  have hl2 : (((btw b p q).drop 1).take k).length = k := by rw [List.length_take, List.length_drop, hlen]; omega
  have hv := beV_small (l := ((btw b p q).drop 1).take k) (k := k) (by omega) hk8
  rw [rget_eq _ (by omega), Zb]
  generalize hV : beV (((btw b p q).drop 1).take k) = v at hv
  rw [get0 (by omega : p + 1 < b.length), Zb, btw_get (by omega), get0 (by omega : p + 1 < b.length)]
  by_cases h5 : b[p + 1] = 0#8
  ·rw [if_pos h5, Zb, if_pos rfl, if_pos (show some b[p + 1] = some 0#8 ∨ v ≤ 55 from .inl (by rw [h5]))]; rfl
  rw [if_neg h5, show (56#64 : BitVec 64) = BitVec.ofNat 64 56 by rfl, rfrom_eq, Zb, rcmp_of hv (by decide), Zb, Zb]
  by_cases h6 : v ≤ 55
  ·rw [if_pos (by simpa using (cmpN_lt v 56).2 (by omega)), if_pos (show some b[p + 1] = some 0#8 ∨ v ≤ 55 from .inr h6)]; rfl
  rw [if_neg (show ¬ decide (cmpN v 56 < 0) = true by rw [decide_eq_true_eq]; exact fun h => h6 (by have := (cmpN_lt v 56).1 h; omega)), if_neg (show ¬ (some b[p + 1] = some 0#8 ∨ v ≤ 55) by rintro (h | h); exact h5 (by simpa using h); exact h6 h)]
  have e : BitVec.ofInt 64 (((q : Nat) : Int) - (((p + 1 + k) : Nat) : Int)) = BitVec.ofNat 64 (q - p - 1 - k) := by
   rw [show ((q : Nat) : Int) - (((p + 1 + k) : Nat) : Int) = ((q - p - 1 - k : Nat) : Int) by omega]
   exact BitVec.ofInt_natCast ..
  rw [e, rfrom_eq, Zb, rcmp_of hv (by omega), Zb]
  by_cases h7 : q - p - 1 - k < v
  ·rw [if_pos ((cmpN_gt _ _).2 h7), if_pos h7]; rfl
  rw [if_neg (fun h => h7 ((cmpN_gt _ _).1 h)), if_neg h7, lim0_toNat hv, if_pos (by omega), Zb]
  simp only []
  rw [Nat.add_assoc p 1 k]
  exact head_fin b p q hq hb (decide (192 ≤ c.toNat)) (1 + k) v (by omega) (by omega)
 ·rw [if_neg h3, if_neg h3, Zb]
  exact head_fin b p q hq hb (decide (192 ≤ c.toNat)) 1 _ (by omega) (by omega)
end Go.Fw
namespace Go.Fw
theorem btw_all (b : List (BitVec 8)) : btw b 0 b.length = b := by simp [btw]
theorem cutS_in {s : List (BitVec 8)} {l : Bool} {h n : Nat} (e : cutS s = (0, l, h, n)) : h + n ≤ s.length ∧ 0 < h + n := by
 have fin : ∀ l' h' n', finS s l' h' n' = (0, l, h, n) → 0 < h' → h' ≤ s.length → h + n ≤ s.length ∧ 0 < h + n := by
  intro l' h' n' e hp hle
  unfold finS at e
  split at e
  ·cases e
  split at e
  ·cases e
  ·cases e; omega
 unfold cutS at e
 split at e
 ·cases e
 ·rename_i c hc
  have hlt := (List.getElem?_eq_some_iff.1 hc).1
  split at e
  ·cases e; omega
  split at e
  ·split at e
   ·cases e
   split at e
   ·cases e
   split at e
   ·cases e
   ·exact fin _ _ _ e (by omega) (by omega)
  ·exact fin _ _ _ e (by omega) (by omega)
end Go.Fw
namespace Go.Fw
def headB (c n : Nat) : List (BitVec 8) := if n ≤ 55 then [BitVec.ofNat 8 (c + n)] else BitVec.ofNat 8 (c + 55 + nb n) :: bytesN n
theorem Z160 (n : Nat) : (bytesN n).length = nb n := be_length _ _
theorem nb_8 {n : Nat} (h : n < 2 ^ 64) : nb n ≤ 8 := by have := bl_le (k := 64) h; unfold nb; omega
theorem headB_length {c n : Nat} (h : n < 2 ^ 64) : (headB c n).length ≤ 9 ∧ 0 < (headB c n).length := by
 unfold headB
 split
 ·simp
 ·rw [List.length_cons, Z160]; have := nb_8 h; omega
end Go.Fw
namespace Go.Fw
mutual
def It.wt : It → Nat
 | .mk _ d its => d.length + its.length + 1 + Its.wt its
def Its.wt : List It → Nat
 | [] => 0
 | x :: xs => It.wt x + Its.wt xs
end
theorem It.wt_eq (x : It) : x.wt = x.data.length + x.items.length + 1 + Its.wt x.items := by cases x; simp [It.wt, It.data, It.items]
theorem It.sz_eq (x : It) : x.sz = 1 + Its.sz x.items := by cases x; simp [It.sz, It.items]
theorem Its.wt_mem : ∀ {l : List It} {x : It}, x ∈ l → It.wt x ≤ Its.wt l
 | y :: l, x, hx => by
  simp only [Its.wt]
  rcases List.mem_cons.1 hx with rfl | hx
  ·omega
  ·have := Its.wt_mem hx; omega
theorem Its.sz_mem : ∀ {l : List It} {x : It}, x ∈ l → It.sz x ≤ Its.sz l
 | y :: l, x, hx => by
  simp only [Its.sz]
  rcases List.mem_cons.1 hx with rfl | hx
  ·omega
  ·have := Its.sz_mem hx; omega
end Go.Fw
namespace Go.Fw
theorem Its.len_wt : ∀ l : List It, l.length ≤ Its.wt l
 | [] => by simp
 | x :: l => by
  have := Its.len_wt l
  have := It.wt_eq x
  simp only [Its.wt, List.length_cons]; omega
theorem Its.wt_items {l : List It} {x : It} (h : x ∈ l) : Its.wt x.items ≤ Its.wt l := by
 have := Its.wt_mem h
 have := It.wt_eq x
 omega
theorem Its.sz_items {l : List It} {x : It} (h : x ∈ l) : Its.sz x.items < Its.sz l := by
 have := Its.sz_mem h
 have := It.sz_eq x
 omega
theorem twin_loop (a : List It) (rc : List It → Option (List It)) (ha : a.length ≤ 2147483647) (hrc : ∀ x ∈ a, rc x.items = some x.items) : ∀ (d i k : Nat) (l : List It), i + d = a.length → d < k → l = a.take i → rlp_twin.l1 a rc k l i = some a
 | 0, i, k, l, h, hk, hl => by
  obtain ⟨k, rfl⟩ : ∃ m, k = m + 1 := ⟨k - 1, by omega⟩
  rw [rlp_twin.l1, if_neg (by omega), hl, List.take_of_length_le (by omega)]
 | d + 1, i, k, l, h, hk, hl => by
  obtain ⟨k, rfl⟩ : ∃ m, k = m + 1 := ⟨k - 1, by omega⟩
  have h1 : i < a.length := by omega
  have h5 : l.length = i := by rw [hl, List.length_take]; omega
  rw [rlp_twin.l1, if_pos h1, List.getElem?_eq_getElem h1, Zb, rlp_clone, Zb, hrc _ (List.getElem_mem h1), Zb, if_pos (by simp only [List.length_cons, List.length_nil]; omega), ← It.eta]
  exact twin_loop a rc ha hrc d (i + 1) k _ (by omega) (by omega) (by rw [List.take_add_one, List.getElem?_eq_getElem h1, hl]; rfl)
theorem twin_r : ∀ (k : Nat) (a : List It), Its.sz a < k → Its.wt a ≤ 2147483647 → rlp_twin.r k a = some a
 | 0, a, h, _ => by omega
 | k + 1, a, h, hw => by
  rw [rlp_twin.r, twin_loop a _ (by have := Its.len_wt a; omega) (fun x hx => twin_r k x.items (by have := Its.sz_items hx; omega) (by have := Its.wt_items hx; omega)) a.length 0 _ _ (by omega) (by omega) (by simp), Zb]
theorem twin_eq {a : List It} (h : Its.wt a ≤ 2147483647) : rlp_twin a = some a := twin_r _ a (by omega) h
theorem text_eq (x : List (BitVec 8)) : rlp_Text x = some (.mk false x []) := by unfold rlp_Text; rw [rlp_clone, Zb]
end Go.Fw
