/- Part of a proof: rules that its law uses. -/
import Derived.Test.YtdmnfcjekomaiaaDoorT3
set_option linter.unusedVariables false
set_option linter.unusedSimpArgs false
set_option linter.unusedSectionVars false
set_option maxRecDepth 100000
set_option maxHeartbeats 1000000
namespace Go.Fw.Tryd
open Go Go.Proofs Go.Fw
theorem u256_From_does (w0 : World) (Φ : Ctx) (N : List Ent) (hΦ : ∀ w, Mem w0 w N → Φ w) (a0 : BitVec 64) (res0 : Vector (BitVec 64) 4) (hf : u256_From a0 = some res0) : DoesG Tryd.prog 104 [U64 a0] w0 [] N (fun v G => v = .agg (u64s res0.toList).toArray) := by
 unfold u256_From at hf
 refine DoesG.enter Tryd.func104 rfl Tryd.ntmps104 rfl (M := (([] ++ N))) rfl (Z4 (Z2 (OW.alloc (l := (u64s (Vector.replicate 4 0#64).toList)) rfl (by rw [Vector.toList_replicate, ← Z116]; rfl) rfl (fun b1 => (Z6 (Z1 (Z4 (Z2 (Z0 (Z3 rfl) rfl ?_)))))))))
 refine Z0 (RV.buildA (l := (u64s (Vector.replicate 4 0#64).toList)) (cs := (u64s ((Vector.replicate 4 0#64).setIfInBounds 0 a0).toList)) rfl rfl rfl (by rw [Vector.toList_replicate, ← Z116]; rfl) rfl rfl (by simp only [setL, List.foldl, ← vset, Vector.toList_replicate, ← u64s_set'] <;> rfl)) rfl ?_
 refine Z28 (Z105 rfl rfl rfl (Z115 _) rfl ((Z101 _).trans Zv) ((Z101 _).trans Zv)) (Z6 (Z1 (CW.ret ?_)))
 have e0 := Zi hf
 subst e0
 refine Z106 (rs := [.cell 2 35]) ([.agg (u64s ((Vector.replicate 4 0#64).setIfInBounds 0 a0).toList).toArray]) ((some b1, blk (u64s ((Vector.replicate 4 0#64).setIfInBounds 0 a0).toList) 35) :: []) rfl ?_ rfl ?_ ?_ _ (.inl rfl)
 ·exact ⟨⟨_, _, _, _, rfl, Zh, rfl, rfl, (congrArg some ((Z101 _).trans Zv).symm), rfl⟩, trivial⟩
 ·exact rfl
 ·exact (fun w m => m)
theorem waybillref01_From_does (w0 : World) (Φ : Ctx) (N : List Ent) (hΦ : ∀ w, Mem w0 w N → Φ w) (a0 : BitVec 64) (res0 : Vector (BitVec 64) 4) (hf : waybillref01_From a0 = some res0) : DoesG Tryd.prog 94 [U64 a0] w0 [] N (fun v G => v = .agg (u64s res0.toList).toArray) := by
 unfold waybillref01_From at hf
 refine DoesG.enter Tryd.func94 rfl Tryd.ntmps94 rfl (M := (([] ++ N))) rfl (Z4 (Z2 (OW.alloc (l := (u64s (Vector.replicate 4 0#64).toList)) rfl (by rw [Vector.toList_replicate, ← Z116]; rfl) rfl (fun b1 => (Z6 (Z1 (Z4 (Z2 (Z0 (Z3 rfl) rfl ?_)))))))))
 refine Z0 (RV.buildA (l := (u64s (Vector.replicate 4 0#64).toList)) (cs := (u64s (((((Vector.replicate 4 0#64).setIfInBounds 0 a0).setIfInBounds 1 (0#64)).setIfInBounds 2 (0#64)).setIfInBounds 3 (0#64)).toList)) rfl rfl rfl (by rw [Vector.toList_replicate, ← Z116]; rfl) rfl rfl (by simp only [setL, List.foldl, ← vset, Vector.toList_replicate, ← u64s_set'] <;> rfl)) rfl ?_
 refine Z28 (Z105 rfl rfl rfl (Z115 _) rfl ((Z101 _).trans Zv) ((Z101 _).trans Zv)) (Z6 (Z1 (CW.ret ?_)))
 have e0 := Zi hf
 subst e0
 refine Z106 (rs := [.cell 2 35]) ([.agg (u64s (((((Vector.replicate 4 0#64).setIfInBounds 0 a0).setIfInBounds 1 (0#64)).setIfInBounds 2 (0#64)).setIfInBounds 3 (0#64)).toList).toArray]) ((some b1, blk (u64s (((((Vector.replicate 4 0#64).setIfInBounds 0 a0).setIfInBounds 1 (0#64)).setIfInBounds 2 (0#64)).setIfInBounds 3 (0#64)).toList) 35) :: []) rfl ?_ rfl ?_ ?_ _ (.inl rfl)
 ·exact ⟨⟨_, _, _, _, rfl, Zh, rfl, rfl, (congrArg some ((Z101 _).trans Zv).symm), rfl⟩, trivial⟩
 ·exact rfl
 ·exact (fun w m => m)
theorem rlp_clone_does (w0 : World) (Φ : Ctx) (N : List Ent) (hΦ : ∀ w, Mem w0 w N → Φ w) (A0_ : Option Addr) (c0_ : Nat) (a0 : List (BitVec 8)) (res0 : List (BitVec 8)) (va0 : View Φ A0_ a0.length c0_ 1 (u8s a0)) (hf : rlp_clone a0 = some res0) : DoesG Tryd.prog 77 [.slice A0_ a0.length c0_] w0 [] N (fun v G => ∃ B : List Ent, ∃ or0 : Option Nat, ∃ kr0 : Nat, ∃ rr0 : List Value, (OwnS or0 res0.length kr0 1 (u8s res0) rr0) ∧ v = sl or0 0 res0.length kr0 ∧ G = (or0, blk ((u8s res0) ++ rr0) 5) :: B) := by
 unfold rlp_clone at hf
 replace va0 := va0.mono (Ψ := More w0 Φ []) (fun w q => q.1)
 have m1 := va0.mx
 refine DoesG.enter Tryd.func77 rfl Tryd.ntmps77 rfl (M := (([] ++ N))) rfl (Z4 (Z2 (Z0 (Z5 rfl) rfl (Z6 (Z1 (Z4 (Z2 (Z0 (Z3 rfl) rfl (Z20 (M' := ((none, blk ((u8s ([] : List (BitVec 8))) ++ []) 5) :: ([] ++ N))) (fun w m => m.nil_ent _) (OW.appendOwn (s := 1) rfl rfl rfl rfl rfl rfl OwnS.nil (fun w m => va0.rd w (More.of hΦ 1 m rfl)) va0.n (Z123 _) (va0.zero (by decide)) (by decide) (by decide) (by first | omega | (simp only [i5, List.length_nil]; omega)) rfl rfl (a0.length) (u8s a0) (Nat.zero_add _) rfl (fun ob2 r3 c4 o5 => ?_)))))))))))
 have m6 := o5.mx
 refine Z0 (Z5 rfl) rfl (Z6 (Z1 (CW.ret ?_)))
 have e0 := Zi hf
 subst e0
 refine Z106 (rs := [.tmp 2]) ([sl ob2 0 a0.length c4]) ((ob2, blk ((u8s a0) ++ r3) 5) :: []) rfl ?_ rfl ?_ ?_ _ (.inl rfl)
 ·exact ⟨rfl, trivial⟩
 ·exact ⟨[], ob2, c4, r3, o5, rfl, rfl⟩
 ·exact (fun w m => m.pick [0] 1 rfl rfl)
theorem Z122 (w0 : World) (Φ : Ctx) (N : List Ent) (hΦ : ∀ w, Mem w0 w N → Φ w) (A0_ : Option Addr) (c0_ : Nat) (a0 : List (BitVec 8)) (res0 : List (BitVec 8)) (va0 : View Φ A0_ a0.length c0_ 1 (u8s a0)) (hf : waybillref07_bytes a0 = some res0) : DoesG Tryd.prog 41 [.slice A0_ a0.length c0_] w0 [] N (fun v G => ∃ B : List Ent, ∃ or0 : Option Nat, ∃ kr0 : Nat, ∃ rr0 : List Value, (OwnS or0 res0.length kr0 1 (u8s res0) rr0) ∧ v = sl or0 0 res0.length kr0 ∧ G = (or0, blk ((u8s res0) ++ rr0) 5) :: B) := by
 unfold waybillref07_bytes at hf
 replace va0 := va0.mono (Ψ := More w0 Φ []) (fun w q => q.1)
 have m1 := va0.mx
 refine DoesG.enter Tryd.func41 rfl Tryd.ntmps41 rfl (M := (([] ++ N))) rfl (Z4 (Z2 (Z0 (Z5 rfl) rfl (Z6 (Z1 (Z4 (Z2 (Z0 (Z5 rfl) rfl (Z6 (Z1 (Z4 (Z2 (Z0 (Z3 rfl) rfl (Z0 (Z3 rfl) rfl ?_))))))))))))))
 refine Z20 (M' := ((none, blk ((u8s ([] : List (BitVec 8))) ++ []) 5) :: ([] ++ N))) (fun w m => m.nil_ent _) (OW.appendOwn (s := 1) rfl rfl rfl rfl rfl rfl OwnS.nil (fun w m => va0.rd w (More.of hΦ 1 m rfl)) va0.n (Z123 _) (va0.zero (by decide)) (by decide) (by decide) (by first | omega | (simp only [i5, List.length_nil]; omega)) rfl rfl (a0.length) (u8s a0) (Nat.zero_add _) rfl (fun ob2 r3 c4 o5 => ?_))
 have m6 := o5.mx
 refine Z0 (Z5 rfl) rfl (Z6 (Z1 (CW.ret ?_)))
 have e0 := Zi hf
 subst e0
 refine Z106 (rs := [.tmp 2]) ([sl ob2 0 a0.length c4]) ((ob2, blk ((u8s a0) ++ r3) 5) :: []) rfl ?_ rfl ?_ ?_ _ (.inl rfl)
 ·exact ⟨rfl, trivial⟩
 ·exact ⟨[], ob2, c4, r3, o5, rfl, rfl⟩
 ·exact (fun w m => m.pick [0] 1 rfl rfl)
theorem rlp_Text_does (w0 : World) (Φ : Ctx) (N : List Ent) (hΦ : ∀ w, Mem w0 w N → Φ w) (A0_ : Option Addr) (c0_ : Nat) (a0 : List (BitVec 8)) (res0 : It) (va0 : View Φ A0_ a0.length c0_ 1 (u8s a0)) (hf : rlp_Text a0 = some res0) : DoesG Tryd.prog 80 [.slice A0_ a0.length c0_] w0 [] N (fun v G => ∃ B : List Ent, ∃ cr0 : List Value, (ItRd (More w0 Φ B) cr0 res0) ∧ v = .agg cr0.toArray ∧ G = B) := by
 unfold rlp_Text at hf
 replace va0 := va0.mono (Ψ := More w0 Φ []) (fun w q => q.1)
 have m1 := va0.mx
 refine DoesG.enter Tryd.func80 rfl Tryd.ntmps80 rfl (M := (([] ++ N))) rfl (Z4 (Z2 (OW.alloc (l := [.bool false, .slice none 0 0, .slice none 0 0]) rfl rfl rfl (fun b2 => (Z6 (Z1 (Z4 (Z2 (Z0 (Z3 rfl) rfl ?_)))))))))
 obtain ⟨x4, hx3, hf⟩ := Z103 hf
 refine Z12 Tryd.call77 rfl (rlp_clone_does w0 (More w0 Φ []) ((some b2, blk [.bool false, .slice none 0 0, .slice none 0 0] 25) :: ([] ++ N)) (fun w m => More.of hΦ 1 m rfl) A0_ c0_ a0 x4 va0 hx3) rfl rfl ?_
 rintro L10 M11 ⟨B5, ob6, c7, r8, o9, e12, e13⟩
 rw [e12, e13]
 clear e12 e13 L10 M11
 refine Z20 (M' := ((ob6, blk ((u8s x4) ++ r8) 5) :: (some b2, blk [.bool false, .slice none 0 0, .slice none 0 0] 25) :: ((B5 ++ []) ++ N))) (fun w m => by have h := Z119 (A := B5) m 1 1 rfl rfl; exact h) ?_
 have gq1 : ∀ w, More w0 Φ (B5 ++ []) w → More w0 Φ [] w := fun w q => More.mono (fun w m => (m).appR) q
 replace va0 := va0.mono gq1
 have m14 := o9.mx
 refine Z0 (Z109 (l := [.bool false, .slice none 0 0, .slice none 0 0]) (cs := [.bool false, sl ob6 0 x4.length c7, .slice none 0 0]) [(1, [sl ob6 0 x4.length c7])] rfl rfl rfl rfl rfl rfl rfl) rfl (OW.rot1 ?_)
 refine Z28 (Z105 rfl rfl rfl (by intro u hu; simp at hu; rcases hu with rfl | rfl | rfl <;> rfl) rfl rfl rfl) ?_
 refine Z6 (Z1 (CW.ret (QW.mem (M' := (some b2, blk [.bool false, sl ob6 0 x4.length c7, .slice none 0 0] 25) :: (((ob6, blk ((u8s x4) ++ r8) 5) :: (B5 ++ [])) ++ N)) (fun w m => m.pick [0, 1] 2 rfl rfl) ?_)))
 have gq2 : ∀ w, More w0 Φ ((ob6, blk ((u8s x4) ++ r8) 5) :: (B5 ++ [])) w → More w0 Φ (B5 ++ []) w := fun w q => More.mono (fun w m => (m).tail) q
 replace va0 := va0.mono gq2
 have v15 : View (More w0 Φ ((ob6, blk ((u8s x4) ++ r8) 5) :: (B5 ++ []))) ((ob6).map fun k => ⟨k, 0, none⟩) x4.length c7 1 (u8s x4) := o9.view (by decide) (fun w q => q.2.sublist (List.singleton_sublist.2 (List.mem_cons_self ..)))
 have e0 := Zi hf
 subst e0
 have v16 : View (More w0 Φ ((ob6, blk ((u8s x4) ++ r8) 5) :: (B5 ++ []))) none ([] : List (It)).length 0 3 [] := View.nil
 refine Z106 (rs := [.cell 2 25]) ([.agg [.bool false, .slice ((ob6).map fun k => ⟨k, 0, none⟩) x4.length c7, .slice none 0 0].toArray]) (((ob6, blk ((u8s x4) ++ r8) 5) :: (B5 ++ []))) rfl ?_ rfl ?_ ?_ _ (.inl rfl)
 ·exact ⟨⟨_, _, _, _, rfl, Zh, rfl, rfl, rfl, rfl⟩, trivial⟩
 ·exact ⟨((ob6, blk ((u8s x4) ++ r8) 5) :: (B5 ++ [])), [.bool false, .slice ((ob6).map fun k => ⟨k, 0, none⟩) x4.length c7, .slice none 0 0], (ItRd.mk v15 v16 (Reps.nil)), rfl, rfl⟩
 ·exact (fun w m => m.pick [] 1 rfl rfl)
theorem rlp_odd_does (w0 : World) (Φ : Ctx) (N : List Ent) (hΦ : ∀ w, Mem w0 w N → Φ w) (cs0_ : List Value) (a0 : It) (res0 : Bool) (ha0 : ItRd Φ cs0_ a0) (hf : rlp_odd a0 = some res0) : DoesG Tryd.prog 113 [.agg cs0_.toArray] w0 [] N (fun v G => v = .bool res0) := by
 unfold rlp_odd at hf
 replace ha0 := ItRd.mono (Ψ := More w0 Φ []) (fun w q => q.1) _ _ ha0
 have h10 := ha0
 obtain ⟨A1, c2, A4, c5, cs7, e9, v3, v6, h8⟩ := ItRd.opn ha0
 subst e9
 have m11 := v3.mx
 have m12 := v6.mx
 refine DoesG.enter Tryd.func113 rfl Tryd.ntmps113 rfl (M := (([] ++ N))) rfl (Z4 (Z2 (OW.boxA rfl rfl (fun b13 => (Z0 (Z5 rfl) rfl (Z6 (Z1 (Z4 ?_))))))))
 obtain ⟨q14, hq15, hf⟩ := Z103 hf
 refine Z120 (fun L' M' => ∃ p16 : Bool, q14 = p16 ∧ L' = [(2, .bool (p16))] ∧ M' = (([] ++ N))) ?_ ?_
 ·rintro L18 M19 ⟨p16, e17, e20, e21⟩
  rw [e20, e21]
  clear e20 e21 L18 M19
  clear hq15
  rw [e17] at hf
  clear e17
  try dsimp only at hf
  refine Z1 (CW.ret ?_)
  have e0 := Zi hf
  subst e0
  refine Z106 (rs := [.tmp 2]) ([.bool (p16)]) ([]) rfl ?_ rfl ?_ ?_ _ (.inl rfl)
  ·exact ⟨rfl, trivial⟩
  ·exact rfl
  ·exact (fun w m => m)
 ·skip
  refine Z2 (Z0 (Z30 rfl rfl rfl rfl) rfl (Z0 (Z29 rfl Zh rfl rfl rfl rfl) rfl (Z0 (Z3 rfl) rfl ?_)))
  by_cases h22 : a0.list = true
  ·replace hq15 := if_t hq15 h22
   refine Z7 (.bool true) (congrArg Value.bool (h22)) (Z24 rfl (Z0 (Z30 rfl rfl rfl rfl) rfl (Z24 rfl (Z0 (Z29 rfl Zh rfl rfl rfl rfl) rfl (Z24 rfl (Z0 (RV.len rfl rfl) rfl (Z24 rfl ?_)))))))
   refine Z0 (RV.gtr rfl rfl) rfl (Z7 (.bool (decide (0 < a0.data.length))) (congrArg Value.bool (decide_eq_decide.2 (by omega))) (Z0 (Z108 rfl rfl rfl) rfl (Z0 (Z3 rfl) rfl ?_)))
   by_cases h23 : 0 < a0.data.length
   ·replace hq15 := if_t hq15 h23
    refine Z7 (.bool true) (congrArg Value.bool (decide_eq_true h23)) (Z23 rfl rfl rfl (Z23 rfl rfl rfl (Z23 rfl rfl rfl (Z23 rfl rfl rfl (Z23 rfl rfl rfl (Z23 rfl rfl rfl (Z23 rfl rfl rfl ?_)))))))
    refine Z23 rfl rfl rfl (Z23 rfl rfl rfl (Z0 (Z108 rfl rfl rfl) rfl (Z0 (Z5 rfl) rfl (Z6 ?_))))
    exact QW.join ⟨true, (Zi hq15).symm, rfl, rfl⟩ ⟨rfl, trivial⟩ (fun w m => m.pick [] 1 rfl rfl)
   ·replace hq15 := if_f hq15 h23
    refine Z7 (.bool false) (congrArg Value.bool (decide_eq_false h23)) (Z24 rfl (Z0 (Z30 rfl rfl rfl rfl) rfl (Z24 rfl (Z0 (Z29 rfl Zh rfl rfl rfl rfl) rfl (Z24 rfl (Z0 (RV.not rfl) rfl (Z24 rfl ?_)))))))
    refine Z0 (Z3 rfl) rfl ?_
    by_cases h24 : a0.list = true
    ·replace hq15 := if_t hq15 h24
     refine Z7 (.bool false) (congrArg Value.bool (congrArg (fun b => !b) (h24))) (Z23 rfl rfl rfl (Z23 rfl rfl rfl (Z23 rfl rfl rfl (Z23 rfl rfl rfl (Z24 rfl (Z0 (Z110 rfl rfl rfl) rfl (Z0 (Z110 rfl rfl rfl) rfl ?_)))))))
     refine Z0 (Z5 rfl) rfl (Z6 ?_)
     exact QW.join ⟨false, (Zi hq15).symm, rfl, rfl⟩ ⟨rfl, trivial⟩ (fun w m => m.pick [] 1 rfl rfl)
    ·replace hq15 := if_f hq15 h24
     refine Z7 (.bool true) (congrArg Value.bool (congrArg (fun b => !b) (Bool.eq_false_iff.2 h24))) (Z24 rfl (Z0 (Z30 rfl rfl rfl rfl) rfl (Z24 rfl (Z0 (Z29 rfl Zh rfl rfl rfl rfl) rfl (Z24 rfl (Z0 (RV.len rfl rfl) rfl (Z24 rfl ?_)))))))
     refine Z0 (RV.gtr rfl rfl) rfl (Z7 (.bool (decide (0 < a0.items.length))) (congrArg Value.bool (decide_eq_decide.2 (by omega))) (Z24 rfl (Z0 (Z108 rfl rfl rfl) rfl (Z0 (Z110 rfl rfl rfl) rfl (Z0 (Z5 rfl) rfl (Z6 ?_))))))
     exact QW.join ⟨(decide (0 < a0.items.length)), (Zi hq15).symm, rfl, rfl⟩ ⟨rfl, trivial⟩ (fun w m => m.pick [] 1 rfl rfl)
  ·replace hq15 := if_f hq15 h22
   refine Z7 (.bool false) (congrArg Value.bool (Bool.eq_false_iff.2 h22)) (Z23 rfl rfl rfl (Z23 rfl rfl rfl (Z23 rfl rfl rfl (Z23 rfl rfl rfl (Z0 (Z110 rfl rfl rfl) rfl (Z0 (Z3 rfl) rfl (Z24 rfl ?_)))))))
   refine Z0 (Z30 rfl rfl rfl rfl) rfl (Z24 rfl (Z0 (Z29 rfl Zh rfl rfl rfl rfl) rfl (Z24 rfl (Z0 (RV.not rfl) rfl (Z24 rfl (Z0 (Z3 rfl) rfl ?_))))))
   by_cases h25 : a0.list = true
   ·replace hq15 := if_t hq15 h25
    refine Z7 (.bool false) (congrArg Value.bool (congrArg (fun b => !b) (h25))) (Z23 rfl rfl rfl (Z23 rfl rfl rfl (Z23 rfl rfl rfl (Z23 rfl rfl rfl (Z24 rfl (Z0 (Z110 rfl rfl rfl) rfl (Z0 (Z110 rfl rfl rfl) rfl ?_)))))))
    refine Z0 (Z5 rfl) rfl (Z6 ?_)
    exact QW.join ⟨false, (Zi hq15).symm, rfl, rfl⟩ ⟨rfl, trivial⟩ (fun w m => m.pick [] 1 rfl rfl)
   ·replace hq15 := if_f hq15 h25
    refine Z7 (.bool true) (congrArg Value.bool (congrArg (fun b => !b) (Bool.eq_false_iff.2 h25))) (Z24 rfl (Z0 (Z30 rfl rfl rfl rfl) rfl (Z24 rfl (Z0 (Z29 rfl Zh rfl rfl rfl rfl) rfl (Z24 rfl (Z0 (RV.len rfl rfl) rfl (Z24 rfl ?_)))))))
    refine Z0 (RV.gtr rfl rfl) rfl (Z7 (.bool (decide (0 < a0.items.length))) (congrArg Value.bool (decide_eq_decide.2 (by omega))) (Z24 rfl (Z0 (Z108 rfl rfl rfl) rfl (Z0 (Z110 rfl rfl rfl) rfl (Z0 (Z5 rfl) rfl (Z6 ?_))))))
    exact QW.join ⟨(decide (0 < a0.items.length)), (Zi hq15).symm, rfl, rfl⟩ ⟨rfl, trivial⟩ (fun w m => m.pick [] 1 rfl rfl)
theorem waybillref07_odd_does (w0 : World) (Φ : Ctx) (N : List Ent) (hΦ : ∀ w, Mem w0 w N → Φ w) (cs0_ : List Value) (a0 : It) (res0 : Bool) (ha0 : ItRd Φ cs0_ a0) (hf : waybillref07_odd a0 = some res0) : DoesG Tryd.prog 118 [.agg cs0_.toArray] w0 [] N (fun v G => v = .bool res0) := by
 unfold waybillref07_odd at hf
 replace ha0 := ItRd.mono (Ψ := More w0 Φ []) (fun w q => q.1) _ _ ha0
 have h10 := ha0
 obtain ⟨A1, c2, A4, c5, cs7, e9, v3, v6, h8⟩ := ItRd.opn ha0
 subst e9
 have m11 := v3.mx
 have m12 := v6.mx
 refine DoesG.enter Tryd.func118 rfl Tryd.ntmps118 rfl (M := (([] ++ N))) rfl (Z4 (Z2 (OW.boxA rfl rfl (fun b13 => (Z0 (Z5 rfl) rfl (Z6 (Z1 (Z4 (Z4 (Z2 (Z0 (Z30 rfl rfl rfl rfl) rfl (Z0 (Z29 rfl Zh rfl rfl rfl rfl) rfl (Z6 (Z1 ?_))))))))))))))
 by_cases h14 : a0.list = true
 ·replace hf := if_t hf h14
  refine Z13 rfl (h14) (Z4 (Z2 (Z0 (Z30 rfl rfl rfl rfl) rfl (Z0 (Z29 rfl Zh rfl rfl rfl rfl) rfl (Z0 (RV.len rfl rfl) rfl (Z0 (RV.gtr rfl rfl) rfl (Z7 (.bool (decide (0 < a0.data.length))) (congrArg Value.bool (decide_eq_decide.2 (by omega))) (Z0 (Z5 rfl) rfl ?_))))))))
  refine Z6 (Z1 (CW.ret (Z8 ?_)))
  have e0 := Zi hf
  subst e0
  refine Z106 (rs := [.tmp 2]) ([.bool (decide (0 < a0.data.length))]) ((some b13, blk [.bool (a0.list), .slice A1 a0.data.length c2, .slice A4 a0.items.length c5] 25) :: []) rfl ?_ rfl ?_ ?_ _ (.inl rfl)
  ·exact ⟨rfl, trivial⟩
  ·exact rfl
  ·exact (fun w m => m)
 ·replace hf := if_f hf h14
  refine Z14 rfl (Bool.eq_false_iff.2 h14) (CW.skip (Z1 (Z4 (Z2 (Z0 (Z30 rfl rfl rfl rfl) rfl (Z0 (Z29 rfl Zh rfl rfl rfl rfl) rfl (Z0 (RV.len rfl rfl) rfl (Z0 (RV.gtr rfl rfl) rfl (Z7 (.bool (decide (0 < a0.items.length))) (congrArg Value.bool (decide_eq_decide.2 (by omega))) (Z0 (Z5 rfl) rfl ?_))))))))))
  refine Z6 (Z1 (CW.ret ?_))
  have e0 := Zi hf
  subst e0
  refine Z106 (rs := [.tmp 2]) ([.bool (decide (0 < a0.items.length))]) ((some b13, blk [.bool (a0.list), .slice A1 a0.data.length c2, .slice A4 a0.items.length c5] 25) :: []) rfl ?_ rfl ?_ ?_ _ (.inl rfl)
  ·exact ⟨rfl, trivial⟩
  ·exact rfl
  ·exact (fun w m => m)
theorem rlp_kind_does (w0 : World) (Φ : Ctx) (N : List Ent) (hΦ : ∀ w, Mem w0 w N → Φ w) (cs0_ : List Value) (a0 : It) (a1 : Bool) (res0 : Nat) (ha0 : ItRd Φ cs0_ a0) (hf : rlp_kind a0 a1 = some res0) : DoesG Tryd.prog 76 [.agg cs0_.toArray, .bool (a1)] w0 [] N (fun v G => (res0 ≤ 9223372036854775807) ∧ v = .int .i64 ((res0 : Nat) : Int)) := by
 unfold rlp_kind at hf
 replace ha0 := ItRd.mono (Ψ := More w0 Φ []) (fun w q => q.1) _ _ ha0
 have h10 := ha0
 obtain ⟨A1, c2, A4, c5, cs7, e9, v3, v6, h8⟩ := ItRd.opn ha0
 subst e9
 have m11 := v3.mx
 have m12 := v6.mx
 refine DoesG.enter Tryd.func76 rfl Tryd.ntmps76 rfl (M := (([] ++ N))) rfl (Z4 (Z2 (OW.boxA rfl rfl (fun b13 => (Z0 (Z5 rfl) rfl (Z6 (Z1 (Z4 (CW.block (Z4 (Z2 (Z0 (Z22 rfl Zh rfl rfl rfl rfl rfl) rfl ?_))))))))))))
 obtain ⟨x15, hx14, hf⟩ := Z103 hf
 refine Z12 Tryd.call113 rfl (rlp_odd_does w0 (More w0 Φ []) ((some b13, blk [.bool (a0.list), .slice A1 a0.data.length c2, .slice A4 a0.items.length c5] 25) :: ([] ++ N)) (fun w m => More.of hΦ 1 m rfl) [.bool (a0.list), .slice A1 a0.data.length c2, .slice A4 a0.items.length c5] a0 x15 h10 hx14) rfl rfl ?_
 rintro _ G16 rfl
 refine Z20 (M' := ((some b13, blk [.bool (a0.list), .slice A1 a0.data.length c2, .slice A4 a0.items.length c5] 25) :: ([] ++ N))) (fun w m => m.appR) (Z0 (Z5 rfl) rfl (Z6 (Z1 ?_)))
 by_cases h18 : x15 = true
 ·replace hf := if_t hf h18
  refine Z13 rfl (h18) (Z4 (Z2 (Z0 (Z5 rfl) rfl (Z6 (Z1 (CW.ret (Z16 (Z8 ?_))))))))
  have e0 := Zi hf
  subst e0
  refine Z106 (rs := [.tmp 4]) ([.int .i64 (78 : Int)]) ((some b13, blk [.bool (a0.list), .slice A1 a0.data.length c2, .slice A4 a0.items.length c5] 25) :: []) rfl ?_ rfl ?_ ?_ _ (.inl rfl)
  ·exact ⟨rfl, trivial⟩
  ·exact ⟨(by omega), rfl⟩
  ·exact (fun w m => m)
 ·replace hf := if_f hf h18
  refine Z14 rfl (Bool.eq_false_iff.2 h18) (Z4 (Z2 (Z0 (Z30 rfl rfl rfl rfl) rfl (Z0 (Z29 rfl Zh rfl rfl rfl rfl) rfl (Z0 (Z3 rfl) rfl (Z0 (RV.neqB rfl rfl rfl) rfl (Z7 (.bool (!decide ((a0.list) = (a1)))) (by first | rfl | (congr 1) | simp) (Z0 (Z5 rfl) rfl ?_))))))))
  refine Z6 (Z1 ?_)
  by_cases h19 : (a0.list) = (a1)
  ·replace hf := if_t hf h19
   refine Z14 rfl (congrArg (fun b => !b) (decide_eq_true h19)) (CW.skip (Z27 (Z1 (Z4 (Z2 (Z0 (Z5 rfl) rfl (Z6 (Z1 (CW.ret ?_)))))))))
   have e0 := Zi hf
   subst e0
   refine Z106 (rs := [.tmp 4]) ([.int .i64 (0 : Int)]) ((some b13, blk [.bool (a0.list), .slice A1 a0.data.length c2, .slice A4 a0.items.length c5] 25) :: []) rfl ?_ rfl ?_ ?_ _ (.inl rfl)
   ·exact ⟨rfl, trivial⟩
   ·exact ⟨(by omega), rfl⟩
   ·exact (fun w m => m)
  ·replace hf := if_f hf h19
   refine Z13 rfl (congrArg (fun b => !b) (decide_eq_false h19)) (Z4 (Z2 (Z0 (Z5 rfl) rfl (Z6 (Z1 (CW.ret (Z16 (Z8 ?_))))))))
   have e0 := Zi hf
   subst e0
   refine Z106 (rs := [.tmp 4]) ([.int .i64 (75 : Int)]) ((some b13, blk [.bool (a0.list), .slice A1 a0.data.length c2, .slice A4 a0.items.length c5] 25) :: []) rfl ?_ rfl ?_ ?_ _ (.inl rfl)
   ·exact ⟨rfl, trivial⟩
   ·exact ⟨(by omega), rfl⟩
   ·exact (fun w m => m)
theorem Z127 (w0 : World) (Φ : Ctx) (N : List Ent) (hΦ : ∀ w, Mem w0 w N → Φ w) (cs0_ : List Value) (a0 : It) (a1 : Bool) (res0 : Nat) (ha0 : ItRd Φ cs0_ a0) (hf : waybillref07_wanted a0 a1 = some res0) : DoesG Tryd.prog 85 [.agg cs0_.toArray, .bool (a1)] w0 [] N (fun v G => (res0 ≤ 9223372036854775807) ∧ v = .int .i64 ((res0 : Nat) : Int)) := by
 unfold waybillref07_wanted at hf
 replace ha0 := ItRd.mono (Ψ := More w0 Φ []) (fun w q => q.1) _ _ ha0
 have h10 := ha0
 obtain ⟨A1, c2, A4, c5, cs7, e9, v3, v6, h8⟩ := ItRd.opn ha0
 subst e9
 have m11 := v3.mx
 have m12 := v6.mx
 refine DoesG.enter Tryd.func85 rfl Tryd.ntmps85 rfl (M := (([] ++ N))) rfl (Z4 (Z2 (OW.boxA rfl rfl (fun b13 => (Z0 (Z5 rfl) rfl (Z6 (Z1 (Z4 (Z4 (Z2 (Z0 (Z22 rfl Zh rfl rfl rfl rfl rfl) rfl ?_)))))))))))
 obtain ⟨x15, hx14, hf⟩ := Z103 hf
 refine Z12 Tryd.call118 rfl (waybillref07_odd_does w0 (More w0 Φ []) ((some b13, blk [.bool (a0.list), .slice A1 a0.data.length c2, .slice A4 a0.items.length c5] 25) :: ([] ++ N)) (fun w m => More.of hΦ 1 m rfl) [.bool (a0.list), .slice A1 a0.data.length c2, .slice A4 a0.items.length c5] a0 x15 h10 hx14) rfl rfl ?_
 rintro _ G16 rfl
 refine Z20 (M' := ((some b13, blk [.bool (a0.list), .slice A1 a0.data.length c2, .slice A4 a0.items.length c5] 25) :: ([] ++ N))) (fun w m => m.appR) (Z6 (Z1 ?_))
 by_cases h18 : x15 = true
 ·replace hf := if_t hf h18
  refine Z13 rfl (h18) (Z4 (Z2 (Z0 (Z5 rfl) rfl (Z6 (Z1 (CW.ret (Z8 ?_)))))))
  have e0 := Zi hf
  subst e0
  refine Z106 (rs := [.tmp 4]) ([.int .i64 (78 : Int)]) ((some b13, blk [.bool (a0.list), .slice A1 a0.data.length c2, .slice A4 a0.items.length c5] 25) :: []) rfl ?_ rfl ?_ ?_ _ (.inl rfl)
  ·exact ⟨rfl, trivial⟩
  ·exact ⟨(by omega), rfl⟩
  ·exact (fun w m => m)
 ·replace hf := if_f hf h18
  refine Z14 rfl (Bool.eq_false_iff.2 h18) (CW.skip (Z1 (Z4 (Z4 (Z2 (Z0 (Z30 rfl rfl rfl rfl) rfl (Z0 (Z29 rfl Zh rfl rfl rfl rfl) rfl (Z0 (Z3 rfl) rfl (Z0 (RV.neqB rfl rfl rfl) rfl (Z7 (.bool (!decide ((a0.list) = (a1)))) (by first | rfl | (congr 1) | simp) (Z6 (Z1 ?_))))))))))))
  by_cases h19 : (a0.list) = (a1)
  ·replace hf := if_t hf h19
   refine Z14 rfl (congrArg (fun b => !b) (decide_eq_true h19)) (CW.skip (Z1 (Z4 (Z2 (Z0 (Z5 rfl) rfl (Z6 (Z1 (CW.ret ?_))))))))
   have e0 := Zi hf
   subst e0
   refine Z106 (rs := [.tmp 4]) ([.int .i64 (0 : Int)]) ((some b13, blk [.bool (a0.list), .slice A1 a0.data.length c2, .slice A4 a0.items.length c5] 25) :: []) rfl ?_ rfl ?_ ?_ _ (.inl rfl)
   ·exact ⟨rfl, trivial⟩
   ·exact ⟨(by omega), rfl⟩
   ·exact (fun w m => m)
  ·replace hf := if_f hf h19
   refine Z13 rfl (congrArg (fun b => !b) (decide_eq_false h19)) (Z4 (Z2 (Z0 (Z5 rfl) rfl (Z6 (Z1 (CW.ret (Z8 ?_)))))))
   have e0 := Zi hf
   subst e0
   refine Z106 (rs := [.tmp 4]) ([.int .i64 (75 : Int)]) ((some b13, blk [.bool (a0.list), .slice A1 a0.data.length c2, .slice A4 a0.items.length c5] 25) :: []) rfl ?_ rfl ?_ ?_ _ (.inl rfl)
   ·exact ⟨rfl, trivial⟩
   ·exact ⟨(by omega), rfl⟩
   ·exact (fun w m => m)
theorem u256_Sub_does (w0 : World) (Φ : Ctx) (N : List Ent) (hΦ : ∀ w, Mem w0 w N → Φ w) (a0 : Vector (BitVec 64) 4) (a1 : Vector (BitVec 64) 4) (res0 : Vector (BitVec 64) 4) (res1 : BitVec 64) (hf : u256_Sub a0 a1 = some (res0, res1)) : DoesG Tryd.prog 129 [.agg (u64s a0.toList).toArray, .agg (u64s a1.toList).toArray] w0 [] N (fun v G => v = .tuple #[.agg (u64s res0.toList).toArray, U64 res1]) := by
 unfold u256_Sub at hf
 refine DoesG.enter Tryd.func129 rfl Tryd.ntmps129 rfl (M := (([] ++ N))) rfl (Z4 (Z2 (OW.boxA rfl rfl (fun b1 => (OW.boxA rfl rfl (fun b2 => (OW.alloc (l := (u64s (Vector.replicate 4 0#64).toList)) rfl (by rw [Vector.toList_replicate, ← Z116]; rfl) rfl (fun b3 => (Z0 (Z5 rfl) rfl (Z6 (Z1 (Z4 (Z2 (OW.alloc (l := (u64s (Vector.replicate 4 0#64).toList)) rfl (by rw [Vector.toList_replicate, ← Z116]; rfl) rfl (fun b4 => ?_)))))))))))))))
 refine Z6 (Z1 (Z4 (Z2 (Z0 (Z5 rfl) rfl (Z6 (Z1 (Z4 (Z4 (Z2 (Z0 (Z3 rfl) rfl (Z6 (Z1 ?_))))))))))))
 obtain ⟨q5, hq6, hf⟩ := Z103 hf
 refine Z120 (fun L' M' => ∃ w7 : BitVec 64, ∃ w8 : Vector (BitVec 64) 4, q5 = (w7, w8) ∧ L' = [(4, ptr (some b3) 0), (6, ptr (some b4) 0), (7, U64 w7)] ∧ M' = ((some b4, blk (u64s w8.toList) 35) :: (some b3, blk (u64s (Vector.replicate 4 0#64).toList) 35) :: ([] ++ N))) ?_ ?_
 ·rintro L10 M11 ⟨w7, w8, e9, e12, e13⟩
  rw [e12, e13]
  clear e12 e13 L10 M11
  clear hq6
  rw [e9] at hf
  clear e9
  try dsimp only at hf
  refine Z1 (Z4 (Z2 (Z0 (Z22 rfl Zh rfl rfl rfl rfl ((Z101 _).trans Zv)) rfl (Z0 (Z3 rfl) rfl (OW.rot1 (Z28 (Z105 rfl rfl rfl (Z115 _) rfl ((Z101 _).trans Zv) ((Z101 _).trans Zv)) (Z0 (Z5 rfl) rfl (Z6 (Z1 (CW.ret ?_))))))))))
  have er0 := Zi hf
  obtain ⟨e0, er1⟩ := Prod.mk.inj er0
  clear er0
  subst e0
  subst er1
  refine Z106 (rs := [.cell 4 35, .tmp 5]) ([.agg (u64s w8.toList).toArray, U64 w7]) ((some b3, blk (u64s w8.toList) 35) :: (some b4, blk (u64s w8.toList) 35) :: []) rfl ?_ rfl ?_ ?_ _ (.inl rfl)
  ·exact ⟨⟨_, _, _, _, rfl, Zh, rfl, rfl, (congrArg some ((Z101 _).trans Zv).symm), rfl⟩, rfl, trivial⟩
  ·exact rfl
  ·exact (fun w m => m)
 ·skip
  refine CW.block (Z138 (fun k L' M' => ∃ w14 : BitVec 64, ∃ n15 : Nat, ∃ w17 : Vector (BitVec 64) 4, (u256_Sub.l1 a0 a1 k w14 n15 w17) = some q5 ∧ (n15 ≤ 9223372036854775807) ∧ L' = [(2, ptr (some b1) 0), (3, ptr (some b2) 0), (4, ptr (some b3) 0), (6, ptr (some b4) 0), (7, U64 w14), (9, .int .i64 ((n15 : Nat) : Int))] ∧ M' = ((some b4, blk (u64s w17.toList) 35) :: (some b3, blk (u64s (Vector.replicate 4 0#64).toList) 35) :: (some b2, blk (u64s a1.toList) 35) :: (some b1, blk (u64s a0.toList) 35) :: ([] ++ N))) (k0 := (4 - 0 + 2)) ⟨0#64, 0, (Vector.replicate 4 0#64), hq6, (by omega), rfl, rfl⟩ ⟨rfl, rfl, rfl, rfl, rfl, rfl, trivial⟩ (fun w m => m.pick [0, 1, 2, 3] 4 rfl rfl) ?_)
  clear hq6
  rintro k18 L21 M22 ⟨w14, n15, w17, hl19, b16, e23, e24⟩
  rw [e23, e24]
  clear e23 e24 L21 M22
  rcases k18 with _ | k18
  ·rw [u256_Sub.l1] at hl19; cases hl19
  rw [u256_Sub.l1] at hl19
  refine Z4 (Z2 (Z0 (RV.lss rfl rfl) rfl (Z7 (.bool (decide (n15 < 4))) (congrArg Value.bool (decide_eq_decide.2 (by omega))) (Z6 (Z1 (Z4 ?_))))))
  by_cases h25 : n15 < 4
  ·replace hl19 := if_t hl19 h25
   refine Z13 rfl (decide_eq_true h25) (CW.skip (Z1 (Z4 (CW.block (Z4 (Z2 (Z0 (Z3 rfl) rfl (Z0 (Z5 rfl) rfl (Z6 (Z1 (Z132 ((some b3, blk (u64s (Vector.replicate 4 0#64).toList) 35) :: (some b2, blk (u64s a1.toList) 35) :: (some b1, blk (u64s a0.toList) 35) :: ([] ++ N)) [13] (fun w m => m.pick [1, 2, 3] 4 rfl rfl) mixed (by kernel_rfl) (Z10 0 rfl (by kernel_rfl) rfl (Z3 rfl) rfl (Z10 1 rfl (by kernel_rfl) rfl (Z3 rfl) rfl ?_)))))))))))))
   refine Z10 2 rfl (by kernel_rfl) rfl (Z142 (n15) rfl rfl rfl rfl rfl (by omega)) rfl ?_
   obtain ⟨x26, hx27, hl19⟩ := Z103 hl19
   refine Z10 3 rfl (by kernel_rfl) rfl (Z29 rfl (List.Mem.tail _ (List.Mem.tail _ Zh)) rfl rfl rfl (by rw [Nat.zero_add]; exact u64s_at (vat hx27))) rfl ?_
   refine Z10 4 rfl (by kernel_rfl) rfl (Z3 rfl) rfl (Z10 5 rfl (by kernel_rfl) rfl (Z142 (n15) rfl rfl rfl rfl rfl (by omega)) rfl ?_)
   obtain ⟨x28, hx29, hl19⟩ := Z103 hl19
   refine Z10 6 rfl (by kernel_rfl) rfl (Z29 rfl (List.Mem.tail _ Zh) rfl rfl rfl (by rw [Nat.zero_add]; exact u64s_at (vat hx29))) rfl ?_
   refine Z10 7 rfl (by kernel_rfl) rfl (Z3 rfl) rfl ?_
   obtain ⟨⟨w30, w31⟩, hx32, hl19⟩ := Z103 hl19
   try dsimp only at hl19
   refine Z10 8 rfl (by kernel_rfl) rfl (RV.sub64c Tryd.ext146 rfl hx32) rfl (Z10 9 rfl (by kernel_rfl) rfl (Z3 rfl) rfl (Z10 10 rfl (by kernel_rfl) rfl (Z17 rfl rfl) rfl (XW.slot (U64 w30) (rfl) (Z10 11 rfl (by kernel_rfl) rfl (Z17 rfl rfl) rfl (XW.slot (U64 w31) (rfl) (Z10 12 rfl (by kernel_rfl) rfl (Z142 (n15) rfl rfl rfl rfl rfl (by omega)) rfl (XW.sv 13 rfl (by kernel_rfl) (SV.store rfl rfl rfl rfl rfl (by rw [Z101, Zv]; omega)) (fun w m => m.pick [1, 2, 3] 4 rfl rfl) ?_)))))))
   refine XW.cells (u64s (w17.setIfInBounds n15 w30).toList) (by rw [Nat.zero_add, u64s_set', vset]) (Z10 14 rfl (by kernel_rfl) rfl (Z5 rfl) rfl (XW.nil (by kernel_rfl) (Z27 (Z1 (Z2 (Z0 (RV.add rfl rfl (by omega)) rfl (Z7 (.int .i64 (((n15 + 1) : Nat) : Int)) (by first | rfl | (congr 1) | (congr 1; omega)) (Z0 (Z3 rfl) rfl (Z6 ?_)))))))))
   exact Z131 (k' := k18) (Nat.lt_succ_self _) ⟨w31, (n15 + 1), (w17.setIfInBounds n15 w30), hl19, (by omega), rfl, rfl⟩ ⟨rfl, rfl, rfl, rfl, rfl, rfl, trivial⟩ (fun w m => m.pick [0, 1, 2, 3] 4 rfl rfl)
  ·replace hl19 := if_f hl19 h25
   refine Z14 rfl (decide_eq_false h25) (CW.exit (Z9 (Z9 (Z15 ?_))))
   exact QW.join ⟨w14, w17, (Zi hl19).symm, rfl, rfl⟩ ⟨rfl, rfl, rfl, trivial⟩ (fun w m => m.pick [0, 1] 4 rfl rfl)
theorem u256_Cmp_does (w0 : World) (Φ : Ctx) (N : List Ent) (hΦ : ∀ w, Mem w0 w N → Φ w) (a0 : Vector (BitVec 64) 4) (a1 : Vector (BitVec 64) 4) (res0 : Int) (hf : u256_Cmp a0 a1 = some res0) : DoesG Tryd.prog 116 [.agg (u64s a0.toList).toArray, .agg (u64s a1.toList).toArray] w0 [] N (fun v G => (-9223372036854775808 ≤ res0 ∧ res0 ≤ 9223372036854775807) ∧ v = .int .i64 res0) := by
 unfold u256_Cmp at hf
 refine DoesG.enter Tryd.func116 rfl Tryd.ntmps116 rfl (M := (([] ++ N))) rfl (Z4 (Z2 (OW.boxA rfl rfl (fun b1 => (OW.boxA rfl rfl (fun b2 => (Z0 (Z5 rfl) rfl (Z6 (Z1 (Z4 (Z4 (Z2 (Z0 (Z22 rfl (List.Mem.tail _ Zh) rfl rfl rfl rfl ((Z101 _).trans Zv)) rfl (Z0 (Z22 rfl Zh rfl rfl rfl rfl ((Z101 _).trans Zv)) rfl ?_))))))))))))))
 refine Z0 (RV.eqA64 rfl rfl rfl rfl rfl rfl (Zv) (Zv)) rfl (Z7 (.bool (decide (a0 = a1))) (congrArg Value.bool (decide_eq_decide.2 Vector.toList_inj)) (Z6 (Z1 ?_)))
 by_cases h3 : a0 = a1
 ·replace hf := if_t hf h3
  refine Z13 rfl (decide_eq_true h3) (Z4 (Z2 (Z0 (Z5 rfl) rfl (Z6 (Z1 (CW.ret (Z8 ?_)))))))
  have e0 := Zi hf
  subst e0
  refine Z106 (rs := [.tmp 4]) ([.int .i64 (0 : Int)]) ((some b2, blk (u64s a1.toList) 35) :: (some b1, blk (u64s a0.toList) 35) :: []) rfl ?_ rfl ?_ ?_ _ (.inl rfl)
  ·exact ⟨rfl, trivial⟩
  ·exact ⟨(by omega), rfl⟩
  ·exact (fun w m => m)
 ·replace hf := if_f hf h3
  refine Z14 rfl (decide_eq_false h3) (CW.skip (Z1 (Z4 (Z4 (Z2 (Z0 (Z22 rfl (List.Mem.tail _ Zh) rfl rfl rfl rfl ((Z101 _).trans Zv)) rfl (Z0 (Z22 rfl Zh rfl rfl rfl rfl ((Z101 _).trans Zv)) rfl ?_)))))))
  obtain ⟨⟨x5, x6⟩, hx4, hf⟩ := Z103 hf
  try dsimp only at hf
  refine Z12 Tryd.call129 rfl (u256_Sub_does w0 (More w0 Φ []) ((some b2, blk (u64s a1.toList) 35) :: (some b1, blk (u64s a0.toList) 35) :: ([] ++ N)) (fun w m => More.of hΦ 2 m rfl) a0 a1 x5 x6 hx4) rfl rfl ?_
  rintro _ G7 rfl
  refine Z20 (M' := ((some b2, blk (u64s a1.toList) 35) :: (some b1, blk (u64s a0.toList) 35) :: ([] ++ N))) (fun w m => m.appR) (Z0 (Z3 rfl) rfl (Z0 (Z17 rfl rfl) rfl (Z7 (.agg (u64s x5.toList).toArray) (rfl) (Z0 (Z17 rfl rfl) rfl (Z7 (U64 x6) (rfl) (OW.alloc (l := (u64s (Vector.replicate 4 0#64).toList)) rfl (by rw [Vector.toList_replicate, ← Z116]; rfl) rfl (fun b9 => (Z28 (Z105 rfl rfl rfl (Z115 _) rfl ((Z101 _).trans Zv) ((Z101 _).trans Zv)) ?_))))))))
  refine Z0 (Z5 rfl) rfl (Z6 (Z1 (Z4 (Z2 (Z0 (Z3 rfl) rfl (Z0 (RV.eql64 rfl (by first | rfl | exact lit64 _ rfl) rfl (by first | rfl | exact lit64 _ rfl)) rfl (Z6 (Z1 ?_))))))))
  by_cases h10 : x6 = 1#64
  ·replace hf := if_t hf h10
   refine Z13 rfl (decide_eq_true h10) (Z4 (Z2 (Z0 (Z5 rfl) rfl (Z6 (Z1 (CW.ret (Z8 ?_)))))))
   have e0 := Zi hf
   subst e0
   refine Z106 (rs := [.tmp 4]) ([.int .i64 (-1 : Int)]) ((some b9, blk (u64s x5.toList) 35) :: (some b2, blk (u64s a1.toList) 35) :: (some b1, blk (u64s a0.toList) 35) :: []) rfl ?_ rfl ?_ ?_ _ (.inl rfl)
   ·exact ⟨rfl, trivial⟩
   ·exact ⟨(by omega), rfl⟩
   ·exact (fun w m => m)
  ·replace hf := if_f hf h10
   refine Z14 rfl (decide_eq_false h10) (CW.skip (Z1 (Z4 (Z2 (Z0 (Z5 rfl) rfl (Z6 (Z1 (CW.ret ?_))))))))
   have e0 := Zi hf
   subst e0
   refine Z106 (rs := [.tmp 4]) ([.int .i64 (1 : Int)]) ((some b9, blk (u64s x5.toList) 35) :: (some b2, blk (u64s a1.toList) 35) :: (some b1, blk (u64s a0.toList) 35) :: []) rfl ?_ rfl ?_ ?_ _ (.inl rfl)
   ·exact ⟨rfl, trivial⟩
   ·exact ⟨(by omega), rfl⟩
   ·exact (fun w m => m)
theorem waybillref01_Cmp_does (w0 : World) (Φ : Ctx) (N : List Ent) (hΦ : ∀ w, Mem w0 w N → Φ w) (a0 : Vector (BitVec 64) 4) (a1 : Vector (BitVec 64) 4) (res0 : Int) (hf : waybillref01_Cmp a0 a1 = some res0) : DoesG Tryd.prog 139 [.agg (u64s a0.toList).toArray, .agg (u64s a1.toList).toArray] w0 [] N (fun v G => (-9223372036854775808 ≤ res0 ∧ res0 ≤ 9223372036854775807) ∧ v = .int .i64 res0) := by
 unfold waybillref01_Cmp at hf
 refine DoesG.enter Tryd.func139 rfl Tryd.ntmps139 rfl (M := (([] ++ N))) rfl (Z4 (Z2 (OW.boxA rfl rfl (fun b1 => (OW.boxA rfl rfl (fun b2 => (Z0 (Z5 rfl) rfl (Z6 (Z1 (Z4 (Z4 (Z2 (Z0 (Z5 rfl) rfl (Z6 (Z1 ?_)))))))))))))))
 obtain ⟨q3, hq4, hf⟩ := Z103 hf
 refine Z120 (fun L' M' => q3 = Lp.go () ∧ L' = [] ∧ M' = (([] ++ N))) ?_ ?_
 ·rintro L6 M7 ⟨e5, e8, e9⟩
  rw [e8, e9]
  clear e8 e9 L6 M7
  clear hq4
  rw [e5] at hf
  clear e5
  try dsimp only at hf
  refine Z1 (Z4 (Z2 (Z0 (Z5 rfl) rfl (Z6 (Z1 (CW.ret ?_))))))
  have e0 := Zi hf
  subst e0
  refine Z106 (rs := [.tmp 4]) ([.int .i64 (0 : Int)]) ([]) rfl ?_ rfl ?_ ?_ _ (.inl rfl)
  ·exact ⟨rfl, trivial⟩
  ·exact ⟨(by omega), rfl⟩
  ·exact (fun w m => m)
 ·skip
  refine CW.block (Z138 (fun k L' M' => ∃ z10 : Int, (waybillref01_Cmp.l1 a0 a1 k z10) = some q3 ∧ (-9223372036854775808 ≤ z10 ∧ z10 ≤ 9223372036854775807) ∧ L' = [(2, ptr (some b1) 0), (3, ptr (some b2) 0), (5, .int .i64 z10)] ∧ M' = ((some b2, blk (u64s a1.toList) 35) :: (some b1, blk (u64s a0.toList) 35) :: ([] ++ N))) (k0 := 5) ⟨(3 : Int), hq4, (by omega), rfl, rfl⟩ ⟨rfl, rfl, rfl, trivial⟩ (fun w m => m.pick [0, 1] 2 rfl rfl) ?_)
  clear hq4
  rintro k12 L15 M16 ⟨z10, hl13, b11, e17, e18⟩
  rw [e17, e18]
  clear e17 e18 L15 M16
  rcases k12 with _ | k12
  ·rw [waybillref01_Cmp.l1] at hl13; cases hl13
  rw [waybillref01_Cmp.l1] at hl13
  refine Z4 (Z4 (Z2 (Z0 (Z3 rfl) rfl (Z0 (RV.geq rfl rfl) rfl (Z6 (Z1 ?_))))))
  by_cases h19 : (0 : Int) ≤ z10
  ·replace hl13 := if_t hl13 h19
   refine Z13 rfl (decide_eq_true h19) (CW.skip (Z1 (Z4 (CW.block (Z4 (Z4 (Z124 7 mixed (by kernel_rfl) rfl (Z18 0 rfl (by kernel_rfl) rfl (Z3 rfl) rfl ?_))))))))
   obtain ⟨g20, hl13⟩ := Z128 hl13
   refine Z18 1 rfl (by kernel_rfl) rfl (Z142 ((z10).toNat) rfl rfl (by omega) rfl rfl (by omega)) rfl ?_
   obtain ⟨x21, hx22, hl13⟩ := Z103 hl13
   refine Z18 2 rfl (by kernel_rfl) rfl (Z29 rfl (List.Mem.tail _ Zh) rfl rfl rfl (by rw [Nat.zero_add]; exact u64s_at (vat hx22))) rfl ?_
   refine Z18 3 rfl (by kernel_rfl) rfl (Z3 rfl) rfl (Z18 4 rfl (by kernel_rfl) rfl (Z142 ((z10).toNat) rfl rfl (by omega) rfl rfl (by omega)) rfl ?_)
   obtain ⟨x23, hx24, hl13⟩ := Z103 hl13
   refine Z18 5 rfl (by kernel_rfl) rfl (Z29 rfl Zh rfl rfl rfl (by rw [Nat.zero_add]; exact u64s_at (vat hx24))) rfl ?_
   refine Z18 6 rfl (by kernel_rfl) rfl (RV.lss rfl rfl) rfl (UW.slot (.bool (decide (x21.toNat < x23.toNat))) (congrArg Value.bool (decide_eq_decide.2 (by first | exact Int.ofNat_le | exact Int.ofNat_lt | omega | (simp; omega) | simp))) (UW.nil (by kernel_rfl) (Z6 (Z1 ?_))))
   by_cases h25 : x21.toNat < x23.toNat
   ·replace hl13 := if_t hl13 h25
    refine Z13 rfl (decide_eq_true h25) (Z4 (Z2 (Z0 (Z5 rfl) rfl (Z6 (Z1 (CW.ret (Z8 (Z16 (Z8 (Z8 (Z16 (Z8 ?_))))))))))))
    have hc := Zi hl13
    subst hc
    try dsimp only at hf
    refine Z8 ?_
    have e0 := Zi hf
    subst e0
    refine Z106 (rs := [.tmp 4]) ([.int .i64 (-1 : Int)]) ((some b2, blk (u64s a1.toList) 35) :: (some b1, blk (u64s a0.toList) 35) :: []) rfl ?_ rfl ?_ ?_ _ (.inl rfl)
    ·exact ⟨rfl, trivial⟩
    ·exact ⟨(by omega), rfl⟩
    ·exact (fun w m => m)
   ·replace hl13 := if_f hl13 h25
    refine Z14 rfl (decide_eq_false h25) (CW.skip (Z1 (Z4 (Z124 7 mixed (by kernel_rfl) rfl (Z18 0 rfl (by kernel_rfl) rfl (Z3 rfl) rfl (Z18 1 rfl (by kernel_rfl) rfl (Z142 ((z10).toNat) rfl rfl (by omega) rfl rfl (by omega)) rfl ?_))))))
    obtain ⟨x26, hx27, hl13⟩ := Z103 hl13
    refine Z18 2 rfl (by kernel_rfl) rfl (Z29 rfl (List.Mem.tail _ Zh) rfl rfl rfl (by rw [Nat.zero_add]; exact u64s_at (vat hx27))) rfl ?_
    refine Z18 3 rfl (by kernel_rfl) rfl (Z3 rfl) rfl (Z18 4 rfl (by kernel_rfl) rfl (Z142 ((z10).toNat) rfl rfl (by omega) rfl rfl (by omega)) rfl ?_)
    obtain ⟨x28, hx29, hl13⟩ := Z103 hl13
    refine Z18 5 rfl (by kernel_rfl) rfl (Z29 rfl Zh rfl rfl rfl (by rw [Nat.zero_add]; exact u64s_at (vat hx29))) rfl ?_
    refine Z18 6 rfl (by kernel_rfl) rfl (RV.gtr rfl rfl) rfl (UW.slot (.bool (decide (x28.toNat < x26.toNat))) (congrArg Value.bool (decide_eq_decide.2 (by first | exact Int.ofNat_le | exact Int.ofNat_lt | omega | (simp; omega) | simp))) (UW.nil (by kernel_rfl) (Z6 (Z1 ?_))))
    by_cases h30 : x28.toNat < x26.toNat
    ·replace hl13 := if_t hl13 h30
     refine Z13 rfl (decide_eq_true h30) (Z4 (Z2 (Z0 (Z5 rfl) rfl (Z6 (Z1 (CW.ret (Z16 (Z8 (Z8 (Z16 (Z8 ?_)))))))))))
     have hc := Zi hl13
     subst hc
     try dsimp only at hf
     refine Z8 ?_
     have e0 := Zi hf
     subst e0
     refine Z106 (rs := [.tmp 4]) ([.int .i64 (1 : Int)]) ((some b2, blk (u64s a1.toList) 35) :: (some b1, blk (u64s a0.toList) 35) :: []) rfl ?_ rfl ?_ ?_ _ (.inl rfl)
     ·exact ⟨rfl, trivial⟩
     ·exact ⟨(by omega), rfl⟩
     ·exact (fun w m => m)
    ·replace hl13 := if_f hl13 h30
     refine Z14 rfl (decide_eq_false h30) (CW.skip (Z27 (Z1 (Z2 (Z0 (Z3 rfl) rfl ?_)))))
     obtain ⟨g31, hl13⟩ := Z128 hl13
     refine Z0 (RV.sub rfl rfl (by omega)) rfl (Z0 (Z5 rfl) rfl (Z6 ?_))
     exact Z131 (k' := k12) (Nat.lt_succ_self _) ⟨(z10 - (1 : Int)), hl13, (by omega), rfl, rfl⟩ ⟨rfl, rfl, rfl, trivial⟩ (fun w m => m.pick [0, 1] 2 rfl rfl)
  ·replace hl13 := if_f hl13 h19
   refine Z14 rfl (decide_eq_false h19) (CW.exit (Z9 (Z9 (Z15 ?_))))
   exact QW.join ⟨(Zi hl13).symm, rfl, rfl⟩ trivial (fun w m => m.pick [] 2 rfl rfl)
theorem u256_Get_does (w0 : World) (Φ : Ctx) (N : List Ent) (hΦ : ∀ w, Mem w0 w N → Φ w) (A0_ : Option Addr) (c0_ : Nat) (a0 : List (BitVec 8)) (res0 : Vector (BitVec 64) 4) (res1 : Nat) (va0 : View Φ A0_ a0.length c0_ 1 (u8s a0)) (hf : u256_Get a0 = some (res0, res1)) : DoesG Tryd.prog 115 [.slice A0_ a0.length c0_] w0 [] N (fun v G => (res1 ≤ 9223372036854775807) ∧ v = .tuple #[.agg (u64s res0.toList).toArray, .int .i64 ((res1 : Nat) : Int)]) := by
 unfold u256_Get at hf
 replace va0 := va0.mono (Ψ := More w0 Φ []) (fun w q => q.1)
 have m1 := va0.mx
 refine DoesG.enter Tryd.func115 rfl Tryd.ntmps115 rfl (M := (([] ++ N))) rfl (Z4 (Z2 (OW.alloc (l := (u64s (Vector.replicate 4 0#64).toList)) rfl (by rw [Vector.toList_replicate, ← Z116]; rfl) rfl (fun b2 => (Z0 (Z5 rfl) rfl (Z6 (Z1 (Z4 (Z4 (Z2 (Z0 (Z3 rfl) rfl (Z0 (RV.len rfl rfl) rfl (Z0 (RV.gtr rfl rfl) rfl ?_)))))))))))))
 refine Z7 (.bool (decide (32 < a0.length))) (congrArg Value.bool (decide_eq_decide.2 (by omega))) (Z6 (Z1 ?_))
 by_cases h3 : 32 < a0.length
 ·replace hf := if_t hf h3
  refine Z13 rfl (decide_eq_true h3) (Z4 (Z2 (Z0 (RV.build0 (l := (u64s (Vector.replicate 4 0#64).toList)) rfl rfl rfl (by rw [Vector.toList_replicate, ← Z116]; rfl)) rfl (Z28 (Z105 rfl rfl rfl (Z115 _) rfl ((Z101 _).trans Zv) ((Z101 _).trans Zv)) (Z0 (Z5 rfl) rfl (Z6 (Z1 (CW.ret (Z8 ?_)))))))))
  have er0 := Zi hf
  obtain ⟨e0, er1⟩ := Prod.mk.inj er0
  clear er0
  subst e0
  subst er1
  refine Z106 (rs := [.cell 2 35, .tmp 3]) ([.agg (u64s (Vector.replicate 4 0#64).toList).toArray, .int .i64 (11 : Int)]) ((some b2, blk (u64s (Vector.replicate 4 0#64).toList) 35) :: []) rfl ?_ rfl ?_ ?_ _ (.inl rfl)
  ·exact ⟨⟨_, _, _, _, rfl, Zh, rfl, rfl, (congrArg some ((Z101 _).trans Zv).symm), rfl⟩, rfl, trivial⟩
  ·exact ⟨(by omega), rfl⟩
  ·exact (fun w m => m)
 ·replace hf := if_f hf h3
  refine Z14 rfl (decide_eq_false h3) (CW.skip (Z1 (Z4 (Z2 (OW.alloc (l := (u64s (Vector.replicate 4 0#64).toList)) rfl (by rw [Vector.toList_replicate, ← Z116]; rfl) rfl (fun b4 => (Z6 (Z1 (Z4 (Z4 (Z2 (Z0 (Z3 rfl) rfl (Z0 (RV.len rfl rfl) rfl (Z0 (Z3 rfl) rfl (Z6 (Z1 ?_))))))))))))))))
  obtain ⟨q5, hq6, hf⟩ := Z103 hf
  refine Z120 (fun L' M' => ∃ w7 : Vector (BitVec 64) 4, q5 = w7 ∧ L' = [(2, ptr (some b2) 0), (4, ptr (some b4) 0)] ∧ M' = ((some b4, blk (u64s w7.toList) 35) :: (some b2, blk (u64s (Vector.replicate 4 0#64).toList) 35) :: ([] ++ N))) ?_ ?_
  ·rintro L9 M10 ⟨w7, e8, e11, e12⟩
   rw [e11, e12]
   clear e11 e12 L9 M10
   clear hq6
   rw [e8] at hf
   clear e8
   try dsimp only at hf
   refine Z1 (Z4 (Z2 (Z0 (Z22 rfl Zh rfl rfl rfl rfl ((Z101 _).trans Zv)) rfl (OW.rot1 (Z28 (Z105 rfl rfl rfl (Z115 _) rfl ((Z101 _).trans Zv) ((Z101 _).trans Zv)) (Z0 (Z5 rfl) rfl (Z6 (Z1 (CW.ret ?_)))))))))
   have er0 := Zi hf
   obtain ⟨e0, er1⟩ := Prod.mk.inj er0
   clear er0
   subst e0
   subst er1
   refine Z106 (rs := [.cell 2 35, .tmp 3]) ([.agg (u64s w7.toList).toArray, .int .i64 (0 : Int)]) ((some b2, blk (u64s w7.toList) 35) :: (some b4, blk (u64s w7.toList) 35) :: []) rfl ?_ rfl ?_ ?_ _ (.inl rfl)
   ·exact ⟨⟨_, _, _, _, rfl, Zh, rfl, rfl, (congrArg some ((Z101 _).trans Zv).symm), rfl⟩, rfl, trivial⟩
   ·exact ⟨(by omega), rfl⟩
   ·exact (fun w m => m)
  ·skip
   refine CW.block (Z138 (fun k L' M' => ∃ n13 : Nat, ∃ w15 : Vector (BitVec 64) 4, (u256_Get.l1 a0 k n13 w15) = some q5 ∧ (n13 ≤ 9223372036854775807) ∧ L' = [(0, .slice A0_ a0.length c0_), (2, ptr (some b2) 0), (4, ptr (some b4) 0), (12, .int .i64 ((a0.length : Nat) : Int)), (13, .int .i64 ((n13 : Nat) : Int))] ∧ M' = ((some b4, blk (u64s w15.toList) 35) :: (some b2, blk (u64s (Vector.replicate 4 0#64).toList) 35) :: ([] ++ N))) (k0 := (a0.length - 0 + 2)) ⟨0, (Vector.replicate 4 0#64), hq6, (by omega), rfl, rfl⟩ ⟨rfl, rfl, rfl, rfl, rfl, trivial⟩ (fun w m => m.pick [0, 1] 2 rfl rfl) ?_)
   clear hq6
   rintro k16 L19 M20 ⟨n13, w15, hl17, b14, e21, e22⟩
   rw [e21, e22]
   clear e21 e22 L19 M20
   rcases k16 with _ | k16
   ·rw [u256_Get.l1] at hl17; cases hl17
   rw [u256_Get.l1] at hl17
   refine Z4 (Z2 (Z0 (RV.lss rfl rfl) rfl (Z7 (.bool (decide (n13 < a0.length))) (congrArg Value.bool (decide_eq_decide.2 (by omega))) (Z6 (Z1 (Z4 ?_))))))
   by_cases h23 : n13 < a0.length
   ·replace hl17 := if_t hl17 h23
    refine Z13 rfl (decide_eq_true h23) (CW.skip (Z1 (Z4 (CW.block (Z4 (Z2 (Z0 (Z3 rfl) rfl (Z0 (Z5 rfl) rfl (Z6 (Z1 (Z4 (Z2 (Z0 (Z3 rfl) rfl (Z0 (RV.len rfl rfl) rfl ?_))))))))))))))
    obtain ⟨g24, hl17⟩ := Z128 hl17
    refine Z0 (RV.sub rfl rfl (by omega)) rfl (Z7 (.int .i64 ((a0.length - 1 : Nat) : Int)) (by congr 1; omega) (Z0 (Z3 rfl) rfl ?_))
    obtain ⟨g25, hl17⟩ := Z128 hl17
    refine Z0 (RV.sub rfl rfl (by omega)) rfl (Z7 (.int .i64 (((a0.length - 1) - n13 : Nat) : Int)) (by congr 1; omega) (Z0 (Z5 rfl) rfl (Z6 (Z1 (Z132 ((some b2, blk (u64s (Vector.replicate 4 0#64).toList) 35) :: ([] ++ N)) [15] (fun w m => m.pick [1] 2 rfl rfl) mixed (by kernel_rfl) (Z10 0 rfl (by kernel_rfl) rfl (Z3 rfl) rfl (Z10 1 rfl (by kernel_rfl) rfl (RV.quo rfl rfl (by omega) (by omega) (by omega)) rfl (XW.slot (.int .i64 ((((a0.length - 1) - n13) / 8 : Nat) : Int)) (by first | rfl | (congr 1; omega)) ?_))))))))
    obtain ⟨g26, hl17⟩ := Z128 hl17
    refine Z10 2 rfl (by kernel_rfl) rfl (Z142 ((((a0.length - 1) - n13) / 8)) rfl rfl rfl rfl rfl (by omega)) rfl ?_
    obtain ⟨x27, hx28, hl17⟩ := Z103 hl17
    refine XW.rv 3 rfl (by kernel_rfl) rfl (by kernel_rfl) (Z29 rfl Zh rfl rfl rfl (by rw [Nat.zero_add]; exact u64s_at (vat hx28))) rfl ?_
    refine Z10 4 rfl (by kernel_rfl) rfl (Z3 rfl) rfl (Z10 5 rfl (by kernel_rfl) rfl (Z3 rfl) rfl ?_)
    obtain ⟨x29, hx30, hl17⟩ := Z103 hl17
    have hl31 := Z129 hx30
    refine Z10 6 rfl (by kernel_rfl) rfl (Z141 (n13) rfl rfl rfl rfl rfl (va0.isSome (by decide) hl31) (by omega)) rfl (Z10 7 rfl (by kernel_rfl) rfl (Z21 rfl rfl rfl (fun w m => va0.cell (More.of hΦ 1 m rfl) (u8s_at hx30))) rfl (Z10 8 rfl (by kernel_rfl) rfl (RV.conv8_64 rfl (by first | rfl | exact lit8 _ rfl) rfl rfl) rfl (Z10 9 rfl (by kernel_rfl) rfl (Z3 rfl) rfl (Z10 10 rfl (by kernel_rfl) rfl (RV.rem rfl rfl (by omega) (by omega)) rfl (XW.slot (.int .i64 ((((a0.length - 1) - n13) % 8 : Nat) : Int)) (by first | rfl | (congr 1; omega)) (Z10 11 rfl (by kernel_rfl) rfl (RV.mul rfl rfl (by omega)) rfl (XW.slot (.int .i64 (((8 * (((a0.length - 1) - n13) % 8)) : Nat) : Int)) (by first | rfl | (congr 1) | (congr 1; omega)) ?_)))))))
    refine Z10 12 rfl (by kernel_rfl) rfl (RV.shl64 (s := (8 * (((a0.length - 1) - n13) % 8))) rfl (by first | rfl | exact lit64 _ rfl) rfl (by first | rfl | (congr 1))) rfl (Z10 13 rfl (by kernel_rfl) rfl (RV.or64 rfl (by first | rfl | exact lit64 _ rfl) rfl (by first | rfl | exact lit64 _ rfl)) rfl (Z10 14 rfl (by kernel_rfl) rfl (Z142 ((((a0.length - 1) - n13) / 8)) rfl rfl rfl rfl rfl (by omega)) rfl (XW.sv 15 rfl (by kernel_rfl) (SV.store rfl rfl rfl rfl rfl (by rw [Z101, Zv]; omega)) (fun w m => m.pick [1] 2 rfl rfl) (XW.cells (u64s (w15.setIfInBounds (((a0.length - 1) - n13) / 8) (x27 ||| ((x29.setWidth 64) <<< (8 * (((a0.length - 1) - n13) % 8))))).toList) (by rw [Nat.zero_add, u64s_set', vset]) (XW.nil (by kernel_rfl) (Z27 (Z1 (Z2 (Z0 (RV.add rfl rfl (by omega)) rfl ?_)))))))))
    refine Z7 (.int .i64 (((n13 + 1) : Nat) : Int)) (by first | rfl | (congr 1) | (congr 1; omega)) (Z0 (Z3 rfl) rfl (Z6 ?_))
    exact Z131 (k' := k16) (Nat.lt_succ_self _) ⟨(n13 + 1), (w15.setIfInBounds (((a0.length - 1) - n13) / 8) (x27 ||| ((x29.setWidth 64) <<< (8 * (((a0.length - 1) - n13) % 8))))), hl17, (by omega), rfl, rfl⟩ ⟨rfl, rfl, rfl, rfl, rfl, trivial⟩ (fun w m => m.pick [0, 1] 2 rfl rfl)
   ·replace hl17 := if_f hl17 h23
    refine Z14 rfl (decide_eq_false h23) (CW.exit (Z9 (Z9 (Z15 ?_))))
    exact QW.join ⟨w15, (Zi hl17).symm, rfl, rfl⟩ ⟨rfl, rfl, trivial⟩ (fun w m => m.pick [0, 1] 2 rfl rfl)
theorem waybillref01_Get_does (w0 : World) (Φ : Ctx) (N : List Ent) (hΦ : ∀ w, Mem w0 w N → Φ w) (A0_ : Option Addr) (c0_ : Nat) (a0 : List (BitVec 8)) (res0 : Vector (BitVec 64) 4) (res1 : Nat) (va0 : View Φ A0_ a0.length c0_ 1 (u8s a0)) (hf : waybillref01_Get a0 = some (res0, res1)) : DoesG Tryd.prog 138 [.slice A0_ a0.length c0_] w0 [] N (fun v G => (res1 ≤ 9223372036854775807) ∧ v = .tuple #[.agg (u64s res0.toList).toArray, .int .i64 ((res1 : Nat) : Int)]) := by
 unfold waybillref01_Get at hf
 replace va0 := va0.mono (Ψ := More w0 Φ []) (fun w q => q.1)
 have m1 := va0.mx
 refine DoesG.enter Tryd.func138 rfl Tryd.ntmps138 rfl (M := (([] ++ N))) rfl (Z4 (Z2 (OW.alloc (l := (u64s (Vector.replicate 4 0#64).toList)) rfl (by rw [Vector.toList_replicate, ← Z116]; rfl) rfl (fun b2 => (Z0 (Z5 rfl) rfl (Z6 (Z1 (Z4 (Z2 (OW.alloc (l := (u64s (Vector.replicate 4 0#64).toList)) rfl (by rw [Vector.toList_replicate, ← Z116]; rfl) rfl (fun b3 => (Z6 (Z1 (Z4 (Z4 (Z2 (Z0 (Z3 rfl) rfl ?_)))))))))))))))))
 refine Z0 (RV.len rfl rfl) rfl (Z0 (RV.gtr rfl rfl) rfl (Z7 (.bool (decide (32 < a0.length))) (congrArg Value.bool (decide_eq_decide.2 (by omega))) (Z6 (Z1 ?_))))
 by_cases h4 : 32 < a0.length
 ·replace hf := if_t hf h4
  refine Z13 rfl (decide_eq_true h4) (Z4 (Z2 (Z0 (Z22 rfl Zh rfl rfl rfl rfl ((Z101 _).trans Zv)) rfl (OW.rot1 (Z28 (Z105 rfl rfl rfl (Z115 _) rfl ((Z101 _).trans Zv) ((Z101 _).trans Zv)) (Z0 (Z5 rfl) rfl (Z6 (Z1 (CW.ret (Z8 ?_))))))))))
  have er0 := Zi hf
  obtain ⟨e0, er1⟩ := Prod.mk.inj er0
  clear er0
  subst e0
  subst er1
  refine Z106 (rs := [.cell 2 35, .tmp 3]) ([.agg (u64s (Vector.replicate 4 0#64).toList).toArray, .int .i64 (11 : Int)]) ((some b2, blk (u64s (Vector.replicate 4 0#64).toList) 35) :: (some b3, blk (u64s (Vector.replicate 4 0#64).toList) 35) :: []) rfl ?_ rfl ?_ ?_ _ (.inl rfl)
  ·exact ⟨⟨_, _, _, _, rfl, Zh, rfl, rfl, (congrArg some ((Z101 _).trans Zv).symm), rfl⟩, rfl, trivial⟩
  ·exact ⟨(by omega), rfl⟩
  ·exact (fun w m => m)
 ·replace hf := if_f hf h4
  refine Z14 rfl (decide_eq_false h4) (CW.skip (Z1 (Z4 (Z4 (Z2 (Z0 (Z5 rfl) rfl (Z6 (Z1 ?_))))))))
  obtain ⟨q5, hq6, hf⟩ := Z103 hf
  refine Z120 (fun L' M' => ∃ w7 : Vector (BitVec 64) 4, q5 = w7 ∧ L' = [(2, ptr (some b2) 0), (4, ptr (some b3) 0)] ∧ M' = ((some b3, blk (u64s w7.toList) 35) :: (some b2, blk (u64s (Vector.replicate 4 0#64).toList) 35) :: ([] ++ N))) ?_ ?_
  ·rintro L9 M10 ⟨w7, e8, e11, e12⟩
   rw [e11, e12]
   clear e11 e12 L9 M10
   clear hq6
   rw [e8] at hf
   clear e8
   try dsimp only at hf
   refine Z1 (Z4 (Z2 (Z0 (Z22 rfl Zh rfl rfl rfl rfl ((Z101 _).trans Zv)) rfl (OW.rot1 (Z28 (Z105 rfl rfl rfl (Z115 _) rfl ((Z101 _).trans Zv) ((Z101 _).trans Zv)) (Z0 (Z5 rfl) rfl (Z6 (Z1 (CW.ret ?_)))))))))
   have er0 := Zi hf
   obtain ⟨e0, er1⟩ := Prod.mk.inj er0
   clear er0
   subst e0
   subst er1
   refine Z106 (rs := [.cell 2 35, .tmp 3]) ([.agg (u64s w7.toList).toArray, .int .i64 (0 : Int)]) ((some b2, blk (u64s w7.toList) 35) :: (some b3, blk (u64s w7.toList) 35) :: []) rfl ?_ rfl ?_ ?_ _ (.inl rfl)
   ·exact ⟨⟨_, _, _, _, rfl, Zh, rfl, rfl, (congrArg some ((Z101 _).trans Zv).symm), rfl⟩, rfl, trivial⟩
   ·exact ⟨(by omega), rfl⟩
   ·exact (fun w m => m)
  ·skip
   refine CW.block (Z138 (fun k L' M' => ∃ n13 : Nat, ∃ w15 : Vector (BitVec 64) 4, (waybillref01_Get.l1 a0 k n13 w15) = some q5 ∧ (n13 ≤ 9223372036854775807) ∧ L' = [(0, .slice A0_ a0.length c0_), (2, ptr (some b2) 0), (4, ptr (some b3) 0), (5, .int .i64 ((n13 : Nat) : Int))] ∧ M' = ((some b3, blk (u64s w15.toList) 35) :: (some b2, blk (u64s (Vector.replicate 4 0#64).toList) 35) :: ([] ++ N))) (k0 := (a0.length - 0 + 2)) ⟨0, (Vector.replicate 4 0#64), hq6, (by omega), rfl, rfl⟩ ⟨rfl, rfl, rfl, rfl, trivial⟩ (fun w m => m.pick [0, 1] 2 rfl rfl) ?_)
   clear hq6
   rintro k16 L19 M20 ⟨n13, w15, hl17, b14, e21, e22⟩
   rw [e21, e22]
   clear e21 e22 L19 M20
   rcases k16 with _ | k16
   ·rw [waybillref01_Get.l1] at hl17; cases hl17
   rw [waybillref01_Get.l1] at hl17
   refine Z4 (Z4 (Z2 (Z0 (Z3 rfl) rfl (Z0 (Z3 rfl) rfl (Z0 (RV.len rfl rfl) rfl (Z0 (RV.lss rfl rfl) rfl (Z7 (.bool (decide (n13 < a0.length))) (congrArg Value.bool (decide_eq_decide.2 (by omega))) (Z6 (Z1 ?_)))))))))
   by_cases h23 : n13 < a0.length
   ·replace hl17 := if_t hl17 h23
    refine Z13 rfl (decide_eq_true h23) (CW.skip (Z1 (Z4 (CW.block (Z4 (Z2 (Z0 (Z3 rfl) rfl (Z0 (RV.len rfl rfl) rfl ?_))))))))
    obtain ⟨g24, hl17⟩ := Z128 hl17
    refine Z0 (RV.sub rfl rfl (by omega)) rfl (Z7 (.int .i64 ((a0.length - 1 : Nat) : Int)) (by congr 1; omega) (Z0 (Z3 rfl) rfl ?_))
    obtain ⟨g25, hl17⟩ := Z128 hl17
    refine Z0 (RV.sub rfl rfl (by omega)) rfl (Z7 (.int .i64 (((a0.length - 1) - n13 : Nat) : Int)) (by congr 1; omega) (Z0 (Z5 rfl) rfl (Z6 (Z1 (Z132 ((some b2, blk (u64s (Vector.replicate 4 0#64).toList) 35) :: ([] ++ N)) [18] (fun w m => m.pick [1] 2 rfl rfl) mixed (by kernel_rfl) (Z10 0 rfl (by kernel_rfl) rfl (Z3 rfl) rfl (Z10 1 rfl (by kernel_rfl) rfl (RV.quo rfl rfl (by omega) (by omega) (by omega)) rfl (XW.slot (.int .i64 ((((a0.length - 1) - n13) / 8 : Nat) : Int)) (by first | rfl | (congr 1; omega)) ?_))))))))
    refine Z10 2 rfl (by kernel_rfl) rfl (Z3 rfl) rfl (Z10 3 rfl (by kernel_rfl) rfl (RV.quo rfl rfl (by omega) (by omega) (by omega)) rfl (XW.slot (.int .i64 ((((a0.length - 1) - n13) / 8 : Nat) : Int)) (by first | rfl | (congr 1; omega)) ?_))
    obtain ⟨g26, hl17⟩ := Z128 hl17
    refine Z10 4 rfl (by kernel_rfl) rfl (Z142 ((((a0.length - 1) - n13) / 8)) rfl rfl rfl rfl rfl (by omega)) rfl ?_
    obtain ⟨x27, hx28, hl17⟩ := Z103 hl17
    refine XW.rv 5 rfl (by kernel_rfl) rfl (by kernel_rfl) (Z29 rfl Zh rfl rfl rfl (by rw [Nat.zero_add]; exact u64s_at (vat hx28))) rfl ?_
    refine Z10 6 rfl (by kernel_rfl) rfl (Z3 rfl) rfl (Z10 7 rfl (by kernel_rfl) rfl (Z3 rfl) rfl ?_)
    obtain ⟨x29, hx30, hl17⟩ := Z103 hl17
    have hl31 := Z129 hx30
    refine Z10 8 rfl (by kernel_rfl) rfl (Z141 (n13) rfl rfl rfl rfl rfl (va0.isSome (by decide) hl31) (by omega)) rfl (Z10 9 rfl (by kernel_rfl) rfl (Z21 rfl rfl rfl (fun w m => va0.cell (More.of hΦ 1 m rfl) (u8s_at hx30))) rfl (Z10 10 rfl (by kernel_rfl) rfl (RV.conv8_64 rfl (by first | rfl | exact lit8 _ rfl) rfl rfl) rfl (Z10 11 rfl (by kernel_rfl) rfl (Z3 rfl) rfl (Z10 12 rfl (by kernel_rfl) rfl (RV.rem rfl rfl (by omega) (by omega)) rfl (XW.slot (.int .i64 ((((a0.length - 1) - n13) % 8 : Nat) : Int)) (by first | rfl | (congr 1; omega)) (Z10 13 rfl (by kernel_rfl) rfl (RV.mul rfl rfl (by omega)) rfl (XW.slot (.int .i64 (((8 * (((a0.length - 1) - n13) % 8)) : Nat) : Int)) (by first | rfl | (congr 1) | (congr 1; omega)) ?_)))))))
    refine Z10 14 rfl (by kernel_rfl) rfl (RV.conv_i64 rfl rfl rfl) rfl (XW.slot (U64 (BitVec.ofNat 64 (8 * (((a0.length - 1) - n13) % 8)))) (congrArg U64 (BitVec.ofInt_natCast ..)) ?_)
    refine Z10 15 rfl (by kernel_rfl) rfl (RV.shl64 (s := (BitVec.ofNat 64 (8 * (((a0.length - 1) - n13) % 8))).toNat) rfl (by first | rfl | exact lit64 _ rfl) rfl (by first | rfl | (simp [U64]; done))) rfl ?_
    refine Z10 16 rfl (by kernel_rfl) rfl (RV.add64 rfl (by first | rfl | exact lit64 _ rfl) rfl (by first | rfl | exact lit64 _ rfl)) rfl (Z10 17 rfl (by kernel_rfl) rfl (Z142 ((((a0.length - 1) - n13) / 8)) rfl rfl rfl rfl rfl (by omega)) rfl (XW.sv 18 rfl (by kernel_rfl) (SV.store rfl rfl rfl rfl rfl (by rw [Z101, Zv]; omega)) (fun w m => m.pick [1] 2 rfl rfl) (XW.cells (u64s (w15.setIfInBounds (((a0.length - 1) - n13) / 8) (x27 + ((x29.setWidth 64) <<< (BitVec.ofNat 64 (8 * (((a0.length - 1) - n13) % 8))).toNat))).toList) (by rw [Nat.zero_add, u64s_set', vset]) (XW.nil (by kernel_rfl) (Z27 (Z1 (Z2 (Z0 (Z3 rfl) rfl (Z0 (RV.add rfl rfl (by omega)) rfl ?_)))))))))
    refine Z7 (.int .i64 (((n13 + 1) : Nat) : Int)) (by first | rfl | (congr 1) | (congr 1; omega)) (Z0 (Z5 rfl) rfl (Z6 ?_))
    exact Z131 (k' := k16) (Nat.lt_succ_self _) ⟨(n13 + 1), (w15.setIfInBounds (((a0.length - 1) - n13) / 8) (x27 + ((x29.setWidth 64) <<< (BitVec.ofNat 64 (8 * (((a0.length - 1) - n13) % 8))).toNat))), hl17, (by omega), rfl, rfl⟩ ⟨rfl, rfl, rfl, rfl, trivial⟩ (fun w m => m.pick [0, 1] 2 rfl rfl)
   ·replace hl17 := if_f hl17 h23
    refine Z14 rfl (decide_eq_false h23) (CW.exit (Z9 (Z9 (Z15 ?_))))
    exact QW.join ⟨w15, (Zi hl17).symm, rfl, rfl⟩ ⟨rfl, rfl, trivial⟩ (fun w m => m.pick [0, 1] 2 rfl rfl)
theorem u256_Strict_does (w0 : World) (Φ : Ctx) (N : List Ent) (hΦ : ∀ w, Mem w0 w N → Φ w) (A0_ : Option Addr) (c0_ : Nat) (a0 : List (BitVec 8)) (res0 : Vector (BitVec 64) 4) (res1 : Nat) (va0 : View Φ A0_ a0.length c0_ 1 (u8s a0)) (hf : u256_Strict a0 = some (res0, res1)) : DoesG Tryd.prog 114 [.slice A0_ a0.length c0_] w0 [] N (fun v G => (res1 ≤ 9223372036854775807) ∧ v = .tuple #[.agg (u64s res0.toList).toArray, .int .i64 ((res1 : Nat) : Int)]) := by
 unfold u256_Strict at hf
 replace va0 := va0.mono (Ψ := More w0 Φ []) (fun w q => q.1)
 have m1 := va0.mx
 refine DoesG.enter Tryd.func114 rfl Tryd.ntmps114 rfl (M := (([] ++ N))) rfl (Z4 (Z2 (OW.alloc (l := (u64s (Vector.replicate 4 0#64).toList)) rfl (by rw [Vector.toList_replicate, ← Z116]; rfl) rfl (fun b2 => (Z0 (Z5 rfl) rfl (Z6 (Z1 (Z4 (Z2 (Z0 (Z3 rfl) rfl ?_))))))))))
 obtain ⟨⟨x4, x5⟩, hx3, hf⟩ := Z103 hf
 try dsimp only at hf
 refine Z12 Tryd.call115 rfl (u256_Get_does w0 (More w0 Φ []) ((some b2, blk (u64s (Vector.replicate 4 0#64).toList) 35) :: ([] ++ N)) (fun w m => More.of hΦ 1 m rfl) A0_ c0_ a0 x4 x5 va0 hx3) rfl rfl ?_
 rintro _ G7 ⟨b6, rfl⟩
 refine Z20 (M' := ((some b2, blk (u64s (Vector.replicate 4 0#64).toList) 35) :: ([] ++ N))) (fun w m => m.appR) (Z0 (Z3 rfl) rfl (Z0 (Z17 rfl rfl) rfl (Z7 (.agg (u64s x4.toList).toArray) (rfl) (Z0 (Z17 rfl rfl) rfl (Z7 (.int .i64 ((x5 : Nat) : Int)) (rfl) (OW.alloc (l := (u64s (Vector.replicate 4 0#64).toList)) rfl (by rw [Vector.toList_replicate, ← Z116]; rfl) rfl (fun b9 => (Z28 (Z105 rfl rfl rfl (Z115 _) rfl ((Z101 _).trans Zv) ((Z101 _).trans Zv)) ?_))))))))
 refine Z0 (Z5 rfl) rfl (Z6 (Z1 (Z4 (Z4 ?_))))
 obtain ⟨q10, hq11, hf⟩ := Z103 hf
 refine Z120 (fun L' M' => ∃ p12 : Bool, q10 = p12 ∧ L' = [(2, ptr (some b2) 0), (4, ptr (some b9) 0), (5, .int .i64 ((x5 : Nat) : Int)), (23, .bool (p12))] ∧ M' = ((some b9, blk (u64s x4.toList) 35) :: (some b2, blk (u64s (Vector.replicate 4 0#64).toList) 35) :: ([] ++ N))) ?_ ?_
 ·rintro L14 M15 ⟨p12, e13, e16, e17⟩
  rw [e16, e17]
  clear e16 e17 L14 M15
  clear hq11
  rw [e13] at hf
  clear e13
  try dsimp only at hf
  refine Z1 ?_
  by_cases h18 : p12 = true
  ·replace hf := if_t hf h18
   refine Z13 rfl (h18) (Z4 (Z2 (Z0 (RV.build0 (l := (u64s (Vector.replicate 4 0#64).toList)) rfl rfl rfl (by rw [Vector.toList_replicate, ← Z116]; rfl)) rfl (OW.rot1 (Z28 (Z105 rfl rfl rfl (Z115 _) rfl ((Z101 _).trans Zv) ((Z101 _).trans Zv)) (Z0 (Z5 rfl) rfl (Z6 (Z1 (CW.ret (Z8 ?_))))))))))
   have er0 := Zi hf
   obtain ⟨e0, er1⟩ := Prod.mk.inj er0
   clear er0
   subst e0
   subst er1
   refine Z106 (rs := [.cell 2 35, .tmp 3]) ([.agg (u64s (Vector.replicate 4 0#64).toList).toArray, .int .i64 (13 : Int)]) ((some b2, blk (u64s (Vector.replicate 4 0#64).toList) 35) :: (some b9, blk (u64s x4.toList) 35) :: []) rfl ?_ rfl ?_ ?_ _ (.inl rfl)
   ·exact ⟨⟨_, _, _, _, rfl, Zh, rfl, rfl, (congrArg some ((Z101 _).trans Zv).symm), rfl⟩, rfl, trivial⟩
   ·exact ⟨(by omega), rfl⟩
   ·exact (fun w m => m)
  ·replace hf := if_f hf h18
   refine Z14 rfl (Bool.eq_false_iff.2 h18) (CW.skip (Z1 (Z4 (Z2 (Z0 (Z22 rfl Zh rfl rfl rfl rfl ((Z101 _).trans Zv)) rfl (Z0 (Z3 rfl) rfl (OW.rot1 (Z28 (Z105 rfl rfl rfl (Z115 _) rfl ((Z101 _).trans Zv) ((Z101 _).trans Zv)) (Z0 (Z5 rfl) rfl (Z6 (Z1 (CW.ret ?_))))))))))))
   have er0 := Zi hf
   obtain ⟨e0, er1⟩ := Prod.mk.inj er0
   clear er0
   subst e0
   subst er1
   refine Z106 (rs := [.cell 2 35, .tmp 3]) ([.agg (u64s x4.toList).toArray, .int .i64 ((x5 : Nat) : Int)]) ((some b2, blk (u64s x4.toList) 35) :: (some b9, blk (u64s x4.toList) 35) :: []) rfl ?_ rfl ?_ ?_ _ (.inl rfl)
   ·exact ⟨⟨_, _, _, _, rfl, Zh, rfl, rfl, (congrArg some ((Z101 _).trans Zv).symm), rfl⟩, rfl, trivial⟩
   ·exact ⟨(by omega), rfl⟩
   ·exact (fun w m => m)
 ·skip
  refine Z2 (Z0 (Z3 rfl) rfl (Z0 (RV.eql rfl rfl) rfl (Z7 (.bool (decide (x5 = 0))) (congrArg Value.bool (decide_eq_decide.2 (by omega))) (Z0 (Z3 rfl) rfl ?_))))
  by_cases h19 : x5 = 0
  ·replace hq11 := if_t hq11 h19
   refine Z7 (.bool true) (congrArg Value.bool (decide_eq_true h19)) (Z24 rfl (Z0 (Z3 rfl) rfl (Z24 rfl (Z0 (RV.len rfl rfl) rfl (Z24 rfl (Z0 (RV.gtr rfl rfl) rfl (Z7 (.bool (decide (0 < a0.length))) (congrArg Value.bool (decide_eq_decide.2 (by omega))) ?_)))))))
   refine Z0 (Z108 rfl rfl rfl) rfl (Z0 (Z3 rfl) rfl ?_)
   by_cases h20 : 0 < a0.length
   ·replace hq11 := if_t hq11 h20
    refine Z7 (.bool true) (congrArg Value.bool (decide_eq_true h20)) (Z24 rfl (Z0 (Z3 rfl) rfl (Z24 rfl ?_)))
    obtain ⟨x21, hx22, hq11⟩ := Z103 hq11
    have hl23 := Z129 hx22
    refine Z0 (Z141 (0) rfl rfl rfl rfl rfl (va0.isSome (by decide) hl23) (by omega)) rfl (Z24 rfl (Z0 (Z21 rfl rfl rfl (fun w m => va0.cell (More.of hΦ 2 m rfl) (u8s_at hx22))) rfl (Z24 rfl (Z0 (RV.eql8 rfl (by first | rfl | exact lit8 _ rfl) rfl (by first | rfl | exact lit8 _ rfl)) rfl (Z0 (Z108 rfl rfl rfl) rfl (Z6 ?_))))))
    exact QW.join ⟨(decide (x21 = 0#8)), (Zi hq11).symm, rfl, rfl⟩ ⟨rfl, rfl, rfl, rfl, trivial⟩ (fun w m => m.pick [0, 1] 2 rfl rfl)
   ·replace hq11 := if_f hq11 h20
    refine Z7 (.bool false) (congrArg Value.bool (decide_eq_false h20)) (Z23 rfl rfl rfl (Z23 rfl rfl rfl (Z23 rfl rfl rfl (Z23 rfl rfl rfl (Z0 (Z110 rfl rfl rfl) rfl (Z6 ?_))))))
    exact QW.join ⟨false, (Zi hq11).symm, rfl, rfl⟩ ⟨rfl, rfl, rfl, rfl, trivial⟩ (fun w m => m.pick [0, 1] 2 rfl rfl)
  ·replace hq11 := if_f hq11 h19
   refine Z7 (.bool false) (congrArg Value.bool (decide_eq_false h19)) (Z23 rfl rfl rfl (Z23 rfl rfl rfl (Z23 rfl rfl rfl (Z0 (Z110 rfl rfl rfl) rfl (Z0 (Z3 rfl) rfl (Z23 rfl rfl rfl (Z23 rfl rfl rfl ?_)))))))
   refine Z23 rfl rfl rfl (Z23 rfl rfl rfl (Z0 (Z110 rfl rfl rfl) rfl (Z6 ?_)))
   exact QW.join ⟨false, (Zi hq11).symm, rfl, rfl⟩ ⟨rfl, rfl, rfl, rfl, trivial⟩ (fun w m => m.pick [0, 1] 2 rfl rfl)
theorem waybillref07_Same_rec (w0 : World) : ∀ (kf : Nat) (Φ : Ctx) (N : List Ent) (hΦ : ∀ w, Mem w0 w N → Φ w) (cs0_ : List Value) (a0 : It) (cs1_ : List Value) (a1 : It) (res0 : Bool) (ha0 : ItRd Φ cs0_ a0) (ha1 : ItRd Φ cs1_ a1) (hf : waybillref07_Same.r kf a0 a1 = some res0), DoesG Tryd.prog 18 [.agg cs0_.toArray, .agg cs1_.toArray] w0 [] N (fun v G => v = .bool res0) := by
 intro kf
 induction kf with
 | zero => intro Φ N hΦ cs0_ a0 cs1_ a1 res0 ha0 ha1 hf; rw [waybillref07_Same.r] at hf; cases hf
 | succ kf ih =>
  intro Φ N hΦ cs0_ a0 cs1_ a1 res0 ha0 ha1 hf
  rw [waybillref07_Same.r] at hf
  replace ha0 := ItRd.mono (Ψ := More w0 Φ []) (fun w q => q.1) _ _ ha0
  have h10 := ha0
  obtain ⟨A1, c2, A4, c5, cs7, e9, v3, v6, h8⟩ := ItRd.opn ha0
  subst e9
  have m11 := v3.mx
  have m12 := v6.mx
  replace ha1 := ItRd.mono (Ψ := More w0 Φ []) (fun w q => q.1) _ _ ha1
  have h22 := ha1
  obtain ⟨A13, c14, A16, c17, cs19, e21, v15, v18, h20⟩ := ItRd.opn ha1
  subst e21
  have m23 := v15.mx
  have m24 := v18.mx
  refine DoesG.enter Tryd.func18 rfl Tryd.ntmps18 rfl (M := (([] ++ N))) rfl (Z4 (Z2 (OW.boxA rfl rfl (fun b25 => (OW.boxA rfl rfl (fun b26 => (Z0 (Z5 rfl) rfl (Z6 (Z1 (Z4 (Z4 ?_)))))))))))
  obtain ⟨q27, hq28, hf⟩ := Z103 hf
  refine Z120 (fun L' M' => ∃ p29 : Bool, q27 = p29 ∧ L' = [(2, ptr (some b25) 0), (3, ptr (some b26) 0), (29, .bool (p29))] ∧ M' = ((some b26, blk [.bool (a1.list), .slice A13 a1.data.length c14, .slice A16 a1.items.length c17] 25) :: (some b25, blk [.bool (a0.list), .slice A1 a0.data.length c2, .slice A4 a0.items.length c5] 25) :: ([] ++ N))) ?_ ?_
  ·rintro L31 M32 ⟨p29, e30, e33, e34⟩
   rw [e33, e34]
   clear e33 e34 L31 M32
   clear hq28
   rw [e30] at hf
   clear e30
   try dsimp only at hf
   refine Z1 ?_
   by_cases h35 : p29 = true
   ·replace hf := if_t hf h35
    refine Z13 rfl (h35) (Z4 (Z2 (Z0 (Z5 rfl) rfl (Z6 (Z1 (CW.ret (Z8 ?_)))))))
    have e0 := Zi hf
    subst e0
    refine Z106 (rs := [.tmp 4]) ([.bool false]) ((some b26, blk [.bool (a1.list), .slice A13 a1.data.length c14, .slice A16 a1.items.length c17] 25) :: (some b25, blk [.bool (a0.list), .slice A1 a0.data.length c2, .slice A4 a0.items.length c5] 25) :: []) rfl ?_ rfl ?_ ?_ _ (.inl rfl)
    ·exact ⟨rfl, trivial⟩
    ·exact rfl
    ·exact (fun w m => m)
   ·replace hf := if_f hf h35
    refine Z14 rfl (Bool.eq_false_iff.2 h35) (CW.skip (Z1 (Z4 (Z4 (Z2 (Z0 (Z5 rfl) rfl (Z6 (Z1 ?_))))))))
    obtain ⟨q36, hq37, hf⟩ := Z103 hf
    refine Z120 (fun L' M' => q36 = Lp.go () ∧ L' = [(2, ptr (some b25) 0), (3, ptr (some b26) 0)] ∧ M' = ((some b26, blk [.bool (a1.list), .slice A13 a1.data.length c14, .slice A16 a1.items.length c17] 25) :: (some b25, blk [.bool (a0.list), .slice A1 a0.data.length c2, .slice A4 a0.items.length c5] 25) :: ([] ++ N))) ?_ ?_
    ·rintro L39 M40 ⟨e38, e41, e42⟩
     rw [e41, e42]
     clear e41 e42 L39 M40
     clear hq37
     rw [e38] at hf
     clear e38
     try dsimp only at hf
     refine Z1 (Z4 (Z4 (Z2 (Z0 (Z5 rfl) rfl (Z6 (Z1 ?_))))))
     obtain ⟨q43, hq44, hf⟩ := Z103 hf
     refine Z120 (fun L' M' => q43 = Lp.go () ∧ L' = [] ∧ M' = (([] ++ N))) ?_ ?_
     ·rintro L46 M47 ⟨e45, e48, e49⟩
      rw [e48, e49]
      clear e48 e49 L46 M47
      clear hq44
      rw [e45] at hf
      clear e45
      try dsimp only at hf
      refine Z1 (Z4 (Z2 (Z0 (Z5 rfl) rfl (Z6 (Z1 (CW.ret ?_))))))
      have e0 := Zi hf
      subst e0
      refine Z106 (rs := [.tmp 4]) ([.bool true]) ([]) rfl ?_ rfl ?_ ?_ _ (.inl rfl)
      ·exact ⟨rfl, trivial⟩
      ·exact rfl
      ·exact (fun w m => m)
     ·skip
      refine CW.block (Z138 (fun k L' M' => ∃ n50 : Nat, (waybillref07_Same.l1 a0 a1 (waybillref07_Same.r kf) k n50) = some q43 ∧ (n50 ≤ 9223372036854775807) ∧ L' = [(2, ptr (some b25) 0), (3, ptr (some b26) 0), (6, .int .i64 ((n50 : Nat) : Int))] ∧ M' = ((some b26, blk [.bool (a1.list), .slice A13 a1.data.length c14, .slice A16 a1.items.length c17] 25) :: (some b25, blk [.bool (a0.list), .slice A1 a0.data.length c2, .slice A4 a0.items.length c5] 25) :: ([] ++ N))) (k0 := (a0.items.length - 0 + 2)) ⟨0, hq44, (by omega), rfl, rfl⟩ ⟨rfl, rfl, rfl, trivial⟩ (fun w m => m.pick [0, 1] 2 rfl rfl) ?_)
      clear hq44
      rintro k52 L55 M56 ⟨n50, hl53, b51, e57, e58⟩
      rw [e57, e58]
      clear e57 e58 L55 M56
      rcases k52 with _ | k52
      ·rw [waybillref07_Same.l1] at hl53; cases hl53
      rw [waybillref07_Same.l1] at hl53
      refine Z4 (Z4 (Z2 (Z0 (Z3 rfl) rfl (Z0 (Z30 rfl rfl rfl rfl) rfl (Z0 (Z29 rfl (List.Mem.tail _ Zh) rfl rfl rfl rfl) rfl (Z0 (RV.len rfl rfl) rfl (Z0 (RV.lss rfl rfl) rfl (Z7 (.bool (decide (n50 < a0.items.length))) (congrArg Value.bool (decide_eq_decide.2 (by omega))) (Z6 (Z1 ?_))))))))))
      by_cases h59 : n50 < a0.items.length
      ·replace hl53 := if_t hl53 h59
       refine Z13 rfl (decide_eq_true h59) (CW.skip (Z1 (Z4 (CW.block (Z4 (Z124 12 mixed (by kernel_rfl) rfl (Z18 0 rfl (by kernel_rfl) rfl (Z30 rfl rfl rfl rfl) rfl (Z18 1 rfl (by kernel_rfl) rfl (Z29 rfl (List.Mem.tail _ Zh) rfl rfl rfl rfl) rfl (Z18 2 rfl (by kernel_rfl) rfl (Z3 rfl) rfl ?_)))))))))
       obtain ⟨x60, hx61, hl53⟩ := Z103 hl53
       have hl62 := Z129 hx61
       refine Z18 3 rfl (by kernel_rfl) rfl (RV.idx_rs (n50) rfl rfl rfl rfl rfl (v6.isSome (by decide) hl62) (by omega)) rfl ?_
       obtain ⟨cs63, h64, h65⟩ := h8.get ItRd.len hx61
       have h75 := h64
       obtain ⟨A66, c67, A69, c70, cs72, e74, v68, v71, h73⟩ := ItRd.opn h64
       subst e74
       have m76 := v68.mx
       have m77 := v71.mx
       refine Z18 4 rfl (by kernel_rfl) rfl (RV.loadAs rfl rfl rfl rfl (fun w m => v6.load (More.of hΦ 2 m rfl) h65) rfl) rfl (Z18 5 rfl (by kernel_rfl) rfl (Z30 rfl rfl rfl rfl) rfl (Z18 6 rfl (by kernel_rfl) rfl (Z29 rfl Zh rfl rfl rfl rfl) rfl (Z18 7 rfl (by kernel_rfl) rfl (Z3 rfl) rfl ?_)))
       obtain ⟨x78, hx79, hl53⟩ := Z103 hl53
       have hl80 := Z129 hx79
       refine Z18 8 rfl (by kernel_rfl) rfl (RV.idx_rs (n50) rfl rfl rfl rfl rfl (v18.isSome (by decide) hl80) (by omega)) rfl ?_
       obtain ⟨cs81, h82, h83⟩ := h20.get ItRd.len hx79
       have h93 := h82
       obtain ⟨A84, c85, A87, c88, cs90, e92, v86, v89, h91⟩ := ItRd.opn h82
       subst e92
       have m94 := v86.mx
       have m95 := v89.mx
       refine Z18 9 rfl (by kernel_rfl) rfl (RV.loadAs rfl rfl rfl rfl (fun w m => v18.load (More.of hΦ 2 m rfl) h83) rfl) rfl ?_
       obtain ⟨x97, hx96, hl53⟩ := Z103 hl53
       refine Z25 10 rfl (by kernel_rfl) rfl Tryd.call18 rfl (fun N' hN' => ih (More w0 Φ []) N' (fun w m => More.of hΦ 2 (hN' w m) rfl) [.bool (x60.list), .slice A66 x60.data.length c67, .slice A69 x60.items.length c70] x60 [.bool (x78.list), .slice A84 x78.data.length c85, .slice A87 x78.items.length c88] x78 x97 h75 h93 hx96) rfl ?_
       rintro _ G98 rfl
       refine UW.mem (M' := ((some b26, blk [.bool (a1.list), .slice A13 a1.data.length c14, .slice A16 a1.items.length c17] 25) :: (some b25, blk [.bool (a0.list), .slice A1 a0.data.length c2, .slice A4 a0.items.length c5] 25) :: ([] ++ N))) (fun w m => m.appR) (Z18 11 rfl (by kernel_rfl) rfl (RV.not rfl) rfl (UW.nil (by kernel_rfl) (Z6 (Z1 ?_))))
       by_cases h100 : x97 = true
       ·replace hl53 := if_t hl53 h100
        refine Z14 rfl (congrArg (fun b => !b) (h100)) (CW.skip (Z27 (Z1 (Z2 (Z0 (Z3 rfl) rfl (Z0 (RV.add rfl rfl (by omega)) rfl (Z7 (.int .i64 (((n50 + 1) : Nat) : Int)) (by first | rfl | (congr 1) | (congr 1; omega)) (Z0 (Z5 rfl) rfl (Z6 ?_)))))))))
        exact Z131 (k' := k52) (Nat.lt_succ_self _) ⟨(n50 + 1), hl53, (by omega), rfl, rfl⟩ ⟨rfl, rfl, rfl, trivial⟩ (fun w m => m.pick [0, 1] 2 rfl rfl)
       ·replace hl53 := if_f hl53 h100
        refine Z13 rfl (congrArg (fun b => !b) (Bool.eq_false_iff.2 h100)) (Z4 (Z2 (Z0 (Z5 rfl) rfl (Z6 (Z1 (CW.ret (Z16 (Z8 (Z8 (Z16 (Z8 ?_)))))))))))
        have hc := Zi hl53
        subst hc
        try dsimp only at hf
        refine Z8 ?_
        have e0 := Zi hf
        subst e0
        refine Z106 (rs := [.tmp 4]) ([.bool false]) ((some b26, blk [.bool (a1.list), .slice A13 a1.data.length c14, .slice A16 a1.items.length c17] 25) :: (some b25, blk [.bool (a0.list), .slice A1 a0.data.length c2, .slice A4 a0.items.length c5] 25) :: []) rfl ?_ rfl ?_ ?_ _ (.inl rfl)
        ·exact ⟨rfl, trivial⟩
        ·exact rfl
        ·exact (fun w m => m)
      ·replace hl53 := if_f hl53 h59
       refine Z14 rfl (decide_eq_false h59) (CW.exit (Z9 (Z9 (Z15 ?_))))
       exact QW.join ⟨(Zi hl53).symm, rfl, rfl⟩ trivial (fun w m => m.pick [] 2 rfl rfl)
    ·skip
     refine CW.block (Z138 (fun k L' M' => ∃ n101 : Nat, (waybillref07_Same.l2 a0 a1 k n101) = some q36 ∧ (n101 ≤ 9223372036854775807) ∧ L' = [(2, ptr (some b25) 0), (3, ptr (some b26) 0), (5, .int .i64 ((n101 : Nat) : Int))] ∧ M' = ((some b26, blk [.bool (a1.list), .slice A13 a1.data.length c14, .slice A16 a1.items.length c17] 25) :: (some b25, blk [.bool (a0.list), .slice A1 a0.data.length c2, .slice A4 a0.items.length c5] 25) :: ([] ++ N))) (k0 := (a0.data.length - 0 + 2)) ⟨0, hq37, (by omega), rfl, rfl⟩ ⟨rfl, rfl, rfl, trivial⟩ (fun w m => m.pick [0, 1] 2 rfl rfl) ?_)
     clear hq37
     rintro k103 L106 M107 ⟨n101, hl104, b102, e108, e109⟩
     rw [e108, e109]
     clear e108 e109 L106 M107
     rcases k103 with _ | k103
     ·rw [waybillref07_Same.l2] at hl104; cases hl104
     rw [waybillref07_Same.l2] at hl104
     refine Z4 (Z4 (Z2 (Z0 (Z3 rfl) rfl (Z0 (Z30 rfl rfl rfl rfl) rfl (Z0 (Z29 rfl (List.Mem.tail _ Zh) rfl rfl rfl rfl) rfl (Z0 (RV.len rfl rfl) rfl (Z0 (RV.lss rfl rfl) rfl (Z7 (.bool (decide (n101 < a0.data.length))) (congrArg Value.bool (decide_eq_decide.2 (by omega))) (Z6 (Z1 ?_))))))))))
     by_cases h110 : n101 < a0.data.length
     ·replace hl104 := if_t hl104 h110
      refine Z13 rfl (decide_eq_true h110) (CW.skip (Z1 (Z4 (CW.block (Z4 (Z124 11 mixed (by kernel_rfl) rfl (Z18 0 rfl (by kernel_rfl) rfl (Z30 rfl rfl rfl rfl) rfl (Z18 1 rfl (by kernel_rfl) rfl (Z29 rfl (List.Mem.tail _ Zh) rfl rfl rfl rfl) rfl (Z18 2 rfl (by kernel_rfl) rfl (Z3 rfl) rfl ?_)))))))))
      obtain ⟨x111, hx112, hl104⟩ := Z103 hl104
      have hl113 := Z129 hx112
      refine Z18 3 rfl (by kernel_rfl) rfl (Z141 (n101) rfl rfl rfl rfl rfl (v3.isSome (by decide) hl113) (by omega)) rfl (Z18 4 rfl (by kernel_rfl) rfl (Z21 rfl rfl rfl (fun w m => v3.cell (More.of hΦ 2 m rfl) (u8s_at hx112))) rfl (Z18 5 rfl (by kernel_rfl) rfl (Z30 rfl rfl rfl rfl) rfl (Z18 6 rfl (by kernel_rfl) rfl (Z29 rfl Zh rfl rfl rfl rfl) rfl (Z18 7 rfl (by kernel_rfl) rfl (Z3 rfl) rfl ?_))))
      obtain ⟨x114, hx115, hl104⟩ := Z103 hl104
      have hl116 := Z129 hx115
      refine Z18 8 rfl (by kernel_rfl) rfl (Z141 (n101) rfl rfl rfl rfl rfl (v15.isSome (by decide) hl116) (by omega)) rfl (Z18 9 rfl (by kernel_rfl) rfl (Z21 rfl rfl rfl (fun w m => v15.cell (More.of hΦ 2 m rfl) (u8s_at hx115))) rfl (Z18 10 rfl (by kernel_rfl) rfl (RV.neq8 rfl (by first | rfl | exact lit8 _ rfl) rfl (by first | rfl | exact lit8 _ rfl)) rfl (UW.nil (by kernel_rfl) (Z6 (Z1 ?_)))))
      by_cases h117 : x111 = x114
      ·replace hl104 := if_t hl104 h117
       refine Z14 rfl (congrArg (fun b => !b) (decide_eq_true h117)) (CW.skip (Z27 (Z1 (Z2 (Z0 (Z3 rfl) rfl (Z0 (RV.add rfl rfl (by omega)) rfl (Z7 (.int .i64 (((n101 + 1) : Nat) : Int)) (by first | rfl | (congr 1) | (congr 1; omega)) (Z0 (Z5 rfl) rfl (Z6 ?_)))))))))
       exact Z131 (k' := k103) (Nat.lt_succ_self _) ⟨(n101 + 1), hl104, (by omega), rfl, rfl⟩ ⟨rfl, rfl, rfl, trivial⟩ (fun w m => m.pick [0, 1] 2 rfl rfl)
      ·replace hl104 := if_f hl104 h117
       refine Z13 rfl (congrArg (fun b => !b) (decide_eq_false h117)) (Z4 (Z2 (Z0 (Z5 rfl) rfl (Z6 (Z1 (CW.ret (Z16 (Z8 (Z8 (Z16 (Z8 ?_)))))))))))
       have hc := Zi hl104
       subst hc
       try dsimp only at hf
       refine Z8 ?_
       have e0 := Zi hf
       subst e0
       refine Z106 (rs := [.tmp 4]) ([.bool false]) ((some b26, blk [.bool (a1.list), .slice A13 a1.data.length c14, .slice A16 a1.items.length c17] 25) :: (some b25, blk [.bool (a0.list), .slice A1 a0.data.length c2, .slice A4 a0.items.length c5] 25) :: []) rfl ?_ rfl ?_ ?_ _ (.inl rfl)
       ·exact ⟨rfl, trivial⟩
       ·exact rfl
       ·exact (fun w m => m)
     ·replace hl104 := if_f hl104 h110
      refine Z14 rfl (decide_eq_false h110) (CW.exit (Z9 (Z9 (Z15 ?_))))
      exact QW.join ⟨(Zi hl104).symm, rfl, rfl⟩ ⟨rfl, rfl, trivial⟩ (fun w m => m.pick [0, 1] 2 rfl rfl)
  ·skip
   refine Z2 (Z0 (Z30 rfl rfl rfl rfl) rfl (Z0 (Z29 rfl (List.Mem.tail _ Zh) rfl rfl rfl rfl) rfl (Z0 (Z30 rfl rfl rfl rfl) rfl (Z0 (Z29 rfl Zh rfl rfl rfl rfl) rfl (Z0 (RV.neqB rfl rfl rfl) rfl (Z7 (.bool (!decide ((a0.list) = (a1.list)))) (by first | rfl | (congr 1) | simp) (Z0 (Z3 rfl) rfl ?_)))))))
   by_cases h118 : (a0.list) = (a1.list)
   ·replace hq28 := if_t hq28 h118
    refine Z7 (.bool false) (congrArg Value.bool (congrArg (fun b => !b) (decide_eq_true h118))) (Z24 rfl (Z0 (Z30 rfl rfl rfl rfl) rfl (Z24 rfl (Z0 (Z29 rfl (List.Mem.tail _ Zh) rfl rfl rfl rfl) rfl (Z24 rfl (Z0 (RV.len rfl rfl) rfl (Z24 rfl ?_)))))))
    refine Z0 (Z30 rfl rfl rfl rfl) rfl (Z24 rfl (Z0 (Z29 rfl Zh rfl rfl rfl rfl) rfl (Z24 rfl (Z0 (RV.len rfl rfl) rfl (Z24 rfl (Z0 (RV.neq rfl rfl) rfl (Z7 (.bool (!decide (a0.data.length = a1.data.length))) (congrArg (fun b => Value.bool (!b)) (decide_eq_decide.2 (by omega))) ?_)))))))
    refine Z0 (Z110 rfl rfl rfl) rfl (Z0 (Z3 rfl) rfl ?_)
    by_cases h119 : a0.data.length = a1.data.length
    ·replace hq28 := if_t hq28 h119
     refine Z7 (.bool false) (congrArg Value.bool (congrArg (fun b => !b) (decide_eq_true h119))) (Z24 rfl (Z0 (Z30 rfl rfl rfl rfl) rfl (Z24 rfl (Z0 (Z29 rfl (List.Mem.tail _ Zh) rfl rfl rfl rfl) rfl (Z24 rfl (Z0 (RV.len rfl rfl) rfl (Z24 rfl ?_)))))))
     refine Z0 (Z30 rfl rfl rfl rfl) rfl (Z24 rfl (Z0 (Z29 rfl Zh rfl rfl rfl rfl) rfl (Z24 rfl (Z0 (RV.len rfl rfl) rfl (Z24 rfl (Z0 (RV.neq rfl rfl) rfl (Z7 (.bool (!decide (a0.items.length = a1.items.length))) (congrArg (fun b => Value.bool (!b)) (decide_eq_decide.2 (by omega))) ?_)))))))
     refine Z0 (Z110 rfl rfl rfl) rfl (Z6 ?_)
     exact QW.join ⟨(!decide (a0.items.length = a1.items.length)), (Zi hq28).symm, rfl, rfl⟩ ⟨rfl, rfl, rfl, trivial⟩ (fun w m => m.pick [0, 1] 2 rfl rfl)
    ·replace hq28 := if_f hq28 h119
     refine Z7 (.bool true) (congrArg Value.bool (congrArg (fun b => !b) (decide_eq_false h119))) (Z23 rfl rfl rfl (Z23 rfl rfl rfl (Z23 rfl rfl rfl (Z23 rfl rfl rfl (Z23 rfl rfl rfl (Z23 rfl rfl rfl (Z23 rfl rfl rfl ?_)))))))
     refine Z0 (Z108 rfl rfl rfl) rfl (Z6 ?_)
     exact QW.join ⟨true, (Zi hq28).symm, rfl, rfl⟩ ⟨rfl, rfl, rfl, trivial⟩ (fun w m => m.pick [0, 1] 2 rfl rfl)
   ·replace hq28 := if_f hq28 h118
    refine Z7 (.bool true) (congrArg Value.bool (congrArg (fun b => !b) (decide_eq_false h118))) (Z23 rfl rfl rfl (Z23 rfl rfl rfl (Z23 rfl rfl rfl (Z23 rfl rfl rfl (Z23 rfl rfl rfl (Z23 rfl rfl rfl (Z23 rfl rfl rfl ?_)))))))
    refine Z0 (Z108 rfl rfl rfl) rfl (Z0 (Z3 rfl) rfl (Z23 rfl rfl rfl (Z23 rfl rfl rfl (Z23 rfl rfl rfl (Z23 rfl rfl rfl (Z23 rfl rfl rfl (Z23 rfl rfl rfl ?_)))))))
    refine Z23 rfl rfl rfl (Z0 (Z108 rfl rfl rfl) rfl (Z6 ?_))
    exact QW.join ⟨true, (Zi hq28).symm, rfl, rfl⟩ ⟨rfl, rfl, rfl, trivial⟩ (fun w m => m.pick [0, 1] 2 rfl rfl)
theorem waybillref07_Same_does (w0 : World) (Φ : Ctx) (N : List Ent) (hΦ : ∀ w, Mem w0 w N → Φ w) (cs0_ : List Value) (a0 : It) (cs1_ : List Value) (a1 : It) (res0 : Bool) (ha0 : ItRd Φ cs0_ a0) (ha1 : ItRd Φ cs1_ a1) (hf : waybillref07_Same a0 a1 = some res0) : DoesG Tryd.prog 18 [.agg cs0_.toArray, .agg cs1_.toArray] w0 [] N (fun v G => v = .bool res0) := waybillref07_Same_rec w0 _ Φ N hΦ cs0_ a0 cs1_ a1 res0 ha0 ha1 hf
theorem rlp_twin_rec (w0 : World) : ∀ (kf : Nat) (Φ : Ctx) (N : List Ent) (hΦ : ∀ w, Mem w0 w N → Φ w) (A0_ : Option Addr) (c0_ : Nat) (cs0_ : List Value) (a0 : List (It)) (res0 : List (It)) (va0 : View Φ A0_ a0.length c0_ 3 cs0_) (ha0 : Reps (ItRd Φ) cs0_ a0) (hf : rlp_twin.r kf a0 = some res0), DoesG Tryd.prog 82 [.slice A0_ a0.length c0_] w0 [] N (fun v G => ∃ B : List Ent, ∃ cr0 : List Value, ∃ or0 : Option Nat, ∃ kr0 : Nat, ∃ rr0 : List Value, (Reps (ItRd (More w0 Φ B)) cr0 res0) ∧ (OwnS or0 res0.length kr0 3 cr0 rr0) ∧ v = sl or0 0 res0.length kr0 ∧ G = (or0, blk (cr0 ++ rr0) 25) :: B) := by
 intro kf
 induction kf with
 | zero => intro Φ N hΦ A0_ c0_ cs0_ a0 res0 va0 ha0 hf; rw [rlp_twin.r] at hf; cases hf
 | succ kf ih =>
  intro Φ N hΦ A0_ c0_ cs0_ a0 res0 va0 ha0 hf
  rw [rlp_twin.r] at hf
  replace va0 := va0.mono (Ψ := More w0 Φ []) (fun w q => q.1)
  replace ha0 := ha0.mono (ItRd.mono (Ψ := More w0 Φ []) (fun w q => q.1))
  have m1 := va0.mx
  refine DoesG.enter Tryd.func82 rfl Tryd.ntmps82 rfl (M := (([] ++ N))) rfl (Z4 (Z2 (Z0 (Z5 rfl) rfl (Z6 (Z1 (Z4 (Z2 (Z0 (Z5 rfl) rfl (Z6 (Z1 (Z4 (Z4 (Z2 (Z0 (Z3 rfl) rfl (Z0 (RV.len rfl rfl) rfl ?_)))))))))))))))
  refine Z0 (Z3 rfl) rfl (Z6 (Z1 ?_))
  obtain ⟨q2, hq3, hf⟩ := Z103 hf
  refine Z120 (fun L' M' => ∃ l6 : List (It), ∃ B4 : List Ent, ∃ cs7 : List Value, ∃ ob9 : Option Nat, ∃ c10 : Nat, ∃ r11 : List Value, q2 = l6 ∧ (∀ w, Mem w0 w B4 → Mem w0 w []) ∧ (Reps (ItRd (More w0 Φ B4)) cs7 l6) ∧ (OwnS ob9 l6.length c10 3 cs7 r11) ∧ L' = [(3, sl ob9 0 l6.length c10)] ∧ M' = ((ob9, blk (cs7 ++ r11) 25) :: (B4 ++ N))) ?_ ?_
  ·rintro L14 M15 ⟨l6, B4, cs7, ob9, c10, r11, e13, hB5, h8, o12, e16, e17⟩
   rw [e16, e17]
   clear e16 e17 L14 M15
   clear hq3
   rw [e13] at hf
   clear e13
   try dsimp only at hf
   have m18 := o12.mx
   refine Z1 (Z4 (Z2 (Z0 (Z3 rfl) rfl (Z0 (Z5 rfl) rfl (Z6 (Z1 (CW.ret ?_)))))))
   have e0 := Zi hf
   subst e0
   refine Z106 (rs := [.tmp 2]) ([sl ob9 0 l6.length c10]) ((ob9, blk (cs7 ++ r11) 25) :: B4) rfl ?_ rfl ?_ ?_ _ (.inl rfl)
   ·exact ⟨rfl, trivial⟩
   ·exact ⟨B4, cs7, ob9, c10, r11, h8, o12, rfl, rfl⟩
   ·exact (fun w m => m.pick [0] 1 rfl rfl)
  ·skip
   refine CW.block (CW.mem (M' := ((none, blk ([] ++ []) 25) :: ([] ++ N))) (fun w m => m.nil_ent _) (Z138 (fun k L' M' => ∃ l21 : List (It), ∃ n28 : Nat, ∃ B19 : List Ent, ∃ cs22 : List Value, ∃ ob24 : Option Nat, ∃ c25 : Nat, ∃ r26 : List Value, (rlp_twin.l1 a0 (rlp_twin.r kf) k l21 n28) = some q2 ∧ (∀ w, Mem w0 w B19 → Mem w0 w []) ∧ (Reps (ItRd (More w0 Φ B19)) cs22 l21) ∧ (OwnS ob24 l21.length c25 3 cs22 r26) ∧ (n28 ≤ 9223372036854775807) ∧ L' = [(3, sl ob24 0 l21.length c25), (6, .slice A0_ a0.length c0_), (7, .int .i64 ((a0.length : Nat) : Int)), (8, .int .i64 ((n28 : Nat) : Int))] ∧ M' = ((ob24, blk (cs22 ++ r26) 25) :: (B19 ++ N))) (k0 := (a0.length - 0 + 2)) ⟨([] : List (It)), 0, [], [], none, 0, [], hq3, (fun w m => m), Reps.nil, OwnS.nil, (by omega), rfl, rfl⟩ ⟨rfl, rfl, rfl, rfl, trivial⟩ (fun w m => m.pick [0] 1 rfl rfl) ?_))
   clear hq3
   rintro k30 L33 M34 ⟨l21, n28, B19, cs22, ob24, c25, r26, hl31, hB20, h23, o27, b29, e35, e36⟩
   rw [e35, e36]
   clear e35 e36 L33 M34
   rcases k30 with _ | k30
   ·rw [rlp_twin.l1] at hl31; cases hl31
   rw [rlp_twin.l1] at hl31
   have gq6 : ∀ w, More w0 Φ B19 w → More w0 Φ [] w := fun w q => More.mono (fun w m => hB20 w (m)) q
   replace va0 := va0.mono gq6
   replace ha0 := ha0.mono (ItRd.mono gq6)
   have m37 := o27.mx
   refine Z4 (Z2 (Z0 (RV.lss rfl rfl) rfl (Z7 (.bool (decide (n28 < a0.length))) (congrArg Value.bool (decide_eq_decide.2 (by omega))) (Z6 (Z1 (Z4 ?_))))))
   by_cases h38 : n28 < a0.length
   ·replace hl31 := if_t hl31 h38
    refine Z13 rfl (decide_eq_true h38) (CW.skip (Z1 (Z4 (CW.block (Z4 (Z2 ?_))))))
    obtain ⟨x39, hx40, hl31⟩ := Z103 hl31
    have hl41 := Z129 hx40
    refine Z0 (RV.idx_rs (n28) rfl rfl rfl rfl rfl (va0.isSome (by decide) hl41) (by omega)) rfl ?_
    obtain ⟨cs42, h43, h44⟩ := ha0.get ItRd.len hx40
    have h54 := h43
    obtain ⟨A45, c46, A48, c49, cs51, e53, v47, v50, h52⟩ := ItRd.opn h43
    subst e53
    have m55 := v47.mx
    have m56 := v50.mx
    refine Z0 (RV.loadAs rfl rfl rfl rfl (fun w m => va0.load (More.of hΦ 1 m rfl) h44) rfl) rfl (OW.alloc (l := [.bool false, .slice none 0 0, .slice none 0 0]) rfl rfl rfl (fun b57 => ?_))
    refine Z28 (Z105 rfl rfl rfl (by intro u hu; simp at hu; rcases hu with rfl | rfl | rfl <;> rfl) rfl rfl rfl) ?_
    refine Z6 (Z1 (Z124 11 mixed (by kernel_rfl) rfl (Z18 0 rfl (by kernel_rfl) rfl (Z3 rfl) rfl (Z18 1 rfl (by kernel_rfl) rfl (Z30 rfl rfl rfl rfl) rfl (Z18 2 rfl (by kernel_rfl) rfl (Z29 rfl Zh rfl rfl rfl rfl) rfl (Z18 3 rfl (by kernel_rfl) rfl (Z30 rfl rfl rfl rfl) rfl (Z18 4 rfl (by kernel_rfl) rfl (Z29 rfl Zh rfl rfl rfl rfl) rfl (Z18 6 rfl (by kernel_rfl) rfl (Z30 rfl rfl rfl rfl) rfl ?_))))))))
    refine Z18 7 rfl (by kernel_rfl) rfl (Z29 rfl Zh rfl rfl rfl rfl) rfl ?_
    obtain ⟨x59, hx58, hl31⟩ := Z103 hl31
    refine Z25 5 rfl (by kernel_rfl) rfl Tryd.call77 rfl (fun N' hN' => rlp_clone_does w0 (More w0 Φ B19) N' (fun w m => More.of hΦ 2 (hN' w m) rfl) A45 c46 x39.data x59 v47 hx58) rfl ?_
    rintro L65 M66 ⟨B60, ob61, c62, r63, o64, e67, e68⟩
    rw [e67, e68]
    clear e67 e68 L65 M66
    refine UW.mem (M' := ((ob61, blk ((u8s x59) ++ r63) 5) :: (some b57, blk [.bool (x39.list), .slice A45 x39.data.length c46, .slice A48 x39.items.length c49] 25) :: (ob24, blk (cs22 ++ r26) 25) :: ((B60 ++ B19) ++ N))) (fun w m => by have h := Z119 (A := B60) m 1 2 rfl rfl; exact h) ?_
    have gq7 : ∀ w, More w0 Φ (B60 ++ B19) w → More w0 Φ B19 w := fun w q => More.mono (fun w m => (m).appR) q
    replace va0 := va0.mono gq7
    replace ha0 := ha0.mono (ItRd.mono gq7)
    replace h23 := h23.mono (ItRd.mono gq7)
    replace h54 := ItRd.mono gq7 _ _ h54
    replace v47 := v47.mono gq7
    replace v50 := v50.mono gq7
    replace h52 := h52.mono (ItRd.mono gq7)
    have m69 := o64.mx
    obtain ⟨x71, hx70, hl31⟩ := Z103 hl31
    refine Z25 8 rfl (by kernel_rfl) rfl Tryd.call82 rfl (fun N' hN' => ih (More w0 Φ (B60 ++ B19)) N' (fun w m => More.of hΦ 3 (hN' w m) rfl) A48 c49 cs51 x39.items x71 v50 h52 hx70) rfl ?_
    rintro L79 M80 ⟨B72, cs73, ob75, c76, r77, h74, o78, e81, e82⟩
    rw [e81, e82]
    clear e81 e82 L79 M80
    refine UW.mem (M' := ((ob75, blk (cs73 ++ r77) 25) :: (ob61, blk ((u8s x59) ++ r63) 5) :: (some b57, blk [.bool (x39.list), .slice A45 x39.data.length c46, .slice A48 x39.items.length c49] 25) :: (ob24, blk (cs22 ++ r26) 25) :: ((B72 ++ (B60 ++ B19)) ++ N))) (fun w m => by have h := Z119 (A := B72) m 1 3 rfl rfl; exact h) ?_
    have gq8 : ∀ w, More w0 Φ (B72 ++ (B60 ++ B19)) w → More w0 Φ (B60 ++ B19) w := fun w q => More.mono (fun w m => (m).appR) q
    replace va0 := va0.mono gq8
    replace ha0 := ha0.mono (ItRd.mono gq8)
    replace h23 := h23.mono (ItRd.mono gq8)
    replace h54 := ItRd.mono gq8 _ _ h54
    replace v47 := v47.mono gq8
    replace v50 := v50.mono gq8
    replace h52 := h52.mono (ItRd.mono gq8)
    replace h74 := h74.mono (ItRd.mono (Ψ := (More w0 Φ (B72 ++ (B60 ++ B19)))) (fun w q => More.flat q))
    have m83 := o78.mx
    refine Z18 9 rfl (by kernel_rfl) rfl (Z109 (l := [.bool false, .slice none 0 0, .slice none 0 0]) (cs := [.bool (x39.list), sl ob61 0 x59.length c62, sl ob75 0 x71.length c76]) [(0, [.bool (x39.list)]), (1, [sl ob61 0 x59.length c62]), (2, [sl ob75 0 x71.length c76])] rfl rfl rfl rfl rfl rfl rfl) rfl (UW.mem (M' := (ob75, blk (cs73 ++ r77) 25) :: (some b57, blk [.bool (x39.list), .slice A45 x39.data.length c46, .slice A48 x39.items.length c49] 25) :: (ob24, blk (cs22 ++ r26) 25) :: (((ob61, blk ((u8s x59) ++ r63) 5) :: (B72 ++ (B60 ++ B19))) ++ N)) (fun w m => m.pick [0, 2, 3, 1] 4 rfl rfl) ?_)
    have gq9 : ∀ w, More w0 Φ ((ob61, blk ((u8s x59) ++ r63) 5) :: (B72 ++ (B60 ++ B19))) w → More w0 Φ (B72 ++ (B60 ++ B19)) w := fun w q => More.mono (fun w m => (m).tail) q
    replace va0 := va0.mono gq9
    replace ha0 := ha0.mono (ItRd.mono gq9)
    replace h23 := h23.mono (ItRd.mono gq9)
    replace h54 := ItRd.mono gq9 _ _ h54
    replace v47 := v47.mono gq9
    replace v50 := v50.mono gq9
    replace h52 := h52.mono (ItRd.mono gq9)
    replace h74 := h74.mono (ItRd.mono gq9)
    have v86 : View (More w0 Φ ((ob61, blk ((u8s x59) ++ r63) 5) :: (B72 ++ (B60 ++ B19)))) ((ob61).map fun k => ⟨k, 0, none⟩) x59.length c62 1 (u8s x59) := o64.view (by decide) (fun w q => q.2.sublist (List.singleton_sublist.2 (List.mem_cons_self ..)))
    refine UW.mem (M' := (some b57, blk [.bool (x39.list), .slice A45 x39.data.length c46, .slice A48 x39.items.length c49] 25) :: (ob24, blk (cs22 ++ r26) 25) :: (((ob75, blk (cs73 ++ r77) 25) :: ((ob61, blk ((u8s x59) ++ r63) 5) :: (B72 ++ (B60 ++ B19)))) ++ N)) (fun w m => m.pick [1, 2, 0] 3 rfl rfl) ?_
    have gq10 : ∀ w, More w0 Φ ((ob75, blk (cs73 ++ r77) 25) :: ((ob61, blk ((u8s x59) ++ r63) 5) :: (B72 ++ (B60 ++ B19)))) w → More w0 Φ ((ob61, blk ((u8s x59) ++ r63) 5) :: (B72 ++ (B60 ++ B19))) w := fun w q => More.mono (fun w m => (m).tail) q
    replace va0 := va0.mono gq10
    replace ha0 := ha0.mono (ItRd.mono gq10)
    replace h23 := h23.mono (ItRd.mono gq10)
    replace h54 := ItRd.mono gq10 _ _ h54
    replace v47 := v47.mono gq10
    replace v50 := v50.mono gq10
    replace h52 := h52.mono (ItRd.mono gq10)
    replace v86 := v86.mono gq10
    replace h74 := h74.mono (ItRd.mono gq10)
    have v87 : View (More w0 Φ ((ob75, blk (cs73 ++ r77) 25) :: ((ob61, blk ((u8s x59) ++ r63) 5) :: (B72 ++ (B60 ++ B19))))) ((ob75).map fun k => ⟨k, 0, none⟩) x71.length c76 3 cs73 := o78.view (by decide) (fun w q => q.2.sublist (List.singleton_sublist.2 (List.mem_cons_self ..)))
    refine UW.new 10 rfl (by kernel_rfl) rfl (NV.bsA rfl rfl (by intro x hx; simp at hx; subst hx; exact rfl) rfl rfl rfl (by decide) (by decide) rfl) rfl (fun b84 => ?_)
    have h89 : Reps (ItRd (More w0 Φ ((ob75, blk (cs73 ++ r77) 25) :: ((ob61, blk ((u8s x59) ++ r63) 5) :: (B72 ++ (B60 ++ B19)))))) (([.bool (x39.list), .slice ((ob61).map fun k => ⟨k, 0, none⟩) x59.length c62, .slice ((ob75).map fun k => ⟨k, 0, none⟩) x71.length c76] : List Value)) [(It.mk (x39.list) x59 x71)] := Reps.one (ItRd.mk v86 v87 h74)
    refine UW.mem (M' := (((some b84), blk ((([.bool (x39.list), .slice ((ob61).map fun k => ⟨k, 0, none⟩) x59.length c62, .slice ((ob75).map fun k => ⟨k, 0, none⟩) x71.length c76] : List Value)) ++ []) 25) :: (some b57, blk [.bool (x39.list), .slice A45 x39.data.length c46, .slice A48 x39.items.length c49] 25) :: (ob24, blk (cs22 ++ r26) 25) :: (((ob75, blk (cs73 ++ r77) 25) :: ((ob61, blk ((u8s x59) ++ r63) 5) :: (B72 ++ (B60 ++ B19)))) ++ N))) (fun w m => m) ?_
    have o85 : OwnS (some b84) ([(It.mk (x39.list) x59 x71)] : List (It)).length 1 3 (([.bool (x39.list), .slice ((ob61).map fun k => ⟨k, 0, none⟩) x59.length c62, .slice ((ob75).map fun k => ⟨k, 0, none⟩) x71.length c76] : List Value)) [] := ⟨by simp [ItRd], by simp [ItRd], (fun h => nomatch h), by simp⟩
    have mx_o85 := o85.mx
    refine UW.slot (sl (some b84) 0 ([(It.mk (x39.list) x59 x71)] : List (It)).length 1) (rfl) (UW.nil (by kernel_rfl) (OW.rot2 ?_))
    obtain ⟨g90, hl31⟩ := Z128 hl31
    have h95 := h23.app h89
    refine OW.appendOwn (s := 3) rfl rfl rfl rfl rfl rfl o27 (fun w m => m.rd0 (List.Mem.tail _ Zh) (fun e => o85.nilc (by decide) e)) o85.n (h89.cell1 ItRd.one) (o85.zeroO (by decide)) (by decide) (by decide) (by first | omega | (simp only [i25, List.length_nil]; omega)) rfl rfl ((l21 ++ ([(It.mk (x39.list) x59 x71)] : List (It))).length) (cs22 ++ (([.bool (x39.list), .slice ((ob61).map fun k => ⟨k, 0, none⟩) x59.length c62, .slice ((ob75).map fun k => ⟨k, 0, none⟩) x71.length c76] : List Value))) (List.length_append ..).symm rfl (fun ob91 r92 c93 o94 => ?_)
    have m96 := o94.mx
    refine Z0 (Z5 rfl) rfl (Z6 (Z27 (Z1 (Z2 (Z0 (RV.add rfl rfl (by omega)) rfl (Z7 (.int .i64 (((n28 + 1) : Nat) : Int)) (by first | rfl | (congr 1) | (congr 1; omega)) (Z0 (Z3 rfl) rfl (Z6 ?_))))))))
    exact Z131 (k' := k30) (Nat.lt_succ_self _) ⟨(l21 ++ ([(It.mk (x39.list) x59 x71)] : List (It))), (n28 + 1), ((ob75, blk (cs73 ++ r77) 25) :: ((ob61, blk ((u8s x59) ++ r63) 5) :: (B72 ++ (B60 ++ B19)))), (cs22 ++ (([.bool (x39.list), .slice ((ob61).map fun k => ⟨k, 0, none⟩) x59.length c62, .slice ((ob75).map fun k => ⟨k, 0, none⟩) x71.length c76] : List Value))), ob91, c93, r92, hl31, (fun w m => hB20 w (((((m).tail).tail).appR).appR)), h95, o94, (by omega), rfl, rfl⟩ ⟨rfl, rfl, rfl, rfl, trivial⟩ (fun w m => m.pick [0] 3 rfl rfl)
   ·replace hl31 := if_f hl31 h38
    refine Z14 rfl (decide_eq_false h38) (CW.exit (Z9 (Z9 (Z15 ?_))))
    exact QW.join ⟨l21, B19, cs22, ob24, c25, r26, (Zi hl31).symm, (fun w m => hB20 w (m)), h23, o27, rfl, rfl⟩ ⟨rfl, trivial⟩ (fun w m => m.pick [0] 1 rfl rfl)
theorem rlp_twin_does (w0 : World) (Φ : Ctx) (N : List Ent) (hΦ : ∀ w, Mem w0 w N → Φ w) (A0_ : Option Addr) (c0_ : Nat) (cs0_ : List Value) (a0 : List (It)) (res0 : List (It)) (va0 : View Φ A0_ a0.length c0_ 3 cs0_) (ha0 : Reps (ItRd Φ) cs0_ a0) (hf : rlp_twin a0 = some res0) : DoesG Tryd.prog 82 [.slice A0_ a0.length c0_] w0 [] N (fun v G => ∃ B : List Ent, ∃ cr0 : List Value, ∃ or0 : Option Nat, ∃ kr0 : Nat, ∃ rr0 : List Value, (Reps (ItRd (More w0 Φ B)) cr0 res0) ∧ (OwnS or0 res0.length kr0 3 cr0 rr0) ∧ v = sl or0 0 res0.length kr0 ∧ G = (or0, blk (cr0 ++ rr0) 25) :: B) := rlp_twin_rec w0 _ Φ N hΦ A0_ c0_ cs0_ a0 res0 va0 ha0 hf
theorem waybillref07_Copy_rec (w0 : World) : ∀ (kf : Nat) (Φ : Ctx) (N : List Ent) (hΦ : ∀ w, Mem w0 w N → Φ w) (A0_ : Option Addr) (c0_ : Nat) (cs0_ : List Value) (a0 : List (It)) (res0 : List (It)) (va0 : View Φ A0_ a0.length c0_ 3 cs0_) (ha0 : Reps (ItRd Φ) cs0_ a0) (hf : waybillref07_Copy.r kf a0 = some res0), DoesG Tryd.prog 15 [.slice A0_ a0.length c0_] w0 [] N (fun v G => ∃ B : List Ent, ∃ cr0 : List Value, ∃ or0 : Option Nat, ∃ kr0 : Nat, ∃ rr0 : List Value, (Reps (ItRd (More w0 Φ B)) cr0 res0) ∧ (OwnS or0 res0.length kr0 3 cr0 rr0) ∧ v = sl or0 0 res0.length kr0 ∧ G = (or0, blk (cr0 ++ rr0) 25) :: B) := by
 intro kf
 induction kf with
 | zero => intro Φ N hΦ A0_ c0_ cs0_ a0 res0 va0 ha0 hf; rw [waybillref07_Copy.r] at hf; cases hf
 | succ kf ih =>
  intro Φ N hΦ A0_ c0_ cs0_ a0 res0 va0 ha0 hf
  rw [waybillref07_Copy.r] at hf
  replace va0 := va0.mono (Ψ := More w0 Φ []) (fun w q => q.1)
  replace ha0 := ha0.mono (ItRd.mono (Ψ := More w0 Φ []) (fun w q => q.1))
  have m1 := va0.mx
  refine DoesG.enter Tryd.func15 rfl Tryd.ntmps15 rfl (M := (([] ++ N))) rfl (Z4 (Z2 (Z0 (Z5 rfl) rfl (Z6 (Z1 (Z4 (Z2 (Z0 (Z5 rfl) rfl (Z6 (Z1 (Z4 (Z4 (Z2 (Z0 (Z5 rfl) rfl (Z6 (Z1 ?_))))))))))))))))
  obtain ⟨q2, hq3, hf⟩ := Z103 hf
  refine Z120 (fun L' M' => ∃ l6 : List (It), ∃ B4 : List Ent, ∃ cs7 : List Value, ∃ ob9 : Option Nat, ∃ c10 : Nat, ∃ r11 : List Value, q2 = l6 ∧ (∀ w, Mem w0 w B4 → Mem w0 w []) ∧ (Reps (ItRd (More w0 Φ B4)) cs7 l6) ∧ (OwnS ob9 l6.length c10 3 cs7 r11) ∧ L' = [(3, sl ob9 0 l6.length c10)] ∧ M' = ((ob9, blk (cs7 ++ r11) 25) :: (B4 ++ N))) ?_ ?_
  ·rintro L14 M15 ⟨l6, B4, cs7, ob9, c10, r11, e13, hB5, h8, o12, e16, e17⟩
   rw [e16, e17]
   clear e16 e17 L14 M15
   clear hq3
   rw [e13] at hf
   clear e13
   try dsimp only at hf
   have m18 := o12.mx
   refine Z1 (Z4 (Z2 (Z0 (Z3 rfl) rfl (Z0 (Z5 rfl) rfl (Z6 (Z1 (CW.ret ?_)))))))
   have e0 := Zi hf
   subst e0
   refine Z106 (rs := [.tmp 2]) ([sl ob9 0 l6.length c10]) ((ob9, blk (cs7 ++ r11) 25) :: B4) rfl ?_ rfl ?_ ?_ _ (.inl rfl)
   ·exact ⟨rfl, trivial⟩
   ·exact ⟨B4, cs7, ob9, c10, r11, h8, o12, rfl, rfl⟩
   ·exact (fun w m => m.pick [0] 1 rfl rfl)
  ·skip
   refine CW.block (CW.mem (M' := ((none, blk ([] ++ []) 25) :: ([] ++ N))) (fun w m => m.nil_ent _) (Z138 (fun k L' M' => ∃ l21 : List (It), ∃ n28 : Nat, ∃ B19 : List Ent, ∃ cs22 : List Value, ∃ ob24 : Option Nat, ∃ c25 : Nat, ∃ r26 : List Value, (waybillref07_Copy.l1 a0 (waybillref07_Copy.r kf) k l21 n28) = some q2 ∧ (∀ w, Mem w0 w B19 → Mem w0 w []) ∧ (Reps (ItRd (More w0 Φ B19)) cs22 l21) ∧ (OwnS ob24 l21.length c25 3 cs22 r26) ∧ (n28 ≤ 9223372036854775807) ∧ L' = [(0, .slice A0_ a0.length c0_), (3, sl ob24 0 l21.length c25), (4, .int .i64 ((n28 : Nat) : Int))] ∧ M' = ((ob24, blk (cs22 ++ r26) 25) :: (B19 ++ N))) (k0 := (a0.length - 0 + 2)) ⟨([] : List (It)), 0, [], [], none, 0, [], hq3, (fun w m => m), Reps.nil, OwnS.nil, (by omega), rfl, rfl⟩ ⟨rfl, rfl, rfl, trivial⟩ (fun w m => m.pick [0] 1 rfl rfl) ?_))
   clear hq3
   rintro k30 L33 M34 ⟨l21, n28, B19, cs22, ob24, c25, r26, hl31, hB20, h23, o27, b29, e35, e36⟩
   rw [e35, e36]
   clear e35 e36 L33 M34
   rcases k30 with _ | k30
   ·rw [waybillref07_Copy.l1] at hl31; cases hl31
   rw [waybillref07_Copy.l1] at hl31
   have gq6 : ∀ w, More w0 Φ B19 w → More w0 Φ [] w := fun w q => More.mono (fun w m => hB20 w (m)) q
   replace va0 := va0.mono gq6
   replace ha0 := ha0.mono (ItRd.mono gq6)
   have m37 := o27.mx
   refine Z4 (Z4 (Z2 (Z0 (Z3 rfl) rfl (Z0 (Z3 rfl) rfl (Z0 (RV.len rfl rfl) rfl (Z0 (RV.lss rfl rfl) rfl (Z7 (.bool (decide (n28 < a0.length))) (congrArg Value.bool (decide_eq_decide.2 (by omega))) (Z6 (Z1 ?_)))))))))
   by_cases h38 : n28 < a0.length
   ·replace hl31 := if_t hl31 h38
    refine Z13 rfl (decide_eq_true h38) (CW.skip (Z1 (Z4 (CW.block (Z4 (Z2 (Z0 (Z3 rfl) rfl (Z0 (Z3 rfl) rfl ?_))))))))
    obtain ⟨x39, hx40, hl31⟩ := Z103 hl31
    have hl41 := Z129 hx40
    refine Z0 (RV.idx_rs (n28) rfl rfl rfl rfl rfl (va0.isSome (by decide) hl41) (by omega)) rfl ?_
    obtain ⟨cs42, h43, h44⟩ := ha0.get ItRd.len hx40
    have h54 := h43
    obtain ⟨A45, c46, A48, c49, cs51, e53, v47, v50, h52⟩ := ItRd.opn h43
    subst e53
    have m55 := v47.mx
    have m56 := v50.mx
    refine Z0 (RV.loadAs rfl rfl rfl rfl (fun w m => va0.load (More.of hΦ 1 m rfl) h44) rfl) rfl (OW.alloc (l := [.bool false, .slice none 0 0, .slice none 0 0]) rfl rfl rfl (fun b57 => ?_))
    refine Z28 (Z105 rfl rfl rfl (by intro u hu; simp at hu; rcases hu with rfl | rfl | rfl <;> rfl) rfl rfl rfl) ?_
    refine Z6 (Z1 (Z124 11 mixed (by kernel_rfl) rfl (Z18 0 rfl (by kernel_rfl) rfl (Z3 rfl) rfl (Z18 1 rfl (by kernel_rfl) rfl (Z30 rfl rfl rfl rfl) rfl (Z18 2 rfl (by kernel_rfl) rfl (Z29 rfl Zh rfl rfl rfl rfl) rfl (Z18 3 rfl (by kernel_rfl) rfl (Z30 rfl rfl rfl rfl) rfl (Z18 4 rfl (by kernel_rfl) rfl (Z29 rfl Zh rfl rfl rfl rfl) rfl (Z18 6 rfl (by kernel_rfl) rfl (Z30 rfl rfl rfl rfl) rfl ?_))))))))
    refine Z18 7 rfl (by kernel_rfl) rfl (Z29 rfl Zh rfl rfl rfl rfl) rfl ?_
    obtain ⟨x59, hx58, hl31⟩ := Z103 hl31
    refine Z25 5 rfl (by kernel_rfl) rfl Tryd.call41 rfl (fun N' hN' => Z122 w0 (More w0 Φ B19) N' (fun w m => More.of hΦ 2 (hN' w m) rfl) A45 c46 x39.data x59 v47 hx58) rfl ?_
    rintro L65 M66 ⟨B60, ob61, c62, r63, o64, e67, e68⟩
    rw [e67, e68]
    clear e67 e68 L65 M66
    refine UW.mem (M' := ((ob61, blk ((u8s x59) ++ r63) 5) :: (some b57, blk [.bool (x39.list), .slice A45 x39.data.length c46, .slice A48 x39.items.length c49] 25) :: (ob24, blk (cs22 ++ r26) 25) :: ((B60 ++ B19) ++ N))) (fun w m => by have h := Z119 (A := B60) m 1 2 rfl rfl; exact h) ?_
    have gq7 : ∀ w, More w0 Φ (B60 ++ B19) w → More w0 Φ B19 w := fun w q => More.mono (fun w m => (m).appR) q
    replace va0 := va0.mono gq7
    replace ha0 := ha0.mono (ItRd.mono gq7)
    replace h23 := h23.mono (ItRd.mono gq7)
    replace h54 := ItRd.mono gq7 _ _ h54
    replace v47 := v47.mono gq7
    replace v50 := v50.mono gq7
    replace h52 := h52.mono (ItRd.mono gq7)
    have m69 := o64.mx
    obtain ⟨x71, hx70, hl31⟩ := Z103 hl31
    refine Z25 8 rfl (by kernel_rfl) rfl Tryd.call15 rfl (fun N' hN' => ih (More w0 Φ (B60 ++ B19)) N' (fun w m => More.of hΦ 3 (hN' w m) rfl) A48 c49 cs51 x39.items x71 v50 h52 hx70) rfl ?_
    rintro L79 M80 ⟨B72, cs73, ob75, c76, r77, h74, o78, e81, e82⟩
    rw [e81, e82]
    clear e81 e82 L79 M80
    refine UW.mem (M' := ((ob75, blk (cs73 ++ r77) 25) :: (ob61, blk ((u8s x59) ++ r63) 5) :: (some b57, blk [.bool (x39.list), .slice A45 x39.data.length c46, .slice A48 x39.items.length c49] 25) :: (ob24, blk (cs22 ++ r26) 25) :: ((B72 ++ (B60 ++ B19)) ++ N))) (fun w m => by have h := Z119 (A := B72) m 1 3 rfl rfl; exact h) ?_
    have gq8 : ∀ w, More w0 Φ (B72 ++ (B60 ++ B19)) w → More w0 Φ (B60 ++ B19) w := fun w q => More.mono (fun w m => (m).appR) q
    replace va0 := va0.mono gq8
    replace ha0 := ha0.mono (ItRd.mono gq8)
    replace h23 := h23.mono (ItRd.mono gq8)
    replace h54 := ItRd.mono gq8 _ _ h54
    replace v47 := v47.mono gq8
    replace v50 := v50.mono gq8
    replace h52 := h52.mono (ItRd.mono gq8)
    replace h74 := h74.mono (ItRd.mono (Ψ := (More w0 Φ (B72 ++ (B60 ++ B19)))) (fun w q => More.flat q))
    have m83 := o78.mx
    refine Z18 9 rfl (by kernel_rfl) rfl (Z109 (l := [.bool false, .slice none 0 0, .slice none 0 0]) (cs := [.bool (x39.list), sl ob61 0 x59.length c62, sl ob75 0 x71.length c76]) [(0, [.bool (x39.list)]), (1, [sl ob61 0 x59.length c62]), (2, [sl ob75 0 x71.length c76])] rfl rfl rfl rfl rfl rfl rfl) rfl (UW.mem (M' := (ob75, blk (cs73 ++ r77) 25) :: (some b57, blk [.bool (x39.list), .slice A45 x39.data.length c46, .slice A48 x39.items.length c49] 25) :: (ob24, blk (cs22 ++ r26) 25) :: (((ob61, blk ((u8s x59) ++ r63) 5) :: (B72 ++ (B60 ++ B19))) ++ N)) (fun w m => m.pick [0, 2, 3, 1] 4 rfl rfl) ?_)
    have gq9 : ∀ w, More w0 Φ ((ob61, blk ((u8s x59) ++ r63) 5) :: (B72 ++ (B60 ++ B19))) w → More w0 Φ (B72 ++ (B60 ++ B19)) w := fun w q => More.mono (fun w m => (m).tail) q
    replace va0 := va0.mono gq9
    replace ha0 := ha0.mono (ItRd.mono gq9)
    replace h23 := h23.mono (ItRd.mono gq9)
    replace h54 := ItRd.mono gq9 _ _ h54
    replace v47 := v47.mono gq9
    replace v50 := v50.mono gq9
    replace h52 := h52.mono (ItRd.mono gq9)
    replace h74 := h74.mono (ItRd.mono gq9)
    have v86 : View (More w0 Φ ((ob61, blk ((u8s x59) ++ r63) 5) :: (B72 ++ (B60 ++ B19)))) ((ob61).map fun k => ⟨k, 0, none⟩) x59.length c62 1 (u8s x59) := o64.view (by decide) (fun w q => q.2.sublist (List.singleton_sublist.2 (List.mem_cons_self ..)))
    refine UW.mem (M' := (some b57, blk [.bool (x39.list), .slice A45 x39.data.length c46, .slice A48 x39.items.length c49] 25) :: (ob24, blk (cs22 ++ r26) 25) :: (((ob75, blk (cs73 ++ r77) 25) :: ((ob61, blk ((u8s x59) ++ r63) 5) :: (B72 ++ (B60 ++ B19)))) ++ N)) (fun w m => m.pick [1, 2, 0] 3 rfl rfl) ?_
    have gq10 : ∀ w, More w0 Φ ((ob75, blk (cs73 ++ r77) 25) :: ((ob61, blk ((u8s x59) ++ r63) 5) :: (B72 ++ (B60 ++ B19)))) w → More w0 Φ ((ob61, blk ((u8s x59) ++ r63) 5) :: (B72 ++ (B60 ++ B19))) w := fun w q => More.mono (fun w m => (m).tail) q
    replace va0 := va0.mono gq10
    replace ha0 := ha0.mono (ItRd.mono gq10)
    replace h23 := h23.mono (ItRd.mono gq10)
    replace h54 := ItRd.mono gq10 _ _ h54
    replace v47 := v47.mono gq10
    replace v50 := v50.mono gq10
    replace h52 := h52.mono (ItRd.mono gq10)
    replace v86 := v86.mono gq10
    replace h74 := h74.mono (ItRd.mono gq10)
    have v87 : View (More w0 Φ ((ob75, blk (cs73 ++ r77) 25) :: ((ob61, blk ((u8s x59) ++ r63) 5) :: (B72 ++ (B60 ++ B19))))) ((ob75).map fun k => ⟨k, 0, none⟩) x71.length c76 3 cs73 := o78.view (by decide) (fun w q => q.2.sublist (List.singleton_sublist.2 (List.mem_cons_self ..)))
    refine UW.new 10 rfl (by kernel_rfl) rfl (NV.bsA rfl rfl (by intro x hx; simp at hx; subst hx; exact rfl) rfl rfl rfl (by decide) (by decide) rfl) rfl (fun b84 => ?_)
    have h89 : Reps (ItRd (More w0 Φ ((ob75, blk (cs73 ++ r77) 25) :: ((ob61, blk ((u8s x59) ++ r63) 5) :: (B72 ++ (B60 ++ B19)))))) (([.bool (x39.list), .slice ((ob61).map fun k => ⟨k, 0, none⟩) x59.length c62, .slice ((ob75).map fun k => ⟨k, 0, none⟩) x71.length c76] : List Value)) [(It.mk (x39.list) x59 x71)] := Reps.one (ItRd.mk v86 v87 h74)
    refine UW.mem (M' := (((some b84), blk ((([.bool (x39.list), .slice ((ob61).map fun k => ⟨k, 0, none⟩) x59.length c62, .slice ((ob75).map fun k => ⟨k, 0, none⟩) x71.length c76] : List Value)) ++ []) 25) :: (some b57, blk [.bool (x39.list), .slice A45 x39.data.length c46, .slice A48 x39.items.length c49] 25) :: (ob24, blk (cs22 ++ r26) 25) :: (((ob75, blk (cs73 ++ r77) 25) :: ((ob61, blk ((u8s x59) ++ r63) 5) :: (B72 ++ (B60 ++ B19)))) ++ N))) (fun w m => m) ?_
    have o85 : OwnS (some b84) ([(It.mk (x39.list) x59 x71)] : List (It)).length 1 3 (([.bool (x39.list), .slice ((ob61).map fun k => ⟨k, 0, none⟩) x59.length c62, .slice ((ob75).map fun k => ⟨k, 0, none⟩) x71.length c76] : List Value)) [] := ⟨by simp [ItRd], by simp [ItRd], (fun h => nomatch h), by simp⟩
    have mx_o85 := o85.mx
    refine UW.slot (sl (some b84) 0 ([(It.mk (x39.list) x59 x71)] : List (It)).length 1) (rfl) (UW.nil (by kernel_rfl) (OW.rot2 ?_))
    obtain ⟨g90, hl31⟩ := Z128 hl31
    have h95 := h23.app h89
    refine OW.appendOwn (s := 3) rfl rfl rfl rfl rfl rfl o27 (fun w m => m.rd0 (List.Mem.tail _ Zh) (fun e => o85.nilc (by decide) e)) o85.n (h89.cell1 ItRd.one) (o85.zeroO (by decide)) (by decide) (by decide) (by first | omega | (simp only [i25, List.length_nil]; omega)) rfl rfl ((l21 ++ ([(It.mk (x39.list) x59 x71)] : List (It))).length) (cs22 ++ (([.bool (x39.list), .slice ((ob61).map fun k => ⟨k, 0, none⟩) x59.length c62, .slice ((ob75).map fun k => ⟨k, 0, none⟩) x71.length c76] : List Value))) (List.length_append ..).symm rfl (fun ob91 r92 c93 o94 => ?_)
    have m96 := o94.mx
    refine Z0 (Z5 rfl) rfl (Z6 (Z27 (Z1 (Z2 (Z0 (Z3 rfl) rfl (Z0 (RV.add rfl rfl (by omega)) rfl (Z7 (.int .i64 (((n28 + 1) : Nat) : Int)) (by first | rfl | (congr 1) | (congr 1; omega)) (Z0 (Z5 rfl) rfl (Z6 ?_)))))))))
    exact Z131 (k' := k30) (Nat.lt_succ_self _) ⟨(l21 ++ ([(It.mk (x39.list) x59 x71)] : List (It))), (n28 + 1), ((ob75, blk (cs73 ++ r77) 25) :: ((ob61, blk ((u8s x59) ++ r63) 5) :: (B72 ++ (B60 ++ B19)))), (cs22 ++ (([.bool (x39.list), .slice ((ob61).map fun k => ⟨k, 0, none⟩) x59.length c62, .slice ((ob75).map fun k => ⟨k, 0, none⟩) x71.length c76] : List Value))), ob91, c93, r92, hl31, (fun w m => hB20 w (((((m).tail).tail).appR).appR)), h95, o94, (by omega), rfl, rfl⟩ ⟨rfl, rfl, rfl, trivial⟩ (fun w m => m.pick [0] 3 rfl rfl)
   ·replace hl31 := if_f hl31 h38
    refine Z14 rfl (decide_eq_false h38) (CW.exit (Z9 (Z9 (Z15 ?_))))
    exact QW.join ⟨l21, B19, cs22, ob24, c25, r26, (Zi hl31).symm, (fun w m => hB20 w (m)), h23, o27, rfl, rfl⟩ ⟨rfl, trivial⟩ (fun w m => m.pick [0] 1 rfl rfl)
theorem waybillref07_Copy_does (w0 : World) (Φ : Ctx) (N : List Ent) (hΦ : ∀ w, Mem w0 w N → Φ w) (A0_ : Option Addr) (c0_ : Nat) (cs0_ : List Value) (a0 : List (It)) (res0 : List (It)) (va0 : View Φ A0_ a0.length c0_ 3 cs0_) (ha0 : Reps (ItRd Φ) cs0_ a0) (hf : waybillref07_Copy a0 = some res0) : DoesG Tryd.prog 15 [.slice A0_ a0.length c0_] w0 [] N (fun v G => ∃ B : List Ent, ∃ cr0 : List Value, ∃ or0 : Option Nat, ∃ kr0 : Nat, ∃ rr0 : List Value, (Reps (ItRd (More w0 Φ B)) cr0 res0) ∧ (OwnS or0 res0.length kr0 3 cr0 rr0) ∧ v = sl or0 0 res0.length kr0 ∧ G = (or0, blk (cr0 ++ rr0) 25) :: B) := waybillref07_Copy_rec w0 _ Φ N hΦ A0_ c0_ cs0_ a0 res0 va0 ha0 hf
theorem rlp_GetText_does (w0 : World) (Φ : Ctx) (N : List Ent) (hΦ : ∀ w, Mem w0 w N → Φ w) (cs0_ : List Value) (a0 : It) (res0 : List (BitVec 8)) (res1 : Nat) (ha0 : ItRd Φ cs0_ a0) (hf : rlp_GetText a0 = some (res0, res1)) : DoesG Tryd.prog 84 [.agg cs0_.toArray] w0 [] N (fun v G => ∃ B : List Ent, ∃ or0 : Option Nat, ∃ kr0 : Nat, ∃ rr0 : List Value, (OwnS or0 res0.length kr0 1 (u8s res0) rr0) ∧ (res1 ≤ 9223372036854775807) ∧ v = .tuple #[sl or0 0 res0.length kr0, .int .i64 ((res1 : Nat) : Int)] ∧ G = (or0, blk ((u8s res0) ++ rr0) 5) :: B) := by
 unfold rlp_GetText at hf
 replace ha0 := ItRd.mono (Ψ := More w0 Φ []) (fun w q => q.1) _ _ ha0
 have h10 := ha0
 obtain ⟨A1, c2, A4, c5, cs7, e9, v3, v6, h8⟩ := ItRd.opn ha0
 subst e9
 have m11 := v3.mx
 have m12 := v6.mx
 refine DoesG.enter Tryd.func84 rfl Tryd.ntmps84 rfl (M := (([] ++ N))) rfl (Z4 (Z2 (OW.boxA rfl rfl (fun b13 => (Z0 (Z5 rfl) rfl (Z0 (Z5 rfl) rfl (Z6 (Z1 (Z4 (Z4 (Z2 (Z0 (Z22 rfl Zh rfl rfl rfl rfl rfl) rfl ?_))))))))))))
 obtain ⟨x15, hx14, hf⟩ := Z103 hf
 refine Z12 Tryd.call76 rfl (rlp_kind_does w0 (More w0 Φ []) ((some b13, blk [.bool (a0.list), .slice A1 a0.data.length c2, .slice A4 a0.items.length c5] 25) :: ([] ++ N)) (fun w m => More.of hΦ 1 m rfl) [.bool (a0.list), .slice A1 a0.data.length c2, .slice A4 a0.items.length c5] a0 false x15 h10 hx14) rfl rfl ?_
 rintro _ G17 ⟨b16, rfl⟩
 refine Z20 (M' := ((some b13, blk [.bool (a0.list), .slice A1 a0.data.length c2, .slice A4 a0.items.length c5] 25) :: ([] ++ N))) (fun w m => m.appR) (Z0 (Z5 rfl) rfl (Z6 (Z1 (Z4 (Z2 (Z0 (Z3 rfl) rfl (Z0 (RV.neq rfl rfl) rfl (Z7 (.bool (!decide (x15 = 0))) (congrArg (fun b => Value.bool (!b)) (decide_eq_decide.2 (by omega))) (Z6 (Z1 ?_))))))))))
 by_cases h19 : x15 = 0
 ·replace hf := if_t hf h19
  refine Z14 rfl (congrArg (fun b => !b) (decide_eq_true h19)) (CW.skip (Z1 (Z4 (Z2 (Z0 (Z30 rfl rfl rfl rfl) rfl (Z0 (Z29 rfl Zh rfl rfl rfl rfl) rfl ?_))))))
  obtain ⟨x21, hx20, hf⟩ := Z103 hf
  refine Z12 Tryd.call77 rfl (rlp_clone_does w0 (More w0 Φ []) ((some b13, blk [.bool (a0.list), .slice A1 a0.data.length c2, .slice A4 a0.items.length c5] 25) :: ([] ++ N)) (fun w m => More.of hΦ 1 m rfl) A1 c2 a0.data x21 v3 hx20) rfl rfl ?_
  rintro L27 M28 ⟨B22, ob23, c24, r25, o26, e29, e30⟩
  rw [e29, e30]
  clear e29 e30 L27 M28
  refine Z20 (M' := ((ob23, blk ((u8s x21) ++ r25) 5) :: (some b13, blk [.bool (a0.list), .slice A1 a0.data.length c2, .slice A4 a0.items.length c5] 25) :: ((B22 ++ []) ++ N))) (fun w m => by have h := Z119 (A := B22) m 1 1 rfl rfl; exact h) ?_
  have gq1 : ∀ w, More w0 Φ (B22 ++ []) w → More w0 Φ [] w := fun w q => More.mono (fun w m => (m).appR) q
  replace h10 := ItRd.mono gq1 _ _ h10
  replace v3 := v3.mono gq1
  replace v6 := v6.mono gq1
  replace h8 := h8.mono (ItRd.mono gq1)
  have m31 := o26.mx
  refine Z0 (Z5 rfl) rfl (Z0 (Z5 rfl) rfl (Z6 (Z1 (CW.ret ?_))))
  have er0 := Zi hf
  obtain ⟨e0, er1⟩ := Prod.mk.inj er0
  clear er0
  subst e0
  subst er1
  refine Z106 (rs := [.tmp 2, .tmp 3]) ([sl ob23 0 x21.length c24, .int .i64 (0 : Int)]) ((ob23, blk ((u8s x21) ++ r25) 5) :: (B22 ++ [])) rfl ?_ rfl ?_ ?_ _ (.inl rfl)
  ·exact ⟨rfl, rfl, trivial⟩
  ·exact ⟨(B22 ++ []), ob23, c24, r25, o26, (by omega), rfl, rfl⟩
  ·exact (fun w m => m.pick [0] 2 rfl rfl)
 ·replace hf := if_f hf h19
  refine Z13 rfl (congrArg (fun b => !b) (decide_eq_false h19)) (Z4 (Z2 (Z0 (Z3 rfl) rfl (Z0 (Z5 rfl) rfl (Z0 (Z5 rfl) rfl (Z6 (Z1 (CW.ret (Z8 (QW.mem (M' := ((none, blk ((u8s ([] : List (BitVec 8))) ++ []) 5) :: (some b13, blk [.bool (a0.list), .slice A1 a0.data.length c2, .slice A4 a0.items.length c5] 25) :: ([] ++ N))) (fun w m => m.nil_ent _) ?_))))))))))
  have er0 := Zi hf
  obtain ⟨e0, er1⟩ := Prod.mk.inj er0
  clear er0
  subst e0
  subst er1
  refine Z106 (rs := [.tmp 2, .tmp 3]) ([sl none 0 ([] : List (BitVec 8)).length 0, .int .i64 ((x15 : Nat) : Int)]) ((none, blk ((u8s ([] : List (BitVec 8))) ++ []) 5) :: []) rfl ?_ rfl ?_ ?_ _ (.inl rfl)
  ·exact ⟨rfl, rfl, trivial⟩
  ·exact ⟨[], none, 0, [], OwnS.nil, (by omega), rfl, rfl⟩
  ·exact (fun w m => m.pick [0] 2 rfl rfl)
theorem waybillref07_GetText_does (w0 : World) (Φ : Ctx) (N : List Ent) (hΦ : ∀ w, Mem w0 w N → Φ w) (cs0_ : List Value) (a0 : It) (res0 : List (BitVec 8)) (res1 : Nat) (ha0 : ItRd Φ cs0_ a0) (hf : waybillref07_GetText a0 = some (res0, res1)) : DoesG Tryd.prog 90 [.agg cs0_.toArray] w0 [] N (fun v G => ∃ B : List Ent, ∃ or0 : Option Nat, ∃ kr0 : Nat, ∃ rr0 : List Value, (OwnS or0 res0.length kr0 1 (u8s res0) rr0) ∧ (res1 ≤ 9223372036854775807) ∧ v = .tuple #[sl or0 0 res0.length kr0, .int .i64 ((res1 : Nat) : Int)] ∧ G = (or0, blk ((u8s res0) ++ rr0) 5) :: B) := by
 unfold waybillref07_GetText at hf
 replace ha0 := ItRd.mono (Ψ := More w0 Φ []) (fun w q => q.1) _ _ ha0
 have h10 := ha0
 obtain ⟨A1, c2, A4, c5, cs7, e9, v3, v6, h8⟩ := ItRd.opn ha0
 subst e9
 have m11 := v3.mx
 have m12 := v6.mx
 refine DoesG.enter Tryd.func90 rfl Tryd.ntmps90 rfl (M := (([] ++ N))) rfl (Z4 (Z2 (OW.boxA rfl rfl (fun b13 => (Z0 (Z5 rfl) rfl (Z0 (Z5 rfl) rfl (Z6 (Z1 (Z4 (Z2 (Z0 (Z22 rfl Zh rfl rfl rfl rfl rfl) rfl ?_)))))))))))
 obtain ⟨x15, hx14, hf⟩ := Z103 hf
 refine Z12 Tryd.call85 rfl (Z127 w0 (More w0 Φ []) ((some b13, blk [.bool (a0.list), .slice A1 a0.data.length c2, .slice A4 a0.items.length c5] 25) :: ([] ++ N)) (fun w m => More.of hΦ 1 m rfl) [.bool (a0.list), .slice A1 a0.data.length c2, .slice A4 a0.items.length c5] a0 false x15 h10 hx14) rfl rfl ?_
 rintro _ G17 ⟨b16, rfl⟩
 refine Z20 (M' := ((some b13, blk [.bool (a0.list), .slice A1 a0.data.length c2, .slice A4 a0.items.length c5] 25) :: ([] ++ N))) (fun w m => m.appR) (Z0 (Z5 rfl) rfl (Z6 (Z1 (Z4 (Z4 (Z2 (Z0 (Z3 rfl) rfl (Z0 (RV.neq rfl rfl) rfl (Z7 (.bool (!decide (x15 = 0))) (congrArg (fun b => Value.bool (!b)) (decide_eq_decide.2 (by omega))) (Z6 (Z1 ?_)))))))))))
 by_cases h19 : x15 = 0
 ·replace hf := if_t hf h19
  refine Z14 rfl (congrArg (fun b => !b) (decide_eq_true h19)) (CW.skip (Z1 (Z4 (Z2 (Z0 (Z30 rfl rfl rfl rfl) rfl (Z0 (Z29 rfl Zh rfl rfl rfl rfl) rfl ?_))))))
  obtain ⟨x21, hx20, hf⟩ := Z103 hf
  refine Z12 Tryd.call41 rfl (Z122 w0 (More w0 Φ []) ((some b13, blk [.bool (a0.list), .slice A1 a0.data.length c2, .slice A4 a0.items.length c5] 25) :: ([] ++ N)) (fun w m => More.of hΦ 1 m rfl) A1 c2 a0.data x21 v3 hx20) rfl rfl ?_
  rintro L27 M28 ⟨B22, ob23, c24, r25, o26, e29, e30⟩
  rw [e29, e30]
  clear e29 e30 L27 M28
  refine Z20 (M' := ((ob23, blk ((u8s x21) ++ r25) 5) :: (some b13, blk [.bool (a0.list), .slice A1 a0.data.length c2, .slice A4 a0.items.length c5] 25) :: ((B22 ++ []) ++ N))) (fun w m => by have h := Z119 (A := B22) m 1 1 rfl rfl; exact h) ?_
  have gq1 : ∀ w, More w0 Φ (B22 ++ []) w → More w0 Φ [] w := fun w q => More.mono (fun w m => (m).appR) q
  replace h10 := ItRd.mono gq1 _ _ h10
  replace v3 := v3.mono gq1
  replace v6 := v6.mono gq1
  replace h8 := h8.mono (ItRd.mono gq1)
  have m31 := o26.mx
  refine Z0 (Z5 rfl) rfl (Z0 (Z5 rfl) rfl (Z6 (Z1 (CW.ret ?_))))
  have er0 := Zi hf
  obtain ⟨e0, er1⟩ := Prod.mk.inj er0
  clear er0
  subst e0
  subst er1
  refine Z106 (rs := [.tmp 2, .tmp 3]) ([sl ob23 0 x21.length c24, .int .i64 (0 : Int)]) ((ob23, blk ((u8s x21) ++ r25) 5) :: (B22 ++ [])) rfl ?_ rfl ?_ ?_ _ (.inl rfl)
  ·exact ⟨rfl, rfl, trivial⟩
  ·exact ⟨(B22 ++ []), ob23, c24, r25, o26, (by omega), rfl, rfl⟩
  ·exact (fun w m => m.pick [0] 2 rfl rfl)
 ·replace hf := if_f hf h19
  refine Z13 rfl (congrArg (fun b => !b) (decide_eq_false h19)) (Z4 (Z2 (Z0 (Z3 rfl) rfl (Z0 (Z5 rfl) rfl (Z0 (Z5 rfl) rfl (Z6 (Z1 (CW.ret (Z8 (QW.mem (M' := ((none, blk ((u8s ([] : List (BitVec 8))) ++ []) 5) :: (some b13, blk [.bool (a0.list), .slice A1 a0.data.length c2, .slice A4 a0.items.length c5] 25) :: ([] ++ N))) (fun w m => m.nil_ent _) ?_))))))))))
  have er0 := Zi hf
  obtain ⟨e0, er1⟩ := Prod.mk.inj er0
  clear er0
  subst e0
  subst er1
  refine Z106 (rs := [.tmp 2, .tmp 3]) ([sl none 0 ([] : List (BitVec 8)).length 0, .int .i64 ((x15 : Nat) : Int)]) ((none, blk ((u8s ([] : List (BitVec 8))) ++ []) 5) :: []) rfl ?_ rfl ?_ ?_ _ (.inl rfl)
  ·exact ⟨rfl, rfl, trivial⟩
  ·exact ⟨[], none, 0, [], OwnS.nil, (by omega), rfl, rfl⟩
  ·exact (fun w m => m.pick [0] 2 rfl rfl)
theorem rlp_number_does (w0 : World) (Φ : Ctx) (N : List Ent) (hΦ : ∀ w, Mem w0 w N → Φ w) (cs0_ : List Value) (a0 : It) (a1 : Int) (res0 : Vector (BitVec 64) 4) (res1 : Nat) (ha0 : ItRd Φ cs0_ a0) (ba1 : -9223372036854775808 ≤ a1 ∧ a1 ≤ 9223372036854775807) (hf : rlp_number a0 a1 = some (res0, res1)) : DoesG Tryd.prog 78 [.agg cs0_.toArray, .int .i64 a1] w0 [] N (fun v G => (res1 ≤ 9223372036854775807) ∧ v = .tuple #[.agg (u64s res0.toList).toArray, .int .i64 ((res1 : Nat) : Int)]) := by
 unfold rlp_number at hf
 replace ha0 := ItRd.mono (Ψ := More w0 Φ []) (fun w q => q.1) _ _ ha0
 have h10 := ha0
 obtain ⟨A1, c2, A4, c5, cs7, e9, v3, v6, h8⟩ := ItRd.opn ha0
 subst e9
 have m11 := v3.mx
 have m12 := v6.mx
 refine DoesG.enter Tryd.func78 rfl Tryd.ntmps78 rfl (M := (([] ++ N))) rfl (Z4 (Z2 (OW.boxA rfl rfl (fun b13 => (OW.alloc (l := (u64s (Vector.replicate 4 0#64).toList)) rfl (by rw [Vector.toList_replicate, ← Z116]; rfl) rfl (fun b14 => (Z0 (Z5 rfl) rfl (Z6 (Z1 (Z4 (Z4 (Z2 (Z0 (Z22 rfl (List.Mem.tail _ Zh) rfl rfl rfl rfl rfl) rfl ?_)))))))))))))
 obtain ⟨x16, hx15, hf⟩ := Z103 hf
 refine Z12 Tryd.call76 rfl (rlp_kind_does w0 (More w0 Φ []) ((some b14, blk (u64s (Vector.replicate 4 0#64).toList) 35) :: (some b13, blk [.bool (a0.list), .slice A1 a0.data.length c2, .slice A4 a0.items.length c5] 25) :: ([] ++ N)) (fun w m => More.of hΦ 2 m rfl) [.bool (a0.list), .slice A1 a0.data.length c2, .slice A4 a0.items.length c5] a0 false x16 h10 hx15) rfl rfl ?_
 rintro _ G18 ⟨b17, rfl⟩
 refine Z20 (M' := ((some b14, blk (u64s (Vector.replicate 4 0#64).toList) 35) :: (some b13, blk [.bool (a0.list), .slice A1 a0.data.length c2, .slice A4 a0.items.length c5] 25) :: ([] ++ N))) (fun w m => m.appR) (Z0 (Z5 rfl) rfl (Z6 (Z1 (Z4 (Z2 (Z0 (Z3 rfl) rfl (Z0 (RV.neq rfl rfl) rfl (Z7 (.bool (!decide (x16 = 0))) (congrArg (fun b => Value.bool (!b)) (decide_eq_decide.2 (by omega))) (Z6 (Z1 ?_))))))))))
 by_cases h20 : x16 = 0
 ·replace hf := if_t hf h20
  refine Z14 rfl (congrArg (fun b => !b) (decide_eq_true h20)) (CW.skip (Z1 (Z4 (Z4 (Z2 (Z0 (Z30 rfl rfl rfl rfl) rfl (Z0 (Z29 rfl (List.Mem.tail _ Zh) rfl rfl rfl rfl) rfl (Z0 (RV.len rfl rfl) rfl (Z0 (Z3 rfl) rfl (Z0 (RV.gtr rfl rfl) rfl (Z6 (Z1 ?_))))))))))))
  by_cases h21 : a1 < ((a0.data.length : Nat) : Int)
  ·replace hf := if_t hf h21
   refine Z13 rfl (decide_eq_true h21) (Z4 (Z2 (Z0 (RV.build0 (l := (u64s (Vector.replicate 4 0#64).toList)) rfl rfl rfl (by rw [Vector.toList_replicate, ← Z116]; rfl)) rfl (Z28 (Z105 rfl rfl rfl (Z115 _) rfl ((Z101 _).trans Zv) ((Z101 _).trans Zv)) (Z0 (Z5 rfl) rfl (Z6 (Z1 (CW.ret (Z8 ?_)))))))))
   have er0 := Zi hf
   obtain ⟨e0, er1⟩ := Prod.mk.inj er0
   clear er0
   subst e0
   subst er1
   refine Z106 (rs := [.cell 4 35, .tmp 5]) ([.agg (u64s (Vector.replicate 4 0#64).toList).toArray, .int .i64 (77 : Int)]) ((some b14, blk (u64s (Vector.replicate 4 0#64).toList) 35) :: (some b13, blk [.bool (a0.list), .slice A1 a0.data.length c2, .slice A4 a0.items.length c5] 25) :: []) rfl ?_ rfl ?_ ?_ _ (.inl rfl)
   ·exact ⟨⟨_, _, _, _, rfl, Zh, rfl, rfl, (congrArg some ((Z101 _).trans Zv).symm), rfl⟩, rfl, trivial⟩
   ·exact ⟨(by omega), rfl⟩
   ·exact (fun w m => m)
  ·replace hf := if_f hf h21
   refine Z14 rfl (decide_eq_false h21) (CW.skip (Z1 (Z4 (Z2 (Z0 (Z30 rfl rfl rfl rfl) rfl (Z0 (Z29 rfl (List.Mem.tail _ Zh) rfl rfl rfl rfl) rfl ?_))))))
   obtain ⟨⟨x23, x24⟩, hx22, hf⟩ := Z103 hf
   try dsimp only at hf
   refine Z12 Tryd.call114 rfl (u256_Strict_does w0 (More w0 Φ []) ((some b14, blk (u64s (Vector.replicate 4 0#64).toList) 35) :: (some b13, blk [.bool (a0.list), .slice A1 a0.data.length c2, .slice A4 a0.items.length c5] 25) :: ([] ++ N)) (fun w m => More.of hΦ 2 m rfl) A1 c2 a0.data x23 x24 v3 hx22) rfl rfl ?_
   rintro _ G26 ⟨b25, rfl⟩
   refine Z20 (M' := ((some b14, blk (u64s (Vector.replicate 4 0#64).toList) 35) :: (some b13, blk [.bool (a0.list), .slice A1 a0.data.length c2, .slice A4 a0.items.length c5] 25) :: ([] ++ N))) (fun w m => m.appR) (Z0 (Z3 rfl) rfl (Z0 (Z17 rfl rfl) rfl (Z7 (.agg (u64s x23.toList).toArray) (rfl) (Z0 (Z17 rfl rfl) rfl (Z7 (.int .i64 ((x24 : Nat) : Int)) (rfl) (OW.alloc (l := (u64s (Vector.replicate 4 0#64).toList)) rfl (by rw [Vector.toList_replicate, ← Z116]; rfl) rfl (fun b28 => (Z28 (Z105 rfl rfl rfl (Z115 _) rfl ((Z101 _).trans Zv) ((Z101 _).trans Zv)) ?_))))))))
   refine Z0 (Z5 rfl) rfl (Z6 (Z1 (Z4 (Z4 (Z2 (Z0 (Z3 rfl) rfl (Z0 (RV.neq rfl rfl) rfl (Z7 (.bool (!decide (x24 = 0))) (congrArg (fun b => Value.bool (!b)) (decide_eq_decide.2 (by omega))) (Z6 (Z1 ?_))))))))))
   by_cases h29 : x24 = 0
   ·replace hf := if_t hf h29
    refine Z14 rfl (congrArg (fun b => !b) (decide_eq_true h29)) (CW.skip (Z1 (Z4 (Z2 (Z0 (Z22 rfl Zh rfl rfl rfl rfl ((Z101 _).trans Zv)) rfl (OW.rot1 (Z28 (Z105 rfl rfl rfl (Z115 _) rfl ((Z101 _).trans Zv) ((Z101 _).trans Zv)) (Z0 (Z5 rfl) rfl (Z6 (Z1 (CW.ret ?_)))))))))))
    have er0 := Zi hf
    obtain ⟨e0, er1⟩ := Prod.mk.inj er0
    clear er0
    subst e0
    subst er1
    refine Z106 (rs := [.cell 4 35, .tmp 5]) ([.agg (u64s x23.toList).toArray, .int .i64 (0 : Int)]) ((some b14, blk (u64s x23.toList) 35) :: (some b28, blk (u64s x23.toList) 35) :: (some b13, blk [.bool (a0.list), .slice A1 a0.data.length c2, .slice A4 a0.items.length c5] 25) :: []) rfl ?_ rfl ?_ ?_ _ (.inl rfl)
    ·exact ⟨⟨_, _, _, _, rfl, Zh, rfl, rfl, (congrArg some ((Z101 _).trans Zv).symm), rfl⟩, rfl, trivial⟩
    ·exact ⟨(by omega), rfl⟩
    ·exact (fun w m => m)
   ·replace hf := if_f hf h29
    refine Z13 rfl (congrArg (fun b => !b) (decide_eq_false h29)) (Z4 (Z2 (Z0 (RV.build0 (l := (u64s (Vector.replicate 4 0#64).toList)) rfl rfl rfl (by rw [Vector.toList_replicate, ← Z116]; rfl)) rfl (OW.rot1 (Z28 (Z105 rfl rfl rfl (Z115 _) rfl ((Z101 _).trans Zv) ((Z101 _).trans Zv)) (Z0 (Z5 rfl) rfl (Z6 (Z1 (CW.ret (Z8 ?_))))))))))
    have er0 := Zi hf
    obtain ⟨e0, er1⟩ := Prod.mk.inj er0
    clear er0
    subst e0
    subst er1
    refine Z106 (rs := [.cell 4 35, .tmp 5]) ([.agg (u64s (Vector.replicate 4 0#64).toList).toArray, .int .i64 (76 : Int)]) ((some b14, blk (u64s (Vector.replicate 4 0#64).toList) 35) :: (some b28, blk (u64s x23.toList) 35) :: (some b13, blk [.bool (a0.list), .slice A1 a0.data.length c2, .slice A4 a0.items.length c5] 25) :: []) rfl ?_ rfl ?_ ?_ _ (.inl rfl)
    ·exact ⟨⟨_, _, _, _, rfl, Zh, rfl, rfl, (congrArg some ((Z101 _).trans Zv).symm), rfl⟩, rfl, trivial⟩
    ·exact ⟨(by omega), rfl⟩
    ·exact (fun w m => m)
 ·replace hf := if_f hf h20
  refine Z13 rfl (congrArg (fun b => !b) (decide_eq_false h20)) (Z4 (Z2 (Z0 (RV.build0 (l := (u64s (Vector.replicate 4 0#64).toList)) rfl rfl rfl (by rw [Vector.toList_replicate, ← Z116]; rfl)) rfl (Z0 (Z3 rfl) rfl (Z28 (Z105 rfl rfl rfl (Z115 _) rfl ((Z101 _).trans Zv) ((Z101 _).trans Zv)) (Z0 (Z5 rfl) rfl (Z6 (Z1 (CW.ret (Z8 ?_))))))))))
  have er0 := Zi hf
  obtain ⟨e0, er1⟩ := Prod.mk.inj er0
  clear er0
  subst e0
  subst er1
  refine Z106 (rs := [.cell 4 35, .tmp 5]) ([.agg (u64s (Vector.replicate 4 0#64).toList).toArray, .int .i64 ((x16 : Nat) : Int)]) ((some b14, blk (u64s (Vector.replicate 4 0#64).toList) 35) :: (some b13, blk [.bool (a0.list), .slice A1 a0.data.length c2, .slice A4 a0.items.length c5] 25) :: []) rfl ?_ rfl ?_ ?_ _ (.inl rfl)
  ·exact ⟨⟨_, _, _, _, rfl, Zh, rfl, rfl, (congrArg some ((Z101 _).trans Zv).symm), rfl⟩, rfl, trivial⟩
  ·exact ⟨(by omega), rfl⟩
  ·exact (fun w m => m)
theorem Z146 (w0 : World) (Φ : Ctx) (N : List Ent) (hΦ : ∀ w, Mem w0 w N → Φ w) (cs0_ : List Value) (a0 : It) (a1 : Int) (res0 : Vector (BitVec 64) 4) (res1 : Nat) (ha0 : ItRd Φ cs0_ a0) (ba1 : -9223372036854775808 ≤ a1 ∧ a1 ≤ 9223372036854775807) (hf : waybillref07_narrow a0 a1 = some (res0, res1)) : DoesG Tryd.prog 119 [.agg cs0_.toArray, .int .i64 a1] w0 [] N (fun v G => (res1 ≤ 9223372036854775807) ∧ v = .tuple #[.agg (u64s res0.toList).toArray, .int .i64 ((res1 : Nat) : Int)]) := by
 unfold waybillref07_narrow at hf
 replace ha0 := ItRd.mono (Ψ := More w0 Φ []) (fun w q => q.1) _ _ ha0
 have h10 := ha0
 obtain ⟨A1, c2, A4, c5, cs7, e9, v3, v6, h8⟩ := ItRd.opn ha0
 subst e9
 have m11 := v3.mx
 have m12 := v6.mx
 refine DoesG.enter Tryd.func119 rfl Tryd.ntmps119 rfl (M := (([] ++ N))) rfl (Z4 (Z2 (OW.boxA rfl rfl (fun b13 => (OW.alloc (l := (u64s (Vector.replicate 4 0#64).toList)) rfl (by rw [Vector.toList_replicate, ← Z116]; rfl) rfl (fun b14 => (Z0 (Z5 rfl) rfl (Z6 (Z1 (Z4 (Z2 (Z0 (Z22 rfl (List.Mem.tail _ Zh) rfl rfl rfl rfl rfl) rfl ?_))))))))))))
 obtain ⟨x16, hx15, hf⟩ := Z103 hf
 refine Z12 Tryd.call85 rfl (Z127 w0 (More w0 Φ []) ((some b14, blk (u64s (Vector.replicate 4 0#64).toList) 35) :: (some b13, blk [.bool (a0.list), .slice A1 a0.data.length c2, .slice A4 a0.items.length c5] 25) :: ([] ++ N)) (fun w m => More.of hΦ 2 m rfl) [.bool (a0.list), .slice A1 a0.data.length c2, .slice A4 a0.items.length c5] a0 false x16 h10 hx15) rfl rfl ?_
 rintro _ G18 ⟨b17, rfl⟩
 refine Z20 (M' := ((some b14, blk (u64s (Vector.replicate 4 0#64).toList) 35) :: (some b13, blk [.bool (a0.list), .slice A1 a0.data.length c2, .slice A4 a0.items.length c5] 25) :: ([] ++ N))) (fun w m => m.appR) (Z0 (Z5 rfl) rfl (Z6 (Z1 (Z4 (Z4 (Z2 (Z0 (Z3 rfl) rfl (Z0 (RV.neq rfl rfl) rfl (Z7 (.bool (!decide (x16 = 0))) (congrArg (fun b => Value.bool (!b)) (decide_eq_decide.2 (by omega))) (Z6 (Z1 ?_)))))))))))
 by_cases h20 : x16 = 0
 ·replace hf := if_t hf h20
  refine Z14 rfl (congrArg (fun b => !b) (decide_eq_true h20)) (CW.skip (Z1 (Z4 (Z4 (Z2 (Z0 (Z30 rfl rfl rfl rfl) rfl (Z0 (Z29 rfl (List.Mem.tail _ Zh) rfl rfl rfl rfl) rfl (Z0 (RV.len rfl rfl) rfl (Z0 (Z3 rfl) rfl (Z0 (RV.gtr rfl rfl) rfl (Z6 (Z1 ?_))))))))))))
  by_cases h21 : a1 < ((a0.data.length : Nat) : Int)
  ·replace hf := if_t hf h21
   refine Z13 rfl (decide_eq_true h21) (Z4 (Z2 (Z0 (RV.build0 (l := (u64s (Vector.replicate 4 0#64).toList)) rfl rfl rfl (by rw [Vector.toList_replicate, ← Z116]; rfl)) rfl (Z28 (Z105 rfl rfl rfl (Z115 _) rfl ((Z101 _).trans Zv) ((Z101 _).trans Zv)) (Z0 (Z5 rfl) rfl (Z6 (Z1 (CW.ret (Z8 ?_)))))))))
   have er0 := Zi hf
   obtain ⟨e0, er1⟩ := Prod.mk.inj er0
   clear er0
   subst e0
   subst er1
   refine Z106 (rs := [.cell 4 35, .tmp 5]) ([.agg (u64s (Vector.replicate 4 0#64).toList).toArray, .int .i64 (77 : Int)]) ((some b14, blk (u64s (Vector.replicate 4 0#64).toList) 35) :: (some b13, blk [.bool (a0.list), .slice A1 a0.data.length c2, .slice A4 a0.items.length c5] 25) :: []) rfl ?_ rfl ?_ ?_ _ (.inl rfl)
   ·exact ⟨⟨_, _, _, _, rfl, Zh, rfl, rfl, (congrArg some ((Z101 _).trans Zv).symm), rfl⟩, rfl, trivial⟩
   ·exact ⟨(by omega), rfl⟩
   ·exact (fun w m => m)
  ·replace hf := if_f hf h21
   refine Z14 rfl (decide_eq_false h21) (CW.skip (Z1 (Z4 (Z4 ?_))))
   obtain ⟨q22, hq23, hf⟩ := Z103 hf
   refine Z120 (fun L' M' => ∃ p24 : Bool, q22 = p24 ∧ L' = [(2, ptr (some b13) 0), (4, ptr (some b14) 0), (31, .bool (p24))] ∧ M' = ((some b14, blk (u64s (Vector.replicate 4 0#64).toList) 35) :: (some b13, blk [.bool (a0.list), .slice A1 a0.data.length c2, .slice A4 a0.items.length c5] 25) :: ([] ++ N))) ?_ ?_
   ·rintro L26 M27 ⟨p24, e25, e28, e29⟩
    rw [e28, e29]
    clear e28 e29 L26 M27
    clear hq23
    rw [e25] at hf
    clear e25
    try dsimp only at hf
    refine Z1 ?_
    by_cases h30 : p24 = true
    ·replace hf := if_t hf h30
     refine Z13 rfl (h30) (Z4 (Z2 (Z0 (RV.build0 (l := (u64s (Vector.replicate 4 0#64).toList)) rfl rfl rfl (by rw [Vector.toList_replicate, ← Z116]; rfl)) rfl (Z28 (Z105 rfl rfl rfl (Z115 _) rfl ((Z101 _).trans Zv) ((Z101 _).trans Zv)) (Z0 (Z5 rfl) rfl (Z6 (Z1 (CW.ret (Z8 ?_)))))))))
     have er0 := Zi hf
     obtain ⟨e0, er1⟩ := Prod.mk.inj er0
     clear er0
     subst e0
     subst er1
     refine Z106 (rs := [.cell 4 35, .tmp 5]) ([.agg (u64s (Vector.replicate 4 0#64).toList).toArray, .int .i64 (76 : Int)]) ((some b14, blk (u64s (Vector.replicate 4 0#64).toList) 35) :: (some b13, blk [.bool (a0.list), .slice A1 a0.data.length c2, .slice A4 a0.items.length c5] 25) :: []) rfl ?_ rfl ?_ ?_ _ (.inl rfl)
     ·exact ⟨⟨_, _, _, _, rfl, Zh, rfl, rfl, (congrArg some ((Z101 _).trans Zv).symm), rfl⟩, rfl, trivial⟩
     ·exact ⟨(by omega), rfl⟩
     ·exact (fun w m => m)
    ·replace hf := if_f hf h30
     refine Z14 rfl (Bool.eq_false_iff.2 h30) (CW.skip (Z1 (Z4 (Z2 (Z0 (Z30 rfl rfl rfl rfl) rfl (Z0 (Z29 rfl (List.Mem.tail _ Zh) rfl rfl rfl rfl) rfl ?_))))))
     obtain ⟨⟨x32, x33⟩, hx31, hf⟩ := Z103 hf
     try dsimp only at hf
     refine Z12 Tryd.call138 rfl (waybillref01_Get_does w0 (More w0 Φ []) ((some b14, blk (u64s (Vector.replicate 4 0#64).toList) 35) :: (some b13, blk [.bool (a0.list), .slice A1 a0.data.length c2, .slice A4 a0.items.length c5] 25) :: ([] ++ N)) (fun w m => More.of hΦ 2 m rfl) A1 c2 a0.data x32 x33 v3 hx31) rfl rfl ?_
     rintro _ G35 ⟨b34, rfl⟩
     refine Z20 (M' := ((some b14, blk (u64s (Vector.replicate 4 0#64).toList) 35) :: (some b13, blk [.bool (a0.list), .slice A1 a0.data.length c2, .slice A4 a0.items.length c5] 25) :: ([] ++ N))) (fun w m => m.appR) (Z0 (Z3 rfl) rfl (Z0 (Z17 rfl rfl) rfl (Z7 (.agg (u64s x32.toList).toArray) (rfl) (Z0 (Z17 rfl rfl) rfl (Z7 (.int .i64 ((x33 : Nat) : Int)) (rfl) (OW.alloc (l := (u64s (Vector.replicate 4 0#64).toList)) rfl (by rw [Vector.toList_replicate, ← Z116]; rfl) rfl (fun b37 => (Z28 (Z105 rfl rfl rfl (Z115 _) rfl ((Z101 _).trans Zv) ((Z101 _).trans Zv)) ?_))))))))
     refine Z0 (Z5 rfl) rfl (Z6 (Z1 (Z4 (Z2 (Z0 (Z22 rfl Zh rfl rfl rfl rfl ((Z101 _).trans Zv)) rfl (OW.rot1 (Z28 (Z105 rfl rfl rfl (Z115 _) rfl ((Z101 _).trans Zv) ((Z101 _).trans Zv)) (Z0 (Z5 rfl) rfl (Z6 (Z1 (CW.ret ?_)))))))))))
     have er0 := Zi hf
     obtain ⟨e0, er1⟩ := Prod.mk.inj er0
     clear er0
     subst e0
     subst er1
     refine Z106 (rs := [.cell 4 35, .tmp 5]) ([.agg (u64s x32.toList).toArray, .int .i64 (0 : Int)]) ((some b14, blk (u64s x32.toList) 35) :: (some b37, blk (u64s x32.toList) 35) :: (some b13, blk [.bool (a0.list), .slice A1 a0.data.length c2, .slice A4 a0.items.length c5] 25) :: []) rfl ?_ rfl ?_ ?_ _ (.inl rfl)
     ·exact ⟨⟨_, _, _, _, rfl, Zh, rfl, rfl, (congrArg some ((Z101 _).trans Zv).symm), rfl⟩, rfl, trivial⟩
     ·exact ⟨(by omega), rfl⟩
     ·exact (fun w m => m)
   ·skip
    refine Z2 (Z0 (Z30 rfl rfl rfl rfl) rfl (Z0 (Z29 rfl (List.Mem.tail _ Zh) rfl rfl rfl rfl) rfl (Z0 (RV.len rfl rfl) rfl (Z0 (RV.gtr rfl rfl) rfl (Z7 (.bool (decide (0 < a0.data.length))) (congrArg Value.bool (decide_eq_decide.2 (by omega))) (Z0 (Z3 rfl) rfl ?_))))))
    by_cases h38 : 0 < a0.data.length
    ·replace hq23 := if_t hq23 h38
     refine Z7 (.bool true) (congrArg Value.bool (decide_eq_true h38)) (Z24 rfl (Z0 (Z30 rfl rfl rfl rfl) rfl (Z24 rfl (Z0 (Z29 rfl (List.Mem.tail _ Zh) rfl rfl rfl rfl) rfl (Z24 rfl ?_)))))
     obtain ⟨x39, hx40, hq23⟩ := Z103 hq23
     have hl41 := Z129 hx40
     refine Z0 (Z141 (0) rfl rfl rfl rfl rfl (v3.isSome (by decide) hl41) (by omega)) rfl (Z24 rfl (Z0 (Z21 rfl rfl rfl (fun w m => v3.cell (More.of hΦ 2 m rfl) (u8s_at hx40))) rfl (Z24 rfl (Z0 (RV.eql8 rfl (by first | rfl | exact lit8 _ rfl) rfl (by first | rfl | exact lit8 _ rfl)) rfl (Z0 (Z108 rfl rfl rfl) rfl (Z6 ?_))))))
     exact QW.join ⟨(decide (x39 = 0#8)), (Zi hq23).symm, rfl, rfl⟩ ⟨rfl, rfl, rfl, trivial⟩ (fun w m => m.pick [0, 1] 2 rfl rfl)
    ·replace hq23 := if_f hq23 h38
     refine Z7 (.bool false) (congrArg Value.bool (decide_eq_false h38)) (Z23 rfl rfl rfl (Z23 rfl rfl rfl (Z23 rfl rfl rfl (Z23 rfl rfl rfl (Z23 rfl rfl rfl (Z0 (Z110 rfl rfl rfl) rfl (Z6 ?_)))))))
     exact QW.join ⟨false, (Zi hq23).symm, rfl, rfl⟩ ⟨rfl, rfl, rfl, trivial⟩ (fun w m => m.pick [0, 1] 2 rfl rfl)
 ·replace hf := if_f hf h20
  refine Z13 rfl (congrArg (fun b => !b) (decide_eq_false h20)) (Z4 (Z2 (Z0 (RV.build0 (l := (u64s (Vector.replicate 4 0#64).toList)) rfl rfl rfl (by rw [Vector.toList_replicate, ← Z116]; rfl)) rfl (Z0 (Z3 rfl) rfl (Z28 (Z105 rfl rfl rfl (Z115 _) rfl ((Z101 _).trans Zv) ((Z101 _).trans Zv)) (Z0 (Z5 rfl) rfl (Z6 (Z1 (CW.ret (Z8 ?_))))))))))
  have er0 := Zi hf
  obtain ⟨e0, er1⟩ := Prod.mk.inj er0
  clear er0
  subst e0
  subst er1
  refine Z106 (rs := [.cell 4 35, .tmp 5]) ([.agg (u64s (Vector.replicate 4 0#64).toList).toArray, .int .i64 ((x16 : Nat) : Int)]) ((some b14, blk (u64s (Vector.replicate 4 0#64).toList) 35) :: (some b13, blk [.bool (a0.list), .slice A1 a0.data.length c2, .slice A4 a0.items.length c5] 25) :: []) rfl ?_ rfl ?_ ?_ _ (.inl rfl)
  ·exact ⟨⟨_, _, _, _, rfl, Zh, rfl, rfl, (congrArg some ((Z101 _).trans Zv).symm), rfl⟩, rfl, trivial⟩
  ·exact ⟨(by omega), rfl⟩
  ·exact (fun w m => m)
theorem rlp_GetNumber_does (w0 : World) (Φ : Ctx) (N : List Ent) (hΦ : ∀ w, Mem w0 w N → Φ w) (cs0_ : List Value) (a0 : It) (res0 : Vector (BitVec 64) 4) (res1 : Nat) (ha0 : ItRd Φ cs0_ a0) (hf : rlp_GetNumber a0 = some (res0, res1)) : DoesG Tryd.prog 83 [.agg cs0_.toArray] w0 [] N (fun v G => (res1 ≤ 9223372036854775807) ∧ v = .tuple #[.agg (u64s res0.toList).toArray, .int .i64 ((res1 : Nat) : Int)]) := by
 unfold rlp_GetNumber at hf
 replace ha0 := ItRd.mono (Ψ := More w0 Φ []) (fun w q => q.1) _ _ ha0
 have h10 := ha0
 obtain ⟨A1, c2, A4, c5, cs7, e9, v3, v6, h8⟩ := ItRd.opn ha0
 subst e9
 have m11 := v3.mx
 have m12 := v6.mx
 refine DoesG.enter Tryd.func83 rfl Tryd.ntmps83 rfl (M := (([] ++ N))) rfl (Z4 (Z2 (OW.boxA rfl rfl (fun b13 => (OW.alloc (l := (u64s (Vector.replicate 4 0#64).toList)) rfl (by rw [Vector.toList_replicate, ← Z116]; rfl) rfl (fun b14 => (Z0 (Z5 rfl) rfl (Z6 (Z1 (Z4 (Z2 (Z0 (Z22 rfl (List.Mem.tail _ Zh) rfl rfl rfl rfl rfl) rfl ?_))))))))))))
 obtain ⟨⟨x16, x17⟩, hx15, hf⟩ := Z103 hf
 try dsimp only at hf
 refine Z12 Tryd.call78 rfl (rlp_number_does w0 (More w0 Φ []) ((some b14, blk (u64s (Vector.replicate 4 0#64).toList) 35) :: (some b13, blk [.bool (a0.list), .slice A1 a0.data.length c2, .slice A4 a0.items.length c5] 25) :: ([] ++ N)) (fun w m => More.of hΦ 2 m rfl) [.bool (a0.list), .slice A1 a0.data.length c2, .slice A4 a0.items.length c5] a0 (32 : Int) x16 x17 h10 (by omega) hx15) rfl rfl ?_
 rintro _ G19 ⟨b18, rfl⟩
 refine Z20 (M' := ((some b14, blk (u64s (Vector.replicate 4 0#64).toList) 35) :: (some b13, blk [.bool (a0.list), .slice A1 a0.data.length c2, .slice A4 a0.items.length c5] 25) :: ([] ++ N))) (fun w m => m.appR) (Z0 (Z17 rfl rfl) rfl (Z7 (.agg (u64s x16.toList).toArray) (rfl) (Z0 (Z17 rfl rfl) rfl (Z7 (.int .i64 ((x17 : Nat) : Int)) (rfl) (Z28 (Z105 rfl rfl rfl (Z115 _) rfl ((Z101 _).trans Zv) ((Z101 _).trans Zv)) (Z0 (Z5 rfl) rfl (Z6 (Z1 (CW.ret ?_)))))))))
 have er0 := Zi hf
 obtain ⟨e0, er1⟩ := Prod.mk.inj er0
 clear er0
 subst e0
 subst er1
 refine Z106 (rs := [.cell 2 35, .tmp 3]) ([.agg (u64s x16.toList).toArray, .int .i64 ((x17 : Nat) : Int)]) ((some b14, blk (u64s x16.toList) 35) :: (some b13, blk [.bool (a0.list), .slice A1 a0.data.length c2, .slice A4 a0.items.length c5] 25) :: []) rfl ?_ rfl ?_ ?_ _ (.inl rfl)
 ·exact ⟨⟨_, _, _, _, rfl, Zh, rfl, rfl, (congrArg some ((Z101 _).trans Zv).symm), rfl⟩, rfl, trivial⟩
 ·exact ⟨(by omega), rfl⟩
 ·exact (fun w m => m)
theorem waybillref07_GetNumber_does (w0 : World) (Φ : Ctx) (N : List Ent) (hΦ : ∀ w, Mem w0 w N → Φ w) (cs0_ : List Value) (a0 : It) (res0 : Vector (BitVec 64) 4) (res1 : Nat) (ha0 : ItRd Φ cs0_ a0) (hf : waybillref07_GetNumber a0 = some (res0, res1)) : DoesG Tryd.prog 88 [.agg cs0_.toArray] w0 [] N (fun v G => (res1 ≤ 9223372036854775807) ∧ v = .tuple #[.agg (u64s res0.toList).toArray, .int .i64 ((res1 : Nat) : Int)]) := by
 unfold waybillref07_GetNumber at hf
 replace ha0 := ItRd.mono (Ψ := More w0 Φ []) (fun w q => q.1) _ _ ha0
 have h10 := ha0
 obtain ⟨A1, c2, A4, c5, cs7, e9, v3, v6, h8⟩ := ItRd.opn ha0
 subst e9
 have m11 := v3.mx
 have m12 := v6.mx
 refine DoesG.enter Tryd.func88 rfl Tryd.ntmps88 rfl (M := (([] ++ N))) rfl (Z4 (Z2 (OW.boxA rfl rfl (fun b13 => (OW.alloc (l := (u64s (Vector.replicate 4 0#64).toList)) rfl (by rw [Vector.toList_replicate, ← Z116]; rfl) rfl (fun b14 => (Z0 (Z5 rfl) rfl (Z6 (Z1 (Z4 (Z2 (Z0 (Z22 rfl (List.Mem.tail _ Zh) rfl rfl rfl rfl rfl) rfl ?_))))))))))))
 obtain ⟨⟨x16, x17⟩, hx15, hf⟩ := Z103 hf
 try dsimp only at hf
 refine Z12 Tryd.call119 rfl (Z146 w0 (More w0 Φ []) ((some b14, blk (u64s (Vector.replicate 4 0#64).toList) 35) :: (some b13, blk [.bool (a0.list), .slice A1 a0.data.length c2, .slice A4 a0.items.length c5] 25) :: ([] ++ N)) (fun w m => More.of hΦ 2 m rfl) [.bool (a0.list), .slice A1 a0.data.length c2, .slice A4 a0.items.length c5] a0 (32 : Int) x16 x17 h10 (by omega) hx15) rfl rfl ?_
 rintro _ G19 ⟨b18, rfl⟩
 refine Z20 (M' := ((some b14, blk (u64s (Vector.replicate 4 0#64).toList) 35) :: (some b13, blk [.bool (a0.list), .slice A1 a0.data.length c2, .slice A4 a0.items.length c5] 25) :: ([] ++ N))) (fun w m => m.appR) (Z0 (Z17 rfl rfl) rfl (Z7 (.agg (u64s x16.toList).toArray) (rfl) (Z0 (Z17 rfl rfl) rfl (Z7 (.int .i64 ((x17 : Nat) : Int)) (rfl) (Z28 (Z105 rfl rfl rfl (Z115 _) rfl ((Z101 _).trans Zv) ((Z101 _).trans Zv)) (Z0 (Z5 rfl) rfl (Z6 (Z1 (CW.ret ?_)))))))))
 have er0 := Zi hf
 obtain ⟨e0, er1⟩ := Prod.mk.inj er0
 clear er0
 subst e0
 subst er1
 refine Z106 (rs := [.cell 2 35, .tmp 3]) ([.agg (u64s x16.toList).toArray, .int .i64 ((x17 : Nat) : Int)]) ((some b14, blk (u64s x16.toList) 35) :: (some b13, blk [.bool (a0.list), .slice A1 a0.data.length c2, .slice A4 a0.items.length c5] 25) :: []) rfl ?_ rfl ?_ ?_ _ (.inl rfl)
 ·exact ⟨⟨_, _, _, _, rfl, Zh, rfl, rfl, (congrArg some ((Z101 _).trans Zv).symm), rfl⟩, rfl, trivial⟩
 ·exact ⟨(by omega), rfl⟩
 ·exact (fun w m => m)
theorem rlp_GetSmall_does (w0 : World) (Φ : Ctx) (N : List Ent) (hΦ : ∀ w, Mem w0 w N → Φ w) (cs0_ : List Value) (a0 : It) (res0 : BitVec 64) (res1 : Nat) (ha0 : ItRd Φ cs0_ a0) (hf : rlp_GetSmall a0 = some (res0, res1)) : DoesG Tryd.prog 38 [.agg cs0_.toArray] w0 [] N (fun v G => (res1 ≤ 9223372036854775807) ∧ v = .tuple #[U64 res0, .int .i64 ((res1 : Nat) : Int)]) := by
 unfold rlp_GetSmall at hf
 replace ha0 := ItRd.mono (Ψ := More w0 Φ []) (fun w q => q.1) _ _ ha0
 have h10 := ha0
 obtain ⟨A1, c2, A4, c5, cs7, e9, v3, v6, h8⟩ := ItRd.opn ha0
 subst e9
 have m11 := v3.mx
 have m12 := v6.mx
 refine DoesG.enter Tryd.func38 rfl Tryd.ntmps38 rfl (M := (([] ++ N))) rfl (Z4 (Z2 (OW.boxA rfl rfl (fun b13 => (Z0 (Z5 rfl) rfl (Z0 (Z5 rfl) rfl (Z6 (Z1 (Z4 (Z2 (Z0 (Z22 rfl Zh rfl rfl rfl rfl rfl) rfl ?_)))))))))))
 obtain ⟨⟨x15, x16⟩, hx14, hf⟩ := Z103 hf
 try dsimp only at hf
 refine Z12 Tryd.call78 rfl (rlp_number_does w0 (More w0 Φ []) ((some b13, blk [.bool (a0.list), .slice A1 a0.data.length c2, .slice A4 a0.items.length c5] 25) :: ([] ++ N)) (fun w m => More.of hΦ 1 m rfl) [.bool (a0.list), .slice A1 a0.data.length c2, .slice A4 a0.items.length c5] a0 (8 : Int) x15 x16 h10 (by omega) hx14) rfl rfl ?_
 rintro _ G18 ⟨b17, rfl⟩
 refine Z20 (M' := ((some b13, blk [.bool (a0.list), .slice A1 a0.data.length c2, .slice A4 a0.items.length c5] 25) :: ([] ++ N))) (fun w m => m.appR) (Z0 (Z3 rfl) rfl (Z0 (Z17 rfl rfl) rfl (Z7 (.agg (u64s x15.toList).toArray) (rfl) (Z0 (Z17 rfl rfl) rfl (Z7 (.int .i64 ((x16 : Nat) : Int)) (rfl) (OW.alloc (l := (u64s (Vector.replicate 4 0#64).toList)) rfl (by rw [Vector.toList_replicate, ← Z116]; rfl) rfl (fun b20 => (Z28 (Z105 rfl rfl rfl (Z115 _) rfl ((Z101 _).trans Zv) ((Z101 _).trans Zv)) ?_))))))))
 refine Z0 (Z5 rfl) rfl (Z6 (Z1 (Z4 (Z2 (Z0 (Z142 (0) rfl rfl rfl rfl rfl (by omega)) rfl (Z0 (Z29 rfl Zh rfl rfl rfl (u64s_at (vat' (by decide)))) rfl (Z0 (Z3 rfl) rfl (Z0 (Z5 rfl) rfl (Z0 (Z5 rfl) rfl (Z6 (Z1 (CW.ret ?_))))))))))))
 have er0 := Zi hf
 obtain ⟨e0, er1⟩ := Prod.mk.inj er0
 clear er0
 subst e0
 subst er1
 refine Z106 (rs := [.tmp 2, .tmp 3]) ([U64 x15[0], .int .i64 ((x16 : Nat) : Int)]) ((some b20, blk (u64s x15.toList) 35) :: (some b13, blk [.bool (a0.list), .slice A1 a0.data.length c2, .slice A4 a0.items.length c5] 25) :: []) rfl ?_ rfl ?_ ?_ _ (.inl rfl)
 ·exact ⟨rfl, rfl, trivial⟩
 ·exact ⟨(by omega), rfl⟩
 ·exact (fun w m => m)
theorem waybillref07_GetSmall_does (w0 : World) (Φ : Ctx) (N : List Ent) (hΦ : ∀ w, Mem w0 w N → Φ w) (cs0_ : List Value) (a0 : It) (res0 : BitVec 64) (res1 : Nat) (ha0 : ItRd Φ cs0_ a0) (hf : waybillref07_GetSmall a0 = some (res0, res1)) : DoesG Tryd.prog 89 [.agg cs0_.toArray] w0 [] N (fun v G => (res1 ≤ 9223372036854775807) ∧ v = .tuple #[U64 res0, .int .i64 ((res1 : Nat) : Int)]) := by
 unfold waybillref07_GetSmall at hf
 replace ha0 := ItRd.mono (Ψ := More w0 Φ []) (fun w q => q.1) _ _ ha0
 have h10 := ha0
 obtain ⟨A1, c2, A4, c5, cs7, e9, v3, v6, h8⟩ := ItRd.opn ha0
 subst e9
 have m11 := v3.mx
 have m12 := v6.mx
 refine DoesG.enter Tryd.func89 rfl Tryd.ntmps89 rfl (M := (([] ++ N))) rfl (Z4 (Z2 (OW.boxA rfl rfl (fun b13 => (Z0 (Z5 rfl) rfl (Z0 (Z5 rfl) rfl (Z6 (Z1 (Z4 (Z2 (Z0 (Z22 rfl Zh rfl rfl rfl rfl rfl) rfl ?_)))))))))))
 obtain ⟨⟨x15, x16⟩, hx14, hf⟩ := Z103 hf
 try dsimp only at hf
 refine Z12 Tryd.call119 rfl (Z146 w0 (More w0 Φ []) ((some b13, blk [.bool (a0.list), .slice A1 a0.data.length c2, .slice A4 a0.items.length c5] 25) :: ([] ++ N)) (fun w m => More.of hΦ 1 m rfl) [.bool (a0.list), .slice A1 a0.data.length c2, .slice A4 a0.items.length c5] a0 (8 : Int) x15 x16 h10 (by omega) hx14) rfl rfl ?_
 rintro _ G18 ⟨b17, rfl⟩
 refine Z20 (M' := ((some b13, blk [.bool (a0.list), .slice A1 a0.data.length c2, .slice A4 a0.items.length c5] 25) :: ([] ++ N))) (fun w m => m.appR) (Z0 (Z3 rfl) rfl (Z0 (Z17 rfl rfl) rfl (Z7 (.agg (u64s x15.toList).toArray) (rfl) (Z0 (Z17 rfl rfl) rfl (Z7 (.int .i64 ((x16 : Nat) : Int)) (rfl) (OW.alloc (l := (u64s (Vector.replicate 4 0#64).toList)) rfl (by rw [Vector.toList_replicate, ← Z116]; rfl) rfl (fun b20 => (Z28 (Z105 rfl rfl rfl (Z115 _) rfl ((Z101 _).trans Zv) ((Z101 _).trans Zv)) ?_))))))))
 refine Z0 (Z5 rfl) rfl (Z6 (Z1 (Z4 (Z2 (Z0 (Z142 (0) rfl rfl rfl rfl rfl (by omega)) rfl (Z0 (Z29 rfl Zh rfl rfl rfl (u64s_at (vat' (by decide)))) rfl (Z0 (Z3 rfl) rfl (Z0 (Z5 rfl) rfl (Z0 (Z5 rfl) rfl (Z6 (Z1 (CW.ret ?_))))))))))))
 have er0 := Zi hf
 obtain ⟨e0, er1⟩ := Prod.mk.inj er0
 clear er0
 subst e0
 subst er1
 refine Z106 (rs := [.tmp 2, .tmp 3]) ([U64 x15[0], .int .i64 ((x16 : Nat) : Int)]) ((some b20, blk (u64s x15.toList) 35) :: (some b13, blk [.bool (a0.list), .slice A1 a0.data.length c2, .slice A4 a0.items.length c5] 25) :: []) rfl ?_ rfl ?_ ?_ _ (.inl rfl)
 ·exact ⟨rfl, rfl, trivial⟩
 ·exact ⟨(by omega), rfl⟩
 ·exact (fun w m => m)
theorem rlp_GetFixed_does (w0 : World) (Φ : Ctx) (N : List Ent) (hΦ : ∀ w, Mem w0 w N → Φ w) (cs0_ : List Value) (a0 : It) (a1 : Int) (res0 : List (BitVec 8)) (res1 : Nat) (ha0 : ItRd Φ cs0_ a0) (ba1 : -9223372036854775808 ≤ a1 ∧ a1 ≤ 9223372036854775807) (hf : rlp_GetFixed a0 a1 = some (res0, res1)) : DoesG Tryd.prog 37 [.agg cs0_.toArray, .int .i64 a1] w0 [] N (fun v G => ∃ B : List Ent, ∃ or0 : Option Nat, ∃ kr0 : Nat, ∃ rr0 : List Value, (OwnS or0 res0.length kr0 1 (u8s res0) rr0) ∧ (res1 ≤ 9223372036854775807) ∧ v = .tuple #[sl or0 0 res0.length kr0, .int .i64 ((res1 : Nat) : Int)] ∧ G = (or0, blk ((u8s res0) ++ rr0) 5) :: B) := by
 unfold rlp_GetFixed at hf
 replace ha0 := ItRd.mono (Ψ := More w0 Φ []) (fun w q => q.1) _ _ ha0
 have h10 := ha0
 obtain ⟨A1, c2, A4, c5, cs7, e9, v3, v6, h8⟩ := ItRd.opn ha0
 subst e9
 have m11 := v3.mx
 have m12 := v6.mx
 refine DoesG.enter Tryd.func37 rfl Tryd.ntmps37 rfl (M := (([] ++ N))) rfl (Z4 (Z2 (OW.boxA rfl rfl (fun b13 => (Z0 (Z5 rfl) rfl (Z0 (Z5 rfl) rfl (Z6 (Z1 (Z4 (Z4 (Z2 (Z0 (Z3 rfl) rfl (Z0 (RV.lss rfl rfl) rfl ?_)))))))))))))
 refine Z6 (Z1 ?_)
 by_cases h14 : a1 < (0 : Int)
 ·replace hf := if_t hf h14
  refine Z13 rfl (decide_eq_true h14) (Z4 (Z2 (Z0 (Z5 rfl) rfl (Z0 (Z5 rfl) rfl (Z6 (Z1 (CW.ret (Z8 (QW.mem (M' := ((none, blk ((u8s ([] : List (BitVec 8))) ++ []) 5) :: (some b13, blk [.bool (a0.list), .slice A1 a0.data.length c2, .slice A4 a0.items.length c5] 25) :: ([] ++ N))) (fun w m => m.nil_ent _) ?_)))))))))
  have er0 := Zi hf
  obtain ⟨e0, er1⟩ := Prod.mk.inj er0
  clear er0
  subst e0
  subst er1
  refine Z106 (rs := [.tmp 4, .tmp 5]) ([sl none 0 ([] : List (BitVec 8)).length 0, .int .i64 (1 : Int)]) ((none, blk ((u8s ([] : List (BitVec 8))) ++ []) 5) :: []) rfl ?_ rfl ?_ ?_ _ (.inl rfl)
  ·exact ⟨rfl, rfl, trivial⟩
  ·exact ⟨[], none, 0, [], OwnS.nil, (by omega), rfl, rfl⟩
  ·exact (fun w m => m.pick [0] 2 rfl rfl)
 ·replace hf := if_f hf h14
  refine Z14 rfl (decide_eq_false h14) (CW.skip (Z1 (Z4 (Z4 (Z2 (Z0 (Z22 rfl Zh rfl rfl rfl rfl rfl) rfl ?_))))))
  obtain ⟨x16, hx15, hf⟩ := Z103 hf
  refine Z12 Tryd.call76 rfl (rlp_kind_does w0 (More w0 Φ []) ((some b13, blk [.bool (a0.list), .slice A1 a0.data.length c2, .slice A4 a0.items.length c5] 25) :: ([] ++ N)) (fun w m => More.of hΦ 1 m rfl) [.bool (a0.list), .slice A1 a0.data.length c2, .slice A4 a0.items.length c5] a0 false x16 h10 hx15) rfl rfl ?_
  rintro _ G18 ⟨b17, rfl⟩
  refine Z20 (M' := ((some b13, blk [.bool (a0.list), .slice A1 a0.data.length c2, .slice A4 a0.items.length c5] 25) :: ([] ++ N))) (fun w m => m.appR) (Z0 (Z5 rfl) rfl (Z6 (Z1 (Z4 (Z2 (Z0 (Z3 rfl) rfl (Z0 (RV.neq rfl rfl) rfl (Z7 (.bool (!decide (x16 = 0))) (congrArg (fun b => Value.bool (!b)) (decide_eq_decide.2 (by omega))) (Z6 (Z1 ?_))))))))))
  by_cases h20 : x16 = 0
  ·replace hf := if_t hf h20
   refine Z14 rfl (congrArg (fun b => !b) (decide_eq_true h20)) (CW.skip (Z1 (Z4 (Z4 (Z2 (Z0 (Z30 rfl rfl rfl rfl) rfl (Z0 (Z29 rfl Zh rfl rfl rfl rfl) rfl (Z0 (RV.len rfl rfl) rfl (Z0 (Z3 rfl) rfl (Z0 (RV.neq rfl rfl) rfl (Z6 (Z1 ?_))))))))))))
   by_cases h21 : ((a0.data.length : Nat) : Int) = a1
   ·replace hf := if_t hf h21
    refine Z14 rfl (congrArg (fun b => !b) (decide_eq_true h21)) (CW.skip (Z1 (Z4 (Z2 (Z0 (Z30 rfl rfl rfl rfl) rfl (Z0 (Z29 rfl Zh rfl rfl rfl rfl) rfl ?_))))))
    obtain ⟨x23, hx22, hf⟩ := Z103 hf
    refine Z12 Tryd.call77 rfl (rlp_clone_does w0 (More w0 Φ []) ((some b13, blk [.bool (a0.list), .slice A1 a0.data.length c2, .slice A4 a0.items.length c5] 25) :: ([] ++ N)) (fun w m => More.of hΦ 1 m rfl) A1 c2 a0.data x23 v3 hx22) rfl rfl ?_
    rintro L29 M30 ⟨B24, ob25, c26, r27, o28, e31, e32⟩
    rw [e31, e32]
    clear e31 e32 L29 M30
    refine Z20 (M' := ((ob25, blk ((u8s x23) ++ r27) 5) :: (some b13, blk [.bool (a0.list), .slice A1 a0.data.length c2, .slice A4 a0.items.length c5] 25) :: ((B24 ++ []) ++ N))) (fun w m => by have h := Z119 (A := B24) m 1 1 rfl rfl; exact h) ?_
    have gq1 : ∀ w, More w0 Φ (B24 ++ []) w → More w0 Φ [] w := fun w q => More.mono (fun w m => (m).appR) q
    replace h10 := ItRd.mono gq1 _ _ h10
    replace v3 := v3.mono gq1
    replace v6 := v6.mono gq1
    replace h8 := h8.mono (ItRd.mono gq1)
    have m33 := o28.mx
    refine Z0 (Z5 rfl) rfl (Z0 (Z5 rfl) rfl (Z6 (Z1 (CW.ret ?_))))
    have er0 := Zi hf
    obtain ⟨e0, er1⟩ := Prod.mk.inj er0
    clear er0
    subst e0
    subst er1
    refine Z106 (rs := [.tmp 4, .tmp 5]) ([sl ob25 0 x23.length c26, .int .i64 (0 : Int)]) ((ob25, blk ((u8s x23) ++ r27) 5) :: (B24 ++ [])) rfl ?_ rfl ?_ ?_ _ (.inl rfl)
    ·exact ⟨rfl, rfl, trivial⟩
    ·exact ⟨(B24 ++ []), ob25, c26, r27, o28, (by omega), rfl, rfl⟩
    ·exact (fun w m => m.pick [0] 2 rfl rfl)
   ·replace hf := if_f hf h21
    refine Z13 rfl (congrArg (fun b => !b) (decide_eq_false h21)) (Z4 (Z2 (Z0 (Z5 rfl) rfl (Z0 (Z5 rfl) rfl (Z6 (Z1 (CW.ret (Z8 (QW.mem (M' := ((none, blk ((u8s ([] : List (BitVec 8))) ++ []) 5) :: (some b13, blk [.bool (a0.list), .slice A1 a0.data.length c2, .slice A4 a0.items.length c5] 25) :: ([] ++ N))) (fun w m => m.nil_ent _) ?_)))))))))
    have er0 := Zi hf
    obtain ⟨e0, er1⟩ := Prod.mk.inj er0
    clear er0
    subst e0
    subst er1
    refine Z106 (rs := [.tmp 4, .tmp 5]) ([sl none 0 ([] : List (BitVec 8)).length 0, .int .i64 (77 : Int)]) ((none, blk ((u8s ([] : List (BitVec 8))) ++ []) 5) :: []) rfl ?_ rfl ?_ ?_ _ (.inl rfl)
    ·exact ⟨rfl, rfl, trivial⟩
    ·exact ⟨[], none, 0, [], OwnS.nil, (by omega), rfl, rfl⟩
    ·exact (fun w m => m.pick [0] 2 rfl rfl)
  ·replace hf := if_f hf h20
   refine Z13 rfl (congrArg (fun b => !b) (decide_eq_false h20)) (Z4 (Z2 (Z0 (Z3 rfl) rfl (Z0 (Z5 rfl) rfl (Z0 (Z5 rfl) rfl (Z6 (Z1 (CW.ret (Z8 (QW.mem (M' := ((none, blk ((u8s ([] : List (BitVec 8))) ++ []) 5) :: (some b13, blk [.bool (a0.list), .slice A1 a0.data.length c2, .slice A4 a0.items.length c5] 25) :: ([] ++ N))) (fun w m => m.nil_ent _) ?_))))))))))
   have er0 := Zi hf
   obtain ⟨e0, er1⟩ := Prod.mk.inj er0
   clear er0
   subst e0
   subst er1
   refine Z106 (rs := [.tmp 4, .tmp 5]) ([sl none 0 ([] : List (BitVec 8)).length 0, .int .i64 ((x16 : Nat) : Int)]) ((none, blk ((u8s ([] : List (BitVec 8))) ++ []) 5) :: []) rfl ?_ rfl ?_ ?_ _ (.inl rfl)
   ·exact ⟨rfl, rfl, trivial⟩
   ·exact ⟨[], none, 0, [], OwnS.nil, (by omega), rfl, rfl⟩
   ·exact (fun w m => m.pick [0] 2 rfl rfl)
theorem waybillref07_GetFixed_does (w0 : World) (Φ : Ctx) (N : List Ent) (hΦ : ∀ w, Mem w0 w N → Φ w) (cs0_ : List Value) (a0 : It) (a1 : Int) (res0 : List (BitVec 8)) (res1 : Nat) (ha0 : ItRd Φ cs0_ a0) (ba1 : -9223372036854775808 ≤ a1 ∧ a1 ≤ 9223372036854775807) (hf : waybillref07_GetFixed a0 a1 = some (res0, res1)) : DoesG Tryd.prog 86 [.agg cs0_.toArray, .int .i64 a1] w0 [] N (fun v G => ∃ B : List Ent, ∃ or0 : Option Nat, ∃ kr0 : Nat, ∃ rr0 : List Value, (OwnS or0 res0.length kr0 1 (u8s res0) rr0) ∧ (res1 ≤ 9223372036854775807) ∧ v = .tuple #[sl or0 0 res0.length kr0, .int .i64 ((res1 : Nat) : Int)] ∧ G = (or0, blk ((u8s res0) ++ rr0) 5) :: B) := by
 unfold waybillref07_GetFixed at hf
 replace ha0 := ItRd.mono (Ψ := More w0 Φ []) (fun w q => q.1) _ _ ha0
 have h10 := ha0
 obtain ⟨A1, c2, A4, c5, cs7, e9, v3, v6, h8⟩ := ItRd.opn ha0
 subst e9
 have m11 := v3.mx
 have m12 := v6.mx
 refine DoesG.enter Tryd.func86 rfl Tryd.ntmps86 rfl (M := (([] ++ N))) rfl (Z4 (Z2 (OW.boxA rfl rfl (fun b13 => (Z0 (Z5 rfl) rfl (Z0 (Z5 rfl) rfl (Z6 (Z1 (Z4 (Z4 (Z2 (Z0 (Z3 rfl) rfl (Z0 (RV.lss rfl rfl) rfl ?_)))))))))))))
 refine Z6 (Z1 ?_)
 by_cases h14 : a1 < (0 : Int)
 ·replace hf := if_t hf h14
  refine Z13 rfl (decide_eq_true h14) (Z4 (Z2 (Z0 (Z5 rfl) rfl (Z0 (Z5 rfl) rfl (Z6 (Z1 (CW.ret (Z8 (QW.mem (M' := ((none, blk ((u8s ([] : List (BitVec 8))) ++ []) 5) :: (some b13, blk [.bool (a0.list), .slice A1 a0.data.length c2, .slice A4 a0.items.length c5] 25) :: ([] ++ N))) (fun w m => m.nil_ent _) ?_)))))))))
  have er0 := Zi hf
  obtain ⟨e0, er1⟩ := Prod.mk.inj er0
  clear er0
  subst e0
  subst er1
  refine Z106 (rs := [.tmp 4, .tmp 5]) ([sl none 0 ([] : List (BitVec 8)).length 0, .int .i64 (1 : Int)]) ((none, blk ((u8s ([] : List (BitVec 8))) ++ []) 5) :: []) rfl ?_ rfl ?_ ?_ _ (.inl rfl)
  ·exact ⟨rfl, rfl, trivial⟩
  ·exact ⟨[], none, 0, [], OwnS.nil, (by omega), rfl, rfl⟩
  ·exact (fun w m => m.pick [0] 2 rfl rfl)
 ·replace hf := if_f hf h14
  refine Z14 rfl (decide_eq_false h14) (CW.skip (Z1 (Z4 (Z2 (Z0 (Z22 rfl Zh rfl rfl rfl rfl rfl) rfl ?_)))))
  obtain ⟨x16, hx15, hf⟩ := Z103 hf
  refine Z12 Tryd.call85 rfl (Z127 w0 (More w0 Φ []) ((some b13, blk [.bool (a0.list), .slice A1 a0.data.length c2, .slice A4 a0.items.length c5] 25) :: ([] ++ N)) (fun w m => More.of hΦ 1 m rfl) [.bool (a0.list), .slice A1 a0.data.length c2, .slice A4 a0.items.length c5] a0 false x16 h10 hx15) rfl rfl ?_
  rintro _ G18 ⟨b17, rfl⟩
  refine Z20 (M' := ((some b13, blk [.bool (a0.list), .slice A1 a0.data.length c2, .slice A4 a0.items.length c5] 25) :: ([] ++ N))) (fun w m => m.appR) (Z0 (Z5 rfl) rfl (Z6 (Z1 (Z4 (Z4 (Z2 (Z0 (Z3 rfl) rfl (Z0 (RV.neq rfl rfl) rfl (Z7 (.bool (!decide (x16 = 0))) (congrArg (fun b => Value.bool (!b)) (decide_eq_decide.2 (by omega))) (Z6 (Z1 ?_)))))))))))
  by_cases h20 : x16 = 0
  ·replace hf := if_t hf h20
   refine Z14 rfl (congrArg (fun b => !b) (decide_eq_true h20)) (CW.skip (Z1 (Z4 (Z4 (Z2 (Z0 (Z30 rfl rfl rfl rfl) rfl (Z0 (Z29 rfl Zh rfl rfl rfl rfl) rfl (Z0 (RV.len rfl rfl) rfl (Z0 (Z3 rfl) rfl (Z0 (RV.neq rfl rfl) rfl (Z6 (Z1 ?_))))))))))))
   by_cases h21 : ((a0.data.length : Nat) : Int) = a1
   ·replace hf := if_t hf h21
    refine Z14 rfl (congrArg (fun b => !b) (decide_eq_true h21)) (CW.skip (Z1 (Z4 (Z2 (Z0 (Z30 rfl rfl rfl rfl) rfl (Z0 (Z29 rfl Zh rfl rfl rfl rfl) rfl ?_))))))
    obtain ⟨x23, hx22, hf⟩ := Z103 hf
    refine Z12 Tryd.call41 rfl (Z122 w0 (More w0 Φ []) ((some b13, blk [.bool (a0.list), .slice A1 a0.data.length c2, .slice A4 a0.items.length c5] 25) :: ([] ++ N)) (fun w m => More.of hΦ 1 m rfl) A1 c2 a0.data x23 v3 hx22) rfl rfl ?_
    rintro L29 M30 ⟨B24, ob25, c26, r27, o28, e31, e32⟩
    rw [e31, e32]
    clear e31 e32 L29 M30
    refine Z20 (M' := ((ob25, blk ((u8s x23) ++ r27) 5) :: (some b13, blk [.bool (a0.list), .slice A1 a0.data.length c2, .slice A4 a0.items.length c5] 25) :: ((B24 ++ []) ++ N))) (fun w m => by have h := Z119 (A := B24) m 1 1 rfl rfl; exact h) ?_
    have gq1 : ∀ w, More w0 Φ (B24 ++ []) w → More w0 Φ [] w := fun w q => More.mono (fun w m => (m).appR) q
    replace h10 := ItRd.mono gq1 _ _ h10
    replace v3 := v3.mono gq1
    replace v6 := v6.mono gq1
    replace h8 := h8.mono (ItRd.mono gq1)
    have m33 := o28.mx
    refine Z0 (Z5 rfl) rfl (Z0 (Z5 rfl) rfl (Z6 (Z1 (CW.ret ?_))))
    have er0 := Zi hf
    obtain ⟨e0, er1⟩ := Prod.mk.inj er0
    clear er0
    subst e0
    subst er1
    refine Z106 (rs := [.tmp 4, .tmp 5]) ([sl ob25 0 x23.length c26, .int .i64 (0 : Int)]) ((ob25, blk ((u8s x23) ++ r27) 5) :: (B24 ++ [])) rfl ?_ rfl ?_ ?_ _ (.inl rfl)
    ·exact ⟨rfl, rfl, trivial⟩
    ·exact ⟨(B24 ++ []), ob25, c26, r27, o28, (by omega), rfl, rfl⟩
    ·exact (fun w m => m.pick [0] 2 rfl rfl)
   ·replace hf := if_f hf h21
    refine Z13 rfl (congrArg (fun b => !b) (decide_eq_false h21)) (Z4 (Z2 (Z0 (Z5 rfl) rfl (Z0 (Z5 rfl) rfl (Z6 (Z1 (CW.ret (Z8 (QW.mem (M' := ((none, blk ((u8s ([] : List (BitVec 8))) ++ []) 5) :: (some b13, blk [.bool (a0.list), .slice A1 a0.data.length c2, .slice A4 a0.items.length c5] 25) :: ([] ++ N))) (fun w m => m.nil_ent _) ?_)))))))))
    have er0 := Zi hf
    obtain ⟨e0, er1⟩ := Prod.mk.inj er0
    clear er0
    subst e0
    subst er1
    refine Z106 (rs := [.tmp 4, .tmp 5]) ([sl none 0 ([] : List (BitVec 8)).length 0, .int .i64 (77 : Int)]) ((none, blk ((u8s ([] : List (BitVec 8))) ++ []) 5) :: []) rfl ?_ rfl ?_ ?_ _ (.inl rfl)
    ·exact ⟨rfl, rfl, trivial⟩
    ·exact ⟨[], none, 0, [], OwnS.nil, (by omega), rfl, rfl⟩
    ·exact (fun w m => m.pick [0] 2 rfl rfl)
  ·replace hf := if_f hf h20
   refine Z13 rfl (congrArg (fun b => !b) (decide_eq_false h20)) (Z4 (Z2 (Z0 (Z3 rfl) rfl (Z0 (Z5 rfl) rfl (Z0 (Z5 rfl) rfl (Z6 (Z1 (CW.ret (Z8 (QW.mem (M' := ((none, blk ((u8s ([] : List (BitVec 8))) ++ []) 5) :: (some b13, blk [.bool (a0.list), .slice A1 a0.data.length c2, .slice A4 a0.items.length c5] 25) :: ([] ++ N))) (fun w m => m.nil_ent _) ?_))))))))))
   have er0 := Zi hf
   obtain ⟨e0, er1⟩ := Prod.mk.inj er0
   clear er0
   subst e0
   subst er1
   refine Z106 (rs := [.tmp 4, .tmp 5]) ([sl none 0 ([] : List (BitVec 8)).length 0, .int .i64 ((x16 : Nat) : Int)]) ((none, blk ((u8s ([] : List (BitVec 8))) ++ []) 5) :: []) rfl ?_ rfl ?_ ?_ _ (.inl rfl)
   ·exact ⟨rfl, rfl, trivial⟩
   ·exact ⟨[], none, 0, [], OwnS.nil, (by omega), rfl, rfl⟩
   ·exact (fun w m => m.pick [0] 2 rfl rfl)
theorem rlp_GetList_does (w0 : World) (Φ : Ctx) (N : List Ent) (hΦ : ∀ w, Mem w0 w N → Φ w) (cs0_ : List Value) (a0 : It) (res0 : List (It)) (res1 : Nat) (ha0 : ItRd Φ cs0_ a0) (hf : rlp_GetList a0 = some (res0, res1)) : DoesG Tryd.prog 42 [.agg cs0_.toArray] w0 [] N (fun v G => ∃ B : List Ent, ∃ cr0 : List Value, ∃ or0 : Option Nat, ∃ kr0 : Nat, ∃ rr0 : List Value, (Reps (ItRd (More w0 Φ B)) cr0 res0) ∧ (OwnS or0 res0.length kr0 3 cr0 rr0) ∧ (res1 ≤ 9223372036854775807) ∧ v = .tuple #[sl or0 0 res0.length kr0, .int .i64 ((res1 : Nat) : Int)] ∧ G = (or0, blk (cr0 ++ rr0) 25) :: B) := by
 unfold rlp_GetList at hf
 replace ha0 := ItRd.mono (Ψ := More w0 Φ []) (fun w q => q.1) _ _ ha0
 have h10 := ha0
 obtain ⟨A1, c2, A4, c5, cs7, e9, v3, v6, h8⟩ := ItRd.opn ha0
 subst e9
 have m11 := v3.mx
 have m12 := v6.mx
 refine DoesG.enter Tryd.func42 rfl Tryd.ntmps42 rfl (M := (([] ++ N))) rfl (Z4 (Z2 (OW.boxA rfl rfl (fun b13 => (Z0 (Z5 rfl) rfl (Z0 (Z5 rfl) rfl (Z6 (Z1 (Z4 (Z4 (Z2 (Z0 (Z22 rfl Zh rfl rfl rfl rfl rfl) rfl ?_))))))))))))
 obtain ⟨x15, hx14, hf⟩ := Z103 hf
 refine Z12 Tryd.call76 rfl (rlp_kind_does w0 (More w0 Φ []) ((some b13, blk [.bool (a0.list), .slice A1 a0.data.length c2, .slice A4 a0.items.length c5] 25) :: ([] ++ N)) (fun w m => More.of hΦ 1 m rfl) [.bool (a0.list), .slice A1 a0.data.length c2, .slice A4 a0.items.length c5] a0 true x15 h10 hx14) rfl rfl ?_
 rintro _ G17 ⟨b16, rfl⟩
 refine Z20 (M' := ((some b13, blk [.bool (a0.list), .slice A1 a0.data.length c2, .slice A4 a0.items.length c5] 25) :: ([] ++ N))) (fun w m => m.appR) (Z0 (Z5 rfl) rfl (Z6 (Z1 (Z4 (Z2 (Z0 (Z3 rfl) rfl (Z0 (RV.neq rfl rfl) rfl (Z7 (.bool (!decide (x15 = 0))) (congrArg (fun b => Value.bool (!b)) (decide_eq_decide.2 (by omega))) (Z6 (Z1 ?_))))))))))
 by_cases h19 : x15 = 0
 ·replace hf := if_t hf h19
  refine Z14 rfl (congrArg (fun b => !b) (decide_eq_true h19)) (CW.skip (Z1 (Z4 (Z2 (Z0 (Z30 rfl rfl rfl rfl) rfl (Z0 (Z29 rfl Zh rfl rfl rfl rfl) rfl ?_))))))
  obtain ⟨x21, hx20, hf⟩ := Z103 hf
  refine Z12 Tryd.call82 rfl (rlp_twin_does w0 (More w0 Φ []) ((some b13, blk [.bool (a0.list), .slice A1 a0.data.length c2, .slice A4 a0.items.length c5] 25) :: ([] ++ N)) (fun w m => More.of hΦ 1 m rfl) A4 c5 cs7 a0.items x21 v6 h8 hx20) rfl rfl ?_
  rintro L29 M30 ⟨B22, cs23, ob25, c26, r27, h24, o28, e31, e32⟩
  rw [e31, e32]
  clear e31 e32 L29 M30
  refine Z20 (M' := ((ob25, blk (cs23 ++ r27) 25) :: (some b13, blk [.bool (a0.list), .slice A1 a0.data.length c2, .slice A4 a0.items.length c5] 25) :: ((B22 ++ []) ++ N))) (fun w m => by have h := Z119 (A := B22) m 1 1 rfl rfl; exact h) ?_
  have gq1 : ∀ w, More w0 Φ (B22 ++ []) w → More w0 Φ [] w := fun w q => More.mono (fun w m => (m).appR) q
  replace h10 := ItRd.mono gq1 _ _ h10
  replace v3 := v3.mono gq1
  replace v6 := v6.mono gq1
  replace h8 := h8.mono (ItRd.mono gq1)
  replace h24 := h24.mono (ItRd.mono (Ψ := (More w0 Φ (B22 ++ []))) (fun w q => More.flat q))
  have m33 := o28.mx
  refine Z0 (Z5 rfl) rfl (Z0 (Z5 rfl) rfl (Z6 (Z1 (CW.ret ?_))))
  have er0 := Zi hf
  obtain ⟨e0, er1⟩ := Prod.mk.inj er0
  clear er0
  subst e0
  subst er1
  refine Z106 (rs := [.tmp 2, .tmp 3]) ([sl ob25 0 x21.length c26, .int .i64 (0 : Int)]) ((ob25, blk (cs23 ++ r27) 25) :: (B22 ++ [])) rfl ?_ rfl ?_ ?_ _ (.inl rfl)
  ·exact ⟨rfl, rfl, trivial⟩
  ·exact ⟨(B22 ++ []), cs23, ob25, c26, r27, h24, o28, (by omega), rfl, rfl⟩
  ·exact (fun w m => m.pick [0] 2 rfl rfl)
 ·replace hf := if_f hf h19
  refine Z13 rfl (congrArg (fun b => !b) (decide_eq_false h19)) (Z4 (Z2 (Z0 (Z3 rfl) rfl (Z0 (Z5 rfl) rfl (Z0 (Z5 rfl) rfl (Z6 (Z1 (CW.ret (Z8 (QW.mem (M' := ((none, blk ([] ++ []) 25) :: (some b13, blk [.bool (a0.list), .slice A1 a0.data.length c2, .slice A4 a0.items.length c5] 25) :: ([] ++ N))) (fun w m => m.nil_ent _) ?_))))))))))
  have er0 := Zi hf
  obtain ⟨e0, er1⟩ := Prod.mk.inj er0
  clear er0
  subst e0
  subst er1
  refine Z106 (rs := [.tmp 2, .tmp 3]) ([sl none 0 ([] : List (It)).length 0, .int .i64 ((x15 : Nat) : Int)]) ((none, blk ([] ++ []) 25) :: []) rfl ?_ rfl ?_ ?_ _ (.inl rfl)
  ·exact ⟨rfl, rfl, trivial⟩
  ·exact ⟨[], [], none, 0, [], Reps.nil, OwnS.nil, (by omega), rfl, rfl⟩
  ·exact (fun w m => m.pick [0] 2 rfl rfl)
theorem waybillref07_GetList_does (w0 : World) (Φ : Ctx) (N : List Ent) (hΦ : ∀ w, Mem w0 w N → Φ w) (cs0_ : List Value) (a0 : It) (res0 : List (It)) (res1 : Nat) (ha0 : ItRd Φ cs0_ a0) (hf : waybillref07_GetList a0 = some (res0, res1)) : DoesG Tryd.prog 46 [.agg cs0_.toArray] w0 [] N (fun v G => ∃ B : List Ent, ∃ cr0 : List Value, ∃ or0 : Option Nat, ∃ kr0 : Nat, ∃ rr0 : List Value, (Reps (ItRd (More w0 Φ B)) cr0 res0) ∧ (OwnS or0 res0.length kr0 3 cr0 rr0) ∧ (res1 ≤ 9223372036854775807) ∧ v = .tuple #[sl or0 0 res0.length kr0, .int .i64 ((res1 : Nat) : Int)] ∧ G = (or0, blk (cr0 ++ rr0) 25) :: B) := by
 unfold waybillref07_GetList at hf
 replace ha0 := ItRd.mono (Ψ := More w0 Φ []) (fun w q => q.1) _ _ ha0
 have h10 := ha0
 obtain ⟨A1, c2, A4, c5, cs7, e9, v3, v6, h8⟩ := ItRd.opn ha0
 subst e9
 have m11 := v3.mx
 have m12 := v6.mx
 refine DoesG.enter Tryd.func46 rfl Tryd.ntmps46 rfl (M := (([] ++ N))) rfl (Z4 (Z2 (OW.boxA rfl rfl (fun b13 => (Z0 (Z5 rfl) rfl (Z0 (Z5 rfl) rfl (Z6 (Z1 (Z4 (Z2 (Z0 (Z22 rfl Zh rfl rfl rfl rfl rfl) rfl ?_)))))))))))
 obtain ⟨x15, hx14, hf⟩ := Z103 hf
 refine Z12 Tryd.call85 rfl (Z127 w0 (More w0 Φ []) ((some b13, blk [.bool (a0.list), .slice A1 a0.data.length c2, .slice A4 a0.items.length c5] 25) :: ([] ++ N)) (fun w m => More.of hΦ 1 m rfl) [.bool (a0.list), .slice A1 a0.data.length c2, .slice A4 a0.items.length c5] a0 true x15 h10 hx14) rfl rfl ?_
 rintro _ G17 ⟨b16, rfl⟩
 refine Z20 (M' := ((some b13, blk [.bool (a0.list), .slice A1 a0.data.length c2, .slice A4 a0.items.length c5] 25) :: ([] ++ N))) (fun w m => m.appR) (Z0 (Z5 rfl) rfl (Z6 (Z1 (Z4 (Z4 (Z2 (Z0 (Z3 rfl) rfl (Z0 (RV.neq rfl rfl) rfl (Z7 (.bool (!decide (x15 = 0))) (congrArg (fun b => Value.bool (!b)) (decide_eq_decide.2 (by omega))) (Z6 (Z1 ?_)))))))))))
 by_cases h19 : x15 = 0
 ·replace hf := if_t hf h19
  refine Z14 rfl (congrArg (fun b => !b) (decide_eq_true h19)) (CW.skip (Z1 (Z4 (Z2 (Z0 (Z30 rfl rfl rfl rfl) rfl (Z0 (Z29 rfl Zh rfl rfl rfl rfl) rfl ?_))))))
  obtain ⟨x21, hx20, hf⟩ := Z103 hf
  refine Z12 Tryd.call15 rfl (waybillref07_Copy_does w0 (More w0 Φ []) ((some b13, blk [.bool (a0.list), .slice A1 a0.data.length c2, .slice A4 a0.items.length c5] 25) :: ([] ++ N)) (fun w m => More.of hΦ 1 m rfl) A4 c5 cs7 a0.items x21 v6 h8 hx20) rfl rfl ?_
  rintro L29 M30 ⟨B22, cs23, ob25, c26, r27, h24, o28, e31, e32⟩
  rw [e31, e32]
  clear e31 e32 L29 M30
  refine Z20 (M' := ((ob25, blk (cs23 ++ r27) 25) :: (some b13, blk [.bool (a0.list), .slice A1 a0.data.length c2, .slice A4 a0.items.length c5] 25) :: ((B22 ++ []) ++ N))) (fun w m => by have h := Z119 (A := B22) m 1 1 rfl rfl; exact h) ?_
  have gq1 : ∀ w, More w0 Φ (B22 ++ []) w → More w0 Φ [] w := fun w q => More.mono (fun w m => (m).appR) q
  replace h10 := ItRd.mono gq1 _ _ h10
  replace v3 := v3.mono gq1
  replace v6 := v6.mono gq1
  replace h8 := h8.mono (ItRd.mono gq1)
  replace h24 := h24.mono (ItRd.mono (Ψ := (More w0 Φ (B22 ++ []))) (fun w q => More.flat q))
  have m33 := o28.mx
  refine Z0 (Z5 rfl) rfl (Z0 (Z5 rfl) rfl (Z6 (Z1 (CW.ret ?_))))
  have er0 := Zi hf
  obtain ⟨e0, er1⟩ := Prod.mk.inj er0
  clear er0
  subst e0
  subst er1
  refine Z106 (rs := [.tmp 2, .tmp 3]) ([sl ob25 0 x21.length c26, .int .i64 (0 : Int)]) ((ob25, blk (cs23 ++ r27) 25) :: (B22 ++ [])) rfl ?_ rfl ?_ ?_ _ (.inl rfl)
  ·exact ⟨rfl, rfl, trivial⟩
  ·exact ⟨(B22 ++ []), cs23, ob25, c26, r27, h24, o28, (by omega), rfl, rfl⟩
  ·exact (fun w m => m.pick [0] 2 rfl rfl)
 ·replace hf := if_f hf h19
  refine Z13 rfl (congrArg (fun b => !b) (decide_eq_false h19)) (Z4 (Z2 (Z0 (Z3 rfl) rfl (Z0 (Z5 rfl) rfl (Z0 (Z5 rfl) rfl (Z6 (Z1 (CW.ret (Z8 (QW.mem (M' := ((none, blk ([] ++ []) 25) :: (some b13, blk [.bool (a0.list), .slice A1 a0.data.length c2, .slice A4 a0.items.length c5] 25) :: ([] ++ N))) (fun w m => m.nil_ent _) ?_))))))))))
  have er0 := Zi hf
  obtain ⟨e0, er1⟩ := Prod.mk.inj er0
  clear er0
  subst e0
  subst er1
  refine Z106 (rs := [.tmp 2, .tmp 3]) ([sl none 0 ([] : List (It)).length 0, .int .i64 ((x15 : Nat) : Int)]) ((none, blk ([] ++ []) 25) :: []) rfl ?_ rfl ?_ ?_ _ (.inl rfl)
  ·exact ⟨rfl, rfl, trivial⟩
  ·exact ⟨[], [], none, 0, [], Reps.nil, OwnS.nil, (by omega), rfl, rfl⟩
  ·exact (fun w m => m.pick [0] 2 rfl rfl)
theorem rlp_cut_does (w0 : World) (Φ : Ctx) (N : List Ent) (hΦ : ∀ w, Mem w0 w N → Φ w) (A0_ : Option Addr) (c0_ : Nat) (a0 : List (BitVec 8)) (res0 : Bool) (res1 : List (BitVec 8)) (res2 : List (BitVec 8)) (res3 : Nat) (va0 : View Φ A0_ a0.length c0_ 1 (u8s a0)) (hf : rlp_cut a0 = some (res0, res1, res2, res3)) : DoesG Tryd.prog 79 [.slice A0_ a0.length c0_] w0 [] N (fun v G => ∃ B : List Ent, ∃ Ar1 : Option Addr, ∃ kr1 : Nat, ∃ Ar2 : Option Addr, ∃ kr2 : Nat, (View (More w0 Φ B) Ar1 res1.length kr1 1 (u8s res1)) ∧ (View (More w0 Φ B) Ar2 res2.length kr2 1 (u8s res2)) ∧ (res3 ≤ 9223372036854775807) ∧ v = .tuple #[.bool res0, .slice Ar1 res1.length kr1, .slice Ar2 res2.length kr2, .int .i64 ((res3 : Nat) : Int)] ∧ G = B) := by
 unfold rlp_cut at hf
 replace va0 := va0.mono (Ψ := More w0 Φ []) (fun w q => q.1)
 have m1 := va0.mx
 refine DoesG.enter Tryd.func79 rfl Tryd.ntmps79 rfl (M := (([] ++ N))) rfl (Z4 (Z2 (Z0 (Z5 rfl) rfl (Z0 (Z5 rfl) rfl (Z0 (Z5 rfl) rfl (Z0 (Z5 rfl) rfl (Z6 (Z1 (Z4 (Z4 (Z2 (Z0 (Z3 rfl) rfl ?_))))))))))))
 refine Z0 (RV.len rfl rfl) rfl (Z0 (RV.eql rfl rfl) rfl (Z7 (.bool (decide (a0.length = 0))) (congrArg Value.bool (decide_eq_decide.2 (by omega))) (Z6 (Z1 ?_))))
 by_cases h2 : a0.length = 0
 ·replace hf := if_t hf h2
  refine Z13 rfl (decide_eq_true h2) (Z4 (Z2 (Z0 (Z5 rfl) rfl (Z0 (Z5 rfl) rfl (Z0 (Z5 rfl) rfl (Z0 (Z5 rfl) rfl (Z6 (Z1 (CW.ret (Z8 ?_))))))))))
  have er0 := Zi hf
  obtain ⟨e0, er1⟩ := Prod.mk.inj er0
  clear er0
  obtain ⟨e1, er2⟩ := Prod.mk.inj er1
  clear er1
  obtain ⟨e2, er3⟩ := Prod.mk.inj er2
  clear er2
  subst e0
  subst e1
  subst e2
  subst er3
  refine Z106 (rs := [.tmp 2, .tmp 3, .tmp 4, .tmp 5]) ([.bool false, .slice none 0 0, .slice none 0 0, .int .i64 (70 : Int)]) ([]) rfl ?_ rfl ?_ ?_ _ (.inl rfl)
  ·exact ⟨rfl, rfl, rfl, rfl, trivial⟩
  ·exact ⟨[], none, 0, none, 0, View.nil, View.nil, (by omega), rfl, rfl⟩
  ·exact (fun w m => m.pick [] 0 rfl rfl)
 ·replace hf := if_f hf h2
  refine Z14 rfl (decide_eq_false h2) (CW.skip (Z1 (Z4 (Z2 (Z0 (Z3 rfl) rfl ?_)))))
  obtain ⟨x3, hx4, hf⟩ := Z103 hf
  have hl5 := Z129 hx4
  refine Z0 (Z141 (0) rfl rfl rfl rfl rfl (va0.isSome (by decide) hl5) (by omega)) rfl (Z0 (Z21 rfl rfl rfl (fun w m => va0.cell (More.of hΦ 0 m rfl) (u8s_at hx4))) rfl (Z0 (Z5 rfl) rfl (Z6 (Z1 (Z4 (Z4 (Z2 (Z0 (Z3 rfl) rfl (Z0 (RV.lss rfl rfl) rfl (Z7 (.bool (decide (x3.toNat < 128))) (congrArg Value.bool (decide_eq_decide.2 (by first | exact Int.ofNat_le | exact Int.ofNat_lt | omega | (simp; omega) | simp))) (Z6 (Z1 ?_))))))))))))
  by_cases h6 : x3.toNat < 128
  ·replace hf := if_t hf h6
   refine Z13 rfl (decide_eq_true h6) (Z4 (Z124 8 mixed (by kernel_rfl) rfl (Z18 0 rfl (by kernel_rfl) rfl (Z3 rfl) rfl ?_)))
   obtain ⟨g8, hf⟩ := Z128 hf
   have hle := va0.le
   have hlen_ : a0.length = a0.length := rfl
   refine Z18 1 rfl (by kernel_rfl) rfl (RV.cut_hi (1) rfl rfl (by omega) rfl rfl (by omega)) rfl (UW.slot (.slice A0_ (a0.take 1).length c0_) (by rw [show ((a0.take 1)).length = 1 from List.length_take.trans (Nat.min_eq_left (by omega))]) ?_)
   have v7 : View (More w0 Φ []) A0_ (a0.take 1).length c0_ 1 (u8s (a0.take 1)) := va0.hi8 (by omega)
   have m9 := v7.mx
   refine Z18 2 rfl (by kernel_rfl) rfl (Z3 rfl) rfl (Z18 3 rfl (by kernel_rfl) rfl (RV.cut_lo (s := 1) (1) rfl rfl (by omega) rfl rfl (by omega)) rfl (UW.slot (.slice (subA A0_ c0_ 1 1) (a0.drop 1).length (c0_ - 1)) (by rw [show ((a0.drop 1)).length = (a0).length - (1) from List.length_drop]) ?_))
   have v10 : View (More w0 Φ []) (subA A0_ c0_ 1 1) (a0.drop 1).length (c0_ - 1) 1 (u8s (a0.drop 1)) := va0.lo8 (by omega)
   have m11 := v10.mx
   refine Z18 4 rfl (by kernel_rfl) rfl (Z5 rfl) rfl (Z18 5 rfl (by kernel_rfl) rfl (Z5 rfl) rfl (Z18 6 rfl (by kernel_rfl) rfl (Z5 rfl) rfl (Z18 7 rfl (by kernel_rfl) rfl (Z5 rfl) rfl (UW.nil (by kernel_rfl) (Z6 (Z1 (CW.ret (Z8 ?_))))))))
   have er0 := Zi hf
   obtain ⟨e0, er1⟩ := Prod.mk.inj er0
   clear er0
   obtain ⟨e1, er2⟩ := Prod.mk.inj er1
   clear er1
   obtain ⟨e2, er3⟩ := Prod.mk.inj er2
   clear er2
   subst e0
   subst e1
   subst e2
   subst er3
   refine Z106 (rs := [.tmp 2, .tmp 3, .tmp 4, .tmp 5]) ([.bool false, .slice A0_ (a0.take 1).length c0_, .slice (subA A0_ c0_ 1 1) (a0.drop 1).length (c0_ - 1), .int .i64 (0 : Int)]) ([]) rfl ?_ rfl ?_ ?_ _ (.inl rfl)
   ·exact ⟨rfl, rfl, rfl, rfl, trivial⟩
   ·exact ⟨[], A0_, c0_, (subA A0_ c0_ 1 1), (c0_ - 1), v7, v10, (by omega), rfl, rfl⟩
   ·exact (fun w m => m.pick [] 0 rfl rfl)
  ·replace hf := if_f hf h6
   refine Z14 rfl (decide_eq_false h6) (CW.skip (Z1 (Z4 (Z2 (Z0 (Z3 rfl) rfl (Z0 (RV.geq rfl rfl) rfl (Z7 (.bool (decide (192 ≤ x3.toNat))) (congrArg Value.bool (decide_eq_decide.2 (by first | exact Int.ofNat_le | exact Int.ofNat_lt | omega | (simp; omega) | simp))) (Z0 (Z5 rfl) rfl (Z6 (Z1 (Z4 (Z2 (Z0 (Z3 rfl) rfl ?_)))))))))))))
   refine Z0 (RV.sub8 rfl (by first | rfl | exact lit8 _ rfl) rfl (by first | rfl | exact lit8 _ rfl)) rfl (Z0 (RV.conv8_i rfl (by first | rfl | exact lit8 _ rfl) rfl rfl) rfl ?_)
   have m12 := ((x3 - 128#8)).isLt
   refine Z0 (Z5 rfl) rfl (Z6 (Z1 (Z4 (Z4 (Z2 (Z0 (Z3 rfl) rfl (Z6 (Z1 ?_))))))))
   obtain ⟨q13, hq14, hf⟩ := Z103 hf
   refine Z120 (fun L' M' => ∃ n15 : Nat, q13 = n15 ∧ (n15 ≤ 9223372036854775807) ∧ L' = [(0, .slice A0_ a0.length c0_), (2, .bool (decide (192 ≤ x3.toNat))), (7, .int .i64 ((n15 : Nat) : Int))] ∧ M' = (([] ++ N))) ?_ ?_
   ·rintro L18 M19 ⟨n15, e17, b16, e20, e21⟩
    rw [e20, e21]
    clear e20 e21 L18 M19
    clear hq14
    rw [e17] at hf
    clear e17
    try dsimp only at hf
    refine Z1 (Z4 (Z2 (Z0 (Z3 rfl) rfl ?_)))
    obtain ⟨g23, hf⟩ := Z128 hf
    refine Z0 (RV.cut_lo (s := 1) (1) rfl rfl (by omega) rfl rfl (by omega)) rfl (Z7 (.slice (subA A0_ c0_ 1 1) (a0.drop 1).length (c0_ - 1)) (by rw [show ((a0.drop 1)).length = (a0).length - (1) from List.length_drop]) ?_)
    have v22 : View (More w0 Φ []) (subA A0_ c0_ 1 1) (a0.drop 1).length (c0_ - 1) 1 (u8s (a0.drop 1)) := va0.lo8 (by omega)
    have m24 := v22.mx
    refine Z0 (Z5 rfl) rfl (Z6 (Z1 (Z4 (Z4 (Z2 (Z0 (Z3 rfl) rfl (Z0 (RV.gtr rfl rfl) rfl (Z7 (.bool (decide (55 < n15))) (congrArg Value.bool (decide_eq_decide.2 (by omega))) (Z6 (Z1 ?_))))))))))
    obtain ⟨q25, hq26, hf⟩ := Z103 hf
    refine Z120 (fun L' M' => ∃ l27 : List (BitVec 8), ∃ n31 : Nat, ∃ A28 : Option Addr, ∃ c29 : Nat, q25 = Lp.go (l27, n31) ∧ (View (More w0 Φ []) A28 l27.length c29 1 (u8s l27)) ∧ (n31 ≤ 9223372036854775807) ∧ L' = [(0, .slice A28 l27.length c29), (2, .bool (decide (192 ≤ x3.toNat))), (7, .int .i64 ((n31 : Nat) : Int))] ∧ M' = (([] ++ N))) ?_ ?_
    ·rintro L34 M35 ⟨l27, n31, A28, c29, e33, v30, b32, e36, e37⟩
     rw [e36, e37]
     clear e36 e37 L34 M35
     clear hq26
     rw [e33] at hf
     clear e33
     try dsimp only at hf
     have m38 := v30.mx
     refine Z1 (Z4 (Z4 (Z2 (Z0 (Z3 rfl) rfl (Z0 (RV.len rfl rfl) rfl (Z0 (Z3 rfl) rfl (Z0 (RV.lss rfl rfl) rfl (Z7 (.bool (decide (l27.length < n31))) (congrArg Value.bool (decide_eq_decide.2 (by omega))) (Z6 (Z1 ?_))))))))))
     by_cases h39 : l27.length < n31
     ·replace hf := if_t hf h39
      refine Z13 rfl (decide_eq_true h39) (Z4 (Z2 (Z0 (Z5 rfl) rfl (Z0 (Z5 rfl) rfl (Z0 (Z5 rfl) rfl (Z0 (Z5 rfl) rfl (Z6 (Z1 (CW.ret (Z8 ?_))))))))))
      have er0 := Zi hf
      obtain ⟨e0, er1⟩ := Prod.mk.inj er0
      clear er0
      obtain ⟨e1, er2⟩ := Prod.mk.inj er1
      clear er1
      obtain ⟨e2, er3⟩ := Prod.mk.inj er2
      clear er2
      subst e0
      subst e1
      subst e2
      subst er3
      refine Z106 (rs := [.tmp 2, .tmp 3, .tmp 4, .tmp 5]) ([.bool false, .slice none 0 0, .slice none 0 0, .int .i64 (70 : Int)]) ([]) rfl ?_ rfl ?_ ?_ _ (.inl rfl)
      ·exact ⟨rfl, rfl, rfl, rfl, trivial⟩
      ·exact ⟨[], none, 0, none, 0, View.nil, View.nil, (by omega), rfl, rfl⟩
      ·exact (fun w m => m.pick [] 0 rfl rfl)
     ·replace hf := if_f hf h39
      refine Z14 rfl (decide_eq_false h39) (CW.skip (Z1 (Z4 (Z4 ?_))))
      obtain ⟨q40, hq41, hf⟩ := Z103 hf
      refine Z120 (fun L' M' => ∃ p42 : Bool, q40 = p42 ∧ L' = [(0, .slice A28 l27.length c29), (2, .bool (decide (192 ≤ x3.toNat))), (7, .int .i64 ((n31 : Nat) : Int)), (87, .bool (p42))] ∧ M' = (([] ++ N))) ?_ ?_
      ·rintro L44 M45 ⟨p42, e43, e46, e47⟩
       rw [e46, e47]
       clear e46 e47 L44 M45
       clear hq41
       rw [e43] at hf
       clear e43
       try dsimp only at hf
       refine Z1 ?_
       by_cases h48 : p42 = true
       ·replace hf := if_t hf h48
        refine Z13 rfl (h48) (Z4 (Z2 (Z0 (Z5 rfl) rfl (Z0 (Z5 rfl) rfl (Z0 (Z5 rfl) rfl (Z0 (Z5 rfl) rfl (Z6 (Z1 (CW.ret (Z8 ?_))))))))))
        have er0 := Zi hf
        obtain ⟨e0, er1⟩ := Prod.mk.inj er0
        clear er0
        obtain ⟨e1, er2⟩ := Prod.mk.inj er1
        clear er1
        obtain ⟨e2, er3⟩ := Prod.mk.inj er2
        clear er2
        subst e0
        subst e1
        subst e2
        subst er3
        refine Z106 (rs := [.tmp 2, .tmp 3, .tmp 4, .tmp 5]) ([.bool false, .slice none 0 0, .slice none 0 0, .int .i64 (71 : Int)]) ([]) rfl ?_ rfl ?_ ?_ _ (.inl rfl)
        ·exact ⟨rfl, rfl, rfl, rfl, trivial⟩
        ·exact ⟨[], none, 0, none, 0, View.nil, View.nil, (by omega), rfl, rfl⟩
        ·exact (fun w m => m.pick [] 0 rfl rfl)
       ·replace hf := if_f hf h48
        refine Z14 rfl (Bool.eq_false_iff.2 h48) (CW.skip (Z1 (Z4 (Z124 11 mixed (by kernel_rfl) rfl (Z18 0 rfl (by kernel_rfl) rfl (Z3 rfl) rfl (Z18 1 rfl (by kernel_rfl) rfl (Z3 rfl) rfl (Z18 2 rfl (by kernel_rfl) rfl (Z3 rfl) rfl ?_)))))))
        obtain ⟨g50, hf⟩ := Z128 hf
        have hle := v30.le
        have hlen_ : l27.length = l27.length := rfl
        refine Z18 3 rfl (by kernel_rfl) rfl (RV.cut_hi (n31) rfl rfl (by omega) rfl rfl (by omega)) rfl (UW.slot (.slice A28 (l27.take n31).length c29) (by rw [show ((l27.take n31)).length = n31 from List.length_take.trans (Nat.min_eq_left (by omega))]) ?_)
        have v49 : View (More w0 Φ []) A28 (l27.take n31).length c29 1 (u8s (l27.take n31)) := v30.hi8 (by omega)
        have m51 := v49.mx
        refine Z18 4 rfl (by kernel_rfl) rfl (Z3 rfl) rfl (Z18 5 rfl (by kernel_rfl) rfl (Z3 rfl) rfl (Z18 6 rfl (by kernel_rfl) rfl (RV.cut_lo (s := 1) (n31) rfl rfl (by omega) rfl rfl (by omega)) rfl (UW.slot (.slice (subA A28 c29 n31 1) (l27.drop n31).length (c29 - n31)) (by rw [show ((l27.drop n31)).length = (l27).length - (n31) from List.length_drop]) ?_)))
        have v52 : View (More w0 Φ []) (subA A28 c29 n31 1) (l27.drop n31).length (c29 - n31) 1 (u8s (l27.drop n31)) := v30.lo8 (by omega)
        have m53 := v52.mx
        refine Z18 7 rfl (by kernel_rfl) rfl (Z5 rfl) rfl (Z18 8 rfl (by kernel_rfl) rfl (Z5 rfl) rfl (Z18 9 rfl (by kernel_rfl) rfl (Z5 rfl) rfl (Z18 10 rfl (by kernel_rfl) rfl (Z5 rfl) rfl (UW.nil (by kernel_rfl) (Z6 (Z1 (CW.ret ?_)))))))
        have er0 := Zi hf
        obtain ⟨e0, er1⟩ := Prod.mk.inj er0
        clear er0
        obtain ⟨e1, er2⟩ := Prod.mk.inj er1
        clear er1
        obtain ⟨e2, er3⟩ := Prod.mk.inj er2
        clear er2
        subst e0
        subst e1
        subst e2
        subst er3
        refine Z106 (rs := [.tmp 2, .tmp 3, .tmp 4, .tmp 5]) ([.bool (decide (192 ≤ x3.toNat)), .slice A28 (l27.take n31).length c29, .slice (subA A28 c29 n31 1) (l27.drop n31).length (c29 - n31), .int .i64 (0 : Int)]) ([]) rfl ?_ rfl ?_ ?_ _ (.inl rfl)
        ·exact ⟨rfl, rfl, rfl, rfl, trivial⟩
        ·exact ⟨[], A28, c29, (subA A28 c29 n31 1), (c29 - n31), v49, v52, (by omega), rfl, rfl⟩
        ·exact (fun w m => m.pick [] 0 rfl rfl)
      ·skip
       refine Z2 (Z0 (Z3 rfl) rfl (Z0 (RV.not rfl) rfl (Z0 (Z3 rfl) rfl ?_)))
       by_cases h54 : 192 ≤ x3.toNat
       ·replace hq41 := if_t hq41 h54
        refine Z7 (.bool false) (congrArg Value.bool (congrArg (fun b => !b) (decide_eq_true h54))) (Z23 rfl rfl rfl (Z23 rfl rfl rfl (Z0 (Z110 rfl rfl rfl) rfl (Z0 (Z3 rfl) rfl (Z23 rfl rfl rfl (Z23 rfl rfl rfl (Z23 rfl rfl rfl ?_)))))))
        refine Z23 rfl rfl rfl (Z0 (Z110 rfl rfl rfl) rfl (Z6 ?_))
        exact QW.join ⟨false, (Zi hq41).symm, rfl, rfl⟩ ⟨rfl, rfl, rfl, rfl, trivial⟩ (fun w m => m.pick [] 0 rfl rfl)
       ·replace hq41 := if_f hq41 h54
        refine Z7 (.bool true) (congrArg Value.bool (congrArg (fun b => !b) (decide_eq_false h54))) (Z24 rfl (Z0 (Z3 rfl) rfl (Z24 rfl (Z0 (RV.eql rfl rfl) rfl (Z7 (.bool (decide (n31 = 1))) (congrArg Value.bool (decide_eq_decide.2 (by omega))) (Z0 (Z108 rfl rfl rfl) rfl (Z0 (Z3 rfl) rfl ?_)))))))
        by_cases h55 : n31 = 1
        ·replace hq41 := if_t hq41 h55
         refine Z7 (.bool true) (congrArg Value.bool (decide_eq_true h55)) (Z24 rfl (Z0 (Z3 rfl) rfl (Z24 rfl ?_)))
         obtain ⟨x56, hx57, hq41⟩ := Z103 hq41
         have hl58 := Z129 hx57
         refine Z0 (Z141 (0) rfl rfl rfl rfl rfl (v30.isSome (by decide) hl58) (by omega)) rfl (Z24 rfl (Z0 (Z21 rfl rfl rfl (fun w m => v30.cell (More.of hΦ 0 m rfl) (u8s_at hx57))) rfl (Z24 rfl (Z0 (RV.lss rfl rfl) rfl (Z7 (.bool (decide (x56.toNat < 128))) (congrArg Value.bool (decide_eq_decide.2 (by first | exact Int.ofNat_le | exact Int.ofNat_lt | omega | (simp; omega) | simp))) (Z0 (Z108 rfl rfl rfl) rfl (Z6 ?_)))))))
         exact QW.join ⟨(decide (x56.toNat < 128)), (Zi hq41).symm, rfl, rfl⟩ ⟨rfl, rfl, rfl, rfl, trivial⟩ (fun w m => m.pick [] 0 rfl rfl)
        ·replace hq41 := if_f hq41 h55
         refine Z7 (.bool false) (congrArg Value.bool (decide_eq_false h55)) (Z23 rfl rfl rfl (Z23 rfl rfl rfl (Z23 rfl rfl rfl (Z23 rfl rfl rfl (Z0 (Z110 rfl rfl rfl) rfl (Z6 ?_))))))
         exact QW.join ⟨false, (Zi hq41).symm, rfl, rfl⟩ ⟨rfl, rfl, rfl, rfl, trivial⟩ (fun w m => m.pick [] 0 rfl rfl)
    ·skip
     by_cases h59 : 55 < n15
     ·replace hq26 := if_t hq26 h59
      refine Z13 rfl (decide_eq_true h59) (Z4 (Z2 (Z0 (Z3 rfl) rfl (Z0 (RV.sub rfl rfl (by omega)) rfl (Z7 (.int .i64 ((n15 - 55 : Nat) : Int)) (by congr 1; omega) (Z0 (Z5 rfl) rfl (Z6 (Z1 (Z4 (Z4 (Z2 (Z0 (Z3 rfl) rfl ?_))))))))))))
      refine Z0 (RV.len rfl rfl) rfl (Z0 (Z3 rfl) rfl (Z0 (RV.lss rfl rfl) rfl (Z7 (.bool (decide ((a0.drop 1).length < (n15 - 55)))) (congrArg Value.bool (decide_eq_decide.2 (by omega))) (Z6 (Z1 ?_)))))
      by_cases h60 : (a0.drop 1).length < (n15 - 55)
      ·replace hq26 := if_t hq26 h60
       refine Z13 rfl (decide_eq_true h60) (Z4 (Z2 (Z0 (Z5 rfl) rfl (Z0 (Z5 rfl) rfl (Z0 (Z5 rfl) rfl (Z0 (Z5 rfl) rfl (Z6 (Z1 (CW.ret (Z8 (Z8 ?_)))))))))))
       have hc := Zi hq26
       subst hc
       try dsimp only at hf
       refine Z8 ?_
       have er0 := Zi hf
       obtain ⟨e0, er1⟩ := Prod.mk.inj er0
       clear er0
       obtain ⟨e1, er2⟩ := Prod.mk.inj er1
       clear er1
       obtain ⟨e2, er3⟩ := Prod.mk.inj er2
       clear er2
       subst e0
       subst e1
       subst e2
       subst er3
       refine Z106 (rs := [.tmp 2, .tmp 3, .tmp 4, .tmp 5]) ([.bool false, .slice none 0 0, .slice none 0 0, .int .i64 (70 : Int)]) ([]) rfl ?_ rfl ?_ ?_ _ (.inl rfl)
       ·exact ⟨rfl, rfl, rfl, rfl, trivial⟩
       ·exact ⟨[], none, 0, none, 0, View.nil, View.nil, (by omega), rfl, rfl⟩
       ·exact (fun w m => m.pick [] 0 rfl rfl)
      ·replace hq26 := if_f hq26 h60
       refine Z14 rfl (decide_eq_false h60) (CW.skip (Z1 (Z4 (Z2 (Z0 (Z3 rfl) rfl (Z0 (Z3 rfl) rfl ?_))))))
       obtain ⟨g62, hq26⟩ := Z128 hq26
       have hle := v22.le
       have hlen_ : (a0.drop 1).length = (a0.drop 1).length := rfl
       refine Z0 (RV.cut_hi ((n15 - 55)) rfl rfl (by omega) rfl rfl (by omega)) rfl (Z7 (.slice (subA A0_ c0_ 1 1) ((a0.drop 1).take (n15 - 55)).length (c0_ - 1)) (by rw [show (((a0.drop 1).take (n15 - 55))).length = (n15 - 55) from List.length_take.trans (Nat.min_eq_left (by omega))]) ?_)
       have v61 : View (More w0 Φ []) (subA A0_ c0_ 1 1) ((a0.drop 1).take (n15 - 55)).length (c0_ - 1) 1 (u8s ((a0.drop 1).take (n15 - 55))) := v22.hi8 (by omega)
       have m63 := v61.mx
       obtain ⟨⟨x65, x66⟩, hx64, hq26⟩ := Z103 hq26
       try dsimp only at hq26
       refine Z12 Tryd.call115 rfl (u256_Get_does w0 (More w0 Φ []) (([] ++ N)) (fun w m => More.of hΦ 0 m rfl) (subA A0_ c0_ 1 1) (c0_ - 1) ((a0.drop 1).take (n15 - 55)) x65 x66 v61 hx64) rfl rfl ?_
       rintro _ G68 ⟨b67, rfl⟩
       refine Z20 (M' := (([] ++ N))) (fun w m => m.appR) (Z0 (Z3 rfl) rfl (Z0 (Z17 rfl rfl) rfl (Z7 (.agg (u64s x65.toList).toArray) (rfl) (Z0 (Z17 rfl rfl) rfl (Z7 (.int .i64 ((x66 : Nat) : Int)) (rfl) (OW.alloc (l := (u64s (Vector.replicate 4 0#64).toList)) rfl (by rw [Vector.toList_replicate, ← Z116]; rfl) rfl (fun b70 => (Z28 (Z105 rfl rfl rfl (Z115 _) rfl ((Z101 _).trans Zv) ((Z101 _).trans Zv)) ?_))))))))
       refine Z0 (Z5 rfl) rfl (Z6 (Z1 (Z4 (Z4 ?_))))
       obtain ⟨q71, hq72, hq26⟩ := Z103 hq26
       refine Z120 (fun L' M' => ∃ p73 : Bool, q71 = p73 ∧ L' = [(0, .slice (subA A0_ c0_ 1 1) (a0.drop 1).length (c0_ - 1)), (2, .bool (decide (192 ≤ x3.toNat))), (8, .int .i64 ((n15 - 55 : Nat) : Int)), (9, ptr (some b70) 0), (58, .bool (p73))] ∧ M' = ((some b70, blk (u64s x65.toList) 35) :: ([] ++ N))) ?_ ?_
       ·rintro L75 M76 ⟨p73, e74, e77, e78⟩
        rw [e77, e78]
        clear e77 e78 L75 M76
        clear hq72
        rw [e74] at hq26
        clear e74
        try dsimp only at hq26
        refine Z1 ?_
        by_cases h79 : p73 = true
        ·replace hq26 := if_t hq26 h79
         refine Z13 rfl (h79) (Z4 (Z2 (Z0 (Z5 rfl) rfl (Z0 (Z5 rfl) rfl (Z0 (Z5 rfl) rfl (Z0 (Z5 rfl) rfl (Z6 (Z1 (CW.ret (Z8 (Z8 ?_)))))))))))
         have hc := Zi hq26
         subst hc
         try dsimp only at hf
         refine Z8 ?_
         have er0 := Zi hf
         obtain ⟨e0, er1⟩ := Prod.mk.inj er0
         clear er0
         obtain ⟨e1, er2⟩ := Prod.mk.inj er1
         clear er1
         obtain ⟨e2, er3⟩ := Prod.mk.inj er2
         clear er2
         subst e0
         subst e1
         subst e2
         subst er3
         refine Z106 (rs := [.tmp 2, .tmp 3, .tmp 4, .tmp 5]) ([.bool false, .slice none 0 0, .slice none 0 0, .int .i64 (72 : Int)]) ([]) rfl ?_ rfl ?_ ?_ _ (.inl rfl)
         ·exact ⟨rfl, rfl, rfl, rfl, trivial⟩
         ·exact ⟨[], none, 0, none, 0, View.nil, View.nil, (by omega), rfl, rfl⟩
         ·exact (fun w m => m.pick [] 1 rfl rfl)
        ·replace hq26 := if_f hq26 h79
         refine Z14 rfl (Bool.eq_false_iff.2 h79) (CW.skip (Z1 (Z4 (Z2 (Z0 (Z3 rfl) rfl (Z0 (Z3 rfl) rfl (Z0 (RV.cut_lo (s := 1) ((n15 - 55)) rfl rfl (by omega) rfl rfl (by omega)) rfl (Z7 (.slice (subA (subA A0_ c0_ 1 1) (c0_ - 1) (n15 - 55) 1) ((a0.drop 1).drop (n15 - 55)).length ((c0_ - 1) - (n15 - 55))) (by rw [show (((a0.drop 1).drop (n15 - 55))).length = ((a0.drop 1)).length - ((n15 - 55)) from List.length_drop]) ?_))))))))
         have v80 : View (More w0 Φ []) (subA (subA A0_ c0_ 1 1) (c0_ - 1) (n15 - 55) 1) ((a0.drop 1).drop (n15 - 55)).length ((c0_ - 1) - (n15 - 55)) 1 (u8s ((a0.drop 1).drop (n15 - 55))) := v22.lo8 (by omega)
         have m81 := v80.mx
         refine Z0 (Z5 rfl) rfl (Z6 (Z1 (Z4 (Z4 (Z124 7 mixed (by kernel_rfl) rfl (Z18 0 rfl (by kernel_rfl) rfl (Z22 rfl Zh rfl rfl rfl rfl ((Z101 _).trans Zv)) rfl (Z18 1 rfl (by kernel_rfl) rfl (Z3 rfl) rfl (Z18 2 rfl (by kernel_rfl) rfl (RV.len rfl rfl) rfl (Z18 3 rfl (by kernel_rfl) rfl (RV.conv_i64 rfl rfl rfl) rfl (UW.slot (U64 (BitVec.ofNat 64 (((a0.drop 1).drop (n15 - 55)).length))) (congrArg U64 (BitVec.ofInt_natCast ..)) ?_))))))))))
         obtain ⟨x83, hx82, hq26⟩ := Z103 hq26
         refine Z25 4 rfl (by kernel_rfl) rfl Tryd.call104 rfl (fun N' hN' => u256_From_does w0 (More w0 Φ []) N' (fun w m => More.of hΦ 1 (hN' w m) rfl) (BitVec.ofNat 64 (((a0.drop 1).drop (n15 - 55)).length)) x83 hx82) rfl ?_
         rintro _ G84 rfl
         refine UW.mem (M' := ((some b70, blk (u64s x65.toList) 35) :: ([] ++ N))) (fun w m => m.appR) ?_
         obtain ⟨x87, hx86, hq26⟩ := Z103 hq26
         refine Z25 5 rfl (by kernel_rfl) rfl Tryd.call116 rfl (fun N' hN' => u256_Cmp_does w0 (More w0 Φ []) N' (fun w m => More.of hΦ 1 (hN' w m) rfl) x65 x83 x87 hx86) rfl ?_
         rintro _ G89 ⟨b88, rfl⟩
         refine UW.mem (M' := ((some b70, blk (u64s x65.toList) 35) :: ([] ++ N))) (fun w m => m.appR) (Z18 6 rfl (by kernel_rfl) rfl (RV.gtr rfl rfl) rfl (UW.nil (by kernel_rfl) (Z6 (Z1 ?_))))
         by_cases h91 : (0 : Int) < x87
         ·replace hq26 := if_t hq26 h91
          refine Z13 rfl (decide_eq_true h91) (Z4 (Z2 (Z0 (Z5 rfl) rfl (Z0 (Z5 rfl) rfl (Z0 (Z5 rfl) rfl (Z0 (Z5 rfl) rfl (Z6 (Z1 (CW.ret (Z8 (Z8 ?_)))))))))))
          have hc := Zi hq26
          subst hc
          try dsimp only at hf
          refine Z8 ?_
          have er0 := Zi hf
          obtain ⟨e0, er1⟩ := Prod.mk.inj er0
          clear er0
          obtain ⟨e1, er2⟩ := Prod.mk.inj er1
          clear er1
          obtain ⟨e2, er3⟩ := Prod.mk.inj er2
          clear er2
          subst e0
          subst e1
          subst e2
          subst er3
          refine Z106 (rs := [.tmp 2, .tmp 3, .tmp 4, .tmp 5]) ([.bool false, .slice none 0 0, .slice none 0 0, .int .i64 (70 : Int)]) ([]) rfl ?_ rfl ?_ ?_ _ (.inl rfl)
          ·exact ⟨rfl, rfl, rfl, rfl, trivial⟩
          ·exact ⟨[], none, 0, none, 0, View.nil, View.nil, (by omega), rfl, rfl⟩
          ·exact (fun w m => m.pick [] 1 rfl rfl)
         ·replace hq26 := if_f hq26 h91
          refine Z14 rfl (decide_eq_false h91) (CW.skip (Z1 (Z2 (Z0 (Z142 (0) rfl rfl rfl rfl rfl (by omega)) rfl (Z0 (Z29 rfl Zh rfl rfl rfl (u64s_at (vat' (by decide)))) rfl ?_)))))
          obtain ⟨g92, hq26⟩ := Z128 hq26
          refine Z0 (RV.conv64_i rfl (by first | rfl | exact lit64 _ rfl) rfl rfl (by first | omega | (simp; omega))) rfl ?_
          have m93 := (x65[0]).isLt
          refine Z0 (Z5 rfl) rfl (Z6 ?_)
          exact QW.join ⟨((a0.drop 1).drop (n15 - 55)), (x65[0]).toNat, (subA (subA A0_ c0_ 1 1) (c0_ - 1) (n15 - 55) 1), ((c0_ - 1) - (n15 - 55)), (Zi hq26).symm, v80, (by omega), rfl, rfl⟩ ⟨rfl, rfl, rfl, trivial⟩ (fun w m => m.pick [] 1 rfl rfl)
       ·skip
        refine Z124 10 mixed (by kernel_rfl) rfl (Z18 0 rfl (by kernel_rfl) rfl (Z3 rfl) rfl ?_)
        obtain ⟨x94, hx95, hq72⟩ := Z103 hq72
        have hl96 := Z129 hx95
        refine Z18 1 rfl (by kernel_rfl) rfl (Z141 (0) rfl rfl rfl rfl rfl (v22.isSome (by decide) hl96) (by omega)) rfl (Z18 2 rfl (by kernel_rfl) rfl (Z21 rfl rfl rfl (fun w m => v22.cell (More.of hΦ 1 m rfl) (u8s_at hx95))) rfl (Z18 3 rfl (by kernel_rfl) rfl (RV.eql8 rfl (by first | rfl | exact lit8 _ rfl) rfl (by first | rfl | exact lit8 _ rfl)) rfl (Z18 4 rfl (by kernel_rfl) rfl (Z3 rfl) rfl ?_)))
        by_cases h97 : x94 = 0#8
        ·replace hq72 := if_t hq72 h97
         refine UW.slot (.bool true) (congrArg Value.bool (decide_eq_true h97)) (UW.skip 5 rfl (by kernel_rfl) rfl rfl (UW.skip 6 rfl (by kernel_rfl) rfl rfl (UW.skip 7 rfl (by kernel_rfl) rfl rfl (UW.skip 8 rfl (by kernel_rfl) rfl rfl (Z18 9 rfl (by kernel_rfl) rfl (Z108 rfl rfl rfl) rfl (UW.nil (by kernel_rfl) (Z6 ?_)))))))
         exact QW.join ⟨true, (Zi hq72).symm, rfl, rfl⟩ ⟨rfl, rfl, rfl, rfl, rfl, trivial⟩ (fun w m => m.pick [0] 1 rfl rfl)
        ·replace hq72 := if_f hq72 h97
         refine UW.slot (.bool false) (congrArg Value.bool (decide_eq_false h97)) (Z18 5 rfl (by kernel_rfl) rfl (Z22 rfl Zh rfl rfl rfl rfl ((Z101 _).trans Zv)) rfl ?_)
         obtain ⟨x99, hx98, hq72⟩ := Z103 hq72
         refine Z25 6 rfl (by kernel_rfl) rfl Tryd.call104 rfl (fun N' hN' => u256_From_does w0 (More w0 Φ []) N' (fun w m => More.of hΦ 1 (hN' w m) rfl) (55#64) x99 hx98) rfl ?_
         rintro _ G100 rfl
         refine UW.mem (M' := ((some b70, blk (u64s x65.toList) 35) :: ([] ++ N))) (fun w m => m.appR) ?_
         obtain ⟨x103, hx102, hq72⟩ := Z103 hq72
         refine Z25 7 rfl (by kernel_rfl) rfl Tryd.call116 rfl (fun N' hN' => u256_Cmp_does w0 (More w0 Φ []) N' (fun w m => More.of hΦ 1 (hN' w m) rfl) x65 x99 x103 hx102) rfl ?_
         rintro _ G105 ⟨b104, rfl⟩
         refine UW.mem (M' := ((some b70, blk (u64s x65.toList) 35) :: ([] ++ N))) (fun w m => m.appR) (Z18 8 rfl (by kernel_rfl) rfl (RV.leq rfl rfl) rfl (Z18 9 rfl (by kernel_rfl) rfl (Z110 rfl rfl rfl) rfl (UW.nil (by kernel_rfl) (Z6 ?_))))
         exact QW.join ⟨(decide (x103 ≤ (0 : Int))), (Zi hq72).symm, rfl, rfl⟩ ⟨rfl, rfl, rfl, rfl, rfl, trivial⟩ (fun w m => m.pick [0] 1 rfl rfl)
     ·replace hq26 := if_f hq26 h59
      refine Z14 rfl (decide_eq_false h59) (CW.skip ?_)
      exact QW.join ⟨(a0.drop 1), n15, (subA A0_ c0_ 1 1), (c0_ - 1), (Zi hq26).symm, v22, (by omega), rfl, rfl⟩ ⟨rfl, rfl, rfl, trivial⟩ (fun w m => m.pick [] 0 rfl rfl)
   ·skip
    by_cases h107 : 192 ≤ x3.toNat
    ·replace hq14 := if_t hq14 h107
     refine Z13 rfl (decide_eq_true h107) (Z2 (Z0 (Z3 rfl) rfl (Z0 (RV.sub8 rfl (by first | rfl | exact lit8 _ rfl) rfl (by first | rfl | exact lit8 _ rfl)) rfl (Z0 (RV.conv8_i rfl (by first | rfl | exact lit8 _ rfl) rfl rfl) rfl ?_))))
     have m108 := ((x3 - 192#8)).isLt
     refine Z0 (Z5 rfl) rfl (Z6 ?_)
     exact QW.join ⟨(x3 - 192#8).toNat, (Zi hq14).symm, (by omega), rfl, rfl⟩ ⟨rfl, rfl, rfl, trivial⟩ (fun w m => m.pick [] 0 rfl rfl)
    ·replace hq14 := if_f hq14 h107
     refine Z14 rfl (decide_eq_false h107) (CW.skip ?_)
     exact QW.join ⟨(x3 - 128#8).toNat, (Zi hq14).symm, (by omega), rfl, rfl⟩ ⟨rfl, rfl, rfl, trivial⟩ (fun w m => m.pick [] 0 rfl rfl)
end Go.Fw.Tryd
