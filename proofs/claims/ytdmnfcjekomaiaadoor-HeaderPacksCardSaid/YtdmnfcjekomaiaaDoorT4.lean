/- Part of a proof: rules that its law uses. -/
import Derived.Test.YtdmnfcjekomaiaaDoorT3
set_option linter.unusedVariables false
set_option linter.unusedSimpArgs false
set_option linter.unusedSectionVars false
set_option maxRecDepth 100000
set_option maxHeartbeats 1000000
namespace Go.Fw.Tryd
open Go Go.Proofs Go.Fw
theorem u256_From_does (w0 : World) (Φ : Ctx) (N : List Ent) (hΦ : ∀ w, Mem w0 w N → Φ w) (a0 : BitVec 64) (res0 : Vector (BitVec 64) 4) (hf : u256_From a0 = some res0) : DoesG Tryd.prog 104 [U64 a0] w0 [] N (fun v G => v = .agg (u64s res0.toList).toArray) := by
 unfold u256_From at hf
 refine DoesG.enter Tryd.func104 rfl Tryd.ntmps104 rfl (M := (([] ++ N))) rfl (Z4 (Z2 (OW.alloc (l := (u64s (Vector.replicate 4 0#64).toList)) rfl (by rw [Vector.toList_replicate, ← Z145]; rfl) rfl (fun b1 => (Z6 (Z1 (Z4 (Z2 (Z0 (Z3 rfl) rfl ?_)))))))))
 refine Z0 (RV.buildA (l := (u64s (Vector.replicate 4 0#64).toList)) (cs := (u64s ((Vector.replicate 4 0#64).setIfInBounds 0 a0).toList)) rfl rfl rfl (by rw [Vector.toList_replicate, ← Z145]; rfl) rfl rfl (by simp only [setL, List.foldl, ← vset, Vector.toList_replicate, ← Z149] <;> rfl)) rfl ?_
 refine Z28 (Z109 rfl rfl rfl (Z154 _) rfl ((Z103 _).trans Zv) ((Z103 _).trans Zv)) (Z6 (Z1 (CW.ret ?_)))
 have e0 := Zi hf
 subst e0
 refine Z108 (rs := [.cell 2 35]) ([.agg (u64s ((Vector.replicate 4 0#64).setIfInBounds 0 a0).toList).toArray]) ((some b1, blk (u64s ((Vector.replicate 4 0#64).setIfInBounds 0 a0).toList) 35) :: []) rfl ?_ rfl ?_ ?_ _ (.inl rfl)
 ·exact ⟨⟨_, _, _, _, rfl, Zh, rfl, rfl, (congrArg some ((Z103 _).trans Zv).symm), rfl⟩, trivial⟩
 ·exact rfl
 ·exact (fun w m => m)
theorem waybillref01_From_does (w0 : World) (Φ : Ctx) (N : List Ent) (hΦ : ∀ w, Mem w0 w N → Φ w) (a0 : BitVec 64) (res0 : Vector (BitVec 64) 4) (hf : waybillref01_From a0 = some res0) : DoesG Tryd.prog 94 [U64 a0] w0 [] N (fun v G => v = .agg (u64s res0.toList).toArray) := by
 unfold waybillref01_From at hf
 refine DoesG.enter Tryd.func94 rfl Tryd.ntmps94 rfl (M := (([] ++ N))) rfl (Z4 (Z2 (OW.alloc (l := (u64s (Vector.replicate 4 0#64).toList)) rfl (by rw [Vector.toList_replicate, ← Z145]; rfl) rfl (fun b1 => (Z6 (Z1 (Z4 (Z2 (Z0 (Z3 rfl) rfl ?_)))))))))
 refine Z0 (RV.buildA (l := (u64s (Vector.replicate 4 0#64).toList)) (cs := (u64s (((((Vector.replicate 4 0#64).setIfInBounds 0 a0).setIfInBounds 1 (0#64)).setIfInBounds 2 (0#64)).setIfInBounds 3 (0#64)).toList)) rfl rfl rfl (by rw [Vector.toList_replicate, ← Z145]; rfl) rfl rfl (by simp only [setL, List.foldl, ← vset, Vector.toList_replicate, ← Z149] <;> rfl)) rfl ?_
 refine Z28 (Z109 rfl rfl rfl (Z154 _) rfl ((Z103 _).trans Zv) ((Z103 _).trans Zv)) (Z6 (Z1 (CW.ret ?_)))
 have e0 := Zi hf
 subst e0
 refine Z108 (rs := [.cell 2 35]) ([.agg (u64s (((((Vector.replicate 4 0#64).setIfInBounds 0 a0).setIfInBounds 1 (0#64)).setIfInBounds 2 (0#64)).setIfInBounds 3 (0#64)).toList).toArray]) ((some b1, blk (u64s (((((Vector.replicate 4 0#64).setIfInBounds 0 a0).setIfInBounds 1 (0#64)).setIfInBounds 2 (0#64)).setIfInBounds 3 (0#64)).toList) 35) :: []) rfl ?_ rfl ?_ ?_ _ (.inl rfl)
 ·exact ⟨⟨_, _, _, _, rfl, Zh, rfl, rfl, (congrArg some ((Z103 _).trans Zv).symm), rfl⟩, trivial⟩
 ·exact rfl
 ·exact (fun w m => m)
theorem rlp_clone_does (w0 : World) (Φ : Ctx) (N : List Ent) (hΦ : ∀ w, Mem w0 w N → Φ w) (A0_ : Option Addr) (c0_ : Nat) (a0 : List (BitVec 8)) (res0 : List (BitVec 8)) (va0 : View Φ A0_ a0.length c0_ 1 (u8s a0)) (hf : rlp_clone a0 = some res0) : DoesG Tryd.prog 77 [.slice A0_ a0.length c0_] w0 [] N (fun v G => ∃ B : List Ent, ∃ or0 : Option Nat, ∃ kr0 : Nat, ∃ rr0 : List Value, (OwnS or0 res0.length kr0 1 (u8s res0) rr0) ∧ v = sl or0 0 res0.length kr0 ∧ G = (or0, blk ((u8s res0) ++ rr0) 5) :: B) := by
 unfold rlp_clone at hf
 replace va0 := va0.mono (Ψ := More w0 Φ []) (fun w q => q.1)
 have m1 := va0.mx
 refine DoesG.enter Tryd.func77 rfl Tryd.ntmps77 rfl (M := (([] ++ N))) rfl (Z4 (Z2 (Z0 (Z5 rfl) rfl (Z6 (Z1 (Z4 (Z2 (Z0 (Z3 rfl) rfl (Z20 (M' := ((none, blk ((u8s ([] : List (BitVec 8))) ++ []) 5) :: ([] ++ N))) (fun w m => m.nil_ent _) (OW.appendOwn (s := 1) rfl rfl rfl rfl rfl rfl OwnS.nil (fun w m => va0.rd w (More.of hΦ 1 m rfl)) va0.n (Z119 _) (va0.zero (by decide)) (by decide) (by decide) (by first | omega | (simp only [i5, List.length_nil]; omega)) rfl rfl (a0.length) (u8s a0) (Nat.zero_add _) rfl (fun ob2 r3 c4 o5 => ?_)))))))))))
 have m6 := o5.mx
 refine Z0 (Z5 rfl) rfl (Z6 (Z1 (CW.ret ?_)))
 have e0 := Zi hf
 subst e0
 refine Z108 (rs := [.tmp 2]) ([sl ob2 0 a0.length c4]) ((ob2, blk ((u8s a0) ++ r3) 5) :: []) rfl ?_ rfl ?_ ?_ _ (.inl rfl)
 ·exact ⟨rfl, trivial⟩
 ·exact ⟨[], ob2, c4, r3, o5, rfl, rfl⟩
 ·exact (fun w m => m.pick [0] 1 rfl rfl)
theorem waybillref07_bytes_does (w0 : World) (Φ : Ctx) (N : List Ent) (hΦ : ∀ w, Mem w0 w N → Φ w) (A0_ : Option Addr) (c0_ : Nat) (a0 : List (BitVec 8)) (res0 : List (BitVec 8)) (va0 : View Φ A0_ a0.length c0_ 1 (u8s a0)) (hf : waybillref07_bytes a0 = some res0) : DoesG Tryd.prog 41 [.slice A0_ a0.length c0_] w0 [] N (fun v G => ∃ B : List Ent, ∃ or0 : Option Nat, ∃ kr0 : Nat, ∃ rr0 : List Value, (OwnS or0 res0.length kr0 1 (u8s res0) rr0) ∧ v = sl or0 0 res0.length kr0 ∧ G = (or0, blk ((u8s res0) ++ rr0) 5) :: B) := by
 unfold waybillref07_bytes at hf
 replace va0 := va0.mono (Ψ := More w0 Φ []) (fun w q => q.1)
 have m1 := va0.mx
 refine DoesG.enter Tryd.func41 rfl Tryd.ntmps41 rfl (M := (([] ++ N))) rfl (Z4 (Z2 (Z0 (Z5 rfl) rfl (Z6 (Z1 (Z4 (Z2 (Z0 (Z5 rfl) rfl (Z6 (Z1 (Z4 (Z2 (Z0 (Z3 rfl) rfl (Z0 (Z3 rfl) rfl ?_))))))))))))))
 refine Z20 (M' := ((none, blk ((u8s ([] : List (BitVec 8))) ++ []) 5) :: ([] ++ N))) (fun w m => m.nil_ent _) (OW.appendOwn (s := 1) rfl rfl rfl rfl rfl rfl OwnS.nil (fun w m => va0.rd w (More.of hΦ 1 m rfl)) va0.n (Z119 _) (va0.zero (by decide)) (by decide) (by decide) (by first | omega | (simp only [i5, List.length_nil]; omega)) rfl rfl (a0.length) (u8s a0) (Nat.zero_add _) rfl (fun ob2 r3 c4 o5 => ?_))
 have m6 := o5.mx
 refine Z0 (Z5 rfl) rfl (Z6 (Z1 (CW.ret ?_)))
 have e0 := Zi hf
 subst e0
 refine Z108 (rs := [.tmp 2]) ([sl ob2 0 a0.length c4]) ((ob2, blk ((u8s a0) ++ r3) 5) :: []) rfl ?_ rfl ?_ ?_ _ (.inl rfl)
 ·exact ⟨rfl, trivial⟩
 ·exact ⟨[], ob2, c4, r3, o5, rfl, rfl⟩
 ·exact (fun w m => m.pick [0] 1 rfl rfl)
theorem rlp_Text_does (w0 : World) (Φ : Ctx) (N : List Ent) (hΦ : ∀ w, Mem w0 w N → Φ w) (A0_ : Option Addr) (c0_ : Nat) (a0 : List (BitVec 8)) (res0 : It) (va0 : View Φ A0_ a0.length c0_ 1 (u8s a0)) (hf : rlp_Text a0 = some res0) : DoesG Tryd.prog 80 [.slice A0_ a0.length c0_] w0 [] N (fun v G => ∃ B : List Ent, ∃ cr0 : List Value, (ItRd (More w0 Φ B) cr0 res0) ∧ v = .agg cr0.toArray ∧ G = B) := by
 unfold rlp_Text at hf
 replace va0 := va0.mono (Ψ := More w0 Φ []) (fun w q => q.1)
 have m1 := va0.mx
 refine DoesG.enter Tryd.func80 rfl Tryd.ntmps80 rfl (M := (([] ++ N))) rfl (Z4 (Z2 (OW.alloc (l := [.bool false, .slice none 0 0, .slice none 0 0]) rfl rfl rfl (fun b2 => (Z6 (Z1 (Z4 (Z2 (Z0 (Z3 rfl) rfl ?_)))))))))
 obtain ⟨x4, hx3, hf⟩ := Z102 hf
 refine Z12 Tryd.call77 rfl (rlp_clone_does w0 (More w0 Φ []) ((some b2, blk [.bool false, .slice none 0 0, .slice none 0 0] 25) :: ([] ++ N)) (fun w m => More.of hΦ 1 m rfl) A0_ c0_ a0 x4 va0 hx3) rfl rfl ?_
 rintro L10 M11 ⟨B5, ob6, c7, r8, o9, e12, e13⟩
 rw [e12, e13]
 clear e12 e13 L10 M11
 refine Z20 (M' := ((ob6, blk ((u8s x4) ++ r8) 5) :: (some b2, blk [.bool false, .slice none 0 0, .slice none 0 0] 25) :: ((B5 ++ []) ++ N))) (fun w m => by have h := Z110 (A := B5) m 1 1 rfl rfl; exact h) ?_
 have gq1 : ∀ w, More w0 Φ (B5 ++ []) w → More w0 Φ [] w := fun w q => More.mono (fun w m => (m).appR) q
 replace va0 := va0.mono gq1
 have m14 := o9.mx
 refine Z0 (Z112 (l := [.bool false, .slice none 0 0, .slice none 0 0]) (cs := [.bool false, sl ob6 0 x4.length c7, .slice none 0 0]) [(1, [sl ob6 0 x4.length c7])] rfl rfl rfl rfl rfl rfl rfl) rfl (OW.rot1 ?_)
 refine Z28 (Z109 rfl rfl rfl (by intro u hu; simp at hu; rcases hu with rfl | rfl | rfl <;> rfl) rfl rfl rfl) ?_
 refine Z6 (Z1 (CW.ret (QW.mem (M' := (some b2, blk [.bool false, sl ob6 0 x4.length c7, .slice none 0 0] 25) :: (((ob6, blk ((u8s x4) ++ r8) 5) :: (B5 ++ [])) ++ N)) (fun w m => m.pick [0, 1] 2 rfl rfl) ?_)))
 have gq2 : ∀ w, More w0 Φ ((ob6, blk ((u8s x4) ++ r8) 5) :: (B5 ++ [])) w → More w0 Φ (B5 ++ []) w := fun w q => More.mono (fun w m => (m).tail) q
 replace va0 := va0.mono gq2
 have v15 : View (More w0 Φ ((ob6, blk ((u8s x4) ++ r8) 5) :: (B5 ++ []))) ((ob6).map fun k => ⟨k, 0, none⟩) x4.length c7 1 (u8s x4) := o9.view (by decide) (fun w q => q.2.sublist (List.singleton_sublist.2 (List.mem_cons_self ..)))
 have e0 := Zi hf
 subst e0
 have v16 : View (More w0 Φ ((ob6, blk ((u8s x4) ++ r8) 5) :: (B5 ++ []))) none ([] : List (It)).length 0 3 [] := View.nil
 refine Z108 (rs := [.cell 2 25]) ([.agg [.bool false, .slice ((ob6).map fun k => ⟨k, 0, none⟩) x4.length c7, .slice none 0 0].toArray]) (((ob6, blk ((u8s x4) ++ r8) 5) :: (B5 ++ []))) rfl ?_ rfl ?_ ?_ _ (.inl rfl)
 ·exact ⟨⟨_, _, _, _, rfl, Zh, rfl, rfl, rfl, rfl⟩, trivial⟩
 ·exact ⟨((ob6, blk ((u8s x4) ++ r8) 5) :: (B5 ++ [])), [.bool false, .slice ((ob6).map fun k => ⟨k, 0, none⟩) x4.length c7, .slice none 0 0], (ItRd.mk v15 v16 (Reps.nil)), rfl, rfl⟩
 ·exact (fun w m => m.pick [] 1 rfl rfl)
theorem Z132 (w0 : World) (Φ : Ctx) (N : List Ent) (hΦ : ∀ w, Mem w0 w N → Φ w) (A0_ : Option Addr) (c0_ : Nat) (a0 : List (BitVec 8)) (res0 : It) (va0 : View Φ A0_ a0.length c0_ 1 (u8s a0)) (hf : waybillref07_Text a0 = some res0) : DoesG Tryd.prog 59 [.slice A0_ a0.length c0_] w0 [] N (fun v G => ∃ B : List Ent, ∃ cr0 : List Value, (ItRd (More w0 Φ B) cr0 res0) ∧ v = .agg cr0.toArray ∧ G = B) := by
 unfold waybillref07_Text at hf
 replace va0 := va0.mono (Ψ := More w0 Φ []) (fun w q => q.1)
 have m1 := va0.mx
 refine DoesG.enter Tryd.func59 rfl Tryd.ntmps59 rfl (M := (([] ++ N))) rfl (Z4 (Z2 (OW.alloc (l := [.bool false, .slice none 0 0, .slice none 0 0]) rfl rfl rfl (fun b2 => (Z6 (Z1 (Z4 (Z2 (Z0 (Z3 rfl) rfl ?_)))))))))
 obtain ⟨x4, hx3, hf⟩ := Z102 hf
 refine Z12 Tryd.call41 rfl (waybillref07_bytes_does w0 (More w0 Φ []) ((some b2, blk [.bool false, .slice none 0 0, .slice none 0 0] 25) :: ([] ++ N)) (fun w m => More.of hΦ 1 m rfl) A0_ c0_ a0 x4 va0 hx3) rfl rfl ?_
 rintro L10 M11 ⟨B5, ob6, c7, r8, o9, e12, e13⟩
 rw [e12, e13]
 clear e12 e13 L10 M11
 refine Z20 (M' := ((ob6, blk ((u8s x4) ++ r8) 5) :: (some b2, blk [.bool false, .slice none 0 0, .slice none 0 0] 25) :: ((B5 ++ []) ++ N))) (fun w m => by have h := Z110 (A := B5) m 1 1 rfl rfl; exact h) ?_
 have gq1 : ∀ w, More w0 Φ (B5 ++ []) w → More w0 Φ [] w := fun w q => More.mono (fun w m => (m).appR) q
 replace va0 := va0.mono gq1
 have m14 := o9.mx
 refine Z0 (Z112 (l := [.bool false, .slice none 0 0, .slice none 0 0]) (cs := [.bool false, sl ob6 0 x4.length c7, .slice none 0 0]) [(1, [sl ob6 0 x4.length c7])] rfl rfl rfl rfl rfl rfl rfl) rfl (OW.rot1 ?_)
 refine Z28 (Z109 rfl rfl rfl (by intro u hu; simp at hu; rcases hu with rfl | rfl | rfl <;> rfl) rfl rfl rfl) ?_
 refine Z6 (Z1 (CW.ret (QW.mem (M' := (some b2, blk [.bool false, sl ob6 0 x4.length c7, .slice none 0 0] 25) :: (((ob6, blk ((u8s x4) ++ r8) 5) :: (B5 ++ [])) ++ N)) (fun w m => m.pick [0, 1] 2 rfl rfl) ?_)))
 have gq2 : ∀ w, More w0 Φ ((ob6, blk ((u8s x4) ++ r8) 5) :: (B5 ++ [])) w → More w0 Φ (B5 ++ []) w := fun w q => More.mono (fun w m => (m).tail) q
 replace va0 := va0.mono gq2
 have v15 : View (More w0 Φ ((ob6, blk ((u8s x4) ++ r8) 5) :: (B5 ++ []))) ((ob6).map fun k => ⟨k, 0, none⟩) x4.length c7 1 (u8s x4) := o9.view (by decide) (fun w q => q.2.sublist (List.singleton_sublist.2 (List.mem_cons_self ..)))
 have e0 := Zi hf
 subst e0
 have v16 : View (More w0 Φ ((ob6, blk ((u8s x4) ++ r8) 5) :: (B5 ++ []))) none ([] : List (It)).length 0 3 [] := View.nil
 refine Z108 (rs := [.cell 2 25]) ([.agg [.bool false, .slice ((ob6).map fun k => ⟨k, 0, none⟩) x4.length c7, .slice none 0 0].toArray]) (((ob6, blk ((u8s x4) ++ r8) 5) :: (B5 ++ []))) rfl ?_ rfl ?_ ?_ _ (.inl rfl)
 ·exact ⟨⟨_, _, _, _, rfl, Zh, rfl, rfl, rfl, rfl⟩, trivial⟩
 ·exact ⟨((ob6, blk ((u8s x4) ++ r8) 5) :: (B5 ++ [])), [.bool false, .slice ((ob6).map fun k => ⟨k, 0, none⟩) x4.length c7, .slice none 0 0], (ItRd.mk v15 v16 (Reps.nil)), rfl, rfl⟩
 ·exact (fun w m => m.pick [] 1 rfl rfl)
theorem rlp_odd_does (w0 : World) (Φ : Ctx) (N : List Ent) (hΦ : ∀ w, Mem w0 w N → Φ w) (cs0_ : List Value) (a0 : It) (res0 : Bool) (ha0 : ItRd Φ cs0_ a0) (hf : rlp_odd a0 = some res0) : DoesG Tryd.prog 113 [.agg cs0_.toArray] w0 [] N (fun v G => v = .bool res0) := by
 unfold rlp_odd at hf
 replace ha0 := ItRd.mono (Ψ := More w0 Φ []) (fun w q => q.1) _ _ ha0
 have h10 := ha0
 obtain ⟨A1, c2, A4, c5, cs7, e9, v3, v6, h8⟩ := ItRd.opn ha0
 subst e9
 have m11 := v3.mx
 have m12 := v6.mx
 refine DoesG.enter Tryd.func113 rfl Tryd.ntmps113 rfl (M := (([] ++ N))) rfl (Z4 (Z2 (OW.boxA rfl rfl (fun b13 => (Z0 (Z5 rfl) rfl (Z6 (Z1 (Z4 ?_))))))))
 obtain ⟨q14, hq15, hf⟩ := Z102 hf
 refine Z120 (fun L' M' => ∃ p16 : Bool, q14 = p16 ∧ L' = [(2, .bool (p16))] ∧ M' = (([] ++ N))) ?_ ?_
 ·rintro L18 M19 ⟨p16, e17, e20, e21⟩
  rw [e20, e21]
  clear e20 e21 L18 M19
  clear hq15
  rw [e17] at hf
  clear e17
  try dsimp only at hf
  refine Z1 (CW.ret ?_)
  have e0 := Zi hf
  subst e0
  refine Z108 (rs := [.tmp 2]) ([.bool (p16)]) ([]) rfl ?_ rfl ?_ ?_ _ (.inl rfl)
  ·exact ⟨rfl, trivial⟩
  ·exact rfl
  ·exact (fun w m => m)
 ·skip
  refine Z2 (Z0 (Z30 rfl rfl rfl rfl) rfl (Z0 (Z29 rfl Zh rfl rfl rfl rfl) rfl (Z0 (Z3 rfl) rfl ?_)))
  by_cases h22 : a0.list = true
  ·replace hq15 := if_t hq15 h22
   refine Z7 (.bool true) (congrArg Value.bool (h22)) (Z24 rfl (Z0 (Z30 rfl rfl rfl rfl) rfl (Z24 rfl (Z0 (Z29 rfl Zh rfl rfl rfl rfl) rfl (Z24 rfl (Z0 (RV.len rfl rfl) rfl (Z24 rfl ?_)))))))
   refine Z0 (RV.gtr rfl rfl) rfl (Z7 (.bool (decide (0 < a0.data.length))) (congrArg Value.bool (decide_eq_decide.2 (by omega))) (Z0 (Z105 rfl rfl rfl) rfl (Z0 (Z3 rfl) rfl ?_)))
   by_cases h23 : 0 < a0.data.length
   ·replace hq15 := if_t hq15 h23
    refine Z7 (.bool true) (congrArg Value.bool (decide_eq_true h23)) (Z23 rfl rfl rfl (Z23 rfl rfl rfl (Z23 rfl rfl rfl (Z23 rfl rfl rfl (Z23 rfl rfl rfl (Z23 rfl rfl rfl (Z23 rfl rfl rfl ?_)))))))
    refine Z23 rfl rfl rfl (Z23 rfl rfl rfl (Z0 (Z105 rfl rfl rfl) rfl (Z0 (Z5 rfl) rfl (Z6 ?_))))
    exact QW.join ⟨true, (Zi hq15).symm, rfl, rfl⟩ ⟨rfl, trivial⟩ (fun w m => m.pick [] 1 rfl rfl)
   ·replace hq15 := if_f hq15 h23
    refine Z7 (.bool false) (congrArg Value.bool (decide_eq_false h23)) (Z24 rfl (Z0 (Z30 rfl rfl rfl rfl) rfl (Z24 rfl (Z0 (Z29 rfl Zh rfl rfl rfl rfl) rfl (Z24 rfl (Z0 (RV.not rfl) rfl (Z24 rfl ?_)))))))
    refine Z0 (Z3 rfl) rfl ?_
    by_cases h24 : a0.list = true
    ·replace hq15 := if_t hq15 h24
     refine Z7 (.bool false) (congrArg Value.bool (congrArg (fun b => !b) (h24))) (Z23 rfl rfl rfl (Z23 rfl rfl rfl (Z23 rfl rfl rfl (Z23 rfl rfl rfl (Z24 rfl (Z0 (Z106 rfl rfl rfl) rfl (Z0 (Z106 rfl rfl rfl) rfl ?_)))))))
     refine Z0 (Z5 rfl) rfl (Z6 ?_)
     exact QW.join ⟨false, (Zi hq15).symm, rfl, rfl⟩ ⟨rfl, trivial⟩ (fun w m => m.pick [] 1 rfl rfl)
    ·replace hq15 := if_f hq15 h24
     refine Z7 (.bool true) (congrArg Value.bool (congrArg (fun b => !b) (Bool.eq_false_iff.2 h24))) (Z24 rfl (Z0 (Z30 rfl rfl rfl rfl) rfl (Z24 rfl (Z0 (Z29 rfl Zh rfl rfl rfl rfl) rfl (Z24 rfl (Z0 (RV.len rfl rfl) rfl (Z24 rfl ?_)))))))
     refine Z0 (RV.gtr rfl rfl) rfl (Z7 (.bool (decide (0 < a0.items.length))) (congrArg Value.bool (decide_eq_decide.2 (by omega))) (Z24 rfl (Z0 (Z105 rfl rfl rfl) rfl (Z0 (Z106 rfl rfl rfl) rfl (Z0 (Z5 rfl) rfl (Z6 ?_))))))
     exact QW.join ⟨(decide (0 < a0.items.length)), (Zi hq15).symm, rfl, rfl⟩ ⟨rfl, trivial⟩ (fun w m => m.pick [] 1 rfl rfl)
  ·replace hq15 := if_f hq15 h22
   refine Z7 (.bool false) (congrArg Value.bool (Bool.eq_false_iff.2 h22)) (Z23 rfl rfl rfl (Z23 rfl rfl rfl (Z23 rfl rfl rfl (Z23 rfl rfl rfl (Z0 (Z106 rfl rfl rfl) rfl (Z0 (Z3 rfl) rfl (Z24 rfl ?_)))))))
   refine Z0 (Z30 rfl rfl rfl rfl) rfl (Z24 rfl (Z0 (Z29 rfl Zh rfl rfl rfl rfl) rfl (Z24 rfl (Z0 (RV.not rfl) rfl (Z24 rfl (Z0 (Z3 rfl) rfl ?_))))))
   by_cases h25 : a0.list = true
   ·replace hq15 := if_t hq15 h25
    refine Z7 (.bool false) (congrArg Value.bool (congrArg (fun b => !b) (h25))) (Z23 rfl rfl rfl (Z23 rfl rfl rfl (Z23 rfl rfl rfl (Z23 rfl rfl rfl (Z24 rfl (Z0 (Z106 rfl rfl rfl) rfl (Z0 (Z106 rfl rfl rfl) rfl ?_)))))))
    refine Z0 (Z5 rfl) rfl (Z6 ?_)
    exact QW.join ⟨false, (Zi hq15).symm, rfl, rfl⟩ ⟨rfl, trivial⟩ (fun w m => m.pick [] 1 rfl rfl)
   ·replace hq15 := if_f hq15 h25
    refine Z7 (.bool true) (congrArg Value.bool (congrArg (fun b => !b) (Bool.eq_false_iff.2 h25))) (Z24 rfl (Z0 (Z30 rfl rfl rfl rfl) rfl (Z24 rfl (Z0 (Z29 rfl Zh rfl rfl rfl rfl) rfl (Z24 rfl (Z0 (RV.len rfl rfl) rfl (Z24 rfl ?_)))))))
    refine Z0 (RV.gtr rfl rfl) rfl (Z7 (.bool (decide (0 < a0.items.length))) (congrArg Value.bool (decide_eq_decide.2 (by omega))) (Z24 rfl (Z0 (Z105 rfl rfl rfl) rfl (Z0 (Z106 rfl rfl rfl) rfl (Z0 (Z5 rfl) rfl (Z6 ?_))))))
    exact QW.join ⟨(decide (0 < a0.items.length)), (Zi hq15).symm, rfl, rfl⟩ ⟨rfl, trivial⟩ (fun w m => m.pick [] 1 rfl rfl)
theorem waybillref07_odd_does (w0 : World) (Φ : Ctx) (N : List Ent) (hΦ : ∀ w, Mem w0 w N → Φ w) (cs0_ : List Value) (a0 : It) (res0 : Bool) (ha0 : ItRd Φ cs0_ a0) (hf : waybillref07_odd a0 = some res0) : DoesG Tryd.prog 118 [.agg cs0_.toArray] w0 [] N (fun v G => v = .bool res0) := by
 unfold waybillref07_odd at hf
 replace ha0 := ItRd.mono (Ψ := More w0 Φ []) (fun w q => q.1) _ _ ha0
 have h10 := ha0
 obtain ⟨A1, c2, A4, c5, cs7, e9, v3, v6, h8⟩ := ItRd.opn ha0
 subst e9
 have m11 := v3.mx
 have m12 := v6.mx
 refine DoesG.enter Tryd.func118 rfl Tryd.ntmps118 rfl (M := (([] ++ N))) rfl (Z4 (Z2 (OW.boxA rfl rfl (fun b13 => (Z0 (Z5 rfl) rfl (Z6 (Z1 (Z4 (Z4 (Z2 (Z0 (Z30 rfl rfl rfl rfl) rfl (Z0 (Z29 rfl Zh rfl rfl rfl rfl) rfl (Z6 (Z1 ?_))))))))))))))
 by_cases h14 : a0.list = true
 ·replace hf := if_t hf h14
  refine Z13 rfl (h14) (Z4 (Z2 (Z0 (Z30 rfl rfl rfl rfl) rfl (Z0 (Z29 rfl Zh rfl rfl rfl rfl) rfl (Z0 (RV.len rfl rfl) rfl (Z0 (RV.gtr rfl rfl) rfl (Z7 (.bool (decide (0 < a0.data.length))) (congrArg Value.bool (decide_eq_decide.2 (by omega))) (Z0 (Z5 rfl) rfl ?_))))))))
  refine Z6 (Z1 (CW.ret (Z8 ?_)))
  have e0 := Zi hf
  subst e0
  refine Z108 (rs := [.tmp 2]) ([.bool (decide (0 < a0.data.length))]) ((some b13, blk [.bool (a0.list), .slice A1 a0.data.length c2, .slice A4 a0.items.length c5] 25) :: []) rfl ?_ rfl ?_ ?_ _ (.inl rfl)
  ·exact ⟨rfl, trivial⟩
  ·exact rfl
  ·exact (fun w m => m)
 ·replace hf := if_f hf h14
  refine Z14 rfl (Bool.eq_false_iff.2 h14) (CW.skip (Z1 (Z4 (Z2 (Z0 (Z30 rfl rfl rfl rfl) rfl (Z0 (Z29 rfl Zh rfl rfl rfl rfl) rfl (Z0 (RV.len rfl rfl) rfl (Z0 (RV.gtr rfl rfl) rfl (Z7 (.bool (decide (0 < a0.items.length))) (congrArg Value.bool (decide_eq_decide.2 (by omega))) (Z0 (Z5 rfl) rfl ?_))))))))))
  refine Z6 (Z1 (CW.ret ?_))
  have e0 := Zi hf
  subst e0
  refine Z108 (rs := [.tmp 2]) ([.bool (decide (0 < a0.items.length))]) ((some b13, blk [.bool (a0.list), .slice A1 a0.data.length c2, .slice A4 a0.items.length c5] 25) :: []) rfl ?_ rfl ?_ ?_ _ (.inl rfl)
  ·exact ⟨rfl, trivial⟩
  ·exact rfl
  ·exact (fun w m => m)
theorem math_bits_Len64_does (w0 : World) (Φ : Ctx) (N : List Ent) (hΦ : ∀ w, Mem w0 w N → Φ w) (a0 : BitVec 64) (res0 : Nat) (hf : math_bits_Len64 a0 = some res0) : DoesG Tryd.prog 152 [U64 a0] w0 [] N (fun v G => (res0 ≤ 9223372036854775807) ∧ v = .int .i64 ((res0 : Nat) : Int)) := by
 unfold math_bits_Len64 at hf
 refine DoesG.enter Tryd.func152 rfl Tryd.ntmps152 rfl (M := (([] ++ N))) rfl (Z4 (Z2 (Z0 (Z5 rfl) rfl (Z6 (Z1 (Z4 (Z4 (Z2 (Z0 (Z3 rfl) rfl (Z0 (RV.geq rfl rfl) rfl (Z7 (.bool (decide (4294967296 ≤ a0.toNat))) (congrArg Value.bool (decide_eq_decide.2 (by first | exact Int.ofNat_le | exact Int.ofNat_lt | omega | (simp; omega) | simp))) (Z6 (Z1 ?_)))))))))))))
 obtain ⟨q1, hq2, hf⟩ := Z102 hf
 refine Z120 (fun L' M' => ∃ w3 : BitVec 64, ∃ n4 : Nat, q1 = (w3, n4) ∧ (n4 ≤ 9223372036854775807) ∧ L' = [(0, U64 w3), (2, .int .i64 ((n4 : Nat) : Int))] ∧ M' = (([] ++ N))) ?_ ?_
 ·rintro L7 M8 ⟨w3, n4, e6, b5, e9, e10⟩
  rw [e9, e10]
  clear e9 e10 L7 M8
  clear hq2
  rw [e6] at hf
  clear e6
  try dsimp only at hf
  refine Z1 (Z4 (Z4 (Z2 (Z0 (Z3 rfl) rfl (Z0 (RV.geq rfl rfl) rfl (Z7 (.bool (decide (65536 ≤ w3.toNat))) (congrArg Value.bool (decide_eq_decide.2 (by first | exact Int.ofNat_le | exact Int.ofNat_lt | omega | (simp; omega) | simp))) (Z6 (Z1 ?_))))))))
  obtain ⟨q11, hq12, hf⟩ := Z102 hf
  refine Z120 (fun L' M' => ∃ w13 : BitVec 64, ∃ n14 : Nat, q11 = (w13, n14) ∧ (n14 ≤ 9223372036854775807) ∧ L' = [(0, U64 w13), (2, .int .i64 ((n14 : Nat) : Int))] ∧ M' = (([] ++ N))) ?_ ?_
  ·rintro L17 M18 ⟨w13, n14, e16, b15, e19, e20⟩
   rw [e19, e20]
   clear e19 e20 L17 M18
   clear hq12
   rw [e16] at hf
   clear e16
   try dsimp only at hf
   refine Z1 (Z4 (Z4 (Z2 (Z0 (Z3 rfl) rfl (Z0 (RV.geq rfl rfl) rfl (Z7 (.bool (decide (256 ≤ w13.toNat))) (congrArg Value.bool (decide_eq_decide.2 (by first | exact Int.ofNat_le | exact Int.ofNat_lt | omega | (simp; omega) | simp))) (Z6 (Z1 ?_))))))))
   obtain ⟨q21, hq22, hf⟩ := Z102 hf
   refine Z120 (fun L' M' => ∃ w23 : BitVec 64, ∃ n24 : Nat, q21 = (w23, n24) ∧ (n24 ≤ 9223372036854775807) ∧ L' = [(0, U64 w23), (2, .int .i64 ((n24 : Nat) : Int))] ∧ M' = (([] ++ N))) ?_ ?_
   ·rintro L27 M28 ⟨w23, n24, e26, b25, e29, e30⟩
    rw [e29, e30]
    clear e29 e30 L27 M28
    clear hq22
    rw [e26] at hf
    clear e26
    try dsimp only at hf
    refine Z1 (Z4 (Z2 (Z0 (Z3 rfl) rfl (Z0 (Z3 rfl) rfl (Z0 (RV.conv64_8 rfl (by first | rfl | exact lit64 _ rfl) rfl rfl) rfl (Z0 (RV.indexStr (i := ((w23.setWidth 8)).toNat) (BitVec.ofNat 8 (lenB (w23.setWidth 8))) rfl rfl rfl (len_table _)) rfl (Z0 (RV.conv8_i rfl (by first | rfl | exact lit8 _ rfl) rfl rfl) rfl ?_)))))))
    have m31 := ((BitVec.ofNat 8 (lenB (w23.setWidth 8)))).isLt
    obtain ⟨g32, hf⟩ := Z115 hf
    refine Z0 (RV.add rfl rfl (by omega)) rfl (Z7 (.int .i64 (((n24 + (BitVec.ofNat 8 (lenB (w23.setWidth 8))).toNat) : Nat) : Int)) (by first | rfl | (congr 1) | (congr 1; omega)) (Z0 (Z5 rfl) rfl (Z6 (Z1 (CW.ret ?_)))))
    have e0 := Zi hf
    subst e0
    refine Z108 (rs := [.tmp 2]) ([.int .i64 (((n24 + (BitVec.ofNat 8 (lenB (w23.setWidth 8))).toNat) : Nat) : Int)]) ([]) rfl ?_ rfl ?_ ?_ _ (.inl rfl)
    ·exact ⟨rfl, trivial⟩
    ·exact ⟨(by omega), rfl⟩
    ·exact (fun w m => m)
   ·skip
    by_cases h33 : 256 ≤ w13.toNat
    ·replace hq22 := if_t hq22 h33
     refine Z13 rfl (decide_eq_true h33) (Z4 (Z2 (Z0 (Z3 rfl) rfl ?_)))
     refine Z0 (RV.shr64 (s := 8) rfl (by first | rfl | exact lit64 _ rfl) rfl (by first | rfl | (simp [U64]; done))) rfl ?_
     refine Z0 (Z5 rfl) rfl (Z6 (Z1 (Z2 (Z0 (Z3 rfl) rfl ?_))))
     obtain ⟨g34, hq22⟩ := Z115 hq22
     refine Z0 (RV.add rfl rfl (by omega)) rfl (Z7 (.int .i64 (((n14 + 8) : Nat) : Int)) (by first | rfl | (congr 1) | (congr 1; omega)) (Z0 (Z5 rfl) rfl (Z6 ?_)))
     exact QW.join ⟨(w13 >>> 8), (n14 + 8), (Zi hq22).symm, (by omega), rfl, rfl⟩ ⟨rfl, rfl, trivial⟩ (fun w m => m.pick [] 0 rfl rfl)
    ·replace hq22 := if_f hq22 h33
     refine Z14 rfl (decide_eq_false h33) (CW.skip ?_)
     exact QW.join ⟨w13, n14, (Zi hq22).symm, (by omega), rfl, rfl⟩ ⟨rfl, rfl, trivial⟩ (fun w m => m.pick [] 0 rfl rfl)
  ·skip
   by_cases h35 : 65536 ≤ w3.toNat
   ·replace hq12 := if_t hq12 h35
    refine Z13 rfl (decide_eq_true h35) (Z4 (Z2 (Z0 (Z3 rfl) rfl ?_)))
    refine Z0 (RV.shr64 (s := 16) rfl (by first | rfl | exact lit64 _ rfl) rfl (by first | rfl | (simp [U64]; done))) rfl ?_
    refine Z0 (Z5 rfl) rfl (Z6 (Z1 (Z2 (Z0 (Z3 rfl) rfl ?_))))
    obtain ⟨g36, hq12⟩ := Z115 hq12
    refine Z0 (RV.add rfl rfl (by omega)) rfl (Z7 (.int .i64 (((n4 + 16) : Nat) : Int)) (by first | rfl | (congr 1) | (congr 1; omega)) (Z0 (Z5 rfl) rfl (Z6 ?_)))
    exact QW.join ⟨(w3 >>> 16), (n4 + 16), (Zi hq12).symm, (by omega), rfl, rfl⟩ ⟨rfl, rfl, trivial⟩ (fun w m => m.pick [] 0 rfl rfl)
   ·replace hq12 := if_f hq12 h35
    refine Z14 rfl (decide_eq_false h35) (CW.skip ?_)
    exact QW.join ⟨w3, n4, (Zi hq12).symm, (by omega), rfl, rfl⟩ ⟨rfl, rfl, trivial⟩ (fun w m => m.pick [] 0 rfl rfl)
 ·skip
  by_cases h37 : 4294967296 ≤ a0.toNat
  ·replace hq2 := if_t hq2 h37
   refine Z13 rfl (decide_eq_true h37) (Z4 (Z2 (Z0 (Z3 rfl) rfl ?_)))
   refine Z0 (RV.shr64 (s := 32) rfl (by first | rfl | exact lit64 _ rfl) rfl (by first | rfl | (simp [U64]; done))) rfl ?_
   refine Z0 (Z5 rfl) rfl (Z6 (Z1 (Z2 (Z0 (Z5 rfl) rfl (Z6 ?_)))))
   exact QW.join ⟨(a0 >>> 32), 32, (Zi hq2).symm, (by omega), rfl, rfl⟩ ⟨rfl, rfl, trivial⟩ (fun w m => m.pick [] 0 rfl rfl)
  ·replace hq2 := if_f hq2 h37
   refine Z14 rfl (decide_eq_false h37) (CW.skip ?_)
   exact QW.join ⟨a0, 0, (Zi hq2).symm, (by omega), rfl, rfl⟩ ⟨rfl, rfl, trivial⟩ (fun w m => m.pick [] 0 rfl rfl)
theorem u256_Len_does (w0 : World) (Φ : Ctx) (N : List Ent) (hΦ : ∀ w, Mem w0 w N → Φ w) (a0 : Vector (BitVec 64) 4) (res0 : Int) (hf : u256_Len a0 = some res0) : DoesG Tryd.prog 141 [.agg (u64s a0.toList).toArray] w0 [] N (fun v G => (-9223372036854775808 ≤ res0 ∧ res0 ≤ 9223372036854775807) ∧ v = .int .i64 res0) := by
 unfold u256_Len at hf
 refine DoesG.enter Tryd.func141 rfl Tryd.ntmps141 rfl (M := (([] ++ N))) rfl (Z4 (Z2 (OW.boxA rfl rfl (fun b1 => (Z0 (Z5 rfl) rfl (Z6 (Z1 (Z4 (Z4 (Z2 (Z0 (Z5 rfl) rfl (Z6 (Z1 ?_)))))))))))))
 obtain ⟨q2, hq3, hf⟩ := Z102 hf
 refine Z120 (fun L' M' => q2 = Lp.go () ∧ L' = [] ∧ M' = (([] ++ N))) ?_ ?_
 ·rintro L5 M6 ⟨e4, e7, e8⟩
  rw [e7, e8]
  clear e7 e8 L5 M6
  clear hq3
  rw [e4] at hf
  clear e4
  try dsimp only at hf
  refine Z1 (Z4 (Z2 (Z0 (Z5 rfl) rfl (Z6 (Z1 (CW.ret ?_))))))
  have e0 := Zi hf
  subst e0
  refine Z108 (rs := [.tmp 2]) ([.int .i64 (0 : Int)]) ([]) rfl ?_ rfl ?_ ?_ _ (.inl rfl)
  ·exact ⟨rfl, trivial⟩
  ·exact ⟨(by omega), rfl⟩
  ·exact (fun w m => m)
 ·skip
  refine CW.block (Z121 (fun k L' M' => ∃ z9 : Int, (u256_Len.l1 a0 k z9) = some q2 ∧ (-9223372036854775808 ≤ z9 ∧ z9 ≤ 9223372036854775807) ∧ L' = [(1, ptr (some b1) 0), (3, .int .i64 z9)] ∧ M' = ((some b1, blk (u64s a0.toList) 35) :: ([] ++ N))) (k0 := 5) ⟨(3 : Int), hq3, (by omega), rfl, rfl⟩ ⟨rfl, rfl, trivial⟩ (fun w m => m.pick [0] 1 rfl rfl) ?_)
  clear hq3
  rintro k11 L14 M15 ⟨z9, hl12, b10, e16, e17⟩
  rw [e16, e17]
  clear e16 e17 L14 M15
  rcases k11 with _ | k11
  ·rw [u256_Len.l1] at hl12; cases hl12
  rw [u256_Len.l1] at hl12
  refine Z4 (Z4 (Z2 (Z0 (Z3 rfl) rfl (Z0 (RV.geq rfl rfl) rfl (Z6 (Z1 ?_))))))
  by_cases h18 : (0 : Int) ≤ z9
  ·replace hl12 := if_t hl12 h18
   refine Z13 rfl (decide_eq_true h18) (CW.skip (Z1 (Z4 (CW.block (Z4 (Z2 (Z0 (Z3 rfl) rfl ?_)))))))
   obtain ⟨g19, hl12⟩ := Z115 hl12
   refine Z0 (Z111 ((z9).toNat) rfl rfl (by omega) rfl rfl (by omega)) rfl ?_
   obtain ⟨x20, hx21, hl12⟩ := Z102 hl12
   refine Z0 (Z29 rfl Zh rfl rfl rfl (by rw [Nat.zero_add]; exact u64s_at (vat hx21))) rfl ?_
   refine Z0 (RV.neq64 rfl (by first | rfl | exact lit64 _ rfl) rfl (by first | rfl | exact lit64 _ rfl)) rfl (Z6 (Z1 ?_))
   by_cases h22 : x20 = 0#64
   ·replace hl12 := if_t hl12 h22
    refine Z14 rfl (congrArg (fun b => !b) (decide_eq_true h22)) (CW.skip (Z27 (Z1 (Z2 (Z0 (Z3 rfl) rfl ?_)))))
    obtain ⟨g23, hl12⟩ := Z115 hl12
    refine Z0 (RV.sub rfl rfl (by omega)) rfl (Z0 (Z5 rfl) rfl (Z6 ?_))
    exact Z114 (k' := k11) (Nat.lt_succ_self _) ⟨(z9 - (1 : Int)), hl12, (by omega), rfl, rfl⟩ ⟨rfl, rfl, trivial⟩ (fun w m => m.pick [0] 1 rfl rfl)
   ·replace hl12 := if_f hl12 h22
    refine Z13 rfl (congrArg (fun b => !b) (decide_eq_false h22)) (Z4 (Z2 (Z0 (Z3 rfl) rfl ?_)))
    obtain ⟨g24, hl12⟩ := Z115 hl12
    refine Z0 (RV.mul rfl rfl (by omega)) rfl (Z0 (Z3 rfl) rfl (Z0 (Z111 ((z9).toNat) rfl rfl (by omega) rfl rfl (by omega)) rfl ?_))
    obtain ⟨x25, hx26, hl12⟩ := Z102 hl12
    refine Z0 (Z29 rfl Zh rfl rfl rfl (by rw [Nat.zero_add]; exact u64s_at (vat hx26))) rfl ?_
    obtain ⟨x28, hx27, hl12⟩ := Z102 hl12
    refine Z12 Tryd.call152 rfl (math_bits_Len64_does w0 (More w0 Φ []) ((some b1, blk (u64s a0.toList) 35) :: ([] ++ N)) (fun w m => More.of hΦ 1 m rfl) x25 x28 hx27) rfl rfl ?_
    rintro _ G30 ⟨b29, rfl⟩
    refine Z20 (M' := ((some b1, blk (u64s a0.toList) 35) :: ([] ++ N))) (fun w m => m.appR) ?_
    obtain ⟨g32, hl12⟩ := Z115 hl12
    refine Z0 (RV.add rfl rfl (by omega)) rfl (Z0 (Z5 rfl) rfl (Z6 (Z1 (CW.ret (Z16 (Z8 (Z8 (Z16 (Z8 ?_)))))))))
    have hc := Zi hl12
    subst hc
    try dsimp only at hf
    refine Z8 ?_
    have e0 := Zi hf
    subst e0
    refine Z108 (rs := [.tmp 2]) ([.int .i64 (((64 : Int) * z9) + ((x28 : Nat) : Int))]) ((some b1, blk (u64s a0.toList) 35) :: []) rfl ?_ rfl ?_ ?_ _ (.inl rfl)
    ·exact ⟨rfl, trivial⟩
    ·exact ⟨(by omega), rfl⟩
    ·exact (fun w m => m)
  ·replace hl12 := if_f hl12 h18
   refine Z14 rfl (decide_eq_false h18) (CW.exit (Z9 (Z9 (Z15 ?_))))
   exact QW.join ⟨(Zi hl12).symm, rfl, rfl⟩ trivial (fun w m => m.pick [] 1 rfl rfl)
theorem u256_Put_does (w0 : World) (Φ : Ctx) (N : List Ent) (hΦ : ∀ w, Mem w0 w N → Φ w) (a0 : Vector (BitVec 64) 4) (res0 : Vector (BitVec 8) 32) (hf : u256_Put a0 = some res0) : DoesG Tryd.prog 140 [.agg (u64s a0.toList).toArray] w0 [] N (fun v G => v = .agg (u8s res0.toList).toArray) := by
 unfold u256_Put at hf
 refine DoesG.enter Tryd.func140 rfl Tryd.ntmps140 rfl (M := (([] ++ N))) rfl (Z4 (Z2 (OW.boxA rfl rfl (fun b1 => (OW.alloc (l := (u8s (Vector.replicate 32 0#8).toList)) rfl (by rw [Vector.toList_replicate, ← Z133]; rfl) rfl (fun b2 => (Z6 (Z1 (Z4 (Z2 (OW.alloc (l := (u8s (Vector.replicate 32 0#8).toList)) rfl (by rw [Vector.toList_replicate, ← Z133]; rfl) rfl (fun b3 => (Z6 (Z1 (Z4 (Z4 (Z2 (Z0 (Z3 rfl) rfl ?_))))))))))))))))))
 refine Z6 (Z1 ?_)
 obtain ⟨q4, hq5, hf⟩ := Z102 hf
 refine Z120 (fun L' M' => ∃ w6 : Vector (BitVec 8) 32, q4 = w6 ∧ L' = [(2, ptr (some b2) 0), (3, ptr (some b3) 0)] ∧ M' = ((some b3, blk (u8s w6.toList) 27) :: (some b2, blk (u8s (Vector.replicate 32 0#8).toList) 27) :: ([] ++ N))) ?_ ?_
 ·rintro L8 M9 ⟨w6, e7, e10, e11⟩
  rw [e10, e11]
  clear e10 e11 L8 M9
  clear hq5
  rw [e7] at hf
  clear e7
  try dsimp only at hf
  refine Z1 (Z4 (Z2 (Z0 (Z22 rfl Zh rfl rfl rfl rfl ((Z100 _).trans Zv)) rfl (OW.rot1 (Z28 (Z109 rfl rfl rfl (Z119 _) rfl ((Z100 _).trans Zv) ((Z100 _).trans Zv)) (Z6 (Z1 (CW.ret ?_))))))))
  have e0 := Zi hf
  subst e0
  refine Z108 (rs := [.cell 2 27]) ([.agg (u8s w6.toList).toArray]) ((some b2, blk (u8s w6.toList) 27) :: (some b3, blk (u8s w6.toList) 27) :: []) rfl ?_ rfl ?_ ?_ _ (.inl rfl)
  ·exact ⟨⟨_, _, _, _, rfl, Zh, rfl, rfl, (congrArg some ((Z100 _).trans Zv).symm), rfl⟩, trivial⟩
  ·exact rfl
  ·exact (fun w m => m)
 ·skip
  refine CW.block (Z121 (fun k L' M' => ∃ n12 : Nat, ∃ w14 : Vector (BitVec 8) 32, (u256_Put.l1 a0 k n12 w14) = some q4 ∧ (n12 ≤ 9223372036854775807) ∧ L' = [(1, ptr (some b1) 0), (2, ptr (some b2) 0), (3, ptr (some b3) 0), (5, .int .i64 ((n12 : Nat) : Int))] ∧ M' = ((some b3, blk (u8s w14.toList) 27) :: (some b2, blk (u8s (Vector.replicate 32 0#8).toList) 27) :: (some b1, blk (u64s a0.toList) 35) :: ([] ++ N))) (k0 := (32 - 0 + 2)) ⟨0, (Vector.replicate 32 0#8), hq5, (by omega), rfl, rfl⟩ ⟨rfl, rfl, rfl, rfl, trivial⟩ (fun w m => m.pick [0, 1, 2] 3 rfl rfl) ?_)
  clear hq5
  rintro k15 L18 M19 ⟨n12, w14, hl16, b13, e20, e21⟩
  rw [e20, e21]
  clear e20 e21 L18 M19
  rcases k15 with _ | k15
  ·rw [u256_Put.l1] at hl16; cases hl16
  rw [u256_Put.l1] at hl16
  refine Z4 (Z2 (Z0 (RV.lss rfl rfl) rfl (Z7 (.bool (decide (n12 < 32))) (congrArg Value.bool (decide_eq_decide.2 (by omega))) (Z6 (Z1 (Z4 ?_))))))
  by_cases h22 : n12 < 32
  ·replace hl16 := if_t hl16 h22
   refine Z13 rfl (decide_eq_true h22) (CW.skip (Z1 (Z4 (CW.block (Z4 (Z2 (Z0 (Z3 rfl) rfl (Z0 (Z5 rfl) rfl (Z6 (Z1 (Z2 (Z0 (Z3 rfl) rfl ?_))))))))))))
   obtain ⟨g23, hl16⟩ := Z115 hl16
   refine Z0 (RV.sub rfl rfl (by omega)) rfl (Z7 (.int .i64 ((31 - n12 : Nat) : Int)) (by congr 1; omega) (Z0 (Z3 rfl) rfl (Z0 (RV.quo rfl rfl (by omega) (by omega) (by omega)) rfl (Z7 (.int .i64 ((n12 / 8 : Nat) : Int)) (by first | rfl | (congr 1; omega)) ?_))))
   obtain ⟨g24, hl16⟩ := Z115 hl16
   refine Z0 (Z111 ((n12 / 8)) rfl rfl rfl rfl rfl (by omega)) rfl ?_
   obtain ⟨x25, hx26, hl16⟩ := Z102 hl16
   refine Z0 (Z29 rfl (List.Mem.tail _ (List.Mem.tail _ Zh)) rfl rfl rfl (by rw [Nat.zero_add]; exact u64s_at (vat hx26))) rfl ?_
   refine Z0 (Z3 rfl) rfl (Z0 (RV.rem rfl rfl (by omega) (by omega)) rfl (Z7 (.int .i64 ((n12 % 8 : Nat) : Int)) (by first | rfl | (congr 1; omega)) (Z0 (RV.mul rfl rfl (by omega)) rfl (Z7 (.int .i64 (((8 * (n12 % 8)) : Nat) : Int)) (by first | rfl | (congr 1) | (congr 1; omega)) (Z0 (RV.shr64 (s := (8 * (n12 % 8))) rfl (by first | rfl | exact lit64 _ rfl) rfl (by first | rfl | (congr 1))) rfl (Z0 (RV.conv64_8 rfl (by first | rfl | exact lit64 _ rfl) rfl rfl) rfl ?_))))))
   obtain ⟨g27, hl16⟩ := Z115 hl16
   refine Z0 (Z111 ((31 - n12)) rfl rfl rfl rfl rfl (by omega)) rfl (Z28 (SV.store rfl rfl rfl rfl rfl (by rw [Z100, Zv]; omega)) (OW.cells (u8s (w14.setIfInBounds (31 - n12) ((x25 >>> (8 * (n12 % 8))).setWidth 8)).toList) (by rw [Nat.zero_add, u8s_set', vset]) (Z6 (Z27 (Z1 (Z2 (Z0 (RV.add rfl rfl (by omega)) rfl (Z7 (.int .i64 (((n12 + 1) : Nat) : Int)) (by first | rfl | (congr 1) | (congr 1; omega)) (Z0 (Z3 rfl) rfl (Z6 ?_))))))))))
   exact Z114 (k' := k15) (Nat.lt_succ_self _) ⟨(n12 + 1), (w14.setIfInBounds (31 - n12) ((x25 >>> (8 * (n12 % 8))).setWidth 8)), hl16, (by omega), rfl, rfl⟩ ⟨rfl, rfl, rfl, rfl, trivial⟩ (fun w m => m.pick [0, 1, 2] 3 rfl rfl)
  ·replace hl16 := if_f hl16 h22
   refine Z14 rfl (decide_eq_false h22) (CW.exit (Z9 (Z9 (Z15 ?_))))
   exact QW.join ⟨w14, (Zi hl16).symm, rfl, rfl⟩ ⟨rfl, rfl, trivial⟩ (fun w m => m.pick [0, 1] 3 rfl rfl)
theorem waybillref01_Put_does (w0 : World) (Φ : Ctx) (N : List Ent) (hΦ : ∀ w, Mem w0 w N → Φ w) (a0 : Vector (BitVec 64) 4) (res0 : Vector (BitVec 8) 32) (hf : waybillref01_Put a0 = some res0) : DoesG Tryd.prog 121 [.agg (u64s a0.toList).toArray] w0 [] N (fun v G => v = .agg (u8s res0.toList).toArray) := by
 unfold waybillref01_Put at hf
 refine DoesG.enter Tryd.func121 rfl Tryd.ntmps121 rfl (M := (([] ++ N))) rfl (Z4 (Z2 (OW.boxA rfl rfl (fun b1 => (OW.alloc (l := (u8s (Vector.replicate 32 0#8).toList)) rfl (by rw [Vector.toList_replicate, ← Z133]; rfl) rfl (fun b2 => (Z6 (Z1 (Z4 (Z2 (OW.alloc (l := (u8s (Vector.replicate 32 0#8).toList)) rfl (by rw [Vector.toList_replicate, ← Z133]; rfl) rfl (fun b3 => (Z6 (Z1 (Z4 (Z4 (Z2 (Z0 (Z5 rfl) rfl ?_))))))))))))))))))
 refine Z6 (Z1 ?_)
 obtain ⟨q4, hq5, hf⟩ := Z102 hf
 refine Z120 (fun L' M' => ∃ w6 : Vector (BitVec 8) 32, q4 = w6 ∧ L' = [(2, ptr (some b2) 0), (3, ptr (some b3) 0)] ∧ M' = ((some b3, blk (u8s w6.toList) 27) :: (some b2, blk (u8s (Vector.replicate 32 0#8).toList) 27) :: ([] ++ N))) ?_ ?_
 ·rintro L8 M9 ⟨w6, e7, e10, e11⟩
  rw [e10, e11]
  clear e10 e11 L8 M9
  clear hq5
  rw [e7] at hf
  clear e7
  try dsimp only at hf
  refine Z1 (Z4 (Z2 (Z0 (Z22 rfl Zh rfl rfl rfl rfl ((Z100 _).trans Zv)) rfl (OW.rot1 (Z28 (Z109 rfl rfl rfl (Z119 _) rfl ((Z100 _).trans Zv) ((Z100 _).trans Zv)) (Z6 (Z1 (CW.ret ?_))))))))
  have e0 := Zi hf
  subst e0
  refine Z108 (rs := [.cell 2 27]) ([.agg (u8s w6.toList).toArray]) ((some b2, blk (u8s w6.toList) 27) :: (some b3, blk (u8s w6.toList) 27) :: []) rfl ?_ rfl ?_ ?_ _ (.inl rfl)
  ·exact ⟨⟨_, _, _, _, rfl, Zh, rfl, rfl, (congrArg some ((Z100 _).trans Zv).symm), rfl⟩, trivial⟩
  ·exact rfl
  ·exact (fun w m => m)
 ·skip
  refine CW.block (Z121 (fun k L' M' => ∃ n12 : Nat, ∃ w14 : Vector (BitVec 8) 32, (waybillref01_Put.l1 a0 k n12 w14) = some q4 ∧ (n12 ≤ 9223372036854775807) ∧ L' = [(1, ptr (some b1) 0), (2, ptr (some b2) 0), (3, ptr (some b3) 0), (4, .int .i64 ((n12 : Nat) : Int))] ∧ M' = ((some b3, blk (u8s w14.toList) 27) :: (some b2, blk (u8s (Vector.replicate 32 0#8).toList) 27) :: (some b1, blk (u64s a0.toList) 35) :: ([] ++ N))) (k0 := (32 - 0 + 2)) ⟨0, (Vector.replicate 32 0#8), hq5, (by omega), rfl, rfl⟩ ⟨rfl, rfl, rfl, rfl, trivial⟩ (fun w m => m.pick [0, 1, 2] 3 rfl rfl) ?_)
  clear hq5
  rintro k15 L18 M19 ⟨n12, w14, hl16, b13, e20, e21⟩
  rw [e20, e21]
  clear e20 e21 L18 M19
  rcases k15 with _ | k15
  ·rw [waybillref01_Put.l1] at hl16; cases hl16
  rw [waybillref01_Put.l1] at hl16
  refine Z4 (Z4 (Z2 (Z0 (Z3 rfl) rfl (Z0 (RV.lss rfl rfl) rfl (Z7 (.bool (decide (n12 < 32))) (congrArg Value.bool (decide_eq_decide.2 (by omega))) (Z6 (Z1 ?_)))))))
  by_cases h22 : n12 < 32
  ·replace hl16 := if_t hl16 h22
   refine Z13 rfl (decide_eq_true h22) (CW.skip (Z1 (Z4 (CW.block (Z2 (Z0 (Z3 rfl) rfl ?_))))))
   obtain ⟨g23, hl16⟩ := Z115 hl16
   refine Z0 (RV.sub rfl rfl (by omega)) rfl (Z7 (.int .i64 ((31 - n12 : Nat) : Int)) (by congr 1; omega) (Z0 (Z3 rfl) rfl (Z0 (RV.quo rfl rfl (by omega) (by omega) (by omega)) rfl (Z7 (.int .i64 ((n12 / 8 : Nat) : Int)) (by first | rfl | (congr 1; omega)) ?_))))
   obtain ⟨g24, hl16⟩ := Z115 hl16
   refine Z0 (Z111 ((n12 / 8)) rfl rfl rfl rfl rfl (by omega)) rfl ?_
   obtain ⟨x25, hx26, hl16⟩ := Z102 hl16
   refine Z0 (Z29 rfl (List.Mem.tail _ (List.Mem.tail _ Zh)) rfl rfl rfl (by rw [Nat.zero_add]; exact u64s_at (vat hx26))) rfl ?_
   refine Z0 (Z3 rfl) rfl (Z0 (RV.rem rfl rfl (by omega) (by omega)) rfl (Z7 (.int .i64 ((n12 % 8 : Nat) : Int)) (by first | rfl | (congr 1; omega)) (Z0 (RV.mul rfl rfl (by omega)) rfl (Z7 (.int .i64 (((8 * (n12 % 8)) : Nat) : Int)) (by first | rfl | (congr 1) | (congr 1; omega)) (Z0 (Z173 rfl rfl rfl) rfl (Z7 (U64 (BitVec.ofNat 64 (8 * (n12 % 8)))) (congrArg U64 (BitVec.ofInt_natCast ..)) ?_))))))
   refine Z0 (RV.shr64 (s := (BitVec.ofNat 64 (8 * (n12 % 8))).toNat) rfl (by first | rfl | exact lit64 _ rfl) rfl (by first | rfl | (simp [U64]; done))) rfl ?_
   refine Z0 (RV.conv64_8 rfl (by first | rfl | exact lit64 _ rfl) rfl rfl) rfl ?_
   obtain ⟨g27, hl16⟩ := Z115 hl16
   refine Z0 (Z111 ((31 - n12)) rfl rfl rfl rfl rfl (by omega)) rfl (Z28 (SV.store rfl rfl rfl rfl rfl (by rw [Z100, Zv]; omega)) (OW.cells (u8s (w14.setIfInBounds (31 - n12) ((x25 >>> (BitVec.ofNat 64 (8 * (n12 % 8))).toNat).setWidth 8)).toList) (by rw [Nat.zero_add, u8s_set', vset]) (Z6 (Z27 (Z1 (Z2 (Z0 (Z3 rfl) rfl (Z0 (RV.add rfl rfl (by omega)) rfl (Z7 (.int .i64 (((n12 + 1) : Nat) : Int)) (by first | rfl | (congr 1) | (congr 1; omega)) (Z0 (Z5 rfl) rfl ?_))))))))))
   refine Z6 ?_
   exact Z114 (k' := k15) (Nat.lt_succ_self _) ⟨(n12 + 1), (w14.setIfInBounds (31 - n12) ((x25 >>> (BitVec.ofNat 64 (8 * (n12 % 8))).toNat).setWidth 8)), hl16, (by omega), rfl, rfl⟩ ⟨rfl, rfl, rfl, rfl, trivial⟩ (fun w m => m.pick [0, 1, 2] 3 rfl rfl)
  ·replace hl16 := if_f hl16 h22
   refine Z14 rfl (decide_eq_false h22) (CW.exit (Z9 (Z9 (Z15 ?_))))
   exact QW.join ⟨w14, (Zi hl16).symm, rfl, rfl⟩ ⟨rfl, rfl, trivial⟩ (fun w m => m.pick [0, 1] 3 rfl rfl)
theorem u256_Bytes_does (w0 : World) (Φ : Ctx) (N : List Ent) (hΦ : ∀ w, Mem w0 w N → Φ w) (a0 : Vector (BitVec 64) 4) (res0 : List (BitVec 8)) (hf : u256_Bytes a0 = some res0) : DoesG Tryd.prog 120 [.agg (u64s a0.toList).toArray] w0 [] N (fun v G => ∃ B : List Ent, ∃ or0 : Option Nat, ∃ kr0 : Nat, ∃ rr0 : List Value, (OwnS or0 res0.length kr0 1 (u8s res0) rr0) ∧ v = sl or0 0 res0.length kr0 ∧ G = (or0, blk ((u8s res0) ++ rr0) 5) :: B) := by
 unfold u256_Bytes at hf
 refine DoesG.enter Tryd.func120 rfl Tryd.ntmps120 rfl (M := (([] ++ N))) rfl (Z4 (Z2 (OW.boxA rfl rfl (fun b1 => (Z0 (Z5 rfl) rfl (Z6 (Z1 (Z4 (Z2 (Z0 (Z22 rfl Zh rfl rfl rfl rfl ((Z103 _).trans Zv)) rfl ?_))))))))))
 obtain ⟨x3, hx2, hf⟩ := Z102 hf
 refine Z12 Tryd.call140 rfl (u256_Put_does w0 (More w0 Φ []) ((some b1, blk (u64s a0.toList) 35) :: ([] ++ N)) (fun w m => More.of hΦ 1 m rfl) a0 x3 hx2) rfl rfl ?_
 rintro _ G4 rfl
 refine Z20 (M' := ((some b1, blk (u64s a0.toList) 35) :: ([] ++ N))) (fun w m => m.appR) (OW.alloc (l := (u8s (Vector.replicate 32 0#8).toList)) rfl (by rw [Vector.toList_replicate, ← Z133]; rfl) rfl (fun b6 => (Z28 (Z109 rfl rfl rfl (Z119 _) rfl ((Z100 _).trans Zv) ((Z100 _).trans Zv)) (Z6 (Z1 (Z4 (Z2 (Z0 (Z22 rfl (List.Mem.tail _ Zh) rfl rfl rfl rfl ((Z103 _).trans Zv)) rfl ?_))))))))
 obtain ⟨x8, hx7, hf⟩ := Z102 hf
 refine Z12 Tryd.call141 rfl (u256_Len_does w0 (More w0 Φ []) ((some b6, blk (u8s x3.toList) 27) :: (some b1, blk (u64s a0.toList) 35) :: ([] ++ N)) (fun w m => More.of hΦ 2 m rfl) a0 x8 hx7) rfl rfl ?_
 rintro _ G10 ⟨b9, rfl⟩
 refine Z20 (M' := ((some b6, blk (u8s x3.toList) 27) :: (some b1, blk (u64s a0.toList) 35) :: ([] ++ N))) (fun w m => m.appR) ?_
 obtain ⟨g12, hf⟩ := Z115 hf
 refine Z0 (RV.add rfl rfl (by omega)) rfl ?_
 obtain ⟨g13, hf⟩ := Z115 hf
 refine Z0 (RV.quo rfl rfl (by omega) (by omega) (by omega)) rfl (Z7 (.int .i64 ((((x8 + (7 : Int))).toNat / 8 : Nat) : Int)) (by first | rfl | (congr 1; omega)) (Z0 (Z5 rfl) rfl (Z6 (Z1 (Z4 (Z2 (Z0 (Z3 rfl) rfl (Z0 (RV.sub rfl rfl (by omega)) rfl (Z20 (M' := (some b1, blk (u64s a0.toList) 35) :: (((some b6, blk (u8s x3.toList) 27) :: []) ++ N)) (fun w m => m.pick [1, 0] 2 rfl rfl) ?_)))))))))
 have v14 : View (More w0 Φ ((some b6, blk (u8s x3.toList) 27) :: [])) (some ⟨b6, 0, none⟩) x3.toList.length 32 1 (u8s x3.toList) := View.arr (w0 := w0) (te := 27) (fun w q => q.2.sublist (List.singleton_sublist.2 (List.mem_cons_self ..))) (by decide)
 obtain ⟨g16, hf⟩ := Z115 hf
 obtain ⟨g17, hf⟩ := Z115 hf
 refine Z0 (RV.arr_lo (s := 1) ((((32 : Int) - ((((x8 + (7 : Int))).toNat / 8 : Nat) : Int))).toNat) rfl rfl (by omega) rfl rfl (by omega)) rfl ?_
 refine Z7 (.slice (subA (some ⟨b6, 0, none⟩) 32 ((((32 : Int) - ((((x8 + (7 : Int))).toNat / 8 : Nat) : Int))).toNat) 1) (x3.toList.drop ((((32 : Int) - ((((x8 + (7 : Int))).toNat / 8 : Nat) : Int))).toNat)).length (32 - (((32 : Int) - ((((x8 + (7 : Int))).toNat / 8 : Nat) : Int))).toNat)) (by rw [show ((x3.toList.drop ((((32 : Int) - ((((x8 + (7 : Int))).toNat / 8 : Nat) : Int))).toNat))).length = 32 - ((((32 : Int) - ((((x8 + (7 : Int))).toNat / 8 : Nat) : Int))).toNat) from List.length_drop.trans (by rw [Zv])]; try rfl) ?_
 have hlen_ : x3.toList.length = 32 := Zv
 have v15 : View (More w0 Φ ((some b6, blk (u8s x3.toList) 27) :: [])) (subA (some ⟨b6, 0, none⟩) 32 ((((32 : Int) - ((((x8 + (7 : Int))).toNat / 8 : Nat) : Int))).toNat) 1) (x3.toList.drop ((((32 : Int) - ((((x8 + (7 : Int))).toNat / 8 : Nat) : Int))).toNat)).length (32 - (((32 : Int) - ((((x8 + (7 : Int))).toNat / 8 : Nat) : Int))).toNat) 1 (u8s (x3.toList.drop ((((32 : Int) - ((((x8 + (7 : Int))).toNat / 8 : Nat) : Int))).toNat))) := v14.lo8 (by omega)
 have m18 := v15.mx
 refine Z20 (M' := ((none, blk ((u8s ([] : List (BitVec 8))) ++ []) 5) :: (some b1, blk (u64s a0.toList) 35) :: (((some b6, blk (u8s x3.toList) 27) :: []) ++ N))) (fun w m => m.nil_ent _) (OW.appendOwn (s := 1) rfl rfl rfl rfl rfl rfl OwnS.nil (fun w m => v15.rd w (More.of hΦ 2 m rfl)) v15.n (Z119 _) (v15.zero (by decide)) (by decide) (by decide) (by first | omega | (simp only [i5, List.length_nil]; omega)) rfl rfl ((x3.toList.drop ((((32 : Int) - ((((x8 + (7 : Int))).toNat / 8 : Nat) : Int))).toNat)).length) (u8s (x3.toList.drop ((((32 : Int) - ((((x8 + (7 : Int))).toNat / 8 : Nat) : Int))).toNat))) (Nat.zero_add _) rfl (fun ob19 r20 c21 o22 => ?_))
 have m23 := o22.mx
 refine Z0 (Z5 rfl) rfl (Z6 (Z1 (CW.ret ?_)))
 have e0 := Zi hf
 subst e0
 refine Z108 (rs := [.tmp 2]) ([sl ob19 0 (x3.toList.drop ((((32 : Int) - ((((x8 + (7 : Int))).toNat / 8 : Nat) : Int))).toNat)).length c21]) ((ob19, blk ((u8s (x3.toList.drop ((((32 : Int) - ((((x8 + (7 : Int))).toNat / 8 : Nat) : Int))).toNat))) ++ r20) 5) :: ((some b6, blk (u8s x3.toList) 27) :: [])) rfl ?_ rfl ?_ ?_ _ (.inl rfl)
 ·exact ⟨rfl, trivial⟩
 ·exact ⟨((some b6, blk (u8s x3.toList) 27) :: []), ob19, c21, r20, o22, rfl, rfl⟩
 ·exact (fun w m => m.pick [0] 2 rfl rfl)
theorem waybillref01_Bytes_does (w0 : World) (Φ : Ctx) (N : List Ent) (hΦ : ∀ w, Mem w0 w N → Φ w) (a0 : Vector (BitVec 64) 4) (res0 : List (BitVec 8)) (hf : waybillref01_Bytes a0 = some res0) : DoesG Tryd.prog 93 [.agg (u64s a0.toList).toArray] w0 [] N (fun v G => ∃ B : List Ent, ∃ or0 : Option Nat, ∃ kr0 : Nat, ∃ rr0 : List Value, (OwnS or0 res0.length kr0 1 (u8s res0) rr0) ∧ v = sl or0 0 res0.length kr0 ∧ G = (or0, blk ((u8s res0) ++ rr0) 5) :: B) := by
 unfold waybillref01_Bytes at hf
 refine DoesG.enter Tryd.func93 rfl Tryd.ntmps93 rfl (M := (([] ++ N))) rfl (Z4 (Z2 (OW.boxA rfl rfl (fun b1 => (Z0 (Z5 rfl) rfl (Z6 (Z1 (Z4 (Z2 (Z0 (Z22 rfl Zh rfl rfl rfl rfl ((Z103 _).trans Zv)) rfl ?_))))))))))
 obtain ⟨x3, hx2, hf⟩ := Z102 hf
 refine Z12 Tryd.call121 rfl (waybillref01_Put_does w0 (More w0 Φ []) ((some b1, blk (u64s a0.toList) 35) :: ([] ++ N)) (fun w m => More.of hΦ 1 m rfl) a0 x3 hx2) rfl rfl ?_
 rintro _ G4 rfl
 refine Z20 (M' := ((some b1, blk (u64s a0.toList) 35) :: ([] ++ N))) (fun w m => m.appR) (OW.alloc (l := (u8s (Vector.replicate 32 0#8).toList)) rfl (by rw [Vector.toList_replicate, ← Z133]; rfl) rfl (fun b6 => (Z28 (Z109 rfl rfl rfl (Z119 _) rfl ((Z100 _).trans Zv) ((Z100 _).trans Zv)) (Z6 (Z1 (Z4 (Z2 (Z0 (Z5 rfl) rfl (Z6 (Z1 (Z4 (Z4 (Z2 (Z0 (Z5 rfl) rfl (Z6 (Z1 ?_))))))))))))))))
 obtain ⟨q7, hq8, hf⟩ := Z102 hf
 refine Z120 (fun L' M' => ∃ l9 : List (BitVec 8), ∃ ob10 : Option Nat, ∃ c11 : Nat, ∃ r12 : List Value, q7 = l9 ∧ (OwnS ob10 l9.length c11 1 (u8s l9) r12) ∧ L' = [(4, sl ob10 0 l9.length c11)] ∧ M' = ((ob10, blk ((u8s l9) ++ r12) 5) :: ([] ++ N))) ?_ ?_
 ·rintro L15 M16 ⟨l9, ob10, c11, r12, e14, o13, e17, e18⟩
  rw [e17, e18]
  clear e17 e18 L15 M16
  clear hq8
  rw [e14] at hf
  clear e14
  try dsimp only at hf
  have m19 := o13.mx
  refine Z1 (Z4 (Z2 (Z0 (Z3 rfl) rfl (Z0 (Z5 rfl) rfl (Z6 (Z1 (CW.ret ?_)))))))
  have e0 := Zi hf
  subst e0
  refine Z108 (rs := [.tmp 2]) ([sl ob10 0 l9.length c11]) ((ob10, blk ((u8s l9) ++ r12) 5) :: []) rfl ?_ rfl ?_ ?_ _ (.inl rfl)
  ·exact ⟨rfl, trivial⟩
  ·exact ⟨[], ob10, c11, r12, o13, rfl, rfl⟩
  ·exact (fun w m => m.pick [0] 1 rfl rfl)
 ·skip
  refine CW.block (CW.mem (M' := ((none, blk ((u8s ([] : List (BitVec 8))) ++ []) 5) :: (some b6, blk (u8s x3.toList) 27) :: (some b1, blk (u64s a0.toList) 35) :: ([] ++ N))) (fun w m => m.nil_ent _) (Z121 (fun k L' M' => ∃ l20 : List (BitVec 8), ∃ n25 : Nat, ∃ ob21 : Option Nat, ∃ c22 : Nat, ∃ r23 : List Value, (waybillref01_Bytes.l1 x3 k l20 n25) = some q7 ∧ (OwnS ob21 l20.length c22 1 (u8s l20) r23) ∧ (n25 ≤ 9223372036854775807) ∧ L' = [(3, ptr (some b6) 0), (4, sl ob21 0 l20.length c22), (5, .int .i64 ((n25 : Nat) : Int))] ∧ M' = ((ob21, blk ((u8s l20) ++ r23) 5) :: (some b6, blk (u8s x3.toList) 27) :: ([] ++ N))) (k0 := 40) ⟨([] : List (BitVec 8)), 0, none, 0, [], hq8, OwnS.nil, (by omega), rfl, rfl⟩ ⟨rfl, rfl, rfl, trivial⟩ (fun w m => m.pick [0, 1] 3 rfl rfl) ?_))
  clear hq8
  rintro k27 L30 M31 ⟨l20, n25, ob21, c22, r23, hl28, o24, b26, e32, e33⟩
  rw [e32, e33]
  clear e32 e33 L30 M31
  rcases k27 with _ | k27
  ·rw [waybillref01_Bytes.l1] at hl28; cases hl28
  rw [waybillref01_Bytes.l1] at hl28
  have m34 := o24.mx
  refine Z4 (Z4 (Z2 (Z0 (Z3 rfl) rfl (Z0 (RV.lss rfl rfl) rfl (Z7 (.bool (decide (n25 < 32))) (congrArg Value.bool (decide_eq_decide.2 (by omega))) (Z6 (Z1 ?_)))))))
  by_cases h35 : n25 < 32
  ·replace hl28 := if_t hl28 h35
   refine Z13 rfl (decide_eq_true h35) (CW.skip (Z1 (Z4 (CW.block (Z4 (Z2 (Z0 (Z3 rfl) rfl (Z0 (RV.len rfl rfl) rfl (Z0 (RV.gtr rfl rfl) rfl (Z7 (.bool (decide (0 < l20.length))) (congrArg Value.bool (decide_eq_decide.2 (by omega))) (Z0 (Z3 rfl) rfl ?_)))))))))))
   by_cases h36 : 0 < l20.length
   ·replace hl28 := if_t hl28 h36
    refine Z7 (.bool true) (congrArg Value.bool (decide_eq_true h36)) (Z23 rfl rfl rfl (Z23 rfl rfl rfl (Z23 rfl rfl rfl (Z23 rfl rfl rfl (Z0 (Z105 rfl rfl rfl) rfl (Z6 (Z1 ?_)))))))
    obtain ⟨q37, hq38, hl28⟩ := Z102 hl28
    refine Z120 (fun L' M' => ∃ l39 : List (BitVec 8), ∃ ob40 : Option Nat, ∃ c41 : Nat, ∃ r42 : List Value, q37 = l39 ∧ (OwnS ob40 l39.length c41 1 (u8s l39) r42) ∧ L' = [(3, ptr (some b6) 0), (4, sl ob40 0 l39.length c41), (5, .int .i64 ((n25 : Nat) : Int))] ∧ M' = ((ob40, blk ((u8s l39) ++ r42) 5) :: (some b6, blk (u8s x3.toList) 27) :: ([] ++ N))) ?_ ?_
    ·rintro L45 M46 ⟨l39, ob40, c41, r42, e44, o43, e47, e48⟩
     rw [e47, e48]
     clear e47 e48 L45 M46
     clear hq38
     rw [e44] at hl28
     clear e44
     try dsimp only at hl28
     have m49 := o43.mx
     refine Z27 (Z1 (Z2 (Z0 (Z3 rfl) rfl (Z0 (RV.add rfl rfl (by omega)) rfl (Z7 (.int .i64 (((n25 + 1) : Nat) : Int)) (by first | rfl | (congr 1) | (congr 1; omega)) (Z0 (Z5 rfl) rfl (Z6 ?_)))))))
     exact Z114 (k' := k27) (Nat.lt_succ_self _) ⟨l39, (n25 + 1), ob40, c41, r42, hl28, o43, (by omega), rfl, rfl⟩ ⟨rfl, rfl, rfl, trivial⟩ (fun w m => m.pick [0, 1] 2 rfl rfl)
    ·skip
     refine Z13 rfl rfl (Z2 (Z0 (Z3 rfl) rfl (Z0 (Z3 rfl) rfl (Z0 (Z111 (n25) rfl rfl rfl rfl rfl (by omega)) rfl ?_))))
     obtain ⟨x50, hx51, hq38⟩ := Z102 hq38
     refine Z0 (Z29 rfl (List.Mem.tail _ Zh) rfl rfl rfl (by rw [Nat.zero_add]; exact u8s_at (vat hx51))) rfl ?_
     refine OW.ofN (NV.bs1 rfl rfl rfl rfl rfl rfl) rfl (fun b52 => (Z20 (M' := (((some b52), blk ((u8s ([x50] : List (BitVec 8))) ++ []) 5) :: (ob21, blk ((u8s l20) ++ r23) 5) :: (some b6, blk (u8s x3.toList) 27) :: ([] ++ N))) (fun w m => by first | exact m | simpa [u8s] using m) ?_))
     have o53 : OwnS (some b52) ([x50] : List (BitVec 8)).length 1 1 (u8s ([x50] : List (BitVec 8))) [] := ⟨by simp [u8s], by simp [u8s], (fun h => nomatch h), by simp⟩
     have mx_o53 := o53.mx
     refine Z7 (sl (some b52) 0 ([x50] : List (BitVec 8)).length 1) (rfl) (OW.rot1 ?_)
     obtain ⟨g54, hq38⟩ := Z115 hq38
     refine OW.appendOwn (s := 1) rfl rfl rfl rfl rfl rfl o24 (fun w m => m.rd0 (List.Mem.tail _ Zh) (fun e => o53.nilc (by decide) e)) o53.n (Z119 _) (o53.zeroO (by decide)) (by decide) (by decide) (by first | omega | (simp only [i5, List.length_nil]; omega)) rfl rfl ((l20 ++ ([x50] : List (BitVec 8))).length) (u8s (l20 ++ ([x50] : List (BitVec 8)))) (List.length_append ..).symm (u8s_app _ _) (fun ob55 r56 c57 o58 => ?_)
     have m59 := o58.mx
     refine Z0 (Z5 rfl) rfl (Z6 ?_)
     exact QW.join ⟨(l20 ++ ([x50] : List (BitVec 8))), ob55, c57, r56, (Zi hq38).symm, o58, rfl, rfl⟩ ⟨rfl, rfl, rfl, trivial⟩ (fun w m => m.pick [0, 2] 3 rfl rfl)
   ·replace hl28 := if_f hl28 h36
    refine Z7 (.bool false) (congrArg Value.bool (decide_eq_false h36)) (Z24 rfl (Z0 (Z3 rfl) rfl (Z24 rfl (Z0 (Z111 (n25) rfl rfl rfl rfl rfl (by omega)) rfl (Z24 rfl ?_)))))
    obtain ⟨x60, hx61, hl28⟩ := Z102 hl28
    refine Z0 (Z29 rfl (List.Mem.tail _ Zh) rfl rfl rfl (by rw [Nat.zero_add]; exact u8s_at (vat hx61))) rfl ?_
    refine Z24 rfl (Z0 (RV.neq8 rfl (by first | rfl | exact lit8 _ rfl) rfl (by first | rfl | exact lit8 _ rfl)) rfl (Z0 (Z106 rfl rfl rfl) rfl (Z6 (Z1 ?_))))
    obtain ⟨q62, hq63, hl28⟩ := Z102 hl28
    refine Z120 (fun L' M' => ∃ l64 : List (BitVec 8), ∃ ob65 : Option Nat, ∃ c66 : Nat, ∃ r67 : List Value, q62 = l64 ∧ (OwnS ob65 l64.length c66 1 (u8s l64) r67) ∧ L' = [(3, ptr (some b6) 0), (4, sl ob65 0 l64.length c66), (5, .int .i64 ((n25 : Nat) : Int))] ∧ M' = ((ob65, blk ((u8s l64) ++ r67) 5) :: (some b6, blk (u8s x3.toList) 27) :: ([] ++ N))) ?_ ?_
    ·rintro L70 M71 ⟨l64, ob65, c66, r67, e69, o68, e72, e73⟩
     rw [e72, e73]
     clear e72 e73 L70 M71
     clear hq63
     rw [e69] at hl28
     clear e69
     try dsimp only at hl28
     have m74 := o68.mx
     refine Z27 (Z1 (Z2 (Z0 (Z3 rfl) rfl (Z0 (RV.add rfl rfl (by omega)) rfl (Z7 (.int .i64 (((n25 + 1) : Nat) : Int)) (by first | rfl | (congr 1) | (congr 1; omega)) (Z0 (Z5 rfl) rfl (Z6 ?_)))))))
     exact Z114 (k' := k27) (Nat.lt_succ_self _) ⟨l64, (n25 + 1), ob65, c66, r67, hl28, o68, (by omega), rfl, rfl⟩ ⟨rfl, rfl, rfl, trivial⟩ (fun w m => m.pick [0, 1] 2 rfl rfl)
    ·skip
     by_cases h75 : x60 = 0#8
     ·replace hq63 := if_t hq63 h75
      refine Z14 rfl (congrArg (fun b => !b) (decide_eq_true h75)) (CW.skip ?_)
      exact QW.join ⟨l20, ob21, c22, r23, (Zi hq63).symm, o24, rfl, rfl⟩ ⟨rfl, rfl, rfl, trivial⟩ (fun w m => m.pick [0, 1] 2 rfl rfl)
     ·replace hq63 := if_f hq63 h75
      refine Z13 rfl (congrArg (fun b => !b) (decide_eq_false h75)) (Z2 (Z0 (Z3 rfl) rfl (Z0 (Z3 rfl) rfl (Z0 (Z111 (n25) rfl rfl rfl rfl rfl (by omega)) rfl ?_))))
      obtain ⟨x76, hx77, hq63⟩ := Z102 hq63
      refine Z0 (Z29 rfl (List.Mem.tail _ Zh) rfl rfl rfl (by rw [Nat.zero_add]; exact u8s_at (vat hx77))) rfl ?_
      refine OW.ofN (NV.bs1 rfl rfl rfl rfl rfl rfl) rfl (fun b78 => (Z20 (M' := (((some b78), blk ((u8s ([x76] : List (BitVec 8))) ++ []) 5) :: (ob21, blk ((u8s l20) ++ r23) 5) :: (some b6, blk (u8s x3.toList) 27) :: ([] ++ N))) (fun w m => by first | exact m | simpa [u8s] using m) ?_))
      have o79 : OwnS (some b78) ([x76] : List (BitVec 8)).length 1 1 (u8s ([x76] : List (BitVec 8))) [] := ⟨by simp [u8s], by simp [u8s], (fun h => nomatch h), by simp⟩
      have mx_o79 := o79.mx
      refine Z7 (sl (some b78) 0 ([x76] : List (BitVec 8)).length 1) (rfl) (OW.rot1 ?_)
      obtain ⟨g80, hq63⟩ := Z115 hq63
      refine OW.appendOwn (s := 1) rfl rfl rfl rfl rfl rfl o24 (fun w m => m.rd0 (List.Mem.tail _ Zh) (fun e => o79.nilc (by decide) e)) o79.n (Z119 _) (o79.zeroO (by decide)) (by decide) (by decide) (by first | omega | (simp only [i5, List.length_nil]; omega)) rfl rfl ((l20 ++ ([x76] : List (BitVec 8))).length) (u8s (l20 ++ ([x76] : List (BitVec 8)))) (List.length_append ..).symm (u8s_app _ _) (fun ob81 r82 c83 o84 => ?_)
      have m85 := o84.mx
      refine Z0 (Z5 rfl) rfl (Z6 ?_)
      exact QW.join ⟨(l20 ++ ([x76] : List (BitVec 8))), ob81, c83, r82, (Zi hq63).symm, o84, rfl, rfl⟩ ⟨rfl, rfl, rfl, trivial⟩ (fun w m => m.pick [0, 2] 3 rfl rfl)
  ·replace hl28 := if_f hl28 h35
   refine Z14 rfl (decide_eq_false h35) (CW.exit (Z9 (Z9 (Z15 ?_))))
   exact QW.join ⟨l20, ob21, c22, r23, (Zi hl28).symm, o24, rfl, rfl⟩ ⟨rfl, trivial⟩ (fun w m => m.pick [0] 2 rfl rfl)
theorem rlp_head_does (w0 : World) (Φ : Ctx) (N : List Ent) (hΦ : ∀ w, Mem w0 w N → Φ w) (a0 : BitVec 8) (a1 : Nat) (res0 : List (BitVec 8)) (ba1 : a1 ≤ 9223372036854775807) (hf : rlp_head a0 a1 = some res0) : DoesG Tryd.prog 101 [U8 a0, .int .i64 ((a1 : Nat) : Int)] w0 [] N (fun v G => ∃ B : List Ent, ∃ or0 : Option Nat, ∃ kr0 : Nat, ∃ rr0 : List Value, (OwnS or0 res0.length kr0 1 (u8s res0) rr0) ∧ v = sl or0 0 res0.length kr0 ∧ G = (or0, blk ((u8s res0) ++ rr0) 5) :: B) := by
 unfold rlp_head at hf
 refine DoesG.enter Tryd.func101 rfl Tryd.ntmps101 rfl (M := (([] ++ N))) rfl (Z4 (Z2 (Z0 (Z5 rfl) rfl (Z6 (Z1 (Z4 (Z4 (Z2 (Z0 (Z3 rfl) rfl (Z0 (RV.leq rfl rfl) rfl (Z7 (.bool (decide (a1 ≤ 55))) (congrArg Value.bool (decide_eq_decide.2 (by omega))) (Z6 (Z1 ?_)))))))))))))
 by_cases h1 : a1 ≤ 55
 ·replace hf := if_t hf h1
  refine Z13 rfl (decide_eq_true h1) (Z4 (Z2 (Z0 (Z3 rfl) rfl (Z0 (Z3 rfl) rfl (Z0 (RV.conv_i8 rfl rfl rfl) rfl (Z7 (U8 (BitVec.ofNat 8 a1)) (congrArg U8 (BitVec.ofInt_natCast ..)) (Z0 (RV.add8 rfl (by first | rfl | exact lit8 _ rfl) rfl (by first | rfl | exact lit8 _ rfl)) rfl (OW.ofN (NV.bs1 rfl rfl rfl rfl rfl rfl) rfl (fun b2 => ?_)))))))))
  refine Z20 (M' := (((some b2), blk ((u8s ([(a0 + (BitVec.ofNat 8 a1))] : List (BitVec 8))) ++ []) 5) :: ([] ++ N))) (fun w m => by first | exact m | simpa [u8s] using m) ?_
  have o3 : OwnS (some b2) ([(a0 + (BitVec.ofNat 8 a1))] : List (BitVec 8)).length 1 1 (u8s ([(a0 + (BitVec.ofNat 8 a1))] : List (BitVec 8))) [] := ⟨by simp [u8s], by simp [u8s], (fun h => nomatch h), by simp⟩
  have mx_o3 := o3.mx
  refine Z7 (sl (some b2) 0 ([(a0 + (BitVec.ofNat 8 a1))] : List (BitVec 8)).length 1) (rfl) (Z0 (Z5 rfl) rfl (Z6 (Z1 (CW.ret (Z8 ?_)))))
  have e0 := Zi hf
  subst e0
  refine Z108 (rs := [.tmp 4]) ([sl (some b2) 0 ([(a0 + (BitVec.ofNat 8 a1))] : List (BitVec 8)).length 1]) (((some b2), blk ((u8s ([(a0 + (BitVec.ofNat 8 a1))] : List (BitVec 8))) ++ []) 5) :: []) rfl ?_ rfl ?_ ?_ _ (.inl rfl)
  ·exact ⟨rfl, trivial⟩
  ·exact ⟨[], (some b2), 1, [], o3, rfl, rfl⟩
  ·exact (fun w m => m.pick [0] 1 rfl rfl)
 ·replace hf := if_f hf h1
  refine Z14 rfl (decide_eq_false h1) (CW.skip (Z1 (Z4 (Z2 (Z0 (Z3 rfl) rfl (Z0 (Z173 rfl rfl rfl) rfl (Z7 (U64 (BitVec.ofNat 64 a1)) (congrArg U64 (BitVec.ofInt_natCast ..)) ?_)))))))
  obtain ⟨x5, hx4, hf⟩ := Z102 hf
  refine Z12 Tryd.call104 rfl (u256_From_does w0 (More w0 Φ []) (([] ++ N)) (fun w m => More.of hΦ 0 m rfl) (BitVec.ofNat 64 a1) x5 hx4) rfl rfl ?_
  rintro _ G6 rfl
  refine Z20 (M' := (([] ++ N))) (fun w m => m.appR) ?_
  obtain ⟨x9, hx8, hf⟩ := Z102 hf
  refine Z12 Tryd.call120 rfl (u256_Bytes_does w0 (More w0 Φ []) (([] ++ N)) (fun w m => More.of hΦ 0 m rfl) x5 x9 hx8) rfl rfl ?_
  rintro L15 M16 ⟨B10, ob11, c12, r13, o14, e17, e18⟩
  rw [e17, e18]
  clear e17 e18 L15 M16
  refine Z20 (M' := ((ob11, blk ((u8s x9) ++ r13) 5) :: ((B10 ++ []) ++ N))) (fun w m => by have h := Z110 (A := B10) m 1 0 rfl rfl; exact h) ?_
  have m19 := o14.mx
  refine Z0 (Z5 rfl) rfl (Z6 (Z1 (Z4 (Z2 (Z0 (Z3 rfl) rfl (Z0 (RV.add8 rfl (by first | rfl | exact lit8 _ rfl) rfl (by first | rfl | exact lit8 _ rfl)) rfl (Z0 (Z3 rfl) rfl (Z0 (RV.len rfl rfl) rfl (Z0 (RV.conv_i8 rfl rfl rfl) rfl (Z7 (U8 (BitVec.ofNat 8 x9.length)) (congrArg U8 (BitVec.ofInt_natCast ..)) ?_))))))))))
  refine Z0 (RV.add8 rfl (by first | rfl | exact lit8 _ rfl) rfl (by first | rfl | exact lit8 _ rfl)) rfl (OW.ofN (NV.bs1 rfl rfl rfl rfl rfl rfl) rfl (fun b20 => (Z20 (M' := (((some b20), blk ((u8s ([((a0 + 55#8) + (BitVec.ofNat 8 x9.length))] : List (BitVec 8))) ++ []) 5) :: (ob11, blk ((u8s x9) ++ r13) 5) :: ((B10 ++ []) ++ N))) (fun w m => by first | exact m | simpa [u8s] using m) ?_)))
  have o21 : OwnS (some b20) ([((a0 + 55#8) + (BitVec.ofNat 8 x9.length))] : List (BitVec 8)).length 1 1 (u8s ([((a0 + 55#8) + (BitVec.ofNat 8 x9.length))] : List (BitVec 8))) [] := ⟨by simp [u8s], by simp [u8s], (fun h => nomatch h), by simp⟩
  have mx_o21 := o21.mx
  refine Z7 (sl (some b20) 0 ([((a0 + 55#8) + (BitVec.ofNat 8 x9.length))] : List (BitVec 8)).length 1) (rfl) (Z0 (Z3 rfl) rfl ?_)
  obtain ⟨g22, hf⟩ := Z115 hf
  refine OW.appendOwn (s := 1) rfl rfl rfl rfl rfl rfl o21 (fun w m => m.rd0 (List.Mem.tail _ Zh) (fun e => o14.nilc (by decide) e)) o14.n (Z119 _) (o14.zeroO (by decide)) (by decide) (by decide) (by first | omega | (simp only [i5, List.length_nil]; omega)) rfl rfl ((([((a0 + 55#8) + (BitVec.ofNat 8 x9.length))] : List (BitVec 8)) ++ x9).length) (u8s (([((a0 + 55#8) + (BitVec.ofNat 8 x9.length))] : List (BitVec 8)) ++ x9)) (List.length_append ..).symm (u8s_app _ _) (fun ob23 r24 c25 o26 => ?_)
  have m27 := o26.mx
  refine Z0 (Z5 rfl) rfl (Z6 (Z1 (CW.ret ?_)))
  have e0 := Zi hf
  subst e0
  refine Z108 (rs := [.tmp 4]) ([sl ob23 0 (([((a0 + 55#8) + (BitVec.ofNat 8 x9.length))] : List (BitVec 8)) ++ x9).length c25]) ((ob23, blk ((u8s (([((a0 + 55#8) + (BitVec.ofNat 8 x9.length))] : List (BitVec 8)) ++ x9)) ++ r24) 5) :: (B10 ++ [])) rfl ?_ rfl ?_ ?_ _ (.inl rfl)
  ·exact ⟨rfl, trivial⟩
  ·exact ⟨(B10 ++ []), ob23, c25, r24, o26, rfl, rfl⟩
  ·exact (fun w m => m.pick [0] 2 rfl rfl)
theorem Z147 (w0 : World) (Φ : Ctx) (N : List Ent) (hΦ : ∀ w, Mem w0 w N → Φ w) (a0 : Nat) (a1 : Nat) (res0 : List (BitVec 8)) (ba0 : a0 ≤ 9223372036854775807) (ba1 : a1 ≤ 9223372036854775807) (hf : waybillref07_before a0 a1 = some res0) : DoesG Tryd.prog 125 [.int .i64 ((a0 : Nat) : Int), .int .i64 ((a1 : Nat) : Int)] w0 [] N (fun v G => ∃ B : List Ent, ∃ or0 : Option Nat, ∃ kr0 : Nat, ∃ rr0 : List Value, (OwnS or0 res0.length kr0 1 (u8s res0) rr0) ∧ v = sl or0 0 res0.length kr0 ∧ G = (or0, blk ((u8s res0) ++ rr0) 5) :: B) := by
 unfold waybillref07_before at hf
 refine DoesG.enter Tryd.func125 rfl Tryd.ntmps125 rfl (M := (([] ++ N))) rfl (Z4 (Z2 (Z0 (Z5 rfl) rfl (Z6 (Z1 (Z4 (Z4 (Z2 (Z0 (Z3 rfl) rfl (Z0 (RV.leq rfl rfl) rfl (Z7 (.bool (decide (a0 ≤ 55))) (congrArg Value.bool (decide_eq_decide.2 (by omega))) (Z6 (Z1 ?_)))))))))))))
 by_cases h1 : a0 ≤ 55
 ·replace hf := if_t hf h1
  refine Z13 rfl (decide_eq_true h1) (Z4 (Z2 (Z0 (Z3 rfl) rfl (Z0 (Z3 rfl) rfl ?_))))
  obtain ⟨g2, hf⟩ := Z115 hf
  refine Z0 (RV.add rfl rfl (by omega)) rfl (Z7 (.int .i64 (((a1 + a0) : Nat) : Int)) (by first | rfl | (congr 1) | (congr 1; omega)) (Z0 (RV.conv_i8 rfl rfl rfl) rfl (Z7 (U8 (BitVec.ofNat 8 (a1 + a0))) (congrArg U8 (BitVec.ofInt_natCast ..)) (OW.ofN (NV.bs1 rfl rfl rfl rfl rfl rfl) rfl (fun b3 => (Z20 (M' := (((some b3), blk ((u8s ([(BitVec.ofNat 8 (a1 + a0))] : List (BitVec 8))) ++ []) 5) :: ([] ++ N))) (fun w m => by first | exact m | simpa [u8s] using m) ?_))))))
  have o4 : OwnS (some b3) ([(BitVec.ofNat 8 (a1 + a0))] : List (BitVec 8)).length 1 1 (u8s ([(BitVec.ofNat 8 (a1 + a0))] : List (BitVec 8))) [] := ⟨by simp [u8s], by simp [u8s], (fun h => nomatch h), by simp⟩
  have mx_o4 := o4.mx
  refine Z7 (sl (some b3) 0 ([(BitVec.ofNat 8 (a1 + a0))] : List (BitVec 8)).length 1) (rfl) (Z0 (Z5 rfl) rfl (Z6 (Z1 (CW.ret (Z8 ?_)))))
  have e0 := Zi hf
  subst e0
  refine Z108 (rs := [.tmp 4]) ([sl (some b3) 0 ([(BitVec.ofNat 8 (a1 + a0))] : List (BitVec 8)).length 1]) (((some b3), blk ((u8s ([(BitVec.ofNat 8 (a1 + a0))] : List (BitVec 8))) ++ []) 5) :: []) rfl ?_ rfl ?_ ?_ _ (.inl rfl)
  ·exact ⟨rfl, trivial⟩
  ·exact ⟨[], (some b3), 1, [], o4, rfl, rfl⟩
  ·exact (fun w m => m.pick [0] 1 rfl rfl)
 ·replace hf := if_f hf h1
  refine Z14 rfl (decide_eq_false h1) (CW.skip (Z1 (Z4 (Z2 (Z0 (Z3 rfl) rfl (Z0 (Z173 rfl rfl rfl) rfl (Z7 (U64 (BitVec.ofNat 64 a0)) (congrArg U64 (BitVec.ofInt_natCast ..)) ?_)))))))
  obtain ⟨x6, hx5, hf⟩ := Z102 hf
  refine Z12 Tryd.call94 rfl (waybillref01_From_does w0 (More w0 Φ []) (([] ++ N)) (fun w m => More.of hΦ 0 m rfl) (BitVec.ofNat 64 a0) x6 hx5) rfl rfl ?_
  rintro _ G7 rfl
  refine Z20 (M' := (([] ++ N))) (fun w m => m.appR) ?_
  obtain ⟨x10, hx9, hf⟩ := Z102 hf
  refine Z12 Tryd.call93 rfl (waybillref01_Bytes_does w0 (More w0 Φ []) (([] ++ N)) (fun w m => More.of hΦ 0 m rfl) x6 x10 hx9) rfl rfl ?_
  rintro L16 M17 ⟨B11, ob12, c13, r14, o15, e18, e19⟩
  rw [e18, e19]
  clear e18 e19 L16 M17
  refine Z20 (M' := ((ob12, blk ((u8s x10) ++ r14) 5) :: ((B11 ++ []) ++ N))) (fun w m => by have h := Z110 (A := B11) m 1 0 rfl rfl; exact h) ?_
  have m20 := o15.mx
  refine Z0 (Z5 rfl) rfl (Z6 (Z1 (Z4 (Z2 (Z0 (Z3 rfl) rfl ?_)))))
  obtain ⟨g21, hf⟩ := Z115 hf
  refine Z0 (RV.add rfl rfl (by omega)) rfl (Z7 (.int .i64 (((a1 + 55) : Nat) : Int)) (by first | rfl | (congr 1) | (congr 1; omega)) (Z0 (Z3 rfl) rfl (Z0 (RV.len rfl rfl) rfl ?_)))
  obtain ⟨g22, hf⟩ := Z115 hf
  refine Z0 (RV.add rfl rfl (by omega)) rfl (Z7 (.int .i64 ((((a1 + 55) + x10.length) : Nat) : Int)) (by first | rfl | (congr 1) | (congr 1; omega)) (Z0 (RV.conv_i8 rfl rfl rfl) rfl (Z7 (U8 (BitVec.ofNat 8 ((a1 + 55) + x10.length))) (congrArg U8 (BitVec.ofInt_natCast ..)) (OW.ofN (NV.bs1 rfl rfl rfl rfl rfl rfl) rfl (fun b23 => (Z20 (M' := (((some b23), blk ((u8s ([(BitVec.ofNat 8 ((a1 + 55) + x10.length))] : List (BitVec 8))) ++ []) 5) :: (ob12, blk ((u8s x10) ++ r14) 5) :: ((B11 ++ []) ++ N))) (fun w m => by first | exact m | simpa [u8s] using m) ?_))))))
  have o24 : OwnS (some b23) ([(BitVec.ofNat 8 ((a1 + 55) + x10.length))] : List (BitVec 8)).length 1 1 (u8s ([(BitVec.ofNat 8 ((a1 + 55) + x10.length))] : List (BitVec 8))) [] := ⟨by simp [u8s], by simp [u8s], (fun h => nomatch h), by simp⟩
  have mx_o24 := o24.mx
  refine Z7 (sl (some b23) 0 ([(BitVec.ofNat 8 ((a1 + 55) + x10.length))] : List (BitVec 8)).length 1) (rfl) (Z0 (Z5 rfl) rfl (Z6 (Z1 (Z4 (Z2 (Z0 (Z3 rfl) rfl (Z0 (Z3 rfl) rfl ?_)))))))
  obtain ⟨g25, hf⟩ := Z115 hf
  refine OW.appendOwn (s := 1) rfl rfl rfl rfl rfl rfl o24 (fun w m => m.rd0 (List.Mem.tail _ Zh) (fun e => o15.nilc (by decide) e)) o15.n (Z119 _) (o15.zeroO (by decide)) (by decide) (by decide) (by first | omega | (simp only [i5, List.length_nil]; omega)) rfl rfl ((([(BitVec.ofNat 8 ((a1 + 55) + x10.length))] : List (BitVec 8)) ++ x10).length) (u8s (([(BitVec.ofNat 8 ((a1 + 55) + x10.length))] : List (BitVec 8)) ++ x10)) (List.length_append ..).symm (u8s_app _ _) (fun ob26 r27 c28 o29 => ?_)
  have m30 := o29.mx
  refine Z0 (Z5 rfl) rfl (Z6 (Z1 (CW.ret ?_)))
  have e0 := Zi hf
  subst e0
  refine Z108 (rs := [.tmp 4]) ([sl ob26 0 (([(BitVec.ofNat 8 ((a1 + 55) + x10.length))] : List (BitVec 8)) ++ x10).length c28]) ((ob26, blk ((u8s (([(BitVec.ofNat 8 ((a1 + 55) + x10.length))] : List (BitVec 8)) ++ x10)) ++ r27) 5) :: (B11 ++ [])) rfl ?_ rfl ?_ ?_ _ (.inl rfl)
  ·exact ⟨rfl, trivial⟩
  ·exact ⟨(B11 ++ []), ob26, c28, r27, o29, rfl, rfl⟩
  ·exact (fun w m => m.pick [0] 2 rfl rfl)
theorem waybillref07_Same_rec (w0 : World) : ∀ (kf : Nat) (Φ : Ctx) (N : List Ent) (hΦ : ∀ w, Mem w0 w N → Φ w) (cs0_ : List Value) (a0 : It) (cs1_ : List Value) (a1 : It) (res0 : Bool) (ha0 : ItRd Φ cs0_ a0) (ha1 : ItRd Φ cs1_ a1) (hf : waybillref07_Same.r kf a0 a1 = some res0), DoesG Tryd.prog 18 [.agg cs0_.toArray, .agg cs1_.toArray] w0 [] N (fun v G => v = .bool res0) := by
 intro kf
 induction kf with
 | zero => intro Φ N hΦ cs0_ a0 cs1_ a1 res0 ha0 ha1 hf; rw [waybillref07_Same.r] at hf; cases hf
 | succ kf ih =>
  intro Φ N hΦ cs0_ a0 cs1_ a1 res0 ha0 ha1 hf
  rw [waybillref07_Same.r] at hf
  replace ha0 := ItRd.mono (Ψ := More w0 Φ []) (fun w q => q.1) _ _ ha0
  have h10 := ha0
  obtain ⟨A1, c2, A4, c5, cs7, e9, v3, v6, h8⟩ := ItRd.opn ha0
  subst e9
  have m11 := v3.mx
  have m12 := v6.mx
  replace ha1 := ItRd.mono (Ψ := More w0 Φ []) (fun w q => q.1) _ _ ha1
  have h22 := ha1
  obtain ⟨A13, c14, A16, c17, cs19, e21, v15, v18, h20⟩ := ItRd.opn ha1
  subst e21
  have m23 := v15.mx
  have m24 := v18.mx
  refine DoesG.enter Tryd.func18 rfl Tryd.ntmps18 rfl (M := (([] ++ N))) rfl (Z4 (Z2 (OW.boxA rfl rfl (fun b25 => (OW.boxA rfl rfl (fun b26 => (Z0 (Z5 rfl) rfl (Z6 (Z1 (Z4 (Z4 ?_)))))))))))
  obtain ⟨q27, hq28, hf⟩ := Z102 hf
  refine Z120 (fun L' M' => ∃ p29 : Bool, q27 = p29 ∧ L' = [(2, ptr (some b25) 0), (3, ptr (some b26) 0), (29, .bool (p29))] ∧ M' = ((some b26, blk [.bool (a1.list), .slice A13 a1.data.length c14, .slice A16 a1.items.length c17] 25) :: (some b25, blk [.bool (a0.list), .slice A1 a0.data.length c2, .slice A4 a0.items.length c5] 25) :: ([] ++ N))) ?_ ?_
  ·rintro L31 M32 ⟨p29, e30, e33, e34⟩
   rw [e33, e34]
   clear e33 e34 L31 M32
   clear hq28
   rw [e30] at hf
   clear e30
   try dsimp only at hf
   refine Z1 ?_
   by_cases h35 : p29 = true
   ·replace hf := if_t hf h35
    refine Z13 rfl (h35) (Z4 (Z2 (Z0 (Z5 rfl) rfl (Z6 (Z1 (CW.ret (Z8 ?_)))))))
    have e0 := Zi hf
    subst e0
    refine Z108 (rs := [.tmp 4]) ([.bool false]) ((some b26, blk [.bool (a1.list), .slice A13 a1.data.length c14, .slice A16 a1.items.length c17] 25) :: (some b25, blk [.bool (a0.list), .slice A1 a0.data.length c2, .slice A4 a0.items.length c5] 25) :: []) rfl ?_ rfl ?_ ?_ _ (.inl rfl)
    ·exact ⟨rfl, trivial⟩
    ·exact rfl
    ·exact (fun w m => m)
   ·replace hf := if_f hf h35
    refine Z14 rfl (Bool.eq_false_iff.2 h35) (CW.skip (Z1 (Z4 (Z4 (Z2 (Z0 (Z5 rfl) rfl (Z6 (Z1 ?_))))))))
    obtain ⟨q36, hq37, hf⟩ := Z102 hf
    refine Z120 (fun L' M' => q36 = Lp.go () ∧ L' = [(2, ptr (some b25) 0), (3, ptr (some b26) 0)] ∧ M' = ((some b26, blk [.bool (a1.list), .slice A13 a1.data.length c14, .slice A16 a1.items.length c17] 25) :: (some b25, blk [.bool (a0.list), .slice A1 a0.data.length c2, .slice A4 a0.items.length c5] 25) :: ([] ++ N))) ?_ ?_
    ·rintro L39 M40 ⟨e38, e41, e42⟩
     rw [e41, e42]
     clear e41 e42 L39 M40
     clear hq37
     rw [e38] at hf
     clear e38
     try dsimp only at hf
     refine Z1 (Z4 (Z4 (Z2 (Z0 (Z5 rfl) rfl (Z6 (Z1 ?_))))))
     obtain ⟨q43, hq44, hf⟩ := Z102 hf
     refine Z120 (fun L' M' => q43 = Lp.go () ∧ L' = [] ∧ M' = (([] ++ N))) ?_ ?_
     ·rintro L46 M47 ⟨e45, e48, e49⟩
      rw [e48, e49]
      clear e48 e49 L46 M47
      clear hq44
      rw [e45] at hf
      clear e45
      try dsimp only at hf
      refine Z1 (Z4 (Z2 (Z0 (Z5 rfl) rfl (Z6 (Z1 (CW.ret ?_))))))
      have e0 := Zi hf
      subst e0
      refine Z108 (rs := [.tmp 4]) ([.bool true]) ([]) rfl ?_ rfl ?_ ?_ _ (.inl rfl)
      ·exact ⟨rfl, trivial⟩
      ·exact rfl
      ·exact (fun w m => m)
     ·skip
      refine CW.block (Z121 (fun k L' M' => ∃ n50 : Nat, (waybillref07_Same.l1 a0 a1 (waybillref07_Same.r kf) k n50) = some q43 ∧ (n50 ≤ 9223372036854775807) ∧ L' = [(2, ptr (some b25) 0), (3, ptr (some b26) 0), (6, .int .i64 ((n50 : Nat) : Int))] ∧ M' = ((some b26, blk [.bool (a1.list), .slice A13 a1.data.length c14, .slice A16 a1.items.length c17] 25) :: (some b25, blk [.bool (a0.list), .slice A1 a0.data.length c2, .slice A4 a0.items.length c5] 25) :: ([] ++ N))) (k0 := (a0.items.length - 0 + 2)) ⟨0, hq44, (by omega), rfl, rfl⟩ ⟨rfl, rfl, rfl, trivial⟩ (fun w m => m.pick [0, 1] 2 rfl rfl) ?_)
      clear hq44
      rintro k52 L55 M56 ⟨n50, hl53, b51, e57, e58⟩
      rw [e57, e58]
      clear e57 e58 L55 M56
      rcases k52 with _ | k52
      ·rw [waybillref07_Same.l1] at hl53; cases hl53
      rw [waybillref07_Same.l1] at hl53
      refine Z4 (Z4 (Z2 (Z0 (Z3 rfl) rfl (Z0 (Z30 rfl rfl rfl rfl) rfl (Z0 (Z29 rfl (List.Mem.tail _ Zh) rfl rfl rfl rfl) rfl (Z0 (RV.len rfl rfl) rfl (Z0 (RV.lss rfl rfl) rfl (Z7 (.bool (decide (n50 < a0.items.length))) (congrArg Value.bool (decide_eq_decide.2 (by omega))) (Z6 (Z1 ?_))))))))))
      by_cases h59 : n50 < a0.items.length
      ·replace hl53 := if_t hl53 h59
       refine Z13 rfl (decide_eq_true h59) (CW.skip (Z1 (Z4 (CW.block (Z4 (Z159 12 mixed (by kernel_rfl) rfl (Z18 0 rfl (by kernel_rfl) rfl (Z30 rfl rfl rfl rfl) rfl (Z18 1 rfl (by kernel_rfl) rfl (Z29 rfl (List.Mem.tail _ Zh) rfl rfl rfl rfl) rfl (Z18 2 rfl (by kernel_rfl) rfl (Z3 rfl) rfl ?_)))))))))
       obtain ⟨x60, hx61, hl53⟩ := Z102 hl53
       have hl62 := Z130 hx61
       refine Z18 3 rfl (by kernel_rfl) rfl (Z157 (n50) rfl rfl rfl rfl rfl (v6.isSome (by decide) hl62) (by omega)) rfl ?_
       obtain ⟨cs63, h64, h65⟩ := h8.get ItRd.len hx61
       have h75 := h64
       obtain ⟨A66, c67, A69, c70, cs72, e74, v68, v71, h73⟩ := ItRd.opn h64
       subst e74
       have m76 := v68.mx
       have m77 := v71.mx
       refine Z18 4 rfl (by kernel_rfl) rfl (Z156 rfl rfl rfl rfl (fun w m => v6.load (More.of hΦ 2 m rfl) h65) rfl) rfl (Z18 5 rfl (by kernel_rfl) rfl (Z30 rfl rfl rfl rfl) rfl (Z18 6 rfl (by kernel_rfl) rfl (Z29 rfl Zh rfl rfl rfl rfl) rfl (Z18 7 rfl (by kernel_rfl) rfl (Z3 rfl) rfl ?_)))
       obtain ⟨x78, hx79, hl53⟩ := Z102 hl53
       have hl80 := Z130 hx79
       refine Z18 8 rfl (by kernel_rfl) rfl (Z157 (n50) rfl rfl rfl rfl rfl (v18.isSome (by decide) hl80) (by omega)) rfl ?_
       obtain ⟨cs81, h82, h83⟩ := h20.get ItRd.len hx79
       have h93 := h82
       obtain ⟨A84, c85, A87, c88, cs90, e92, v86, v89, h91⟩ := ItRd.opn h82
       subst e92
       have m94 := v86.mx
       have m95 := v89.mx
       refine Z18 9 rfl (by kernel_rfl) rfl (Z156 rfl rfl rfl rfl (fun w m => v18.load (More.of hΦ 2 m rfl) h83) rfl) rfl ?_
       obtain ⟨x97, hx96, hl53⟩ := Z102 hl53
       refine Z25 10 rfl (by kernel_rfl) rfl Tryd.call18 rfl (fun N' hN' => ih (More w0 Φ []) N' (fun w m => More.of hΦ 2 (hN' w m) rfl) [.bool (x60.list), .slice A66 x60.data.length c67, .slice A69 x60.items.length c70] x60 [.bool (x78.list), .slice A84 x78.data.length c85, .slice A87 x78.items.length c88] x78 x97 h75 h93 hx96) rfl ?_
       rintro _ G98 rfl
       refine UW.mem (M' := ((some b26, blk [.bool (a1.list), .slice A13 a1.data.length c14, .slice A16 a1.items.length c17] 25) :: (some b25, blk [.bool (a0.list), .slice A1 a0.data.length c2, .slice A4 a0.items.length c5] 25) :: ([] ++ N))) (fun w m => m.appR) (Z18 11 rfl (by kernel_rfl) rfl (RV.not rfl) rfl (UW.nil (by kernel_rfl) (Z6 (Z1 ?_))))
       by_cases h100 : x97 = true
       ·replace hl53 := if_t hl53 h100
        refine Z14 rfl (congrArg (fun b => !b) (h100)) (CW.skip (Z27 (Z1 (Z2 (Z0 (Z3 rfl) rfl (Z0 (RV.add rfl rfl (by omega)) rfl (Z7 (.int .i64 (((n50 + 1) : Nat) : Int)) (by first | rfl | (congr 1) | (congr 1; omega)) (Z0 (Z5 rfl) rfl (Z6 ?_)))))))))
        exact Z114 (k' := k52) (Nat.lt_succ_self _) ⟨(n50 + 1), hl53, (by omega), rfl, rfl⟩ ⟨rfl, rfl, rfl, trivial⟩ (fun w m => m.pick [0, 1] 2 rfl rfl)
       ·replace hl53 := if_f hl53 h100
        refine Z13 rfl (congrArg (fun b => !b) (Bool.eq_false_iff.2 h100)) (Z4 (Z2 (Z0 (Z5 rfl) rfl (Z6 (Z1 (CW.ret (Z16 (Z8 (Z8 (Z16 (Z8 ?_)))))))))))
        have hc := Zi hl53
        subst hc
        try dsimp only at hf
        refine Z8 ?_
        have e0 := Zi hf
        subst e0
        refine Z108 (rs := [.tmp 4]) ([.bool false]) ((some b26, blk [.bool (a1.list), .slice A13 a1.data.length c14, .slice A16 a1.items.length c17] 25) :: (some b25, blk [.bool (a0.list), .slice A1 a0.data.length c2, .slice A4 a0.items.length c5] 25) :: []) rfl ?_ rfl ?_ ?_ _ (.inl rfl)
        ·exact ⟨rfl, trivial⟩
        ·exact rfl
        ·exact (fun w m => m)
      ·replace hl53 := if_f hl53 h59
       refine Z14 rfl (decide_eq_false h59) (CW.exit (Z9 (Z9 (Z15 ?_))))
       exact QW.join ⟨(Zi hl53).symm, rfl, rfl⟩ trivial (fun w m => m.pick [] 2 rfl rfl)
    ·skip
     refine CW.block (Z121 (fun k L' M' => ∃ n101 : Nat, (waybillref07_Same.l2 a0 a1 k n101) = some q36 ∧ (n101 ≤ 9223372036854775807) ∧ L' = [(2, ptr (some b25) 0), (3, ptr (some b26) 0), (5, .int .i64 ((n101 : Nat) : Int))] ∧ M' = ((some b26, blk [.bool (a1.list), .slice A13 a1.data.length c14, .slice A16 a1.items.length c17] 25) :: (some b25, blk [.bool (a0.list), .slice A1 a0.data.length c2, .slice A4 a0.items.length c5] 25) :: ([] ++ N))) (k0 := (a0.data.length - 0 + 2)) ⟨0, hq37, (by omega), rfl, rfl⟩ ⟨rfl, rfl, rfl, trivial⟩ (fun w m => m.pick [0, 1] 2 rfl rfl) ?_)
     clear hq37
     rintro k103 L106 M107 ⟨n101, hl104, b102, e108, e109⟩
     rw [e108, e109]
     clear e108 e109 L106 M107
     rcases k103 with _ | k103
     ·rw [waybillref07_Same.l2] at hl104; cases hl104
     rw [waybillref07_Same.l2] at hl104
     refine Z4 (Z4 (Z2 (Z0 (Z3 rfl) rfl (Z0 (Z30 rfl rfl rfl rfl) rfl (Z0 (Z29 rfl (List.Mem.tail _ Zh) rfl rfl rfl rfl) rfl (Z0 (RV.len rfl rfl) rfl (Z0 (RV.lss rfl rfl) rfl (Z7 (.bool (decide (n101 < a0.data.length))) (congrArg Value.bool (decide_eq_decide.2 (by omega))) (Z6 (Z1 ?_))))))))))
     by_cases h110 : n101 < a0.data.length
     ·replace hl104 := if_t hl104 h110
      refine Z13 rfl (decide_eq_true h110) (CW.skip (Z1 (Z4 (CW.block (Z4 (Z159 11 mixed (by kernel_rfl) rfl (Z18 0 rfl (by kernel_rfl) rfl (Z30 rfl rfl rfl rfl) rfl (Z18 1 rfl (by kernel_rfl) rfl (Z29 rfl (List.Mem.tail _ Zh) rfl rfl rfl rfl) rfl (Z18 2 rfl (by kernel_rfl) rfl (Z3 rfl) rfl ?_)))))))))
      obtain ⟨x111, hx112, hl104⟩ := Z102 hl104
      have hl113 := Z130 hx112
      refine Z18 3 rfl (by kernel_rfl) rfl (Z179 (n101) rfl rfl rfl rfl rfl (v3.isSome (by decide) hl113) (by omega)) rfl (Z18 4 rfl (by kernel_rfl) rfl (Z21 rfl rfl rfl (fun w m => v3.cell (More.of hΦ 2 m rfl) (u8s_at hx112))) rfl (Z18 5 rfl (by kernel_rfl) rfl (Z30 rfl rfl rfl rfl) rfl (Z18 6 rfl (by kernel_rfl) rfl (Z29 rfl Zh rfl rfl rfl rfl) rfl (Z18 7 rfl (by kernel_rfl) rfl (Z3 rfl) rfl ?_))))
      obtain ⟨x114, hx115, hl104⟩ := Z102 hl104
      have hl116 := Z130 hx115
      refine Z18 8 rfl (by kernel_rfl) rfl (Z179 (n101) rfl rfl rfl rfl rfl (v15.isSome (by decide) hl116) (by omega)) rfl (Z18 9 rfl (by kernel_rfl) rfl (Z21 rfl rfl rfl (fun w m => v15.cell (More.of hΦ 2 m rfl) (u8s_at hx115))) rfl (Z18 10 rfl (by kernel_rfl) rfl (RV.neq8 rfl (by first | rfl | exact lit8 _ rfl) rfl (by first | rfl | exact lit8 _ rfl)) rfl (UW.nil (by kernel_rfl) (Z6 (Z1 ?_)))))
      by_cases h117 : x111 = x114
      ·replace hl104 := if_t hl104 h117
       refine Z14 rfl (congrArg (fun b => !b) (decide_eq_true h117)) (CW.skip (Z27 (Z1 (Z2 (Z0 (Z3 rfl) rfl (Z0 (RV.add rfl rfl (by omega)) rfl (Z7 (.int .i64 (((n101 + 1) : Nat) : Int)) (by first | rfl | (congr 1) | (congr 1; omega)) (Z0 (Z5 rfl) rfl (Z6 ?_)))))))))
       exact Z114 (k' := k103) (Nat.lt_succ_self _) ⟨(n101 + 1), hl104, (by omega), rfl, rfl⟩ ⟨rfl, rfl, rfl, trivial⟩ (fun w m => m.pick [0, 1] 2 rfl rfl)
      ·replace hl104 := if_f hl104 h117
       refine Z13 rfl (congrArg (fun b => !b) (decide_eq_false h117)) (Z4 (Z2 (Z0 (Z5 rfl) rfl (Z6 (Z1 (CW.ret (Z16 (Z8 (Z8 (Z16 (Z8 ?_)))))))))))
       have hc := Zi hl104
       subst hc
       try dsimp only at hf
       refine Z8 ?_
       have e0 := Zi hf
       subst e0
       refine Z108 (rs := [.tmp 4]) ([.bool false]) ((some b26, blk [.bool (a1.list), .slice A13 a1.data.length c14, .slice A16 a1.items.length c17] 25) :: (some b25, blk [.bool (a0.list), .slice A1 a0.data.length c2, .slice A4 a0.items.length c5] 25) :: []) rfl ?_ rfl ?_ ?_ _ (.inl rfl)
       ·exact ⟨rfl, trivial⟩
       ·exact rfl
       ·exact (fun w m => m)
     ·replace hl104 := if_f hl104 h110
      refine Z14 rfl (decide_eq_false h110) (CW.exit (Z9 (Z9 (Z15 ?_))))
      exact QW.join ⟨(Zi hl104).symm, rfl, rfl⟩ ⟨rfl, rfl, trivial⟩ (fun w m => m.pick [0, 1] 2 rfl rfl)
  ·skip
   refine Z2 (Z0 (Z30 rfl rfl rfl rfl) rfl (Z0 (Z29 rfl (List.Mem.tail _ Zh) rfl rfl rfl rfl) rfl (Z0 (Z30 rfl rfl rfl rfl) rfl (Z0 (Z29 rfl Zh rfl rfl rfl rfl) rfl (Z0 (RV.neqB rfl rfl rfl) rfl (Z7 (.bool (!decide ((a0.list) = (a1.list)))) (by first | rfl | (congr 1) | simp) (Z0 (Z3 rfl) rfl ?_)))))))
   by_cases h118 : (a0.list) = (a1.list)
   ·replace hq28 := if_t hq28 h118
    refine Z7 (.bool false) (congrArg Value.bool (congrArg (fun b => !b) (decide_eq_true h118))) (Z24 rfl (Z0 (Z30 rfl rfl rfl rfl) rfl (Z24 rfl (Z0 (Z29 rfl (List.Mem.tail _ Zh) rfl rfl rfl rfl) rfl (Z24 rfl (Z0 (RV.len rfl rfl) rfl (Z24 rfl ?_)))))))
    refine Z0 (Z30 rfl rfl rfl rfl) rfl (Z24 rfl (Z0 (Z29 rfl Zh rfl rfl rfl rfl) rfl (Z24 rfl (Z0 (RV.len rfl rfl) rfl (Z24 rfl (Z0 (RV.neq rfl rfl) rfl (Z7 (.bool (!decide (a0.data.length = a1.data.length))) (congrArg (fun b => Value.bool (!b)) (decide_eq_decide.2 (by omega))) ?_)))))))
    refine Z0 (Z106 rfl rfl rfl) rfl (Z0 (Z3 rfl) rfl ?_)
    by_cases h119 : a0.data.length = a1.data.length
    ·replace hq28 := if_t hq28 h119
     refine Z7 (.bool false) (congrArg Value.bool (congrArg (fun b => !b) (decide_eq_true h119))) (Z24 rfl (Z0 (Z30 rfl rfl rfl rfl) rfl (Z24 rfl (Z0 (Z29 rfl (List.Mem.tail _ Zh) rfl rfl rfl rfl) rfl (Z24 rfl (Z0 (RV.len rfl rfl) rfl (Z24 rfl ?_)))))))
     refine Z0 (Z30 rfl rfl rfl rfl) rfl (Z24 rfl (Z0 (Z29 rfl Zh rfl rfl rfl rfl) rfl (Z24 rfl (Z0 (RV.len rfl rfl) rfl (Z24 rfl (Z0 (RV.neq rfl rfl) rfl (Z7 (.bool (!decide (a0.items.length = a1.items.length))) (congrArg (fun b => Value.bool (!b)) (decide_eq_decide.2 (by omega))) ?_)))))))
     refine Z0 (Z106 rfl rfl rfl) rfl (Z6 ?_)
     exact QW.join ⟨(!decide (a0.items.length = a1.items.length)), (Zi hq28).symm, rfl, rfl⟩ ⟨rfl, rfl, rfl, trivial⟩ (fun w m => m.pick [0, 1] 2 rfl rfl)
    ·replace hq28 := if_f hq28 h119
     refine Z7 (.bool true) (congrArg Value.bool (congrArg (fun b => !b) (decide_eq_false h119))) (Z23 rfl rfl rfl (Z23 rfl rfl rfl (Z23 rfl rfl rfl (Z23 rfl rfl rfl (Z23 rfl rfl rfl (Z23 rfl rfl rfl (Z23 rfl rfl rfl ?_)))))))
     refine Z0 (Z105 rfl rfl rfl) rfl (Z6 ?_)
     exact QW.join ⟨true, (Zi hq28).symm, rfl, rfl⟩ ⟨rfl, rfl, rfl, trivial⟩ (fun w m => m.pick [0, 1] 2 rfl rfl)
   ·replace hq28 := if_f hq28 h118
    refine Z7 (.bool true) (congrArg Value.bool (congrArg (fun b => !b) (decide_eq_false h118))) (Z23 rfl rfl rfl (Z23 rfl rfl rfl (Z23 rfl rfl rfl (Z23 rfl rfl rfl (Z23 rfl rfl rfl (Z23 rfl rfl rfl (Z23 rfl rfl rfl ?_)))))))
    refine Z0 (Z105 rfl rfl rfl) rfl (Z0 (Z3 rfl) rfl (Z23 rfl rfl rfl (Z23 rfl rfl rfl (Z23 rfl rfl rfl (Z23 rfl rfl rfl (Z23 rfl rfl rfl (Z23 rfl rfl rfl ?_)))))))
    refine Z23 rfl rfl rfl (Z0 (Z105 rfl rfl rfl) rfl (Z6 ?_))
    exact QW.join ⟨true, (Zi hq28).symm, rfl, rfl⟩ ⟨rfl, rfl, rfl, trivial⟩ (fun w m => m.pick [0, 1] 2 rfl rfl)
theorem Z141 (w0 : World) (Φ : Ctx) (N : List Ent) (hΦ : ∀ w, Mem w0 w N → Φ w) (cs0_ : List Value) (a0 : It) (cs1_ : List Value) (a1 : It) (res0 : Bool) (ha0 : ItRd Φ cs0_ a0) (ha1 : ItRd Φ cs1_ a1) (hf : waybillref07_Same a0 a1 = some res0) : DoesG Tryd.prog 18 [.agg cs0_.toArray, .agg cs1_.toArray] w0 [] N (fun v G => v = .bool res0) := waybillref07_Same_rec w0 _ Φ N hΦ cs0_ a0 cs1_ a1 res0 ha0 ha1 hf
theorem rlp_twin_rec (w0 : World) : ∀ (kf : Nat) (Φ : Ctx) (N : List Ent) (hΦ : ∀ w, Mem w0 w N → Φ w) (A0_ : Option Addr) (c0_ : Nat) (cs0_ : List Value) (a0 : List (It)) (res0 : List (It)) (va0 : View Φ A0_ a0.length c0_ 3 cs0_) (ha0 : Reps (ItRd Φ) cs0_ a0) (hf : rlp_twin.r kf a0 = some res0), DoesG Tryd.prog 82 [.slice A0_ a0.length c0_] w0 [] N (fun v G => ∃ B : List Ent, ∃ cr0 : List Value, ∃ or0 : Option Nat, ∃ kr0 : Nat, ∃ rr0 : List Value, (Reps (ItRd (More w0 Φ B)) cr0 res0) ∧ (OwnS or0 res0.length kr0 3 cr0 rr0) ∧ v = sl or0 0 res0.length kr0 ∧ G = (or0, blk (cr0 ++ rr0) 25) :: B) := by
 intro kf
 induction kf with
 | zero => intro Φ N hΦ A0_ c0_ cs0_ a0 res0 va0 ha0 hf; rw [rlp_twin.r] at hf; cases hf
 | succ kf ih =>
  intro Φ N hΦ A0_ c0_ cs0_ a0 res0 va0 ha0 hf
  rw [rlp_twin.r] at hf
  replace va0 := va0.mono (Ψ := More w0 Φ []) (fun w q => q.1)
  replace ha0 := ha0.mono (ItRd.mono (Ψ := More w0 Φ []) (fun w q => q.1))
  have m1 := va0.mx
  refine DoesG.enter Tryd.func82 rfl Tryd.ntmps82 rfl (M := (([] ++ N))) rfl (Z4 (Z2 (Z0 (Z5 rfl) rfl (Z6 (Z1 (Z4 (Z2 (Z0 (Z5 rfl) rfl (Z6 (Z1 (Z4 (Z4 (Z2 (Z0 (Z3 rfl) rfl (Z0 (RV.len rfl rfl) rfl ?_)))))))))))))))
  refine Z0 (Z3 rfl) rfl (Z6 (Z1 ?_))
  obtain ⟨q2, hq3, hf⟩ := Z102 hf
  refine Z120 (fun L' M' => ∃ l6 : List (It), ∃ B4 : List Ent, ∃ cs7 : List Value, ∃ ob9 : Option Nat, ∃ c10 : Nat, ∃ r11 : List Value, q2 = l6 ∧ (∀ w, Mem w0 w B4 → Mem w0 w []) ∧ (Reps (ItRd (More w0 Φ B4)) cs7 l6) ∧ (OwnS ob9 l6.length c10 3 cs7 r11) ∧ L' = [(3, sl ob9 0 l6.length c10)] ∧ M' = ((ob9, blk (cs7 ++ r11) 25) :: (B4 ++ N))) ?_ ?_
  ·rintro L14 M15 ⟨l6, B4, cs7, ob9, c10, r11, e13, hB5, h8, o12, e16, e17⟩
   rw [e16, e17]
   clear e16 e17 L14 M15
   clear hq3
   rw [e13] at hf
   clear e13
   try dsimp only at hf
   have m18 := o12.mx
   refine Z1 (Z4 (Z2 (Z0 (Z3 rfl) rfl (Z0 (Z5 rfl) rfl (Z6 (Z1 (CW.ret ?_)))))))
   have e0 := Zi hf
   subst e0
   refine Z108 (rs := [.tmp 2]) ([sl ob9 0 l6.length c10]) ((ob9, blk (cs7 ++ r11) 25) :: B4) rfl ?_ rfl ?_ ?_ _ (.inl rfl)
   ·exact ⟨rfl, trivial⟩
   ·exact ⟨B4, cs7, ob9, c10, r11, h8, o12, rfl, rfl⟩
   ·exact (fun w m => m.pick [0] 1 rfl rfl)
  ·skip
   refine CW.block (CW.mem (M' := ((none, blk ([] ++ []) 25) :: ([] ++ N))) (fun w m => m.nil_ent _) (Z121 (fun k L' M' => ∃ l21 : List (It), ∃ n28 : Nat, ∃ B19 : List Ent, ∃ cs22 : List Value, ∃ ob24 : Option Nat, ∃ c25 : Nat, ∃ r26 : List Value, (rlp_twin.l1 a0 (rlp_twin.r kf) k l21 n28) = some q2 ∧ (∀ w, Mem w0 w B19 → Mem w0 w []) ∧ (Reps (ItRd (More w0 Φ B19)) cs22 l21) ∧ (OwnS ob24 l21.length c25 3 cs22 r26) ∧ (n28 ≤ 9223372036854775807) ∧ L' = [(3, sl ob24 0 l21.length c25), (6, .slice A0_ a0.length c0_), (7, .int .i64 ((a0.length : Nat) : Int)), (8, .int .i64 ((n28 : Nat) : Int))] ∧ M' = ((ob24, blk (cs22 ++ r26) 25) :: (B19 ++ N))) (k0 := (a0.length - 0 + 2)) ⟨([] : List (It)), 0, [], [], none, 0, [], hq3, (fun w m => m), Reps.nil, OwnS.nil, (by omega), rfl, rfl⟩ ⟨rfl, rfl, rfl, rfl, trivial⟩ (fun w m => m.pick [0] 1 rfl rfl) ?_))
   clear hq3
   rintro k30 L33 M34 ⟨l21, n28, B19, cs22, ob24, c25, r26, hl31, hB20, h23, o27, b29, e35, e36⟩
   rw [e35, e36]
   clear e35 e36 L33 M34
   rcases k30 with _ | k30
   ·rw [rlp_twin.l1] at hl31; cases hl31
   rw [rlp_twin.l1] at hl31
   have gq6 : ∀ w, More w0 Φ B19 w → More w0 Φ [] w := fun w q => More.mono (fun w m => hB20 w (m)) q
   replace va0 := va0.mono gq6
   replace ha0 := ha0.mono (ItRd.mono gq6)
   have m37 := o27.mx
   refine Z4 (Z2 (Z0 (RV.lss rfl rfl) rfl (Z7 (.bool (decide (n28 < a0.length))) (congrArg Value.bool (decide_eq_decide.2 (by omega))) (Z6 (Z1 (Z4 ?_))))))
   by_cases h38 : n28 < a0.length
   ·replace hl31 := if_t hl31 h38
    refine Z13 rfl (decide_eq_true h38) (CW.skip (Z1 (Z4 (CW.block (Z4 (Z2 ?_))))))
    obtain ⟨x39, hx40, hl31⟩ := Z102 hl31
    have hl41 := Z130 hx40
    refine Z0 (Z157 (n28) rfl rfl rfl rfl rfl (va0.isSome (by decide) hl41) (by omega)) rfl ?_
    obtain ⟨cs42, h43, h44⟩ := ha0.get ItRd.len hx40
    have h54 := h43
    obtain ⟨A45, c46, A48, c49, cs51, e53, v47, v50, h52⟩ := ItRd.opn h43
    subst e53
    have m55 := v47.mx
    have m56 := v50.mx
    refine Z0 (Z156 rfl rfl rfl rfl (fun w m => va0.load (More.of hΦ 1 m rfl) h44) rfl) rfl (OW.alloc (l := [.bool false, .slice none 0 0, .slice none 0 0]) rfl rfl rfl (fun b57 => ?_))
    refine Z28 (Z109 rfl rfl rfl (by intro u hu; simp at hu; rcases hu with rfl | rfl | rfl <;> rfl) rfl rfl rfl) ?_
    refine Z6 (Z1 (Z159 11 mixed (by kernel_rfl) rfl (Z18 0 rfl (by kernel_rfl) rfl (Z3 rfl) rfl (Z18 1 rfl (by kernel_rfl) rfl (Z30 rfl rfl rfl rfl) rfl (Z18 2 rfl (by kernel_rfl) rfl (Z29 rfl Zh rfl rfl rfl rfl) rfl (Z18 3 rfl (by kernel_rfl) rfl (Z30 rfl rfl rfl rfl) rfl (Z18 4 rfl (by kernel_rfl) rfl (Z29 rfl Zh rfl rfl rfl rfl) rfl (Z18 6 rfl (by kernel_rfl) rfl (Z30 rfl rfl rfl rfl) rfl ?_))))))))
    refine Z18 7 rfl (by kernel_rfl) rfl (Z29 rfl Zh rfl rfl rfl rfl) rfl ?_
    obtain ⟨x59, hx58, hl31⟩ := Z102 hl31
    refine Z25 5 rfl (by kernel_rfl) rfl Tryd.call77 rfl (fun N' hN' => rlp_clone_does w0 (More w0 Φ B19) N' (fun w m => More.of hΦ 2 (hN' w m) rfl) A45 c46 x39.data x59 v47 hx58) rfl ?_
    rintro L65 M66 ⟨B60, ob61, c62, r63, o64, e67, e68⟩
    rw [e67, e68]
    clear e67 e68 L65 M66
    refine UW.mem (M' := ((ob61, blk ((u8s x59) ++ r63) 5) :: (some b57, blk [.bool (x39.list), .slice A45 x39.data.length c46, .slice A48 x39.items.length c49] 25) :: (ob24, blk (cs22 ++ r26) 25) :: ((B60 ++ B19) ++ N))) (fun w m => by have h := Z110 (A := B60) m 1 2 rfl rfl; exact h) ?_
    have gq7 : ∀ w, More w0 Φ (B60 ++ B19) w → More w0 Φ B19 w := fun w q => More.mono (fun w m => (m).appR) q
    replace va0 := va0.mono gq7
    replace ha0 := ha0.mono (ItRd.mono gq7)
    replace h23 := h23.mono (ItRd.mono gq7)
    replace h54 := ItRd.mono gq7 _ _ h54
    replace v47 := v47.mono gq7
    replace v50 := v50.mono gq7
    replace h52 := h52.mono (ItRd.mono gq7)
    have m69 := o64.mx
    obtain ⟨x71, hx70, hl31⟩ := Z102 hl31
    refine Z25 8 rfl (by kernel_rfl) rfl Tryd.call82 rfl (fun N' hN' => ih (More w0 Φ (B60 ++ B19)) N' (fun w m => More.of hΦ 3 (hN' w m) rfl) A48 c49 cs51 x39.items x71 v50 h52 hx70) rfl ?_
    rintro L79 M80 ⟨B72, cs73, ob75, c76, r77, h74, o78, e81, e82⟩
    rw [e81, e82]
    clear e81 e82 L79 M80
    refine UW.mem (M' := ((ob75, blk (cs73 ++ r77) 25) :: (ob61, blk ((u8s x59) ++ r63) 5) :: (some b57, blk [.bool (x39.list), .slice A45 x39.data.length c46, .slice A48 x39.items.length c49] 25) :: (ob24, blk (cs22 ++ r26) 25) :: ((B72 ++ (B60 ++ B19)) ++ N))) (fun w m => by have h := Z110 (A := B72) m 1 3 rfl rfl; exact h) ?_
    have gq8 : ∀ w, More w0 Φ (B72 ++ (B60 ++ B19)) w → More w0 Φ (B60 ++ B19) w := fun w q => More.mono (fun w m => (m).appR) q
    replace va0 := va0.mono gq8
    replace ha0 := ha0.mono (ItRd.mono gq8)
    replace h23 := h23.mono (ItRd.mono gq8)
    replace h54 := ItRd.mono gq8 _ _ h54
    replace v47 := v47.mono gq8
    replace v50 := v50.mono gq8
    replace h52 := h52.mono (ItRd.mono gq8)
    replace h74 := h74.mono (ItRd.mono (Ψ := (More w0 Φ (B72 ++ (B60 ++ B19)))) (fun w q => More.flat q))
    have m83 := o78.mx
    refine Z18 9 rfl (by kernel_rfl) rfl (Z112 (l := [.bool false, .slice none 0 0, .slice none 0 0]) (cs := [.bool (x39.list), sl ob61 0 x59.length c62, sl ob75 0 x71.length c76]) [(0, [.bool (x39.list)]), (1, [sl ob61 0 x59.length c62]), (2, [sl ob75 0 x71.length c76])] rfl rfl rfl rfl rfl rfl rfl) rfl (UW.mem (M' := (ob75, blk (cs73 ++ r77) 25) :: (some b57, blk [.bool (x39.list), .slice A45 x39.data.length c46, .slice A48 x39.items.length c49] 25) :: (ob24, blk (cs22 ++ r26) 25) :: (((ob61, blk ((u8s x59) ++ r63) 5) :: (B72 ++ (B60 ++ B19))) ++ N)) (fun w m => m.pick [0, 2, 3, 1] 4 rfl rfl) ?_)
    have gq9 : ∀ w, More w0 Φ ((ob61, blk ((u8s x59) ++ r63) 5) :: (B72 ++ (B60 ++ B19))) w → More w0 Φ (B72 ++ (B60 ++ B19)) w := fun w q => More.mono (fun w m => (m).tail) q
    replace va0 := va0.mono gq9
    replace ha0 := ha0.mono (ItRd.mono gq9)
    replace h23 := h23.mono (ItRd.mono gq9)
    replace h54 := ItRd.mono gq9 _ _ h54
    replace v47 := v47.mono gq9
    replace v50 := v50.mono gq9
    replace h52 := h52.mono (ItRd.mono gq9)
    replace h74 := h74.mono (ItRd.mono gq9)
    have v86 : View (More w0 Φ ((ob61, blk ((u8s x59) ++ r63) 5) :: (B72 ++ (B60 ++ B19)))) ((ob61).map fun k => ⟨k, 0, none⟩) x59.length c62 1 (u8s x59) := o64.view (by decide) (fun w q => q.2.sublist (List.singleton_sublist.2 (List.mem_cons_self ..)))
    refine UW.mem (M' := (some b57, blk [.bool (x39.list), .slice A45 x39.data.length c46, .slice A48 x39.items.length c49] 25) :: (ob24, blk (cs22 ++ r26) 25) :: (((ob75, blk (cs73 ++ r77) 25) :: ((ob61, blk ((u8s x59) ++ r63) 5) :: (B72 ++ (B60 ++ B19)))) ++ N)) (fun w m => m.pick [1, 2, 0] 3 rfl rfl) ?_
    have gq10 : ∀ w, More w0 Φ ((ob75, blk (cs73 ++ r77) 25) :: ((ob61, blk ((u8s x59) ++ r63) 5) :: (B72 ++ (B60 ++ B19)))) w → More w0 Φ ((ob61, blk ((u8s x59) ++ r63) 5) :: (B72 ++ (B60 ++ B19))) w := fun w q => More.mono (fun w m => (m).tail) q
    replace va0 := va0.mono gq10
    replace ha0 := ha0.mono (ItRd.mono gq10)
    replace h23 := h23.mono (ItRd.mono gq10)
    replace h54 := ItRd.mono gq10 _ _ h54
    replace v47 := v47.mono gq10
    replace v50 := v50.mono gq10
    replace h52 := h52.mono (ItRd.mono gq10)
    replace v86 := v86.mono gq10
    replace h74 := h74.mono (ItRd.mono gq10)
    have v87 : View (More w0 Φ ((ob75, blk (cs73 ++ r77) 25) :: ((ob61, blk ((u8s x59) ++ r63) 5) :: (B72 ++ (B60 ++ B19))))) ((ob75).map fun k => ⟨k, 0, none⟩) x71.length c76 3 cs73 := o78.view (by decide) (fun w q => q.2.sublist (List.singleton_sublist.2 (List.mem_cons_self ..)))
    refine UW.new 10 rfl (by kernel_rfl) rfl (NV.bsA rfl rfl (by intro x hx; simp at hx; subst hx; exact rfl) rfl rfl rfl (by decide) (by decide) rfl) rfl (fun b84 => ?_)
    have h89 : Reps (ItRd (More w0 Φ ((ob75, blk (cs73 ++ r77) 25) :: ((ob61, blk ((u8s x59) ++ r63) 5) :: (B72 ++ (B60 ++ B19)))))) (([.bool (x39.list), .slice ((ob61).map fun k => ⟨k, 0, none⟩) x59.length c62, .slice ((ob75).map fun k => ⟨k, 0, none⟩) x71.length c76] : List Value)) [(It.mk (x39.list) x59 x71)] := Reps.one (ItRd.mk v86 v87 h74)
    refine UW.mem (M' := (((some b84), blk ((([.bool (x39.list), .slice ((ob61).map fun k => ⟨k, 0, none⟩) x59.length c62, .slice ((ob75).map fun k => ⟨k, 0, none⟩) x71.length c76] : List Value)) ++ []) 25) :: (some b57, blk [.bool (x39.list), .slice A45 x39.data.length c46, .slice A48 x39.items.length c49] 25) :: (ob24, blk (cs22 ++ r26) 25) :: (((ob75, blk (cs73 ++ r77) 25) :: ((ob61, blk ((u8s x59) ++ r63) 5) :: (B72 ++ (B60 ++ B19)))) ++ N))) (fun w m => m) ?_
    have o85 : OwnS (some b84) ([(It.mk (x39.list) x59 x71)] : List (It)).length 1 3 (([.bool (x39.list), .slice ((ob61).map fun k => ⟨k, 0, none⟩) x59.length c62, .slice ((ob75).map fun k => ⟨k, 0, none⟩) x71.length c76] : List Value)) [] := ⟨by simp [ItRd], by simp [ItRd], (fun h => nomatch h), by simp⟩
    have mx_o85 := o85.mx
    refine UW.slot (sl (some b84) 0 ([(It.mk (x39.list) x59 x71)] : List (It)).length 1) (rfl) (UW.nil (by kernel_rfl) (OW.rot2 ?_))
    obtain ⟨g90, hl31⟩ := Z115 hl31
    have h95 := h23.app h89
    refine OW.appendOwn (s := 3) rfl rfl rfl rfl rfl rfl o27 (fun w m => m.rd0 (List.Mem.tail _ Zh) (fun e => o85.nilc (by decide) e)) o85.n (h89.cell1 ItRd.one) (o85.zeroO (by decide)) (by decide) (by decide) (by first | omega | (simp only [i25, List.length_nil]; omega)) rfl rfl ((l21 ++ ([(It.mk (x39.list) x59 x71)] : List (It))).length) (cs22 ++ (([.bool (x39.list), .slice ((ob61).map fun k => ⟨k, 0, none⟩) x59.length c62, .slice ((ob75).map fun k => ⟨k, 0, none⟩) x71.length c76] : List Value))) (List.length_append ..).symm rfl (fun ob91 r92 c93 o94 => ?_)
    have m96 := o94.mx
    refine Z0 (Z5 rfl) rfl (Z6 (Z27 (Z1 (Z2 (Z0 (RV.add rfl rfl (by omega)) rfl (Z7 (.int .i64 (((n28 + 1) : Nat) : Int)) (by first | rfl | (congr 1) | (congr 1; omega)) (Z0 (Z3 rfl) rfl (Z6 ?_))))))))
    exact Z114 (k' := k30) (Nat.lt_succ_self _) ⟨(l21 ++ ([(It.mk (x39.list) x59 x71)] : List (It))), (n28 + 1), ((ob75, blk (cs73 ++ r77) 25) :: ((ob61, blk ((u8s x59) ++ r63) 5) :: (B72 ++ (B60 ++ B19)))), (cs22 ++ (([.bool (x39.list), .slice ((ob61).map fun k => ⟨k, 0, none⟩) x59.length c62, .slice ((ob75).map fun k => ⟨k, 0, none⟩) x71.length c76] : List Value))), ob91, c93, r92, hl31, (fun w m => hB20 w (((((m).tail).tail).appR).appR)), h95, o94, (by omega), rfl, rfl⟩ ⟨rfl, rfl, rfl, rfl, trivial⟩ (fun w m => m.pick [0] 3 rfl rfl)
   ·replace hl31 := if_f hl31 h38
    refine Z14 rfl (decide_eq_false h38) (CW.exit (Z9 (Z9 (Z15 ?_))))
    exact QW.join ⟨l21, B19, cs22, ob24, c25, r26, (Zi hl31).symm, (fun w m => hB20 w (m)), h23, o27, rfl, rfl⟩ ⟨rfl, trivial⟩ (fun w m => m.pick [0] 1 rfl rfl)
theorem rlp_twin_does (w0 : World) (Φ : Ctx) (N : List Ent) (hΦ : ∀ w, Mem w0 w N → Φ w) (A0_ : Option Addr) (c0_ : Nat) (cs0_ : List Value) (a0 : List (It)) (res0 : List (It)) (va0 : View Φ A0_ a0.length c0_ 3 cs0_) (ha0 : Reps (ItRd Φ) cs0_ a0) (hf : rlp_twin a0 = some res0) : DoesG Tryd.prog 82 [.slice A0_ a0.length c0_] w0 [] N (fun v G => ∃ B : List Ent, ∃ cr0 : List Value, ∃ or0 : Option Nat, ∃ kr0 : Nat, ∃ rr0 : List Value, (Reps (ItRd (More w0 Φ B)) cr0 res0) ∧ (OwnS or0 res0.length kr0 3 cr0 rr0) ∧ v = sl or0 0 res0.length kr0 ∧ G = (or0, blk (cr0 ++ rr0) 25) :: B) := rlp_twin_rec w0 _ Φ N hΦ A0_ c0_ cs0_ a0 res0 va0 ha0 hf
theorem rlp_size_rec (w0 : World) : ∀ (kf : Nat) (Φ : Ctx) (N : List Ent) (hΦ : ∀ w, Mem w0 w N → Φ w) (cs0_ : List Value) (a0 : It) (res0 : Nat) (ha0 : ItRd Φ cs0_ a0) (hf : rlp_size.r kf a0 = some res0), DoesG Tryd.prog 100 [.agg cs0_.toArray] w0 [] N (fun v G => (res0 ≤ 9223372036854775807) ∧ v = .int .i64 ((res0 : Nat) : Int)) := by
 intro kf
 induction kf with
 | zero => intro Φ N hΦ cs0_ a0 res0 ha0 hf; rw [rlp_size.r] at hf; cases hf
 | succ kf ih =>
  intro Φ N hΦ cs0_ a0 res0 ha0 hf
  rw [rlp_size.r] at hf
  replace ha0 := ItRd.mono (Ψ := More w0 Φ []) (fun w q => q.1) _ _ ha0
  have h10 := ha0
  obtain ⟨A1, c2, A4, c5, cs7, e9, v3, v6, h8⟩ := ItRd.opn ha0
  subst e9
  have m11 := v3.mx
  have m12 := v6.mx
  refine DoesG.enter Tryd.func100 rfl Tryd.ntmps100 rfl (M := (([] ++ N))) rfl (Z4 (Z2 (OW.boxA rfl rfl (fun b13 => (Z0 (Z5 rfl) rfl (Z6 (Z1 (Z4 (Z4 (Z2 (Z0 (Z30 rfl rfl rfl rfl) rfl (Z0 (Z29 rfl Zh rfl rfl rfl rfl) rfl (Z0 (RV.not rfl) rfl ?_)))))))))))))
  refine Z6 (Z1 ?_)
  by_cases h14 : a0.list = true
  ·replace hf := if_t hf h14
   refine Z14 rfl (congrArg (fun b => !b) (h14)) (CW.skip (Z1 (Z4 (Z2 (Z0 (Z5 rfl) rfl (Z6 (Z1 (Z4 (Z4 (Z2 (Z0 (Z30 rfl rfl rfl rfl) rfl (Z0 (Z29 rfl Zh rfl rfl rfl rfl) rfl (Z0 (RV.len rfl rfl) rfl (Z0 (Z3 rfl) rfl ?_))))))))))))))
   refine Z6 (Z1 ?_)
   obtain ⟨q15, hq16, hf⟩ := Z102 hf
   refine Z120 (fun L' M' => ∃ n17 : Nat, q15 = n17 ∧ (n17 ≤ 9223372036854775807) ∧ L' = [(3, .int .i64 ((n17 : Nat) : Int))] ∧ M' = (([] ++ N))) ?_ ?_
   ·rintro L20 M21 ⟨n17, e19, b18, e22, e23⟩
    rw [e22, e23]
    clear e22 e23 L20 M21
    clear hq16
    rw [e19] at hf
    clear e19
    try dsimp only at hf
    refine Z1 (Z4 (Z2 (Z0 (Z3 rfl) rfl ?_)))
    obtain ⟨x25, hx24, hf⟩ := Z102 hf
    refine Z12 Tryd.call101 rfl (rlp_head_does w0 (More w0 Φ []) (([] ++ N)) (fun w m => More.of hΦ 0 m rfl) (192#8) n17 x25 (by omega) hx24) rfl rfl ?_
    rintro L31 M32 ⟨B26, ob27, c28, r29, o30, e33, e34⟩
    rw [e33, e34]
    clear e33 e34 L31 M32
    refine Z20 (M' := ((ob27, blk ((u8s x25) ++ r29) 5) :: ((B26 ++ []) ++ N))) (fun w m => by have h := Z110 (A := B26) m 1 0 rfl rfl; exact h) ?_
    have m35 := o30.mx
    refine Z0 (RV.len rfl rfl) rfl (Z0 (Z3 rfl) rfl ?_)
    obtain ⟨g36, hf⟩ := Z115 hf
    refine Z0 (RV.add rfl rfl (by omega)) rfl (Z7 (.int .i64 (((x25.length + n17) : Nat) : Int)) (by first | rfl | (congr 1) | (congr 1; omega)) (Z0 (Z5 rfl) rfl (Z6 (Z1 (CW.ret ?_)))))
    have e0 := Zi hf
    subst e0
    refine Z108 (rs := [.tmp 2]) ([.int .i64 (((x25.length + n17) : Nat) : Int)]) ((ob27, blk ((u8s x25) ++ r29) 5) :: (B26 ++ [])) rfl ?_ rfl ?_ ?_ _ (.inl rfl)
    ·exact ⟨rfl, trivial⟩
    ·exact ⟨(by omega), rfl⟩
    ·exact (fun w m => m)
   ·skip
    refine CW.block (Z121 (fun k L' M' => ∃ n37 : Nat, ∃ n39 : Nat, (rlp_size.l1 a0 (rlp_size.r kf) k n37 n39) = some q15 ∧ (n37 ≤ 9223372036854775807) ∧ (n39 ≤ 9223372036854775807) ∧ L' = [(3, .int .i64 ((n37 : Nat) : Int)), (30, .slice A4 a0.items.length c5), (31, .int .i64 ((a0.items.length : Nat) : Int)), (32, .int .i64 ((n39 : Nat) : Int))] ∧ M' = (([] ++ N))) (k0 := (a0.items.length - 0 + 2)) ⟨0, 0, hq16, (by omega), (by omega), rfl, rfl⟩ ⟨rfl, rfl, rfl, rfl, trivial⟩ (fun w m => m.pick [] 1 rfl rfl) ?_)
    clear hq16
    rintro k41 L44 M45 ⟨n37, n39, hl42, b38, b40, e46, e47⟩
    rw [e46, e47]
    clear e46 e47 L44 M45
    rcases k41 with _ | k41
    ·rw [rlp_size.l1] at hl42; cases hl42
    rw [rlp_size.l1] at hl42
    refine Z4 (Z2 (Z0 (RV.lss rfl rfl) rfl (Z7 (.bool (decide (n39 < a0.items.length))) (congrArg Value.bool (decide_eq_decide.2 (by omega))) (Z6 (Z1 (Z4 ?_))))))
    by_cases h48 : n39 < a0.items.length
    ·replace hl42 := if_t hl42 h48
     refine Z13 rfl (decide_eq_true h48) (CW.skip (Z1 (Z4 (CW.block (Z4 (Z2 ?_))))))
     obtain ⟨x49, hx50, hl42⟩ := Z102 hl42
     have hl51 := Z130 hx50
     refine Z0 (Z157 (n39) rfl rfl rfl rfl rfl (v6.isSome (by decide) hl51) (by omega)) rfl ?_
     obtain ⟨cs52, h53, h54⟩ := h8.get ItRd.len hx50
     have h64 := h53
     obtain ⟨A55, c56, A58, c59, cs61, e63, v57, v60, h62⟩ := ItRd.opn h53
     subst e63
     have m65 := v57.mx
     have m66 := v60.mx
     refine Z0 (Z156 rfl rfl rfl rfl (fun w m => v6.load (More.of hΦ 0 m rfl) h54) rfl) rfl (OW.alloc (l := [.bool false, .slice none 0 0, .slice none 0 0]) rfl rfl rfl (fun b67 => ?_))
     refine Z28 (Z109 rfl rfl rfl (by intro u hu; simp at hu; rcases hu with rfl | rfl | rfl <;> rfl) rfl rfl rfl) ?_
     refine Z6 (Z1 (Z2 (Z0 (Z3 rfl) rfl (Z0 (Z22 rfl Zh rfl rfl rfl rfl rfl) rfl ?_))))
     obtain ⟨x69, hx68, hl42⟩ := Z102 hl42
     refine Z12 Tryd.call100 rfl (ih (More w0 Φ []) ((some b67, blk [.bool (x49.list), .slice A55 x49.data.length c56, .slice A58 x49.items.length c59] 25) :: ([] ++ N)) (fun w m => More.of hΦ 1 m rfl) [.bool (x49.list), .slice A55 x49.data.length c56, .slice A58 x49.items.length c59] x49 x69 h64 hx68) rfl rfl ?_
     rintro _ G71 ⟨b70, rfl⟩
     refine Z20 (M' := ((some b67, blk [.bool (x49.list), .slice A55 x49.data.length c56, .slice A58 x49.items.length c59] 25) :: ([] ++ N))) (fun w m => m.appR) ?_
     obtain ⟨g73, hl42⟩ := Z115 hl42
     refine Z0 (RV.add rfl rfl (by omega)) rfl (Z7 (.int .i64 (((n37 + x69) : Nat) : Int)) (by first | rfl | (congr 1) | (congr 1; omega)) (Z0 (Z5 rfl) rfl (Z6 (Z27 (Z1 (Z2 (Z0 (RV.add rfl rfl (by omega)) rfl (Z7 (.int .i64 (((n39 + 1) : Nat) : Int)) (by first | rfl | (congr 1) | (congr 1; omega)) (Z0 (Z3 rfl) rfl (Z6 ?_))))))))))
     exact Z114 (k' := k41) (Nat.lt_succ_self _) ⟨(n37 + x69), (n39 + 1), hl42, (by omega), (by omega), rfl, rfl⟩ ⟨rfl, rfl, rfl, rfl, trivial⟩ (fun w m => m.pick [] 1 rfl rfl)
    ·replace hl42 := if_f hl42 h48
     refine Z14 rfl (decide_eq_false h48) (CW.exit (Z9 (Z9 (Z15 ?_))))
     exact QW.join ⟨n37, (Zi hl42).symm, (by omega), rfl, rfl⟩ ⟨rfl, trivial⟩ (fun w m => m.pick [] 0 rfl rfl)
  ·replace hf := if_f hf h14
   refine Z13 rfl (congrArg (fun b => !b) (Bool.eq_false_iff.2 h14)) (Z4 (Z4 ?_))
   obtain ⟨q74, hq75, hf⟩ := Z102 hf
   refine Z120 (fun L' M' => ∃ p76 : Bool, q74 = p76 ∧ L' = [(1, ptr (some b13) 0), (19, .bool (p76))] ∧ M' = ((some b13, blk [.bool (a0.list), .slice A1 a0.data.length c2, .slice A4 a0.items.length c5] 25) :: ([] ++ N))) ?_ ?_
   ·rintro L78 M79 ⟨p76, e77, e80, e81⟩
    rw [e80, e81]
    clear e80 e81 L78 M79
    clear hq75
    rw [e77] at hf
    clear e77
    try dsimp only at hf
    refine Z1 ?_
    by_cases h82 : p76 = true
    ·replace hf := if_t hf h82
     refine Z13 rfl (h82) (Z4 (Z2 (Z0 (Z5 rfl) rfl (Z6 (Z1 (CW.ret (Z8 (Z8 ?_))))))))
     have e0 := Zi hf
     subst e0
     refine Z108 (rs := [.tmp 2]) ([.int .i64 (1 : Int)]) ((some b13, blk [.bool (a0.list), .slice A1 a0.data.length c2, .slice A4 a0.items.length c5] 25) :: []) rfl ?_ rfl ?_ ?_ _ (.inl rfl)
     ·exact ⟨rfl, trivial⟩
     ·exact ⟨(by omega), rfl⟩
     ·exact (fun w m => m)
    ·replace hf := if_f hf h82
     refine Z14 rfl (Bool.eq_false_iff.2 h82) (CW.skip (Z1 (Z4 (Z159 10 mixed (by kernel_rfl) rfl (Z18 0 rfl (by kernel_rfl) rfl (Z30 rfl rfl rfl rfl) rfl (Z18 1 rfl (by kernel_rfl) rfl (Z29 rfl Zh rfl rfl rfl rfl) rfl (Z18 2 rfl (by kernel_rfl) rfl (RV.len rfl rfl) rfl (Z18 5 rfl (by kernel_rfl) rfl (Z30 rfl rfl rfl rfl) rfl (Z18 6 rfl (by kernel_rfl) rfl (Z29 rfl Zh rfl rfl rfl rfl) rfl ?_)))))))))
     refine Z18 7 rfl (by kernel_rfl) rfl (RV.len rfl rfl) rfl ?_
     obtain ⟨x84, hx83, hf⟩ := Z102 hf
     refine Z25 3 rfl (by kernel_rfl) rfl Tryd.call101 rfl (fun N' hN' => rlp_head_does w0 (More w0 Φ []) N' (fun w m => More.of hΦ 1 (hN' w m) rfl) (128#8) a0.data.length x84 (by omega) hx83) rfl ?_
     rintro L90 M91 ⟨B85, ob86, c87, r88, o89, e92, e93⟩
     rw [e92, e93]
     clear e92 e93 L90 M91
     refine UW.mem (M' := ((ob86, blk ((u8s x84) ++ r88) 5) :: (some b13, blk [.bool (a0.list), .slice A1 a0.data.length c2, .slice A4 a0.items.length c5] 25) :: ((B85 ++ []) ++ N))) (fun w m => by have h := Z110 (A := B85) m 1 1 rfl rfl; exact h) ?_
     have gq1 : ∀ w, More w0 Φ (B85 ++ []) w → More w0 Φ [] w := fun w q => More.mono (fun w m => (m).appR) q
     replace v3 := v3.mono gq1
     replace h10 := ItRd.mono gq1 _ _ h10
     replace v6 := v6.mono gq1
     replace h8 := h8.mono (ItRd.mono gq1)
     have m94 := o89.mx
     refine Z18 4 rfl (by kernel_rfl) rfl (RV.len rfl rfl) rfl (Z18 8 rfl (by kernel_rfl) rfl (RV.add rfl rfl (by omega)) rfl (UW.slot (.int .i64 (((x84.length + a0.data.length) : Nat) : Int)) (by first | rfl | (congr 1) | (congr 1; omega)) (Z18 9 rfl (by kernel_rfl) rfl (Z5 rfl) rfl (UW.nil (by kernel_rfl) (Z6 (Z1 (CW.ret (Z8 ?_))))))))
     have e0 := Zi hf
     subst e0
     refine Z108 (rs := [.tmp 2]) ([.int .i64 (((x84.length + a0.data.length) : Nat) : Int)]) ((ob86, blk ((u8s x84) ++ r88) 5) :: (some b13, blk [.bool (a0.list), .slice A1 a0.data.length c2, .slice A4 a0.items.length c5] 25) :: (B85 ++ [])) rfl ?_ rfl ?_ ?_ _ (.inl rfl)
     ·exact ⟨rfl, trivial⟩
     ·exact ⟨(by omega), rfl⟩
     ·exact (fun w m => m)
   ·skip
    refine Z2 (Z0 (Z30 rfl rfl rfl rfl) rfl (Z0 (Z29 rfl Zh rfl rfl rfl rfl) rfl (Z0 (RV.len rfl rfl) rfl (Z0 (RV.eql rfl rfl) rfl (Z7 (.bool (decide (a0.data.length = 1))) (congrArg Value.bool (decide_eq_decide.2 (by omega))) (Z0 (Z3 rfl) rfl ?_))))))
    by_cases h95 : a0.data.length = 1
    ·replace hq75 := if_t hq75 h95
     refine Z7 (.bool true) (congrArg Value.bool (decide_eq_true h95)) (Z24 rfl (Z0 (Z30 rfl rfl rfl rfl) rfl (Z24 rfl (Z0 (Z29 rfl Zh rfl rfl rfl rfl) rfl (Z24 rfl ?_)))))
     obtain ⟨x96, hx97, hq75⟩ := Z102 hq75
     have hl98 := Z130 hx97
     refine Z0 (Z179 (0) rfl rfl rfl rfl rfl (v3.isSome (by decide) hl98) (by omega)) rfl (Z24 rfl (Z0 (Z21 rfl rfl rfl (fun w m => v3.cell (More.of hΦ 1 m rfl) (u8s_at hx97))) rfl (Z24 rfl (Z0 (RV.lss rfl rfl) rfl (Z7 (.bool (decide (x96.toNat < 128))) (congrArg Value.bool (decide_eq_decide.2 (by first | exact Int.ofNat_le | exact Int.ofNat_lt | omega | (simp; omega) | simp))) (Z0 (Z105 rfl rfl rfl) rfl (Z6 ?_)))))))
     exact QW.join ⟨(decide (x96.toNat < 128)), (Zi hq75).symm, rfl, rfl⟩ ⟨rfl, rfl, trivial⟩ (fun w m => m.pick [0] 1 rfl rfl)
    ·replace hq75 := if_f hq75 h95
     refine Z7 (.bool false) (congrArg Value.bool (decide_eq_false h95)) (Z23 rfl rfl rfl (Z23 rfl rfl rfl (Z23 rfl rfl rfl (Z23 rfl rfl rfl (Z23 rfl rfl rfl (Z0 (Z106 rfl rfl rfl) rfl (Z6 ?_)))))))
     exact QW.join ⟨false, (Zi hq75).symm, rfl, rfl⟩ ⟨rfl, rfl, trivial⟩ (fun w m => m.pick [0] 1 rfl rfl)
theorem rlp_size_does (w0 : World) (Φ : Ctx) (N : List Ent) (hΦ : ∀ w, Mem w0 w N → Φ w) (cs0_ : List Value) (a0 : It) (res0 : Nat) (ha0 : ItRd Φ cs0_ a0) (hf : rlp_size a0 = some res0) : DoesG Tryd.prog 100 [.agg cs0_.toArray] w0 [] N (fun v G => (res0 ≤ 9223372036854775807) ∧ v = .int .i64 ((res0 : Nat) : Int)) := rlp_size_rec w0 _ Φ N hΦ cs0_ a0 res0 ha0 hf
theorem waybillref07_size_rec (w0 : World) : ∀ (kf : Nat) (Φ : Ctx) (N : List Ent) (hΦ : ∀ w, Mem w0 w N → Φ w) (cs0_ : List Value) (a0 : It) (res0 : Nat) (ha0 : ItRd Φ cs0_ a0) (hf : waybillref07_size.r kf a0 = some res0), DoesG Tryd.prog 124 [.agg cs0_.toArray] w0 [] N (fun v G => (res0 ≤ 9223372036854775807) ∧ v = .int .i64 ((res0 : Nat) : Int)) := by
 intro kf
 induction kf with
 | zero => intro Φ N hΦ cs0_ a0 res0 ha0 hf; rw [waybillref07_size.r] at hf; cases hf
 | succ kf ih =>
  intro Φ N hΦ cs0_ a0 res0 ha0 hf
  rw [waybillref07_size.r] at hf
  replace ha0 := ItRd.mono (Ψ := More w0 Φ []) (fun w q => q.1) _ _ ha0
  have h10 := ha0
  obtain ⟨A1, c2, A4, c5, cs7, e9, v3, v6, h8⟩ := ItRd.opn ha0
  subst e9
  have m11 := v3.mx
  have m12 := v6.mx
  refine DoesG.enter Tryd.func124 rfl Tryd.ntmps124 rfl (M := (([] ++ N))) rfl (Z4 (Z2 (OW.boxA rfl rfl (fun b13 => (Z0 (Z5 rfl) rfl (Z6 (Z1 (Z4 (Z2 (Z0 (Z30 rfl rfl rfl rfl) rfl (Z0 (Z29 rfl Zh rfl rfl rfl rfl) rfl (Z0 (RV.len rfl rfl) rfl ?_))))))))))))
  refine Z0 (Z5 rfl) rfl (Z6 (Z1 (Z4 (Z4 ?_))))
  obtain ⟨q14, hq15, hf⟩ := Z102 hf
  refine Z120 (fun L' M' => ∃ p16 : Bool, q14 = p16 ∧ L' = [(1, ptr (some b13) 0), (3, .int .i64 ((a0.data.length : Nat) : Int)), (21, .bool (p16))] ∧ M' = ((some b13, blk [.bool (a0.list), .slice A1 a0.data.length c2, .slice A4 a0.items.length c5] 25) :: ([] ++ N))) ?_ ?_
  ·rintro L18 M19 ⟨p16, e17, e20, e21⟩
   rw [e20, e21]
   clear e20 e21 L18 M19
   clear hq15
   rw [e17] at hf
   clear e17
   try dsimp only at hf
   refine Z1 ?_
   by_cases h22 : p16 = true
   ·replace hf := if_t hf h22
    refine Z13 rfl (h22) (Z4 (Z2 (Z0 (Z5 rfl) rfl (Z6 (Z1 (CW.ret (Z8 ?_)))))))
    have e0 := Zi hf
    subst e0
    refine Z108 (rs := [.tmp 2]) ([.int .i64 (1 : Int)]) ((some b13, blk [.bool (a0.list), .slice A1 a0.data.length c2, .slice A4 a0.items.length c5] 25) :: []) rfl ?_ rfl ?_ ?_ _ (.inl rfl)
    ·exact ⟨rfl, trivial⟩
    ·exact ⟨(by omega), rfl⟩
    ·exact (fun w m => m)
   ·replace hf := if_f hf h22
    refine Z14 rfl (Bool.eq_false_iff.2 h22) (CW.skip (Z1 (Z4 (Z4 (Z2 (Z0 (Z5 rfl) rfl (Z6 (Z1 ?_))))))))
    obtain ⟨q23, hq24, hf⟩ := Z102 hf
    refine Z120 (fun L' M' => ∃ n25 : Nat, q23 = n25 ∧ (n25 ≤ 9223372036854775807) ∧ L' = [(3, .int .i64 ((n25 : Nat) : Int))] ∧ M' = (([] ++ N))) ?_ ?_
    ·rintro L28 M29 ⟨n25, e27, b26, e30, e31⟩
     rw [e30, e31]
     clear e30 e31 L28 M29
     clear hq24
     rw [e27] at hf
     clear e27
     try dsimp only at hf
     refine Z1 (Z4 (Z2 (Z0 (Z3 rfl) rfl ?_)))
     obtain ⟨x33, hx32, hf⟩ := Z102 hf
     refine Z12 Tryd.call125 rfl (Z147 w0 (More w0 Φ []) (([] ++ N)) (fun w m => More.of hΦ 0 m rfl) n25 128 x33 (by omega) (by omega) hx32) rfl rfl ?_
     rintro L39 M40 ⟨B34, ob35, c36, r37, o38, e41, e42⟩
     rw [e41, e42]
     clear e41 e42 L39 M40
     refine Z20 (M' := ((ob35, blk ((u8s x33) ++ r37) 5) :: ((B34 ++ []) ++ N))) (fun w m => by have h := Z110 (A := B34) m 1 0 rfl rfl; exact h) ?_
     have m43 := o38.mx
     refine Z0 (RV.len rfl rfl) rfl (Z0 (Z3 rfl) rfl ?_)
     obtain ⟨g44, hf⟩ := Z115 hf
     refine Z0 (RV.add rfl rfl (by omega)) rfl (Z7 (.int .i64 (((x33.length + n25) : Nat) : Int)) (by first | rfl | (congr 1) | (congr 1; omega)) (Z0 (Z5 rfl) rfl (Z6 (Z1 (CW.ret ?_)))))
     have e0 := Zi hf
     subst e0
     refine Z108 (rs := [.tmp 2]) ([.int .i64 (((x33.length + n25) : Nat) : Int)]) ((ob35, blk ((u8s x33) ++ r37) 5) :: (B34 ++ [])) rfl ?_ rfl ?_ ?_ _ (.inl rfl)
     ·exact ⟨rfl, trivial⟩
     ·exact ⟨(by omega), rfl⟩
     ·exact (fun w m => m)
    ·skip
     refine CW.block (Z121 (fun k L' M' => ∃ n45 : Nat, ∃ n47 : Nat, (waybillref07_size.l1 a0 (waybillref07_size.r kf) k n45 n47) = some q23 ∧ (n45 ≤ 9223372036854775807) ∧ (n47 ≤ 9223372036854775807) ∧ L' = [(1, ptr (some b13) 0), (3, .int .i64 ((n45 : Nat) : Int)), (4, .int .i64 ((n47 : Nat) : Int))] ∧ M' = ((some b13, blk [.bool (a0.list), .slice A1 a0.data.length c2, .slice A4 a0.items.length c5] 25) :: ([] ++ N))) (k0 := (a0.items.length - 0 + 2)) ⟨a0.data.length, 0, hq24, (by omega), (by omega), rfl, rfl⟩ ⟨rfl, rfl, rfl, trivial⟩ (fun w m => m.pick [0] 1 rfl rfl) ?_)
     clear hq24
     rintro k49 L52 M53 ⟨n45, n47, hl50, b46, b48, e54, e55⟩
     rw [e54, e55]
     clear e54 e55 L52 M53
     rcases k49 with _ | k49
     ·rw [waybillref07_size.l1] at hl50; cases hl50
     rw [waybillref07_size.l1] at hl50
     refine Z4 (Z4 (Z2 (Z0 (Z3 rfl) rfl (Z0 (Z30 rfl rfl rfl rfl) rfl (Z0 (Z29 rfl Zh rfl rfl rfl rfl) rfl (Z0 (RV.len rfl rfl) rfl (Z0 (RV.lss rfl rfl) rfl (Z7 (.bool (decide (n47 < a0.items.length))) (congrArg Value.bool (decide_eq_decide.2 (by omega))) (Z6 (Z1 ?_))))))))))
     by_cases h56 : n47 < a0.items.length
     ·replace hl50 := if_t hl50 h56
      refine Z13 rfl (decide_eq_true h56) (CW.skip (Z1 (Z4 (CW.block (Z2 (Z0 (Z3 rfl) rfl (Z0 (Z30 rfl rfl rfl rfl) rfl (Z0 (Z29 rfl Zh rfl rfl rfl rfl) rfl (Z0 (Z3 rfl) rfl ?_)))))))))
      obtain ⟨x57, hx58, hl50⟩ := Z102 hl50
      have hl59 := Z130 hx58
      refine Z0 (Z157 (n47) rfl rfl rfl rfl rfl (v6.isSome (by decide) hl59) (by omega)) rfl ?_
      obtain ⟨cs60, h61, h62⟩ := h8.get ItRd.len hx58
      have h72 := h61
      obtain ⟨A63, c64, A66, c67, cs69, e71, v65, v68, h70⟩ := ItRd.opn h61
      subst e71
      have m73 := v65.mx
      have m74 := v68.mx
      refine Z0 (Z156 rfl rfl rfl rfl (fun w m => v6.load (More.of hΦ 1 m rfl) h62) rfl) rfl ?_
      obtain ⟨x76, hx75, hl50⟩ := Z102 hl50
      refine Z12 Tryd.call124 rfl (ih (More w0 Φ []) ((some b13, blk [.bool (a0.list), .slice A1 a0.data.length c2, .slice A4 a0.items.length c5] 25) :: ([] ++ N)) (fun w m => More.of hΦ 1 m rfl) [.bool (x57.list), .slice A63 x57.data.length c64, .slice A66 x57.items.length c67] x57 x76 h72 hx75) rfl rfl ?_
      rintro _ G78 ⟨b77, rfl⟩
      refine Z20 (M' := ((some b13, blk [.bool (a0.list), .slice A1 a0.data.length c2, .slice A4 a0.items.length c5] 25) :: ([] ++ N))) (fun w m => m.appR) ?_
      obtain ⟨g80, hl50⟩ := Z115 hl50
      refine Z0 (RV.add rfl rfl (by omega)) rfl (Z7 (.int .i64 (((n45 + x76) : Nat) : Int)) (by first | rfl | (congr 1) | (congr 1; omega)) (Z0 (Z5 rfl) rfl (Z6 (Z27 (Z1 (Z2 (Z0 (Z3 rfl) rfl (Z0 (RV.add rfl rfl (by omega)) rfl (Z7 (.int .i64 (((n47 + 1) : Nat) : Int)) (by first | rfl | (congr 1) | (congr 1; omega)) (Z0 (Z5 rfl) rfl ?_))))))))))
      refine Z6 ?_
      exact Z114 (k' := k49) (Nat.lt_succ_self _) ⟨(n45 + x76), (n47 + 1), hl50, (by omega), (by omega), rfl, rfl⟩ ⟨rfl, rfl, rfl, trivial⟩ (fun w m => m.pick [0] 1 rfl rfl)
     ·replace hl50 := if_f hl50 h56
      refine Z14 rfl (decide_eq_false h56) (CW.exit (Z9 (Z9 (Z15 ?_))))
      exact QW.join ⟨n45, (Zi hl50).symm, (by omega), rfl, rfl⟩ ⟨rfl, trivial⟩ (fun w m => m.pick [] 1 rfl rfl)
  ·skip
   refine Z2 (Z0 (Z30 rfl rfl rfl rfl) rfl (Z0 (Z29 rfl Zh rfl rfl rfl rfl) rfl (Z0 (RV.not rfl) rfl (Z0 (Z3 rfl) rfl ?_))))
   by_cases h81 : a0.list = true
   ·replace hq15 := if_t hq15 h81
    refine Z7 (.bool false) (congrArg Value.bool (congrArg (fun b => !b) (h81))) (Z23 rfl rfl rfl (Z23 rfl rfl rfl (Z0 (Z106 rfl rfl rfl) rfl (Z0 (Z3 rfl) rfl (Z23 rfl rfl rfl (Z23 rfl rfl rfl (Z23 rfl rfl rfl ?_)))))))
    refine Z23 rfl rfl rfl (Z23 rfl rfl rfl (Z0 (Z106 rfl rfl rfl) rfl (Z6 ?_)))
    exact QW.join ⟨false, (Zi hq15).symm, rfl, rfl⟩ ⟨rfl, rfl, rfl, trivial⟩ (fun w m => m.pick [0] 1 rfl rfl)
   ·replace hq15 := if_f hq15 h81
    refine Z7 (.bool true) (congrArg Value.bool (congrArg (fun b => !b) (Bool.eq_false_iff.2 h81))) (Z24 rfl (Z0 (Z3 rfl) rfl (Z24 rfl (Z0 (RV.eql rfl rfl) rfl (Z7 (.bool (decide (a0.data.length = 1))) (congrArg Value.bool (decide_eq_decide.2 (by omega))) (Z0 (Z105 rfl rfl rfl) rfl (Z0 (Z3 rfl) rfl ?_)))))))
    by_cases h82 : a0.data.length = 1
    ·replace hq15 := if_t hq15 h82
     refine Z7 (.bool true) (congrArg Value.bool (decide_eq_true h82)) (Z24 rfl (Z0 (Z30 rfl rfl rfl rfl) rfl (Z24 rfl (Z0 (Z29 rfl Zh rfl rfl rfl rfl) rfl (Z24 rfl ?_)))))
     obtain ⟨x83, hx84, hq15⟩ := Z102 hq15
     have hl85 := Z130 hx84
     refine Z0 (Z179 (0) rfl rfl rfl rfl rfl (v3.isSome (by decide) hl85) (by omega)) rfl (Z24 rfl (Z0 (Z21 rfl rfl rfl (fun w m => v3.cell (More.of hΦ 1 m rfl) (u8s_at hx84))) rfl (Z24 rfl (Z0 (RV.lss rfl rfl) rfl (Z7 (.bool (decide (x83.toNat < 128))) (congrArg Value.bool (decide_eq_decide.2 (by first | exact Int.ofNat_le | exact Int.ofNat_lt | omega | (simp; omega) | simp))) (Z0 (Z105 rfl rfl rfl) rfl (Z6 ?_)))))))
     exact QW.join ⟨(decide (x83.toNat < 128)), (Zi hq15).symm, rfl, rfl⟩ ⟨rfl, rfl, rfl, trivial⟩ (fun w m => m.pick [0] 1 rfl rfl)
    ·replace hq15 := if_f hq15 h82
     refine Z7 (.bool false) (congrArg Value.bool (decide_eq_false h82)) (Z23 rfl rfl rfl (Z23 rfl rfl rfl (Z23 rfl rfl rfl (Z23 rfl rfl rfl (Z23 rfl rfl rfl (Z0 (Z106 rfl rfl rfl) rfl (Z6 ?_)))))))
     exact QW.join ⟨false, (Zi hq15).symm, rfl, rfl⟩ ⟨rfl, rfl, rfl, trivial⟩ (fun w m => m.pick [0] 1 rfl rfl)
theorem waybillref07_size_does (w0 : World) (Φ : Ctx) (N : List Ent) (hΦ : ∀ w, Mem w0 w N → Φ w) (cs0_ : List Value) (a0 : It) (res0 : Nat) (ha0 : ItRd Φ cs0_ a0) (hf : waybillref07_size a0 = some res0) : DoesG Tryd.prog 124 [.agg cs0_.toArray] w0 [] N (fun v G => (res0 ≤ 9223372036854775807) ∧ v = .int .i64 ((res0 : Nat) : Int)) := waybillref07_size_rec w0 _ Φ N hΦ cs0_ a0 res0 ha0 hf
theorem rlp_sound_rec (w0 : World) : ∀ (kf : Nat) (Φ : Ctx) (N : List Ent) (hΦ : ∀ w, Mem w0 w N → Φ w) (cs0_ : List Value) (a0 : It) (res0 : Nat) (res1 : Bool) (ha0 : ItRd Φ cs0_ a0) (hf : rlp_sound.r kf a0 = some (res0, res1)), DoesG Tryd.prog 99 [.agg cs0_.toArray] w0 [] N (fun v G => (res0 ≤ 9223372036854775807) ∧ v = .tuple #[.int .i64 ((res0 : Nat) : Int), .bool res1]) := by
 intro kf
 induction kf with
 | zero => intro Φ N hΦ cs0_ a0 res0 res1 ha0 hf; rw [rlp_sound.r] at hf; cases hf
 | succ kf ih =>
  intro Φ N hΦ cs0_ a0 res0 res1 ha0 hf
  rw [rlp_sound.r] at hf
  replace ha0 := ItRd.mono (Ψ := More w0 Φ []) (fun w q => q.1) _ _ ha0
  have h10 := ha0
  obtain ⟨A1, c2, A4, c5, cs7, e9, v3, v6, h8⟩ := ItRd.opn ha0
  subst e9
  have m11 := v3.mx
  have m12 := v6.mx
  refine DoesG.enter Tryd.func99 rfl Tryd.ntmps99 rfl (M := (([] ++ N))) rfl (Z4 (Z2 (OW.boxA rfl rfl (fun b13 => (Z0 (Z5 rfl) rfl (Z0 (Z5 rfl) rfl (Z6 (Z1 (Z4 (Z4 (Z2 (Z0 (Z22 rfl Zh rfl rfl rfl rfl rfl) rfl ?_))))))))))))
  obtain ⟨x15, hx14, hf⟩ := Z102 hf
  refine Z12 Tryd.call113 rfl (rlp_odd_does w0 (More w0 Φ []) ((some b13, blk [.bool (a0.list), .slice A1 a0.data.length c2, .slice A4 a0.items.length c5] 25) :: ([] ++ N)) (fun w m => More.of hΦ 1 m rfl) [.bool (a0.list), .slice A1 a0.data.length c2, .slice A4 a0.items.length c5] a0 x15 h10 hx14) rfl rfl ?_
  rintro _ G16 rfl
  refine Z20 (M' := ((some b13, blk [.bool (a0.list), .slice A1 a0.data.length c2, .slice A4 a0.items.length c5] 25) :: ([] ++ N))) (fun w m => m.appR) (Z6 (Z1 ?_))
  by_cases h18 : x15 = true
  ·replace hf := if_t hf h18
   refine Z13 rfl (h18) (Z4 (Z2 (Z0 (Z5 rfl) rfl (Z0 (Z5 rfl) rfl (Z6 (Z1 (CW.ret (Z8 ?_))))))))
   have er0 := Zi hf
   obtain ⟨e0, er1⟩ := Prod.mk.inj er0
   clear er0
   subst e0
   subst er1
   refine Z108 (rs := [.tmp 2, .tmp 3]) ([.int .i64 (0 : Int), .bool false]) ((some b13, blk [.bool (a0.list), .slice A1 a0.data.length c2, .slice A4 a0.items.length c5] 25) :: []) rfl ?_ rfl ?_ ?_ _ (.inl rfl)
   ·exact ⟨rfl, rfl, trivial⟩
   ·exact ⟨(by omega), rfl⟩
   ·exact (fun w m => m)
  ·replace hf := if_f hf h18
   refine Z14 rfl (Bool.eq_false_iff.2 h18) (CW.skip (Z1 (Z4 (Z4 (Z2 (Z0 (Z30 rfl rfl rfl rfl) rfl (Z0 (Z29 rfl Zh rfl rfl rfl rfl) rfl (Z0 (RV.not rfl) rfl (Z6 (Z1 ?_))))))))))
   by_cases h19 : a0.list = true
   ·replace hf := if_t hf h19
    refine Z14 rfl (congrArg (fun b => !b) (h19)) (CW.skip (Z1 (Z4 (Z2 (Z0 (Z5 rfl) rfl (Z6 (Z1 (Z4 (Z4 (Z2 (Z0 (Z30 rfl rfl rfl rfl) rfl (Z0 (Z29 rfl Zh rfl rfl rfl rfl) rfl (Z0 (RV.len rfl rfl) rfl (Z0 (Z3 rfl) rfl ?_))))))))))))))
    refine Z6 (Z1 ?_)
    obtain ⟨q20, hq21, hf⟩ := Z102 hf
    refine Z120 (fun L' M' => ∃ n22 : Nat, q20 = Lp.go n22 ∧ (n22 ≤ 9223372036854775807) ∧ L' = [(4, .int .i64 ((n22 : Nat) : Int))] ∧ M' = (([] ++ N))) ?_ ?_
    ·rintro L25 M26 ⟨n22, e24, b23, e27, e28⟩
     rw [e27, e28]
     clear e27 e28 L25 M26
     clear hq21
     rw [e24] at hf
     clear e24
     try dsimp only at hf
     refine Z1 (Z4 (Z2 (Z0 (Z3 rfl) rfl ?_)))
     obtain ⟨g29, hf⟩ := Z115 hf
     refine Z0 (RV.add rfl rfl (by omega)) rfl (Z7 (.int .i64 (((n22 + 1) : Nat) : Int)) (by first | rfl | (congr 1) | (congr 1; omega)) (Z0 (Z5 rfl) rfl (Z0 (Z5 rfl) rfl (Z6 (Z1 (CW.ret ?_))))))
     have er0 := Zi hf
     obtain ⟨e0, er1⟩ := Prod.mk.inj er0
     clear er0
     subst e0
     subst er1
     refine Z108 (rs := [.tmp 2, .tmp 3]) ([.int .i64 (((n22 + 1) : Nat) : Int), .bool true]) ([]) rfl ?_ rfl ?_ ?_ _ (.inl rfl)
     ·exact ⟨rfl, rfl, trivial⟩
     ·exact ⟨(by omega), rfl⟩
     ·exact (fun w m => m)
    ·skip
     refine CW.block (Z121 (fun k L' M' => ∃ n30 : Nat, ∃ n32 : Nat, (rlp_sound.l1 a0 (rlp_sound.r kf) k n30 n32) = some q20 ∧ (n30 ≤ 9223372036854775807) ∧ (n32 ≤ 9223372036854775807) ∧ L' = [(4, .int .i64 ((n30 : Nat) : Int)), (15, .slice A4 a0.items.length c5), (16, .int .i64 ((a0.items.length : Nat) : Int)), (17, .int .i64 ((n32 : Nat) : Int))] ∧ M' = (([] ++ N))) (k0 := (a0.items.length - 0 + 2)) ⟨0, 0, hq21, (by omega), (by omega), rfl, rfl⟩ ⟨rfl, rfl, rfl, rfl, trivial⟩ (fun w m => m.pick [] 1 rfl rfl) ?_)
     clear hq21
     rintro k34 L37 M38 ⟨n30, n32, hl35, b31, b33, e39, e40⟩
     rw [e39, e40]
     clear e39 e40 L37 M38
     rcases k34 with _ | k34
     ·rw [rlp_sound.l1] at hl35; cases hl35
     rw [rlp_sound.l1] at hl35
     refine Z4 (Z2 (Z0 (RV.lss rfl rfl) rfl (Z7 (.bool (decide (n32 < a0.items.length))) (congrArg Value.bool (decide_eq_decide.2 (by omega))) (Z6 (Z1 (Z4 ?_))))))
     by_cases h41 : n32 < a0.items.length
     ·replace hl35 := if_t hl35 h41
      refine Z13 rfl (decide_eq_true h41) (CW.skip (Z1 (Z4 (CW.block (Z4 (Z2 ?_))))))
      obtain ⟨x42, hx43, hl35⟩ := Z102 hl35
      have hl44 := Z130 hx43
      refine Z0 (Z157 (n32) rfl rfl rfl rfl rfl (v6.isSome (by decide) hl44) (by omega)) rfl ?_
      obtain ⟨cs45, h46, h47⟩ := h8.get ItRd.len hx43
      have h57 := h46
      obtain ⟨A48, c49, A51, c52, cs54, e56, v50, v53, h55⟩ := ItRd.opn h46
      subst e56
      have m58 := v50.mx
      have m59 := v53.mx
      refine Z0 (Z156 rfl rfl rfl rfl (fun w m => v6.load (More.of hΦ 0 m rfl) h47) rfl) rfl (OW.alloc (l := [.bool false, .slice none 0 0, .slice none 0 0]) rfl rfl rfl (fun b60 => ?_))
      refine Z28 (Z109 rfl rfl rfl (by intro u hu; simp at hu; rcases hu with rfl | rfl | rfl <;> rfl) rfl rfl rfl) ?_
      refine Z6 (Z1 (Z4 (Z2 (Z0 (Z22 rfl Zh rfl rfl rfl rfl rfl) rfl ?_))))
      obtain ⟨⟨x62, x63⟩, hx61, hl35⟩ := Z102 hl35
      try dsimp only at hl35
      refine Z12 Tryd.call99 rfl (ih (More w0 Φ []) ((some b60, blk [.bool (x42.list), .slice A48 x42.data.length c49, .slice A51 x42.items.length c52] 25) :: ([] ++ N)) (fun w m => More.of hΦ 1 m rfl) [.bool (x42.list), .slice A48 x42.data.length c49, .slice A51 x42.items.length c52] x42 x62 x63 h57 hx61) rfl rfl ?_
      rintro _ G65 ⟨b64, rfl⟩
      refine Z20 (M' := ((some b60, blk [.bool (x42.list), .slice A48 x42.data.length c49, .slice A51 x42.items.length c52] 25) :: ([] ++ N))) (fun w m => m.appR) (Z0 (Z3 rfl) rfl (Z0 (Z17 rfl rfl) rfl (Z7 (.int .i64 ((x62 : Nat) : Int)) (rfl) (Z0 (Z17 rfl rfl) rfl (Z7 (.bool (x63)) (rfl) (Z0 (Z5 rfl) rfl (Z0 (Z5 rfl) rfl ?_)))))))
      refine Z6 (Z1 (Z4 (Z4 (Z2 (Z0 (Z3 rfl) rfl (Z0 (RV.not rfl) rfl (Z6 (Z1 ?_))))))))
      by_cases h67 : x63 = true
      ·replace hl35 := if_t hl35 h67
       refine Z14 rfl (congrArg (fun b => !b) (h67)) (CW.skip (Z1 (Z2 (Z0 (Z3 rfl) rfl (Z0 (Z3 rfl) rfl (Z0 (RV.max2 rfl rfl) rfl (Z7 (.int .i64 ((max n30 x62 : Nat) : Int)) (by congr 1; omega) (Z0 (Z5 rfl) rfl (Z6 (Z27 (Z1 (Z2 ?_))))))))))))
       refine Z0 (RV.add rfl rfl (by omega)) rfl (Z7 (.int .i64 (((n32 + 1) : Nat) : Int)) (by first | rfl | (congr 1) | (congr 1; omega)) (Z0 (Z3 rfl) rfl (Z6 ?_)))
       exact Z114 (k' := k34) (Nat.lt_succ_self _) ⟨(max n30 x62), (n32 + 1), hl35, (by omega), (by omega), rfl, rfl⟩ ⟨rfl, rfl, rfl, rfl, trivial⟩ (fun w m => m.pick [] 1 rfl rfl)
      ·replace hl35 := if_f hl35 h67
       refine Z13 rfl (congrArg (fun b => !b) (Bool.eq_false_iff.2 h67)) (Z4 (Z2 (Z0 (Z5 rfl) rfl (Z0 (Z5 rfl) rfl (Z6 (Z1 (CW.ret (Z8 (Z16 (Z8 (Z8 (Z16 (Z8 ?_)))))))))))))
       have hc := Zi hl35
       subst hc
       try dsimp only at hf
       refine Z8 ?_
       have er0 := Zi hf
       obtain ⟨e0, er1⟩ := Prod.mk.inj er0
       clear er0
       subst e0
       subst er1
       refine Z108 (rs := [.tmp 2, .tmp 3]) ([.int .i64 (0 : Int), .bool false]) ((some b60, blk [.bool (x42.list), .slice A48 x42.data.length c49, .slice A51 x42.items.length c52] 25) :: []) rfl ?_ rfl ?_ ?_ _ (.inl rfl)
       ·exact ⟨rfl, rfl, trivial⟩
       ·exact ⟨(by omega), rfl⟩
       ·exact (fun w m => m)
     ·replace hl35 := if_f hl35 h41
      refine Z14 rfl (decide_eq_false h41) (CW.exit (Z9 (Z9 (Z15 ?_))))
      exact QW.join ⟨n30, (Zi hl35).symm, (by omega), rfl, rfl⟩ ⟨rfl, trivial⟩ (fun w m => m.pick [] 0 rfl rfl)
   ·replace hf := if_f hf h19
    refine Z13 rfl (congrArg (fun b => !b) (Bool.eq_false_iff.2 h19)) (Z4 (Z2 (Z0 (Z5 rfl) rfl (Z0 (Z5 rfl) rfl (Z6 (Z1 (CW.ret (Z8 ?_))))))))
    have er0 := Zi hf
    obtain ⟨e0, er1⟩ := Prod.mk.inj er0
    clear er0
    subst e0
    subst er1
    refine Z108 (rs := [.tmp 2, .tmp 3]) ([.int .i64 (0 : Int), .bool true]) ((some b13, blk [.bool (a0.list), .slice A1 a0.data.length c2, .slice A4 a0.items.length c5] 25) :: []) rfl ?_ rfl ?_ ?_ _ (.inl rfl)
    ·exact ⟨rfl, rfl, trivial⟩
    ·exact ⟨(by omega), rfl⟩
    ·exact (fun w m => m)
theorem rlp_sound_does (w0 : World) (Φ : Ctx) (N : List Ent) (hΦ : ∀ w, Mem w0 w N → Φ w) (cs0_ : List Value) (a0 : It) (res0 : Nat) (res1 : Bool) (ha0 : ItRd Φ cs0_ a0) (hf : rlp_sound a0 = some (res0, res1)) : DoesG Tryd.prog 99 [.agg cs0_.toArray] w0 [] N (fun v G => (res0 ≤ 9223372036854775807) ∧ v = .tuple #[.int .i64 ((res0 : Nat) : Int), .bool res1]) := rlp_sound_rec w0 _ Φ N hΦ cs0_ a0 res0 res1 ha0 hf
theorem waybillref07_oddly_rec (w0 : World) : ∀ (kf : Nat) (Φ : Ctx) (N : List Ent) (hΦ : ∀ w, Mem w0 w N → Φ w) (cs0_ : List Value) (a0 : It) (res0 : Bool) (ha0 : ItRd Φ cs0_ a0) (hf : waybillref07_oddly.r kf a0 = some res0), DoesG Tryd.prog 122 [.agg cs0_.toArray] w0 [] N (fun v G => v = .bool res0) := by
 intro kf
 induction kf with
 | zero => intro Φ N hΦ cs0_ a0 res0 ha0 hf; rw [waybillref07_oddly.r] at hf; cases hf
 | succ kf ih =>
  intro Φ N hΦ cs0_ a0 res0 ha0 hf
  rw [waybillref07_oddly.r] at hf
  replace ha0 := ItRd.mono (Ψ := More w0 Φ []) (fun w q => q.1) _ _ ha0
  have h10 := ha0
  obtain ⟨A1, c2, A4, c5, cs7, e9, v3, v6, h8⟩ := ItRd.opn ha0
  subst e9
  have m11 := v3.mx
  have m12 := v6.mx
  refine DoesG.enter Tryd.func122 rfl Tryd.ntmps122 rfl (M := (([] ++ N))) rfl (Z4 (Z2 (OW.boxA rfl rfl (fun b13 => (Z0 (Z5 rfl) rfl (Z6 (Z1 (Z4 (Z4 (Z2 (Z0 (Z22 rfl Zh rfl rfl rfl rfl rfl) rfl ?_)))))))))))
  obtain ⟨x15, hx14, hf⟩ := Z102 hf
  refine Z12 Tryd.call118 rfl (waybillref07_odd_does w0 (More w0 Φ []) ((some b13, blk [.bool (a0.list), .slice A1 a0.data.length c2, .slice A4 a0.items.length c5] 25) :: ([] ++ N)) (fun w m => More.of hΦ 1 m rfl) [.bool (a0.list), .slice A1 a0.data.length c2, .slice A4 a0.items.length c5] a0 x15 h10 hx14) rfl rfl ?_
  rintro _ G16 rfl
  refine Z20 (M' := ((some b13, blk [.bool (a0.list), .slice A1 a0.data.length c2, .slice A4 a0.items.length c5] 25) :: ([] ++ N))) (fun w m => m.appR) (Z6 (Z1 ?_))
  by_cases h18 : x15 = true
  ·replace hf := if_t hf h18
   refine Z13 rfl (h18) (Z4 (Z2 (Z0 (Z5 rfl) rfl (Z6 (Z1 (CW.ret (Z8 ?_)))))))
   have e0 := Zi hf
   subst e0
   refine Z108 (rs := [.tmp 2]) ([.bool true]) ((some b13, blk [.bool (a0.list), .slice A1 a0.data.length c2, .slice A4 a0.items.length c5] 25) :: []) rfl ?_ rfl ?_ ?_ _ (.inl rfl)
   ·exact ⟨rfl, trivial⟩
   ·exact rfl
   ·exact (fun w m => m)
  ·replace hf := if_f hf h18
   refine Z14 rfl (Bool.eq_false_iff.2 h18) (CW.skip (Z1 (Z4 (Z4 (Z2 (Z0 (Z5 rfl) rfl (Z6 (Z1 ?_))))))))
   obtain ⟨q19, hq20, hf⟩ := Z102 hf
   refine Z120 (fun L' M' => q19 = Lp.go () ∧ L' = [] ∧ M' = (([] ++ N))) ?_ ?_
   ·rintro L22 M23 ⟨e21, e24, e25⟩
    rw [e24, e25]
    clear e24 e25 L22 M23
    clear hq20
    rw [e21] at hf
    clear e21
    try dsimp only at hf
    refine Z1 (Z4 (Z2 (Z0 (Z5 rfl) rfl (Z6 (Z1 (CW.ret ?_))))))
    have e0 := Zi hf
    subst e0
    refine Z108 (rs := [.tmp 2]) ([.bool false]) ([]) rfl ?_ rfl ?_ ?_ _ (.inl rfl)
    ·exact ⟨rfl, trivial⟩
    ·exact rfl
    ·exact (fun w m => m)
   ·skip
    refine CW.block (Z121 (fun k L' M' => ∃ n26 : Nat, (waybillref07_oddly.l1 a0 (waybillref07_oddly.r kf) k n26) = some q19 ∧ (n26 ≤ 9223372036854775807) ∧ L' = [(1, ptr (some b13) 0), (3, .int .i64 ((n26 : Nat) : Int))] ∧ M' = ((some b13, blk [.bool (a0.list), .slice A1 a0.data.length c2, .slice A4 a0.items.length c5] 25) :: ([] ++ N))) (k0 := (a0.items.length - 0 + 2)) ⟨0, hq20, (by omega), rfl, rfl⟩ ⟨rfl, rfl, trivial⟩ (fun w m => m.pick [0] 1 rfl rfl) ?_)
    clear hq20
    rintro k28 L31 M32 ⟨n26, hl29, b27, e33, e34⟩
    rw [e33, e34]
    clear e33 e34 L31 M32
    rcases k28 with _ | k28
    ·rw [waybillref07_oddly.l1] at hl29; cases hl29
    rw [waybillref07_oddly.l1] at hl29
    refine Z4 (Z4 (Z2 (Z0 (Z3 rfl) rfl (Z0 (Z30 rfl rfl rfl rfl) rfl (Z0 (Z29 rfl Zh rfl rfl rfl rfl) rfl (Z0 (RV.len rfl rfl) rfl (Z0 (RV.lss rfl rfl) rfl (Z7 (.bool (decide (n26 < a0.items.length))) (congrArg Value.bool (decide_eq_decide.2 (by omega))) (Z6 (Z1 ?_))))))))))
    by_cases h35 : n26 < a0.items.length
    ·replace hl29 := if_t hl29 h35
     refine Z13 rfl (decide_eq_true h35) (CW.skip (Z1 (Z4 (CW.block (Z4 (Z2 (Z0 (Z30 rfl rfl rfl rfl) rfl (Z0 (Z29 rfl Zh rfl rfl rfl rfl) rfl (Z0 (Z3 rfl) rfl ?_)))))))))
     obtain ⟨x36, hx37, hl29⟩ := Z102 hl29
     have hl38 := Z130 hx37
     refine Z0 (Z157 (n26) rfl rfl rfl rfl rfl (v6.isSome (by decide) hl38) (by omega)) rfl ?_
     obtain ⟨cs39, h40, h41⟩ := h8.get ItRd.len hx37
     have h51 := h40
     obtain ⟨A42, c43, A45, c46, cs48, e50, v44, v47, h49⟩ := ItRd.opn h40
     subst e50
     have m52 := v44.mx
     have m53 := v47.mx
     refine Z0 (Z156 rfl rfl rfl rfl (fun w m => v6.load (More.of hΦ 1 m rfl) h41) rfl) rfl ?_
     obtain ⟨x55, hx54, hl29⟩ := Z102 hl29
     refine Z12 Tryd.call122 rfl (ih (More w0 Φ []) ((some b13, blk [.bool (a0.list), .slice A1 a0.data.length c2, .slice A4 a0.items.length c5] 25) :: ([] ++ N)) (fun w m => More.of hΦ 1 m rfl) [.bool (x36.list), .slice A42 x36.data.length c43, .slice A45 x36.items.length c46] x36 x55 h51 hx54) rfl rfl ?_
     rintro _ G56 rfl
     refine Z20 (M' := ((some b13, blk [.bool (a0.list), .slice A1 a0.data.length c2, .slice A4 a0.items.length c5] 25) :: ([] ++ N))) (fun w m => m.appR) (Z6 (Z1 ?_))
     by_cases h58 : x55 = true
     ·replace hl29 := if_t hl29 h58
      refine Z13 rfl (h58) (Z4 (Z2 (Z0 (Z5 rfl) rfl (Z6 (Z1 (CW.ret (Z16 (Z8 (Z8 (Z16 (Z8 ?_)))))))))))
      have hc := Zi hl29
      subst hc
      try dsimp only at hf
      refine Z8 ?_
      have e0 := Zi hf
      subst e0
      refine Z108 (rs := [.tmp 2]) ([.bool true]) ((some b13, blk [.bool (a0.list), .slice A1 a0.data.length c2, .slice A4 a0.items.length c5] 25) :: []) rfl ?_ rfl ?_ ?_ _ (.inl rfl)
      ·exact ⟨rfl, trivial⟩
      ·exact rfl
      ·exact (fun w m => m)
     ·replace hl29 := if_f hl29 h58
      refine Z14 rfl (Bool.eq_false_iff.2 h58) (CW.skip (Z27 (Z1 (Z2 (Z0 (Z3 rfl) rfl (Z0 (RV.add rfl rfl (by omega)) rfl (Z7 (.int .i64 (((n26 + 1) : Nat) : Int)) (by first | rfl | (congr 1) | (congr 1; omega)) (Z0 (Z5 rfl) rfl (Z6 ?_)))))))))
      exact Z114 (k' := k28) (Nat.lt_succ_self _) ⟨(n26 + 1), hl29, (by omega), rfl, rfl⟩ ⟨rfl, rfl, trivial⟩ (fun w m => m.pick [0] 1 rfl rfl)
    ·replace hl29 := if_f hl29 h35
     refine Z14 rfl (decide_eq_false h35) (CW.exit (Z9 (Z9 (Z15 ?_))))
     exact QW.join ⟨(Zi hl29).symm, rfl, rfl⟩ trivial (fun w m => m.pick [] 1 rfl rfl)
theorem waybillref07_oddly_does (w0 : World) (Φ : Ctx) (N : List Ent) (hΦ : ∀ w, Mem w0 w N → Φ w) (cs0_ : List Value) (a0 : It) (res0 : Bool) (ha0 : ItRd Φ cs0_ a0) (hf : waybillref07_oddly a0 = some res0) : DoesG Tryd.prog 122 [.agg cs0_.toArray] w0 [] N (fun v G => v = .bool res0) := waybillref07_oddly_rec w0 _ Φ N hΦ cs0_ a0 res0 ha0 hf
theorem waybillref07_depth_rec (w0 : World) : ∀ (kf : Nat) (Φ : Ctx) (N : List Ent) (hΦ : ∀ w, Mem w0 w N → Φ w) (cs0_ : List Value) (a0 : It) (res0 : Nat) (ha0 : ItRd Φ cs0_ a0) (hf : waybillref07_depth.r kf a0 = some res0), DoesG Tryd.prog 123 [.agg cs0_.toArray] w0 [] N (fun v G => (res0 ≤ 9223372036854775807) ∧ v = .int .i64 ((res0 : Nat) : Int)) := by
 intro kf
 induction kf with
 | zero => intro Φ N hΦ cs0_ a0 res0 ha0 hf; rw [waybillref07_depth.r] at hf; cases hf
 | succ kf ih =>
  intro Φ N hΦ cs0_ a0 res0 ha0 hf
  rw [waybillref07_depth.r] at hf
  replace ha0 := ItRd.mono (Ψ := More w0 Φ []) (fun w q => q.1) _ _ ha0
  have h10 := ha0
  obtain ⟨A1, c2, A4, c5, cs7, e9, v3, v6, h8⟩ := ItRd.opn ha0
  subst e9
  have m11 := v3.mx
  have m12 := v6.mx
  refine DoesG.enter Tryd.func123 rfl Tryd.ntmps123 rfl (M := (([] ++ N))) rfl (Z4 (Z2 (OW.boxA rfl rfl (fun b13 => (Z0 (Z5 rfl) rfl (Z6 (Z1 (Z4 (Z4 (Z2 (Z0 (Z30 rfl rfl rfl rfl) rfl (Z0 (Z29 rfl Zh rfl rfl rfl rfl) rfl (Z0 (RV.not rfl) rfl ?_)))))))))))))
  refine Z6 (Z1 ?_)
  by_cases h14 : a0.list = true
  ·replace hf := if_t hf h14
   refine Z14 rfl (congrArg (fun b => !b) (h14)) (CW.skip (Z1 (Z4 (Z2 (Z0 (Z5 rfl) rfl (Z6 (Z1 (Z4 (Z4 (Z2 (Z0 (Z5 rfl) rfl (Z6 (Z1 ?_)))))))))))))
   obtain ⟨q15, hq16, hf⟩ := Z102 hf
   refine Z120 (fun L' M' => ∃ n17 : Nat, q15 = n17 ∧ (n17 ≤ 9223372036854775807) ∧ L' = [(3, .int .i64 ((n17 : Nat) : Int))] ∧ M' = (([] ++ N))) ?_ ?_
   ·rintro L20 M21 ⟨n17, e19, b18, e22, e23⟩
    rw [e22, e23]
    clear e22 e23 L20 M21
    clear hq16
    rw [e19] at hf
    clear e19
    try dsimp only at hf
    refine Z1 (Z4 (Z2 (Z0 (Z3 rfl) rfl ?_)))
    obtain ⟨g24, hf⟩ := Z115 hf
    refine Z0 (RV.add rfl rfl (by omega)) rfl (Z7 (.int .i64 (((1 + n17) : Nat) : Int)) (by first | rfl | (congr 1) | (congr 1; omega)) (Z0 (Z5 rfl) rfl (Z6 (Z1 (CW.ret ?_)))))
    have e0 := Zi hf
    subst e0
    refine Z108 (rs := [.tmp 2]) ([.int .i64 (((1 + n17) : Nat) : Int)]) ([]) rfl ?_ rfl ?_ ?_ _ (.inl rfl)
    ·exact ⟨rfl, trivial⟩
    ·exact ⟨(by omega), rfl⟩
    ·exact (fun w m => m)
   ·skip
    refine CW.block (Z121 (fun k L' M' => ∃ n25 : Nat, ∃ n27 : Nat, (waybillref07_depth.l1 a0 (waybillref07_depth.r kf) k n25 n27) = some q15 ∧ (n25 ≤ 9223372036854775807) ∧ (n27 ≤ 9223372036854775807) ∧ L' = [(1, ptr (some b13) 0), (3, .int .i64 ((n25 : Nat) : Int)), (4, .int .i64 ((n27 : Nat) : Int))] ∧ M' = ((some b13, blk [.bool (a0.list), .slice A1 a0.data.length c2, .slice A4 a0.items.length c5] 25) :: ([] ++ N))) (k0 := (a0.items.length - 0 + 2)) ⟨0, 0, hq16, (by omega), (by omega), rfl, rfl⟩ ⟨rfl, rfl, rfl, trivial⟩ (fun w m => m.pick [0] 1 rfl rfl) ?_)
    clear hq16
    rintro k29 L32 M33 ⟨n25, n27, hl30, b26, b28, e34, e35⟩
    rw [e34, e35]
    clear e34 e35 L32 M33
    rcases k29 with _ | k29
    ·rw [waybillref07_depth.l1] at hl30; cases hl30
    rw [waybillref07_depth.l1] at hl30
    refine Z4 (Z4 (Z2 (Z0 (Z3 rfl) rfl (Z0 (Z30 rfl rfl rfl rfl) rfl (Z0 (Z29 rfl Zh rfl rfl rfl rfl) rfl (Z0 (RV.len rfl rfl) rfl (Z0 (RV.lss rfl rfl) rfl (Z7 (.bool (decide (n27 < a0.items.length))) (congrArg Value.bool (decide_eq_decide.2 (by omega))) (Z6 (Z1 ?_))))))))))
    by_cases h36 : n27 < a0.items.length
    ·replace hl30 := if_t hl30 h36
     refine Z13 rfl (decide_eq_true h36) (CW.skip (Z1 (Z4 (CW.block (Z2 (Z0 (Z3 rfl) rfl (Z0 (Z30 rfl rfl rfl rfl) rfl (Z0 (Z29 rfl Zh rfl rfl rfl rfl) rfl (Z0 (Z3 rfl) rfl ?_)))))))))
     obtain ⟨x37, hx38, hl30⟩ := Z102 hl30
     have hl39 := Z130 hx38
     refine Z0 (Z157 (n27) rfl rfl rfl rfl rfl (v6.isSome (by decide) hl39) (by omega)) rfl ?_
     obtain ⟨cs40, h41, h42⟩ := h8.get ItRd.len hx38
     have h52 := h41
     obtain ⟨A43, c44, A46, c47, cs49, e51, v45, v48, h50⟩ := ItRd.opn h41
     subst e51
     have m53 := v45.mx
     have m54 := v48.mx
     refine Z0 (Z156 rfl rfl rfl rfl (fun w m => v6.load (More.of hΦ 1 m rfl) h42) rfl) rfl ?_
     obtain ⟨x56, hx55, hl30⟩ := Z102 hl30
     refine Z12 Tryd.call123 rfl (ih (More w0 Φ []) ((some b13, blk [.bool (a0.list), .slice A1 a0.data.length c2, .slice A4 a0.items.length c5] 25) :: ([] ++ N)) (fun w m => More.of hΦ 1 m rfl) [.bool (x37.list), .slice A43 x37.data.length c44, .slice A46 x37.items.length c47] x37 x56 h52 hx55) rfl rfl ?_
     rintro _ G58 ⟨b57, rfl⟩
     refine Z20 (M' := ((some b13, blk [.bool (a0.list), .slice A1 a0.data.length c2, .slice A4 a0.items.length c5] 25) :: ([] ++ N))) (fun w m => m.appR) (Z0 (RV.max2 rfl rfl) rfl (Z7 (.int .i64 ((max n25 x56 : Nat) : Int)) (by congr 1; omega) (Z0 (Z5 rfl) rfl (Z6 (Z27 (Z1 (Z2 (Z0 (Z3 rfl) rfl (Z0 (RV.add rfl rfl (by omega)) rfl (Z7 (.int .i64 (((n27 + 1) : Nat) : Int)) (by first | rfl | (congr 1) | (congr 1; omega)) ?_))))))))))
     refine Z0 (Z5 rfl) rfl (Z6 ?_)
     exact Z114 (k' := k29) (Nat.lt_succ_self _) ⟨(max n25 x56), (n27 + 1), hl30, (by omega), (by omega), rfl, rfl⟩ ⟨rfl, rfl, rfl, trivial⟩ (fun w m => m.pick [0] 1 rfl rfl)
    ·replace hl30 := if_f hl30 h36
     refine Z14 rfl (decide_eq_false h36) (CW.exit (Z9 (Z9 (Z15 ?_))))
     exact QW.join ⟨n25, (Zi hl30).symm, (by omega), rfl, rfl⟩ ⟨rfl, trivial⟩ (fun w m => m.pick [] 1 rfl rfl)
  ·replace hf := if_f hf h14
   refine Z13 rfl (congrArg (fun b => !b) (Bool.eq_false_iff.2 h14)) (Z4 (Z2 (Z0 (Z5 rfl) rfl (Z6 (Z1 (CW.ret (Z8 ?_)))))))
   have e0 := Zi hf
   subst e0
   refine Z108 (rs := [.tmp 2]) ([.int .i64 (0 : Int)]) ((some b13, blk [.bool (a0.list), .slice A1 a0.data.length c2, .slice A4 a0.items.length c5] 25) :: []) rfl ?_ rfl ?_ ?_ _ (.inl rfl)
   ·exact ⟨rfl, trivial⟩
   ·exact ⟨(by omega), rfl⟩
   ·exact (fun w m => m)
theorem waybillref07_depth_does (w0 : World) (Φ : Ctx) (N : List Ent) (hΦ : ∀ w, Mem w0 w N → Φ w) (cs0_ : List Value) (a0 : It) (res0 : Nat) (ha0 : ItRd Φ cs0_ a0) (hf : waybillref07_depth a0 = some res0) : DoesG Tryd.prog 123 [.agg cs0_.toArray] w0 [] N (fun v G => (res0 ≤ 9223372036854775807) ∧ v = .int .i64 ((res0 : Nat) : Int)) := waybillref07_depth_rec w0 _ Φ N hΦ cs0_ a0 res0 ha0 hf
theorem rlp_lay_rec (w0 : World) : ∀ (kf : Nat) (Φ : Ctx) (N : List Ent) (hΦ : ∀ w, Mem w0 w N → Φ w) (ob0_ : Option Nat) (c0_ : Nat) (r0_ : List Value) (a0 : List (BitVec 8)) (cs1_ : List Value) (a1 : It) (res0 : List (BitVec 8)) (oa0 : OwnS ob0_ a0.length c0_ 1 (u8s a0) r0_) (ha1 : ItRd Φ cs1_ a1) (hf : rlp_lay.r kf a0 a1 = some res0), DoesG Tryd.prog 65 [sl ob0_ 0 a0.length c0_, .agg cs1_.toArray] w0 [(ob0_, blk ((u8s a0) ++ r0_) 5)] N (fun v G => ∃ B : List Ent, ∃ or0 : Option Nat, ∃ kr0 : Nat, ∃ rr0 : List Value, (OwnS or0 res0.length kr0 1 (u8s res0) rr0) ∧ v = sl or0 0 res0.length kr0 ∧ G = (or0, blk ((u8s res0) ++ rr0) 5) :: B) := by
 intro kf
 induction kf with
 | zero => intro Φ N hΦ ob0_ c0_ r0_ a0 cs1_ a1 res0 oa0 ha1 hf; rw [rlp_lay.r] at hf; cases hf
 | succ kf ih =>
  intro Φ N hΦ ob0_ c0_ r0_ a0 cs1_ a1 res0 oa0 ha1 hf
  rw [rlp_lay.r] at hf
  replace ha1 := ItRd.mono (Ψ := More w0 Φ []) (fun w q => q.1) _ _ ha1
  have h10 := ha1
  obtain ⟨A1, c2, A4, c5, cs7, e9, v3, v6, h8⟩ := ItRd.opn ha1
  subst e9
  have m11 := v3.mx
  have m12 := v6.mx
  have m13 := oa0.mx
  refine DoesG.enter Tryd.func65 rfl Tryd.ntmps65 rfl (M := ((ob0_, blk ((u8s a0) ++ r0_) 5) :: ([] ++ N))) rfl (Z4 (Z2 (OW.boxA rfl rfl (fun b14 => (Z0 (Z5 rfl) rfl (Z6 (Z1 (Z4 (Z4 (Z2 (Z0 (Z30 rfl rfl rfl rfl) rfl (Z0 (Z29 rfl Zh rfl rfl rfl rfl) rfl (Z0 (RV.not rfl) rfl ?_)))))))))))))
  refine Z6 (Z1 ?_)
  by_cases h15 : a1.list = true
  ·replace hf := if_t hf h15
   refine Z14 rfl (congrArg (fun b => !b) (h15)) (CW.skip (Z1 (Z4 (Z2 (Z0 (Z5 rfl) rfl (Z6 (Z1 (Z4 (Z4 (Z2 (Z0 (Z30 rfl rfl rfl rfl) rfl (Z0 (Z29 rfl Zh rfl rfl rfl rfl) rfl (Z0 (RV.len rfl rfl) rfl (Z0 (Z3 rfl) rfl ?_))))))))))))))
   refine Z6 (Z1 ?_)
   obtain ⟨q16, hq17, hf⟩ := Z102 hf
   refine Z120 (fun L' M' => ∃ l20 : List (BitVec 8), ∃ B18 : List Ent, ∃ ob21 : Option Nat, ∃ c22 : Nat, ∃ r23 : List Value, q16 = l20 ∧ (∀ w, Mem w0 w B18 → Mem w0 w []) ∧ (OwnS ob21 l20.length c22 1 (u8s l20) r23) ∧ L' = [(0, sl ob0_ 0 a0.length c0_), (5, sl ob21 0 l20.length c22)] ∧ M' = ((ob21, blk ((u8s l20) ++ r23) 5) :: (ob0_, blk ((u8s a0) ++ r0_) 5) :: (B18 ++ N))) ?_ ?_
   ·rintro L26 M27 ⟨l20, B18, ob21, c22, r23, e25, hB19, o24, e28, e29⟩
    rw [e28, e29]
    clear e28 e29 L26 M27
    clear hq17
    rw [e25] at hf
    clear e25
    try dsimp only at hf
    have m30 := o24.mx
    have m31 := oa0.mx
    refine Z1 (Z4 (Z2 (Z0 (Z3 rfl) rfl (Z0 (Z3 rfl) rfl (Z0 (RV.len rfl rfl) rfl ?_)))))
    obtain ⟨x33, hx32, hf⟩ := Z102 hf
    refine Z12 Tryd.call101 rfl (rlp_head_does w0 (More w0 Φ B18) ((ob21, blk ((u8s l20) ++ r23) 5) :: (ob0_, blk ((u8s a0) ++ r0_) 5) :: (B18 ++ N)) (fun w m => More.of hΦ 2 m rfl) (192#8) l20.length x33 (by omega) hx32) rfl rfl ?_
    rintro L39 M40 ⟨B34, ob35, c36, r37, o38, e41, e42⟩
    rw [e41, e42]
    clear e41 e42 L39 M40
    refine Z20 (M' := ((ob35, blk ((u8s x33) ++ r37) 5) :: (ob21, blk ((u8s l20) ++ r23) 5) :: (ob0_, blk ((u8s a0) ++ r0_) 5) :: ((B34 ++ B18) ++ N))) (fun w m => by have h := Z110 (A := B34) m 1 2 rfl rfl; exact h) ?_
    have m43 := o38.mx
    refine OW.rot2 ?_
    obtain ⟨g44, hf⟩ := Z115 hf
    refine OW.appendOwn (s := 1) rfl rfl rfl rfl rfl rfl oa0 (fun w m => m.rd0 (List.Mem.tail _ Zh) (fun e => o38.nilc (by decide) e)) o38.n (Z119 _) (o38.zeroO (by decide)) (by decide) (by decide) (by first | omega | (simp only [i5, List.length_nil]; omega)) rfl rfl ((a0 ++ x33).length) (u8s (a0 ++ x33)) (List.length_append ..).symm (u8s_app _ _) (fun ob45 r46 c47 o48 => ?_)
    have m49 := o48.mx
    refine Z0 (Z3 rfl) rfl ?_
    obtain ⟨g50, hf⟩ := Z115 hf
    refine OW.appendOwn (s := 1) rfl rfl rfl rfl rfl rfl o48 (fun w m => m.rd0 (List.Mem.tail _ (List.Mem.tail _ Zh)) (fun e => o24.nilc (by decide) e)) o24.n (Z119 _) (o24.zeroO (by decide)) (by decide) (by decide) (by first | omega | (simp only [i5, List.length_nil]; omega)) rfl rfl (((a0 ++ x33) ++ l20).length) (u8s ((a0 ++ x33) ++ l20)) (List.length_append ..).symm (u8s_app _ _) (fun ob51 r52 c53 o54 => ?_)
    have m55 := o54.mx
    refine Z0 (Z5 rfl) rfl (Z6 (Z1 (CW.ret ?_)))
    have e0 := Zi hf
    subst e0
    refine Z108 (rs := [.tmp 4]) ([sl ob51 0 ((a0 ++ x33) ++ l20).length c53]) ((ob51, blk ((u8s ((a0 ++ x33) ++ l20)) ++ r52) 5) :: (B34 ++ B18)) rfl ?_ rfl ?_ ?_ _ (.inl rfl)
    ·exact ⟨rfl, trivial⟩
    ·exact ⟨(B34 ++ B18), ob51, c53, r52, o54, rfl, rfl⟩
    ·exact (fun w m => m.pick [0] 3 rfl rfl)
   ·skip
    refine CW.block (CW.mem (M' := ((none, blk ((u8s ([] : List (BitVec 8))) ++ []) 5) :: (some b14, blk [.bool (a1.list), .slice A1 a1.data.length c2, .slice A4 a1.items.length c5] 25) :: (ob0_, blk ((u8s a0) ++ r0_) 5) :: ([] ++ N))) (fun w m => m.nil_ent _) (Z121 (fun k L' M' => ∃ l58 : List (BitVec 8), ∃ n63 : Nat, ∃ B56 : List Ent, ∃ ob59 : Option Nat, ∃ c60 : Nat, ∃ r61 : List Value, (rlp_lay.l1 a1 (rlp_lay.r kf) k l58 n63) = some q16 ∧ (∀ w, Mem w0 w B56 → Mem w0 w []) ∧ (OwnS ob59 l58.length c60 1 (u8s l58) r61) ∧ (n63 ≤ 9223372036854775807) ∧ L' = [(0, sl ob0_ 0 a0.length c0_), (5, sl ob59 0 l58.length c60), (33, .slice A4 a1.items.length c5), (34, .int .i64 ((a1.items.length : Nat) : Int)), (35, .int .i64 ((n63 : Nat) : Int))] ∧ M' = ((ob59, blk ((u8s l58) ++ r61) 5) :: (ob0_, blk ((u8s a0) ++ r0_) 5) :: (B56 ++ N))) (k0 := (a1.items.length - 0 + 2)) ⟨([] : List (BitVec 8)), 0, [], none, 0, [], hq17, (fun w m => m), OwnS.nil, (by omega), rfl, rfl⟩ ⟨rfl, rfl, rfl, rfl, rfl, trivial⟩ (fun w m => m.pick [0, 2] 3 rfl rfl) ?_))
    clear hq17
    rintro k65 L68 M69 ⟨l58, n63, B56, ob59, c60, r61, hl66, hB57, o62, b64, e70, e71⟩
    rw [e70, e71]
    clear e70 e71 L68 M69
    rcases k65 with _ | k65
    ·rw [rlp_lay.l1] at hl66; cases hl66
    rw [rlp_lay.l1] at hl66
    have gq3 : ∀ w, More w0 Φ B56 w → More w0 Φ [] w := fun w q => More.mono (fun w m => hB57 w (m)) q
    replace v6 := v6.mono gq3
    replace h8 := h8.mono (ItRd.mono gq3)
    have m72 := o62.mx
    have m73 := oa0.mx
    refine Z4 (Z2 (Z0 (RV.lss rfl rfl) rfl (Z7 (.bool (decide (n63 < a1.items.length))) (congrArg Value.bool (decide_eq_decide.2 (by omega))) (Z6 (Z1 (Z4 ?_))))))
    by_cases h74 : n63 < a1.items.length
    ·replace hl66 := if_t hl66 h74
     refine Z13 rfl (decide_eq_true h74) (CW.skip (Z1 (Z4 (CW.block (Z4 (Z2 ?_))))))
     obtain ⟨x75, hx76, hl66⟩ := Z102 hl66
     have hl77 := Z130 hx76
     refine Z0 (Z157 (n63) rfl rfl rfl rfl rfl (v6.isSome (by decide) hl77) (by omega)) rfl ?_
     obtain ⟨cs78, h79, h80⟩ := h8.get ItRd.len hx76
     have h90 := h79
     obtain ⟨A81, c82, A84, c85, cs87, e89, v83, v86, h88⟩ := ItRd.opn h79
     subst e89
     have m91 := v83.mx
     have m92 := v86.mx
     refine Z0 (Z156 rfl rfl rfl rfl (fun w m => v6.load (More.of hΦ 2 m rfl) h80) rfl) rfl (OW.alloc (l := [.bool false, .slice none 0 0, .slice none 0 0]) rfl rfl rfl (fun b93 => ?_))
     refine Z28 (Z109 rfl rfl rfl (by intro u hu; simp at hu; rcases hu with rfl | rfl | rfl <;> rfl) rfl rfl rfl) ?_
     refine Z6 (Z1 (Z2 (Z0 (Z3 rfl) rfl (Z0 (Z22 rfl Zh rfl rfl rfl rfl rfl) rfl ?_))))
     obtain ⟨x95, hx94, hl66⟩ := Z102 hl66
     refine Z20 (M' := ((ob59, blk ((u8s l58) ++ r61) 5) :: (some b93, blk [.bool (x75.list), .slice A81 x75.data.length c82, .slice A84 x75.items.length c85] 25) :: (ob0_, blk ((u8s a0) ++ r0_) 5) :: (B56 ++ N))) (fun w m => m.pick [1, 0, 2] 3 rfl rfl) (Z12 Tryd.call65 rfl (ih (More w0 Φ B56) ((some b93, blk [.bool (x75.list), .slice A81 x75.data.length c82, .slice A84 x75.items.length c85] 25) :: (ob0_, blk ((u8s a0) ++ r0_) 5) :: (B56 ++ N)) (fun w m => More.of hΦ 2 m rfl) ob59 c60 r61 l58 [.bool (x75.list), .slice A81 x75.data.length c82, .slice A84 x75.items.length c85] x75 x95 o62 h90 hx94) rfl rfl ?_)
     rintro L101 M102 ⟨B96, ob97, c98, r99, o100, e103, e104⟩
     rw [e103, e104]
     clear e103 e104 L101 M102
     refine Z20 (M' := ((ob97, blk ((u8s x95) ++ r99) 5) :: (some b93, blk [.bool (x75.list), .slice A81 x75.data.length c82, .slice A84 x75.items.length c85] 25) :: (ob0_, blk ((u8s a0) ++ r0_) 5) :: ((B96 ++ B56) ++ N))) (fun w m => by have h := Z110 (A := B96) m 1 2 rfl rfl; exact h) ?_
     have gq4 : ∀ w, More w0 Φ (B96 ++ B56) w → More w0 Φ B56 w := fun w q => More.mono (fun w m => (m).appR) q
     replace v6 := v6.mono gq4
     replace h8 := h8.mono (ItRd.mono gq4)
     replace h90 := ItRd.mono gq4 _ _ h90
     replace v83 := v83.mono gq4
     replace v86 := v86.mono gq4
     replace h88 := h88.mono (ItRd.mono gq4)
     have m105 := o100.mx
     refine Z0 (Z5 rfl) rfl (Z6 (Z27 (Z1 (Z2 (Z0 (RV.add rfl rfl (by omega)) rfl (Z7 (.int .i64 (((n63 + 1) : Nat) : Int)) (by first | rfl | (congr 1) | (congr 1; omega)) (Z0 (Z3 rfl) rfl (Z6 ?_))))))))
     exact Z114 (k' := k65) (Nat.lt_succ_self _) ⟨x95, (n63 + 1), (B96 ++ B56), ob97, c98, r99, hl66, (fun w m => hB57 w ((m).appR)), o100, (by omega), rfl, rfl⟩ ⟨rfl, rfl, rfl, rfl, rfl, trivial⟩ (fun w m => m.pick [0, 2] 3 rfl rfl)
    ·replace hl66 := if_f hl66 h74
     refine Z14 rfl (decide_eq_false h74) (CW.exit (Z9 (Z9 (Z15 ?_))))
     exact QW.join ⟨l58, B56, ob59, c60, r61, (Zi hl66).symm, (fun w m => hB57 w (m)), o62, rfl, rfl⟩ ⟨rfl, rfl, trivial⟩ (fun w m => m.pick [0, 1] 2 rfl rfl)
  ·replace hf := if_f hf h15
   refine Z13 rfl (congrArg (fun b => !b) (Bool.eq_false_iff.2 h15)) (Z4 (Z4 ?_))
   obtain ⟨q106, hq107, hf⟩ := Z102 hf
   refine Z120 (fun L' M' => ∃ p108 : Bool, q106 = p108 ∧ L' = [(0, sl ob0_ 0 a0.length c0_), (3, ptr (some b14) 0), (21, .bool (p108))] ∧ M' = ((some b14, blk [.bool (a1.list), .slice A1 a1.data.length c2, .slice A4 a1.items.length c5] 25) :: (ob0_, blk ((u8s a0) ++ r0_) 5) :: ([] ++ N))) ?_ ?_
   ·rintro L110 M111 ⟨p108, e109, e112, e113⟩
    rw [e112, e113]
    clear e112 e113 L110 M111
    clear hq107
    rw [e109] at hf
    clear e109
    try dsimp only at hf
    have m114 := oa0.mx
    refine Z1 ?_
    obtain ⟨q115, hq116, hf⟩ := Z102 hf
    refine Z120 (fun L' M' => ∃ l119 : List (BitVec 8), ∃ B117 : List Ent, ∃ ob120 : Option Nat, ∃ c121 : Nat, ∃ r122 : List Value, q115 = l119 ∧ (∀ w, Mem w0 w B117 → Mem w0 w []) ∧ (OwnS ob120 l119.length c121 1 (u8s l119) r122) ∧ L' = [(0, sl ob120 0 l119.length c121), (3, ptr (some b14) 0)] ∧ M' = ((ob120, blk ((u8s l119) ++ r122) 5) :: (some b14, blk [.bool (a1.list), .slice A1 a1.data.length c2, .slice A4 a1.items.length c5] 25) :: (B117 ++ N))) ?_ ?_
    ·rintro L125 M126 ⟨l119, B117, ob120, c121, r122, e124, hB118, o123, e127, e128⟩
     rw [e127, e128]
     clear e127 e128 L125 M126
     clear hq116
     rw [e124] at hf
     clear e124
     try dsimp only at hf
     have gq5 : ∀ w, More w0 Φ B117 w → More w0 Φ [] w := fun w q => More.mono (fun w m => hB118 w (m)) q
     replace h10 := ItRd.mono gq5 _ _ h10
     replace v3 := v3.mono gq5
     replace v6 := v6.mono gq5
     replace h8 := h8.mono (ItRd.mono gq5)
     have m129 := o123.mx
     refine Z1 (Z4 (Z2 (Z0 (Z3 rfl) rfl (Z0 (Z30 rfl rfl rfl rfl) rfl (Z0 (Z29 rfl (List.Mem.tail _ Zh) rfl rfl rfl rfl) rfl ?_)))))
     obtain ⟨g130, hf⟩ := Z115 hf
     refine OW.appendOwn (s := 1) rfl rfl rfl rfl rfl rfl o123 (fun w m => v3.rd w (More.of hΦ 2 m rfl)) v3.n (Z119 _) (v3.zero (by decide)) (by decide) (by decide) (by first | omega | (simp only [i5, List.length_nil]; omega)) rfl rfl ((l119 ++ a1.data).length) (u8s (l119 ++ a1.data)) (List.length_append ..).symm (u8s_app _ _) (fun ob131 r132 c133 o134 => ?_)
     have m135 := o134.mx
     refine Z0 (Z5 rfl) rfl (Z6 (Z1 (CW.ret (Z8 ?_))))
     have e0 := Zi hf
     subst e0
     refine Z108 (rs := [.tmp 4]) ([sl ob131 0 (l119 ++ a1.data).length c133]) ((ob131, blk ((u8s (l119 ++ a1.data)) ++ r132) 5) :: B117) rfl ?_ rfl ?_ ?_ _ (.inl rfl)
     ·exact ⟨rfl, trivial⟩
     ·exact ⟨B117, ob131, c133, r132, o134, rfl, rfl⟩
     ·exact (fun w m => m.pick [0] 2 rfl rfl)
    ·skip
     by_cases h136 : p108 = true
     ·replace hq116 := if_t hq116 h136
      refine Z13 rfl (h136) (Z2 (Z0 (Z3 rfl) rfl (Z0 (Z30 rfl rfl rfl rfl) rfl (Z0 (Z29 rfl Zh rfl rfl rfl rfl) rfl (Z0 (RV.len rfl rfl) rfl ?_)))))
      obtain ⟨x138, hx137, hq116⟩ := Z102 hq116
      refine Z12 Tryd.call101 rfl (rlp_head_does w0 (More w0 Φ []) ((some b14, blk [.bool (a1.list), .slice A1 a1.data.length c2, .slice A4 a1.items.length c5] 25) :: (ob0_, blk ((u8s a0) ++ r0_) 5) :: ([] ++ N)) (fun w m => More.of hΦ 2 m rfl) (128#8) a1.data.length x138 (by omega) hx137) rfl rfl ?_
      rintro L144 M145 ⟨B139, ob140, c141, r142, o143, e146, e147⟩
      rw [e146, e147]
      clear e146 e147 L144 M145
      refine Z20 (M' := ((ob140, blk ((u8s x138) ++ r142) 5) :: (some b14, blk [.bool (a1.list), .slice A1 a1.data.length c2, .slice A4 a1.items.length c5] 25) :: (ob0_, blk ((u8s a0) ++ r0_) 5) :: ((B139 ++ []) ++ N))) (fun w m => by have h := Z110 (A := B139) m 1 2 rfl rfl; exact h) ?_
      have gq6 : ∀ w, More w0 Φ (B139 ++ []) w → More w0 Φ [] w := fun w q => More.mono (fun w m => (m).appR) q
      replace v3 := v3.mono gq6
      replace h10 := ItRd.mono gq6 _ _ h10
      replace v6 := v6.mono gq6
      replace h8 := h8.mono (ItRd.mono gq6)
      have m148 := o143.mx
      refine OW.rot2 ?_
      obtain ⟨g149, hq116⟩ := Z115 hq116
      refine OW.appendOwn (s := 1) rfl rfl rfl rfl rfl rfl oa0 (fun w m => m.rd0 (List.Mem.tail _ Zh) (fun e => o143.nilc (by decide) e)) o143.n (Z119 _) (o143.zeroO (by decide)) (by decide) (by decide) (by first | omega | (simp only [i5, List.length_nil]; omega)) rfl rfl ((a0 ++ x138).length) (u8s (a0 ++ x138)) (List.length_append ..).symm (u8s_app _ _) (fun ob150 r151 c152 o153 => ?_)
      have m154 := o153.mx
      refine Z0 (Z5 rfl) rfl (Z6 ?_)
      exact QW.join ⟨(a0 ++ x138), (B139 ++ []), ob150, c152, r151, (Zi hq116).symm, (fun w m => (m).appR), o153, rfl, rfl⟩ ⟨rfl, rfl, trivial⟩ (fun w m => m.pick [0, 2] 3 rfl rfl)
     ·replace hq116 := if_f hq116 h136
      refine Z14 rfl (Bool.eq_false_iff.2 h136) (CW.skip ?_)
      exact QW.join ⟨a0, [], ob0_, c0_, r0_, (Zi hq116).symm, (fun w m => m), oa0, rfl, rfl⟩ ⟨rfl, rfl, trivial⟩ (fun w m => m.pick [1, 0] 2 rfl rfl)
   ·skip
    refine Z2 (Z0 (Z30 rfl rfl rfl rfl) rfl (Z0 (Z29 rfl Zh rfl rfl rfl rfl) rfl (Z0 (RV.len rfl rfl) rfl (Z0 (RV.neq rfl rfl) rfl (Z7 (.bool (!decide (a1.data.length = 1))) (congrArg (fun b => Value.bool (!b)) (decide_eq_decide.2 (by omega))) (Z0 (Z3 rfl) rfl ?_))))))
    by_cases h155 : a1.data.length = 1
    ·replace hq107 := if_t hq107 h155
     refine Z7 (.bool false) (congrArg Value.bool (congrArg (fun b => !b) (decide_eq_true h155))) (Z24 rfl (Z0 (Z30 rfl rfl rfl rfl) rfl (Z24 rfl (Z0 (Z29 rfl Zh rfl rfl rfl rfl) rfl (Z24 rfl ?_)))))
     obtain ⟨x156, hx157, hq107⟩ := Z102 hq107
     have hl158 := Z130 hx157
     refine Z0 (Z179 (0) rfl rfl rfl rfl rfl (v3.isSome (by decide) hl158) (by omega)) rfl (Z24 rfl (Z0 (Z21 rfl rfl rfl (fun w m => v3.cell (More.of hΦ 2 m rfl) (u8s_at hx157))) rfl (Z24 rfl (Z0 (RV.geq rfl rfl) rfl (Z7 (.bool (decide (128 ≤ x156.toNat))) (congrArg Value.bool (decide_eq_decide.2 (by first | exact Int.ofNat_le | exact Int.ofNat_lt | omega | (simp; omega) | simp))) (Z0 (Z106 rfl rfl rfl) rfl (Z6 ?_)))))))
     exact QW.join ⟨(decide (128 ≤ x156.toNat)), (Zi hq107).symm, rfl, rfl⟩ ⟨rfl, rfl, rfl, trivial⟩ (fun w m => m.pick [0, 1] 2 rfl rfl)
    ·replace hq107 := if_f hq107 h155
     refine Z7 (.bool true) (congrArg Value.bool (congrArg (fun b => !b) (decide_eq_false h155))) (Z23 rfl rfl rfl (Z23 rfl rfl rfl (Z23 rfl rfl rfl (Z23 rfl rfl rfl (Z23 rfl rfl rfl (Z0 (Z105 rfl rfl rfl) rfl (Z6 ?_)))))))
     exact QW.join ⟨true, (Zi hq107).symm, rfl, rfl⟩ ⟨rfl, rfl, rfl, trivial⟩ (fun w m => m.pick [0, 1] 2 rfl rfl)
theorem rlp_lay_does (w0 : World) (Φ : Ctx) (N : List Ent) (hΦ : ∀ w, Mem w0 w N → Φ w) (ob0_ : Option Nat) (c0_ : Nat) (r0_ : List Value) (a0 : List (BitVec 8)) (cs1_ : List Value) (a1 : It) (res0 : List (BitVec 8)) (oa0 : OwnS ob0_ a0.length c0_ 1 (u8s a0) r0_) (ha1 : ItRd Φ cs1_ a1) (hf : rlp_lay a0 a1 = some res0) : DoesG Tryd.prog 65 [sl ob0_ 0 a0.length c0_, .agg cs1_.toArray] w0 [(ob0_, blk ((u8s a0) ++ r0_) 5)] N (fun v G => ∃ B : List Ent, ∃ or0 : Option Nat, ∃ kr0 : Nat, ∃ rr0 : List Value, (OwnS or0 res0.length kr0 1 (u8s res0) rr0) ∧ v = sl or0 0 res0.length kr0 ∧ G = (or0, blk ((u8s res0) ++ rr0) 5) :: B) := rlp_lay_rec w0 _ Φ N hΦ ob0_ c0_ r0_ a0 cs1_ a1 res0 oa0 ha1 hf
theorem waybillref07_put_rec (w0 : World) : ∀ (kf : Nat) (Φ : Ctx) (N : List Ent) (hΦ : ∀ w, Mem w0 w N → Φ w) (ob0_ : Option Nat) (c0_ : Nat) (r0_ : List Value) (a0 : List (BitVec 8)) (cs1_ : List Value) (a1 : It) (res0 : List (BitVec 8)) (oa0 : OwnS ob0_ a0.length c0_ 1 (u8s a0) r0_) (ha1 : ItRd Φ cs1_ a1) (hf : waybillref07_put.r kf a0 a1 = some res0), DoesG Tryd.prog 96 [sl ob0_ 0 a0.length c0_, .agg cs1_.toArray] w0 [(ob0_, blk ((u8s a0) ++ r0_) 5)] N (fun v G => ∃ B : List Ent, ∃ or0 : Option Nat, ∃ kr0 : Nat, ∃ rr0 : List Value, (OwnS or0 res0.length kr0 1 (u8s res0) rr0) ∧ v = sl or0 0 res0.length kr0 ∧ G = (or0, blk ((u8s res0) ++ rr0) 5) :: B) := by
 intro kf
 induction kf with
 | zero => intro Φ N hΦ ob0_ c0_ r0_ a0 cs1_ a1 res0 oa0 ha1 hf; rw [waybillref07_put.r] at hf; cases hf
 | succ kf ih =>
  intro Φ N hΦ ob0_ c0_ r0_ a0 cs1_ a1 res0 oa0 ha1 hf
  rw [waybillref07_put.r] at hf
  replace ha1 := ItRd.mono (Ψ := More w0 Φ []) (fun w q => q.1) _ _ ha1
  have h10 := ha1
  obtain ⟨A1, c2, A4, c5, cs7, e9, v3, v6, h8⟩ := ItRd.opn ha1
  subst e9
  have m11 := v3.mx
  have m12 := v6.mx
  have m13 := oa0.mx
  refine DoesG.enter Tryd.func96 rfl Tryd.ntmps96 rfl (M := ((ob0_, blk ((u8s a0) ++ r0_) 5) :: ([] ++ N))) rfl (Z4 (Z2 (OW.boxA rfl rfl (fun b14 => (Z0 (Z5 rfl) rfl (Z6 (Z1 (Z4 (Z4 (Z2 (Z0 (Z30 rfl rfl rfl rfl) rfl (Z0 (Z29 rfl Zh rfl rfl rfl rfl) rfl (Z0 (RV.not rfl) rfl ?_)))))))))))))
  refine Z6 (Z1 ?_)
  by_cases h15 : a1.list = true
  ·replace hf := if_t hf h15
   refine Z14 rfl (congrArg (fun b => !b) (h15)) (CW.skip (Z1 (Z4 (Z2 (Z0 (Z5 rfl) rfl (Z6 (Z1 (Z4 (Z4 (Z2 (Z0 (Z5 rfl) rfl (Z6 (Z1 ?_)))))))))))))
   obtain ⟨q16, hq17, hf⟩ := Z102 hf
   refine Z120 (fun L' M' => ∃ n18 : Nat, q16 = n18 ∧ (n18 ≤ 9223372036854775807) ∧ L' = [(0, sl ob0_ 0 a0.length c0_), (3, ptr (some b14) 0), (5, .int .i64 ((n18 : Nat) : Int))] ∧ M' = ((some b14, blk [.bool (a1.list), .slice A1 a1.data.length c2, .slice A4 a1.items.length c5] 25) :: (ob0_, blk ((u8s a0) ++ r0_) 5) :: ([] ++ N))) ?_ ?_
   ·rintro L21 M22 ⟨n18, e20, b19, e23, e24⟩
    rw [e23, e24]
    clear e23 e24 L21 M22
    clear hq17
    rw [e20] at hf
    clear e20
    try dsimp only at hf
    have m25 := oa0.mx
    refine Z1 (Z4 (Z2 (Z0 (Z3 rfl) rfl (Z0 (Z3 rfl) rfl ?_))))
    obtain ⟨x27, hx26, hf⟩ := Z102 hf
    refine Z12 Tryd.call125 rfl (Z147 w0 (More w0 Φ []) ((some b14, blk [.bool (a1.list), .slice A1 a1.data.length c2, .slice A4 a1.items.length c5] 25) :: (ob0_, blk ((u8s a0) ++ r0_) 5) :: ([] ++ N)) (fun w m => More.of hΦ 2 m rfl) n18 192 x27 (by omega) (by omega) hx26) rfl rfl ?_
    rintro L33 M34 ⟨B28, ob29, c30, r31, o32, e35, e36⟩
    rw [e35, e36]
    clear e35 e36 L33 M34
    refine Z20 (M' := ((ob29, blk ((u8s x27) ++ r31) 5) :: (some b14, blk [.bool (a1.list), .slice A1 a1.data.length c2, .slice A4 a1.items.length c5] 25) :: (ob0_, blk ((u8s a0) ++ r0_) 5) :: ((B28 ++ []) ++ N))) (fun w m => by have h := Z110 (A := B28) m 1 2 rfl rfl; exact h) ?_
    have gq1 : ∀ w, More w0 Φ (B28 ++ []) w → More w0 Φ [] w := fun w q => More.mono (fun w m => (m).appR) q
    replace h10 := ItRd.mono gq1 _ _ h10
    replace v3 := v3.mono gq1
    replace v6 := v6.mono gq1
    replace h8 := h8.mono (ItRd.mono gq1)
    have m37 := o32.mx
    refine OW.rot2 ?_
    obtain ⟨g38, hf⟩ := Z115 hf
    refine OW.appendOwn (s := 1) rfl rfl rfl rfl rfl rfl oa0 (fun w m => m.rd0 (List.Mem.tail _ Zh) (fun e => o32.nilc (by decide) e)) o32.n (Z119 _) (o32.zeroO (by decide)) (by decide) (by decide) (by first | omega | (simp only [i5, List.length_nil]; omega)) rfl rfl ((a0 ++ x27).length) (u8s (a0 ++ x27)) (List.length_append ..).symm (u8s_app _ _) (fun ob39 r40 c41 o42 => ?_)
    have m43 := o42.mx
    refine Z0 (Z5 rfl) rfl (Z6 (Z1 (Z4 (Z4 (Z2 (Z0 (Z5 rfl) rfl (Z6 (Z1 ?_))))))))
    obtain ⟨q44, hq45, hf⟩ := Z102 hf
    refine Z120 (fun L' M' => ∃ l48 : List (BitVec 8), ∃ B46 : List Ent, ∃ ob49 : Option Nat, ∃ c50 : Nat, ∃ r51 : List Value, q44 = l48 ∧ (∀ w, Mem w0 w B46 → Mem w0 w (B28 ++ [])) ∧ (OwnS ob49 l48.length c50 1 (u8s l48) r51) ∧ L' = [(0, sl ob49 0 l48.length c50)] ∧ M' = ((ob49, blk ((u8s l48) ++ r51) 5) :: (B46 ++ N))) ?_ ?_
    ·rintro L54 M55 ⟨l48, B46, ob49, c50, r51, e53, hB47, o52, e56, e57⟩
     rw [e56, e57]
     clear e56 e57 L54 M55
     clear hq45
     rw [e53] at hf
     clear e53
     try dsimp only at hf
     have m58 := o52.mx
     refine Z1 (Z4 (Z2 (Z0 (Z3 rfl) rfl (Z0 (Z5 rfl) rfl (Z6 (Z1 (CW.ret ?_)))))))
     have e0 := Zi hf
     subst e0
     refine Z108 (rs := [.tmp 4]) ([sl ob49 0 l48.length c50]) ((ob49, blk ((u8s l48) ++ r51) 5) :: B46) rfl ?_ rfl ?_ ?_ _ (.inl rfl)
     ·exact ⟨rfl, trivial⟩
     ·exact ⟨B46, ob49, c50, r51, o52, rfl, rfl⟩
     ·exact (fun w m => m.pick [0] 1 rfl rfl)
    ·skip
     refine CW.block (Z121 (fun k L' M' => ∃ l61 : List (BitVec 8), ∃ n66 : Nat, ∃ B59 : List Ent, ∃ ob62 : Option Nat, ∃ c63 : Nat, ∃ r64 : List Value, (waybillref07_put.l1 a1 (waybillref07_put.r kf) k l61 n66) = some q44 ∧ (∀ w, Mem w0 w B59 → Mem w0 w (B28 ++ [])) ∧ (OwnS ob62 l61.length c63 1 (u8s l61) r64) ∧ (n66 ≤ 9223372036854775807) ∧ L' = [(0, sl ob62 0 l61.length c63), (3, ptr (some b14) 0), (7, .int .i64 ((n66 : Nat) : Int))] ∧ M' = ((ob62, blk ((u8s l61) ++ r64) 5) :: (some b14, blk [.bool (a1.list), .slice A1 a1.data.length c2, .slice A4 a1.items.length c5] 25) :: (B59 ++ N))) (k0 := (a1.items.length - 0 + 2)) ⟨(a0 ++ x27), 0, (B28 ++ []), ob39, c41, r40, hq45, (fun w m => m), o42, (by omega), rfl, rfl⟩ ⟨rfl, rfl, rfl, trivial⟩ (fun w m => m.pick [0, 2] 3 rfl rfl) ?_)
     clear hq45
     rintro k68 L71 M72 ⟨l61, n66, B59, ob62, c63, r64, hl69, hB60, o65, b67, e73, e74⟩
     rw [e73, e74]
     clear e73 e74 L71 M72
     rcases k68 with _ | k68
     ·rw [waybillref07_put.l1] at hl69; cases hl69
     rw [waybillref07_put.l1] at hl69
     have gq4 : ∀ w, More w0 Φ B59 w → More w0 Φ (B28 ++ []) w := fun w q => More.mono (fun w m => hB60 w (m)) q
     replace h10 := ItRd.mono gq4 _ _ h10
     replace v3 := v3.mono gq4
     replace v6 := v6.mono gq4
     replace h8 := h8.mono (ItRd.mono gq4)
     have m75 := o65.mx
     refine Z4 (Z4 (Z2 (Z0 (Z3 rfl) rfl (Z0 (Z30 rfl rfl rfl rfl) rfl (Z0 (Z29 rfl (List.Mem.tail _ Zh) rfl rfl rfl rfl) rfl (Z0 (RV.len rfl rfl) rfl (Z0 (RV.lss rfl rfl) rfl (Z7 (.bool (decide (n66 < a1.items.length))) (congrArg Value.bool (decide_eq_decide.2 (by omega))) (Z6 (Z1 ?_))))))))))
     by_cases h76 : n66 < a1.items.length
     ·replace hl69 := if_t hl69 h76
      refine Z13 rfl (decide_eq_true h76) (CW.skip (Z1 (Z4 (CW.block (Z2 (Z0 (Z3 rfl) rfl (Z0 (Z30 rfl rfl rfl rfl) rfl (Z0 (Z29 rfl (List.Mem.tail _ Zh) rfl rfl rfl rfl) rfl (Z0 (Z3 rfl) rfl ?_)))))))))
      obtain ⟨x77, hx78, hl69⟩ := Z102 hl69
      have hl79 := Z130 hx78
      refine Z0 (Z157 (n66) rfl rfl rfl rfl rfl (v6.isSome (by decide) hl79) (by omega)) rfl ?_
      obtain ⟨cs80, h81, h82⟩ := h8.get ItRd.len hx78
      have h92 := h81
      obtain ⟨A83, c84, A86, c87, cs89, e91, v85, v88, h90⟩ := ItRd.opn h81
      subst e91
      have m93 := v85.mx
      have m94 := v88.mx
      refine Z0 (Z156 rfl rfl rfl rfl (fun w m => v6.load (More.of hΦ 2 m rfl) h82) rfl) rfl ?_
      obtain ⟨x96, hx95, hl69⟩ := Z102 hl69
      refine Z12 Tryd.call96 rfl (ih (More w0 Φ B59) ((some b14, blk [.bool (a1.list), .slice A1 a1.data.length c2, .slice A4 a1.items.length c5] 25) :: (B59 ++ N)) (fun w m => More.of hΦ 1 m rfl) ob62 c63 r64 l61 [.bool (x77.list), .slice A83 x77.data.length c84, .slice A86 x77.items.length c87] x77 x96 o65 h92 hx95) rfl rfl ?_
      rintro L102 M103 ⟨B97, ob98, c99, r100, o101, e104, e105⟩
      rw [e104, e105]
      clear e104 e105 L102 M103
      refine Z20 (M' := ((ob98, blk ((u8s x96) ++ r100) 5) :: (some b14, blk [.bool (a1.list), .slice A1 a1.data.length c2, .slice A4 a1.items.length c5] 25) :: ((B97 ++ B59) ++ N))) (fun w m => by have h := Z110 (A := B97) m 1 1 rfl rfl; exact h) ?_
      have gq5 : ∀ w, More w0 Φ (B97 ++ B59) w → More w0 Φ B59 w := fun w q => More.mono (fun w m => (m).appR) q
      replace v6 := v6.mono gq5
      replace h8 := h8.mono (ItRd.mono gq5)
      replace h92 := ItRd.mono gq5 _ _ h92
      replace v85 := v85.mono gq5
      replace v88 := v88.mono gq5
      replace h90 := h90.mono (ItRd.mono gq5)
      replace h10 := ItRd.mono gq5 _ _ h10
      replace v3 := v3.mono gq5
      have m106 := o101.mx
      refine Z0 (Z5 rfl) rfl (Z6 (Z27 (Z1 (Z2 (Z0 (Z3 rfl) rfl (Z0 (RV.add rfl rfl (by omega)) rfl (Z7 (.int .i64 (((n66 + 1) : Nat) : Int)) (by first | rfl | (congr 1) | (congr 1; omega)) (Z0 (Z5 rfl) rfl (Z6 ?_)))))))))
      exact Z114 (k' := k68) (Nat.lt_succ_self _) ⟨x96, (n66 + 1), (B97 ++ B59), ob98, c99, r100, hl69, (fun w m => hB60 w ((m).appR)), o101, (by omega), rfl, rfl⟩ ⟨rfl, rfl, rfl, trivial⟩ (fun w m => m.pick [0, 1] 2 rfl rfl)
     ·replace hl69 := if_f hl69 h76
      refine Z14 rfl (decide_eq_false h76) (CW.exit (Z9 (Z9 (Z15 ?_))))
      exact QW.join ⟨l61, B59, ob62, c63, r64, (Zi hl69).symm, (fun w m => hB60 w (m)), o65, rfl, rfl⟩ ⟨rfl, trivial⟩ (fun w m => m.pick [0] 2 rfl rfl)
   ·skip
    refine CW.block (Z121 (fun k L' M' => ∃ n107 : Nat, ∃ n109 : Nat, (waybillref07_put.l2 a1 k n107 n109) = some q16 ∧ (n107 ≤ 9223372036854775807) ∧ (n109 ≤ 9223372036854775807) ∧ L' = [(0, sl ob0_ 0 a0.length c0_), (3, ptr (some b14) 0), (5, .int .i64 ((n107 : Nat) : Int)), (6, .int .i64 ((n109 : Nat) : Int))] ∧ M' = ((some b14, blk [.bool (a1.list), .slice A1 a1.data.length c2, .slice A4 a1.items.length c5] 25) :: (ob0_, blk ((u8s a0) ++ r0_) 5) :: ([] ++ N))) (k0 := (a1.items.length - 0 + 2)) ⟨0, 0, hq17, (by omega), (by omega), rfl, rfl⟩ ⟨rfl, rfl, rfl, rfl, trivial⟩ (fun w m => m.pick [0, 1] 2 rfl rfl) ?_)
    clear hq17
    rintro k111 L114 M115 ⟨n107, n109, hl112, b108, b110, e116, e117⟩
    rw [e116, e117]
    clear e116 e117 L114 M115
    rcases k111 with _ | k111
    ·rw [waybillref07_put.l2] at hl112; cases hl112
    rw [waybillref07_put.l2] at hl112
    have m118 := oa0.mx
    refine Z4 (Z4 (Z2 (Z0 (Z3 rfl) rfl (Z0 (Z30 rfl rfl rfl rfl) rfl (Z0 (Z29 rfl Zh rfl rfl rfl rfl) rfl (Z0 (RV.len rfl rfl) rfl (Z0 (RV.lss rfl rfl) rfl (Z7 (.bool (decide (n109 < a1.items.length))) (congrArg Value.bool (decide_eq_decide.2 (by omega))) (Z6 (Z1 ?_))))))))))
    by_cases h119 : n109 < a1.items.length
    ·replace hl112 := if_t hl112 h119
     refine Z13 rfl (decide_eq_true h119) (CW.skip (Z1 (Z4 (CW.block (Z2 (Z0 (Z3 rfl) rfl (Z0 (Z30 rfl rfl rfl rfl) rfl (Z0 (Z29 rfl Zh rfl rfl rfl rfl) rfl (Z0 (Z3 rfl) rfl ?_)))))))))
     obtain ⟨x120, hx121, hl112⟩ := Z102 hl112
     have hl122 := Z130 hx121
     refine Z0 (Z157 (n109) rfl rfl rfl rfl rfl (v6.isSome (by decide) hl122) (by omega)) rfl ?_
     obtain ⟨cs123, h124, h125⟩ := h8.get ItRd.len hx121
     have h135 := h124
     obtain ⟨A126, c127, A129, c130, cs132, e134, v128, v131, h133⟩ := ItRd.opn h124
     subst e134
     have m136 := v128.mx
     have m137 := v131.mx
     refine Z0 (Z156 rfl rfl rfl rfl (fun w m => v6.load (More.of hΦ 2 m rfl) h125) rfl) rfl ?_
     obtain ⟨x139, hx138, hl112⟩ := Z102 hl112
     refine Z12 Tryd.call124 rfl (waybillref07_size_does w0 (More w0 Φ []) ((some b14, blk [.bool (a1.list), .slice A1 a1.data.length c2, .slice A4 a1.items.length c5] 25) :: (ob0_, blk ((u8s a0) ++ r0_) 5) :: ([] ++ N)) (fun w m => More.of hΦ 2 m rfl) [.bool (x120.list), .slice A126 x120.data.length c127, .slice A129 x120.items.length c130] x120 x139 h135 hx138) rfl rfl ?_
     rintro _ G141 ⟨b140, rfl⟩
     refine Z20 (M' := ((some b14, blk [.bool (a1.list), .slice A1 a1.data.length c2, .slice A4 a1.items.length c5] 25) :: (ob0_, blk ((u8s a0) ++ r0_) 5) :: ([] ++ N))) (fun w m => m.appR) ?_
     obtain ⟨g143, hl112⟩ := Z115 hl112
     refine Z0 (RV.add rfl rfl (by omega)) rfl (Z7 (.int .i64 (((n107 + x139) : Nat) : Int)) (by first | rfl | (congr 1) | (congr 1; omega)) (Z0 (Z5 rfl) rfl (Z6 (Z27 (Z1 (Z2 (Z0 (Z3 rfl) rfl (Z0 (RV.add rfl rfl (by omega)) rfl (Z7 (.int .i64 (((n109 + 1) : Nat) : Int)) (by first | rfl | (congr 1) | (congr 1; omega)) (Z0 (Z5 rfl) rfl ?_))))))))))
     refine Z6 ?_
     exact Z114 (k' := k111) (Nat.lt_succ_self _) ⟨(n107 + x139), (n109 + 1), hl112, (by omega), (by omega), rfl, rfl⟩ ⟨rfl, rfl, rfl, rfl, trivial⟩ (fun w m => m.pick [0, 1] 2 rfl rfl)
    ·replace hl112 := if_f hl112 h119
     refine Z14 rfl (decide_eq_false h119) (CW.exit (Z9 (Z9 (Z15 ?_))))
     exact QW.join ⟨n107, (Zi hl112).symm, (by omega), rfl, rfl⟩ ⟨rfl, rfl, rfl, trivial⟩ (fun w m => m.pick [0, 1] 2 rfl rfl)
  ·replace hf := if_f hf h15
   refine Z13 rfl (congrArg (fun b => !b) (Bool.eq_false_iff.2 h15)) (Z4 (Z4 ?_))
   obtain ⟨q144, hq145, hf⟩ := Z102 hf
   refine Z120 (fun L' M' => ∃ p146 : Bool, q144 = p146 ∧ L' = [(0, sl ob0_ 0 a0.length c0_), (3, ptr (some b14) 0), (21, .bool (p146))] ∧ M' = ((some b14, blk [.bool (a1.list), .slice A1 a1.data.length c2, .slice A4 a1.items.length c5] 25) :: (ob0_, blk ((u8s a0) ++ r0_) 5) :: ([] ++ N))) ?_ ?_
   ·rintro L148 M149 ⟨p146, e147, e150, e151⟩
    rw [e150, e151]
    clear e150 e151 L148 M149
    clear hq145
    rw [e147] at hf
    clear e147
    try dsimp only at hf
    have m152 := oa0.mx
    refine Z1 ?_
    obtain ⟨q153, hq154, hf⟩ := Z102 hf
    refine Z120 (fun L' M' => ∃ l157 : List (BitVec 8), ∃ B155 : List Ent, ∃ ob158 : Option Nat, ∃ c159 : Nat, ∃ r160 : List Value, q153 = l157 ∧ (∀ w, Mem w0 w B155 → Mem w0 w []) ∧ (OwnS ob158 l157.length c159 1 (u8s l157) r160) ∧ L' = [(0, sl ob158 0 l157.length c159), (3, ptr (some b14) 0)] ∧ M' = ((ob158, blk ((u8s l157) ++ r160) 5) :: (some b14, blk [.bool (a1.list), .slice A1 a1.data.length c2, .slice A4 a1.items.length c5] 25) :: (B155 ++ N))) ?_ ?_
    ·rintro L163 M164 ⟨l157, B155, ob158, c159, r160, e162, hB156, o161, e165, e166⟩
     rw [e165, e166]
     clear e165 e166 L163 M164
     clear hq154
     rw [e162] at hf
     clear e162
     try dsimp only at hf
     have gq6 : ∀ w, More w0 Φ B155 w → More w0 Φ [] w := fun w q => More.mono (fun w m => hB156 w (m)) q
     replace h10 := ItRd.mono gq6 _ _ h10
     replace v3 := v3.mono gq6
     replace v6 := v6.mono gq6
     replace h8 := h8.mono (ItRd.mono gq6)
     have m167 := o161.mx
     refine Z1 (Z4 (Z2 (Z0 (Z3 rfl) rfl (Z0 (Z30 rfl rfl rfl rfl) rfl (Z0 (Z29 rfl (List.Mem.tail _ Zh) rfl rfl rfl rfl) rfl ?_)))))
     obtain ⟨g168, hf⟩ := Z115 hf
     refine OW.appendOwn (s := 1) rfl rfl rfl rfl rfl rfl o161 (fun w m => v3.rd w (More.of hΦ 2 m rfl)) v3.n (Z119 _) (v3.zero (by decide)) (by decide) (by decide) (by first | omega | (simp only [i5, List.length_nil]; omega)) rfl rfl ((l157 ++ a1.data).length) (u8s (l157 ++ a1.data)) (List.length_append ..).symm (u8s_app _ _) (fun ob169 r170 c171 o172 => ?_)
     have m173 := o172.mx
     refine Z0 (Z5 rfl) rfl (Z6 (Z1 (CW.ret (Z8 ?_))))
     have e0 := Zi hf
     subst e0
     refine Z108 (rs := [.tmp 4]) ([sl ob169 0 (l157 ++ a1.data).length c171]) ((ob169, blk ((u8s (l157 ++ a1.data)) ++ r170) 5) :: B155) rfl ?_ rfl ?_ ?_ _ (.inl rfl)
     ·exact ⟨rfl, trivial⟩
     ·exact ⟨B155, ob169, c171, r170, o172, rfl, rfl⟩
     ·exact (fun w m => m.pick [0] 2 rfl rfl)
    ·skip
     by_cases h174 : p146 = true
     ·replace hq154 := if_t hq154 h174
      refine Z13 rfl (h174) (Z2 (Z0 (Z3 rfl) rfl (Z0 (Z30 rfl rfl rfl rfl) rfl (Z0 (Z29 rfl Zh rfl rfl rfl rfl) rfl (Z0 (RV.len rfl rfl) rfl ?_)))))
      obtain ⟨x176, hx175, hq154⟩ := Z102 hq154
      refine Z12 Tryd.call125 rfl (Z147 w0 (More w0 Φ []) ((some b14, blk [.bool (a1.list), .slice A1 a1.data.length c2, .slice A4 a1.items.length c5] 25) :: (ob0_, blk ((u8s a0) ++ r0_) 5) :: ([] ++ N)) (fun w m => More.of hΦ 2 m rfl) a1.data.length 128 x176 (by omega) (by omega) hx175) rfl rfl ?_
      rintro L182 M183 ⟨B177, ob178, c179, r180, o181, e184, e185⟩
      rw [e184, e185]
      clear e184 e185 L182 M183
      refine Z20 (M' := ((ob178, blk ((u8s x176) ++ r180) 5) :: (some b14, blk [.bool (a1.list), .slice A1 a1.data.length c2, .slice A4 a1.items.length c5] 25) :: (ob0_, blk ((u8s a0) ++ r0_) 5) :: ((B177 ++ []) ++ N))) (fun w m => by have h := Z110 (A := B177) m 1 2 rfl rfl; exact h) ?_
      have gq7 : ∀ w, More w0 Φ (B177 ++ []) w → More w0 Φ [] w := fun w q => More.mono (fun w m => (m).appR) q
      replace v3 := v3.mono gq7
      replace h10 := ItRd.mono gq7 _ _ h10
      replace v6 := v6.mono gq7
      replace h8 := h8.mono (ItRd.mono gq7)
      have m186 := o181.mx
      refine OW.rot2 ?_
      obtain ⟨g187, hq154⟩ := Z115 hq154
      refine OW.appendOwn (s := 1) rfl rfl rfl rfl rfl rfl oa0 (fun w m => m.rd0 (List.Mem.tail _ Zh) (fun e => o181.nilc (by decide) e)) o181.n (Z119 _) (o181.zeroO (by decide)) (by decide) (by decide) (by first | omega | (simp only [i5, List.length_nil]; omega)) rfl rfl ((a0 ++ x176).length) (u8s (a0 ++ x176)) (List.length_append ..).symm (u8s_app _ _) (fun ob188 r189 c190 o191 => ?_)
      have m192 := o191.mx
      refine Z0 (Z5 rfl) rfl (Z6 ?_)
      exact QW.join ⟨(a0 ++ x176), (B177 ++ []), ob188, c190, r189, (Zi hq154).symm, (fun w m => (m).appR), o191, rfl, rfl⟩ ⟨rfl, rfl, trivial⟩ (fun w m => m.pick [0, 2] 3 rfl rfl)
     ·replace hq154 := if_f hq154 h174
      refine Z14 rfl (Bool.eq_false_iff.2 h174) (CW.skip ?_)
      exact QW.join ⟨a0, [], ob0_, c0_, r0_, (Zi hq154).symm, (fun w m => m), oa0, rfl, rfl⟩ ⟨rfl, rfl, trivial⟩ (fun w m => m.pick [1, 0] 2 rfl rfl)
   ·skip
    refine Z2 (Z0 (Z30 rfl rfl rfl rfl) rfl (Z0 (Z29 rfl Zh rfl rfl rfl rfl) rfl (Z0 (RV.len rfl rfl) rfl (Z0 (RV.neq rfl rfl) rfl (Z7 (.bool (!decide (a1.data.length = 1))) (congrArg (fun b => Value.bool (!b)) (decide_eq_decide.2 (by omega))) (Z0 (Z3 rfl) rfl ?_))))))
    by_cases h193 : a1.data.length = 1
    ·replace hq145 := if_t hq145 h193
     refine Z7 (.bool false) (congrArg Value.bool (congrArg (fun b => !b) (decide_eq_true h193))) (Z24 rfl (Z0 (Z30 rfl rfl rfl rfl) rfl (Z24 rfl (Z0 (Z29 rfl Zh rfl rfl rfl rfl) rfl (Z24 rfl ?_)))))
     obtain ⟨x194, hx195, hq145⟩ := Z102 hq145
     have hl196 := Z130 hx195
     refine Z0 (Z179 (0) rfl rfl rfl rfl rfl (v3.isSome (by decide) hl196) (by omega)) rfl (Z24 rfl (Z0 (Z21 rfl rfl rfl (fun w m => v3.cell (More.of hΦ 2 m rfl) (u8s_at hx195))) rfl (Z24 rfl (Z0 (RV.geq rfl rfl) rfl (Z7 (.bool (decide (128 ≤ x194.toNat))) (congrArg Value.bool (decide_eq_decide.2 (by first | exact Int.ofNat_le | exact Int.ofNat_lt | omega | (simp; omega) | simp))) (Z0 (Z106 rfl rfl rfl) rfl (Z6 ?_)))))))
     exact QW.join ⟨(decide (128 ≤ x194.toNat)), (Zi hq145).symm, rfl, rfl⟩ ⟨rfl, rfl, rfl, trivial⟩ (fun w m => m.pick [0, 1] 2 rfl rfl)
    ·replace hq145 := if_f hq145 h193
     refine Z7 (.bool true) (congrArg Value.bool (congrArg (fun b => !b) (decide_eq_false h193))) (Z23 rfl rfl rfl (Z23 rfl rfl rfl (Z23 rfl rfl rfl (Z23 rfl rfl rfl (Z23 rfl rfl rfl (Z0 (Z105 rfl rfl rfl) rfl (Z6 ?_)))))))
     exact QW.join ⟨true, (Zi hq145).symm, rfl, rfl⟩ ⟨rfl, rfl, rfl, trivial⟩ (fun w m => m.pick [0, 1] 2 rfl rfl)
theorem waybillref07_put_does (w0 : World) (Φ : Ctx) (N : List Ent) (hΦ : ∀ w, Mem w0 w N → Φ w) (ob0_ : Option Nat) (c0_ : Nat) (r0_ : List Value) (a0 : List (BitVec 8)) (cs1_ : List Value) (a1 : It) (res0 : List (BitVec 8)) (oa0 : OwnS ob0_ a0.length c0_ 1 (u8s a0) r0_) (ha1 : ItRd Φ cs1_ a1) (hf : waybillref07_put a0 a1 = some res0) : DoesG Tryd.prog 96 [sl ob0_ 0 a0.length c0_, .agg cs1_.toArray] w0 [(ob0_, blk ((u8s a0) ++ r0_) 5)] N (fun v G => ∃ B : List Ent, ∃ or0 : Option Nat, ∃ kr0 : Nat, ∃ rr0 : List Value, (OwnS or0 res0.length kr0 1 (u8s res0) rr0) ∧ v = sl or0 0 res0.length kr0 ∧ G = (or0, blk ((u8s res0) ++ rr0) 5) :: B) := waybillref07_put_rec w0 _ Φ N hΦ ob0_ c0_ r0_ a0 cs1_ a1 res0 oa0 ha1 hf
theorem rlp_Number_does (w0 : World) (Φ : Ctx) (N : List Ent) (hΦ : ∀ w, Mem w0 w N → Φ w) (a0 : Vector (BitVec 64) 4) (res0 : It) (hf : rlp_Number a0 = some res0) : DoesG Tryd.prog 91 [.agg (u64s a0.toList).toArray] w0 [] N (fun v G => ∃ B : List Ent, ∃ cr0 : List Value, (ItRd (More w0 Φ B) cr0 res0) ∧ v = .agg cr0.toArray ∧ G = B) := by
 unfold rlp_Number at hf
 refine DoesG.enter Tryd.func91 rfl Tryd.ntmps91 rfl (M := (([] ++ N))) rfl (Z4 (Z2 (OW.boxA rfl rfl (fun b1 => (OW.alloc (l := [.bool false, .slice none 0 0, .slice none 0 0]) rfl rfl rfl (fun b2 => (Z6 (Z1 (Z4 (Z2 (Z0 (Z22 rfl (List.Mem.tail _ Zh) rfl rfl rfl rfl ((Z103 _).trans Zv)) rfl ?_)))))))))))
 obtain ⟨x4, hx3, hf⟩ := Z102 hf
 refine Z12 Tryd.call120 rfl (u256_Bytes_does w0 (More w0 Φ []) ((some b2, blk [.bool false, .slice none 0 0, .slice none 0 0] 25) :: (some b1, blk (u64s a0.toList) 35) :: ([] ++ N)) (fun w m => More.of hΦ 2 m rfl) a0 x4 hx3) rfl rfl ?_
 rintro L10 M11 ⟨B5, ob6, c7, r8, o9, e12, e13⟩
 rw [e12, e13]
 clear e12 e13 L10 M11
 refine Z20 (M' := ((ob6, blk ((u8s x4) ++ r8) 5) :: (some b2, blk [.bool false, .slice none 0 0, .slice none 0 0] 25) :: (some b1, blk (u64s a0.toList) 35) :: ((B5 ++ []) ++ N))) (fun w m => by have h := Z110 (A := B5) m 1 2 rfl rfl; exact h) ?_
 have m14 := o9.mx
 refine Z0 (Z112 (l := [.bool false, .slice none 0 0, .slice none 0 0]) (cs := [.bool false, sl ob6 0 x4.length c7, .slice none 0 0]) [(1, [sl ob6 0 x4.length c7])] rfl rfl rfl rfl rfl rfl rfl) rfl (OW.rot1 ?_)
 refine Z28 (Z109 rfl rfl rfl (by intro u hu; simp at hu; rcases hu with rfl | rfl | rfl <;> rfl) rfl rfl rfl) ?_
 refine Z6 (Z1 (CW.ret (QW.mem (M' := (some b2, blk [.bool false, sl ob6 0 x4.length c7, .slice none 0 0] 25) :: (some b1, blk (u64s a0.toList) 35) :: (((ob6, blk ((u8s x4) ++ r8) 5) :: (B5 ++ [])) ++ N)) (fun w m => m.pick [0, 2, 1] 3 rfl rfl) ?_)))
 have v15 : View (More w0 Φ ((ob6, blk ((u8s x4) ++ r8) 5) :: (B5 ++ []))) ((ob6).map fun k => ⟨k, 0, none⟩) x4.length c7 1 (u8s x4) := o9.view (by decide) (fun w q => q.2.sublist (List.singleton_sublist.2 (List.mem_cons_self ..)))
 have e0 := Zi hf
 subst e0
 have v16 : View (More w0 Φ ((ob6, blk ((u8s x4) ++ r8) 5) :: (B5 ++ []))) none ([] : List (It)).length 0 3 [] := View.nil
 refine Z108 (rs := [.cell 2 25]) ([.agg [.bool false, .slice ((ob6).map fun k => ⟨k, 0, none⟩) x4.length c7, .slice none 0 0].toArray]) (((ob6, blk ((u8s x4) ++ r8) 5) :: (B5 ++ []))) rfl ?_ rfl ?_ ?_ _ (.inl rfl)
 ·exact ⟨⟨_, _, _, _, rfl, Zh, rfl, rfl, rfl, rfl⟩, trivial⟩
 ·exact ⟨((ob6, blk ((u8s x4) ++ r8) 5) :: (B5 ++ [])), [.bool false, .slice ((ob6).map fun k => ⟨k, 0, none⟩) x4.length c7, .slice none 0 0], (ItRd.mk v15 v16 (Reps.nil)), rfl, rfl⟩
 ·exact (fun w m => m.pick [] 2 rfl rfl)
theorem Z148 (w0 : World) (Φ : Ctx) (N : List Ent) (hΦ : ∀ w, Mem w0 w N → Φ w) (a0 : Vector (BitVec 64) 4) (res0 : It) (hf : waybillref07_Number a0 = some res0) : DoesG Tryd.prog 60 [.agg (u64s a0.toList).toArray] w0 [] N (fun v G => ∃ B : List Ent, ∃ cr0 : List Value, (ItRd (More w0 Φ B) cr0 res0) ∧ v = .agg cr0.toArray ∧ G = B) := by
 unfold waybillref07_Number at hf
 refine DoesG.enter Tryd.func60 rfl Tryd.ntmps60 rfl (M := (([] ++ N))) rfl (Z4 (Z2 (OW.boxA rfl rfl (fun b1 => (OW.alloc (l := [.bool false, .slice none 0 0, .slice none 0 0]) rfl rfl rfl (fun b2 => (Z6 (Z1 (Z4 (Z2 (Z0 (Z22 rfl (List.Mem.tail _ Zh) rfl rfl rfl rfl ((Z103 _).trans Zv)) rfl ?_)))))))))))
 obtain ⟨x4, hx3, hf⟩ := Z102 hf
 refine Z12 Tryd.call93 rfl (waybillref01_Bytes_does w0 (More w0 Φ []) ((some b2, blk [.bool false, .slice none 0 0, .slice none 0 0] 25) :: (some b1, blk (u64s a0.toList) 35) :: ([] ++ N)) (fun w m => More.of hΦ 2 m rfl) a0 x4 hx3) rfl rfl ?_
 rintro L10 M11 ⟨B5, ob6, c7, r8, o9, e12, e13⟩
 rw [e12, e13]
 clear e12 e13 L10 M11
 refine Z20 (M' := ((ob6, blk ((u8s x4) ++ r8) 5) :: (some b2, blk [.bool false, .slice none 0 0, .slice none 0 0] 25) :: (some b1, blk (u64s a0.toList) 35) :: ((B5 ++ []) ++ N))) (fun w m => by have h := Z110 (A := B5) m 1 2 rfl rfl; exact h) ?_
 have m14 := o9.mx
 refine Z0 (Z112 (l := [.bool false, .slice none 0 0, .slice none 0 0]) (cs := [.bool false, sl ob6 0 x4.length c7, .slice none 0 0]) [(1, [sl ob6 0 x4.length c7])] rfl rfl rfl rfl rfl rfl rfl) rfl (OW.rot1 ?_)
 refine Z28 (Z109 rfl rfl rfl (by intro u hu; simp at hu; rcases hu with rfl | rfl | rfl <;> rfl) rfl rfl rfl) ?_
 refine Z6 (Z1 (CW.ret (QW.mem (M' := (some b2, blk [.bool false, sl ob6 0 x4.length c7, .slice none 0 0] 25) :: (some b1, blk (u64s a0.toList) 35) :: (((ob6, blk ((u8s x4) ++ r8) 5) :: (B5 ++ [])) ++ N)) (fun w m => m.pick [0, 2, 1] 3 rfl rfl) ?_)))
 have v15 : View (More w0 Φ ((ob6, blk ((u8s x4) ++ r8) 5) :: (B5 ++ []))) ((ob6).map fun k => ⟨k, 0, none⟩) x4.length c7 1 (u8s x4) := o9.view (by decide) (fun w q => q.2.sublist (List.singleton_sublist.2 (List.mem_cons_self ..)))
 have e0 := Zi hf
 subst e0
 have v16 : View (More w0 Φ ((ob6, blk ((u8s x4) ++ r8) 5) :: (B5 ++ []))) none ([] : List (It)).length 0 3 [] := View.nil
 refine Z108 (rs := [.cell 2 25]) ([.agg [.bool false, .slice ((ob6).map fun k => ⟨k, 0, none⟩) x4.length c7, .slice none 0 0].toArray]) (((ob6, blk ((u8s x4) ++ r8) 5) :: (B5 ++ []))) rfl ?_ rfl ?_ ?_ _ (.inl rfl)
 ·exact ⟨⟨_, _, _, _, rfl, Zh, rfl, rfl, rfl, rfl⟩, trivial⟩
 ·exact ⟨((ob6, blk ((u8s x4) ++ r8) 5) :: (B5 ++ [])), [.bool false, .slice ((ob6).map fun k => ⟨k, 0, none⟩) x4.length c7, .slice none 0 0], (ItRd.mk v15 v16 (Reps.nil)), rfl, rfl⟩
 ·exact (fun w m => m.pick [] 2 rfl rfl)
theorem rlp_Small_does (w0 : World) (Φ : Ctx) (N : List Ent) (hΦ : ∀ w, Mem w0 w N → Φ w) (a0 : BitVec 64) (res0 : It) (hf : rlp_Small a0 = some res0) : DoesG Tryd.prog 92 [U64 a0] w0 [] N (fun v G => ∃ B : List Ent, ∃ cr0 : List Value, (ItRd (More w0 Φ B) cr0 res0) ∧ v = .agg cr0.toArray ∧ G = B) := by
 unfold rlp_Small at hf
 refine DoesG.enter Tryd.func92 rfl Tryd.ntmps92 rfl (M := (([] ++ N))) rfl (Z4 (Z2 (OW.alloc (l := [.bool false, .slice none 0 0, .slice none 0 0]) rfl rfl rfl (fun b1 => (Z6 (Z1 (Z4 (Z2 (Z0 (Z3 rfl) rfl ?_)))))))))
 obtain ⟨x3, hx2, hf⟩ := Z102 hf
 refine Z12 Tryd.call104 rfl (u256_From_does w0 (More w0 Φ []) ((some b1, blk [.bool false, .slice none 0 0, .slice none 0 0] 25) :: ([] ++ N)) (fun w m => More.of hΦ 1 m rfl) a0 x3 hx2) rfl rfl ?_
 rintro _ G4 rfl
 refine Z20 (M' := ((some b1, blk [.bool false, .slice none 0 0, .slice none 0 0] 25) :: ([] ++ N))) (fun w m => m.appR) ?_
 obtain ⟨x7, hx6, hf⟩ := Z102 hf
 refine Z12 Tryd.call91 rfl (rlp_Number_does w0 (More w0 Φ []) ((some b1, blk [.bool false, .slice none 0 0, .slice none 0 0] 25) :: ([] ++ N)) (fun w m => More.of hΦ 1 m rfl) x3 x7 hx6) rfl rfl ?_
 rintro L11 M12 ⟨B8, cs9, h10, e13, e14⟩
 rw [e13, e14]
 clear e13 e14 L11 M12
 refine Z20 (M' := ((some b1, blk [.bool false, .slice none 0 0, .slice none 0 0] 25) :: ((B8 ++ []) ++ N))) (fun w m => by have h := Z110 (A := B8) m 0 1 rfl rfl; exact h) ?_
 replace h10 := ItRd.mono (Ψ := (More w0 Φ (B8 ++ []))) (fun w q => More.flat q) _ _ h10
 have h24 := h10
 obtain ⟨A15, c16, A18, c19, cs21, e23, v17, v20, h22⟩ := ItRd.opn h10
 subst e23
 have m25 := v17.mx
 have m26 := v20.mx
 have m27 := v17.mx
 have m28 := v20.mx
 refine Z28 (Z109 rfl rfl rfl (by intro u hu; simp at hu; rcases hu with rfl | rfl | rfl <;> rfl) rfl rfl rfl) ?_
 refine Z6 (Z1 (CW.ret ?_))
 have e0 := Zi hf
 subst e0
 refine Z108 (rs := [.cell 2 25]) ([.agg [.bool (x7.list), .slice A15 x7.data.length c16, .slice A18 x7.items.length c19].toArray]) ((B8 ++ [])) rfl ?_ rfl ?_ ?_ _ (.inl rfl)
 ·exact ⟨⟨_, _, _, _, rfl, Zh, rfl, rfl, rfl, rfl⟩, trivial⟩
 ·exact ⟨(B8 ++ []), [.bool (x7.list), .slice A15 x7.data.length c16, .slice A18 x7.items.length c19], h24, rfl, rfl⟩
 ·exact (fun w m => m.pick [] 1 rfl rfl)
theorem Z124 (w0 : World) (Φ : Ctx) (N : List Ent) (hΦ : ∀ w, Mem w0 w N → Φ w) (a0 : BitVec 64) (res0 : It) (hf : waybillref07_Small a0 = some res0) : DoesG Tryd.prog 61 [U64 a0] w0 [] N (fun v G => ∃ B : List Ent, ∃ cr0 : List Value, (ItRd (More w0 Φ B) cr0 res0) ∧ v = .agg cr0.toArray ∧ G = B) := by
 unfold waybillref07_Small at hf
 refine DoesG.enter Tryd.func61 rfl Tryd.ntmps61 rfl (M := (([] ++ N))) rfl (Z4 (Z2 (OW.alloc (l := [.bool false, .slice none 0 0, .slice none 0 0]) rfl rfl rfl (fun b1 => (Z6 (Z1 (Z4 (Z2 (Z0 (Z3 rfl) rfl ?_)))))))))
 obtain ⟨x3, hx2, hf⟩ := Z102 hf
 refine Z12 Tryd.call94 rfl (waybillref01_From_does w0 (More w0 Φ []) ((some b1, blk [.bool false, .slice none 0 0, .slice none 0 0] 25) :: ([] ++ N)) (fun w m => More.of hΦ 1 m rfl) a0 x3 hx2) rfl rfl ?_
 rintro _ G4 rfl
 refine Z20 (M' := ((some b1, blk [.bool false, .slice none 0 0, .slice none 0 0] 25) :: ([] ++ N))) (fun w m => m.appR) ?_
 obtain ⟨x7, hx6, hf⟩ := Z102 hf
 refine Z12 Tryd.call60 rfl (Z148 w0 (More w0 Φ []) ((some b1, blk [.bool false, .slice none 0 0, .slice none 0 0] 25) :: ([] ++ N)) (fun w m => More.of hΦ 1 m rfl) x3 x7 hx6) rfl rfl ?_
 rintro L11 M12 ⟨B8, cs9, h10, e13, e14⟩
 rw [e13, e14]
 clear e13 e14 L11 M12
 refine Z20 (M' := ((some b1, blk [.bool false, .slice none 0 0, .slice none 0 0] 25) :: ((B8 ++ []) ++ N))) (fun w m => by have h := Z110 (A := B8) m 0 1 rfl rfl; exact h) ?_
 replace h10 := ItRd.mono (Ψ := (More w0 Φ (B8 ++ []))) (fun w q => More.flat q) _ _ h10
 have h24 := h10
 obtain ⟨A15, c16, A18, c19, cs21, e23, v17, v20, h22⟩ := ItRd.opn h10
 subst e23
 have m25 := v17.mx
 have m26 := v20.mx
 have m27 := v17.mx
 have m28 := v20.mx
 refine Z28 (Z109 rfl rfl rfl (by intro u hu; simp at hu; rcases hu with rfl | rfl | rfl <;> rfl) rfl rfl rfl) ?_
 refine Z6 (Z1 (CW.ret ?_))
 have e0 := Zi hf
 subst e0
 refine Z108 (rs := [.cell 2 25]) ([.agg [.bool (x7.list), .slice A15 x7.data.length c16, .slice A18 x7.items.length c19].toArray]) ((B8 ++ [])) rfl ?_ rfl ?_ ?_ _ (.inl rfl)
 ·exact ⟨⟨_, _, _, _, rfl, Zh, rfl, rfl, rfl, rfl⟩, trivial⟩
 ·exact ⟨(B8 ++ []), [.bool (x7.list), .slice A15 x7.data.length c16, .slice A18 x7.items.length c19], h24, rfl, rfl⟩
 ·exact (fun w m => m.pick [] 1 rfl rfl)
theorem rlp_List_does (w0 : World) (Φ : Ctx) (N : List Ent) (hΦ : ∀ w, Mem w0 w N → Φ w) (A0_ : Option Addr) (c0_ : Nat) (cs0_ : List Value) (a0 : List (It)) (res0 : It) (va0 : View Φ A0_ a0.length c0_ 3 cs0_) (ha0 : Reps (ItRd Φ) cs0_ a0) (hf : rlp_List a0 = some res0) : DoesG Tryd.prog 57 [.slice A0_ a0.length c0_] w0 [] N (fun v G => ∃ B : List Ent, ∃ cr0 : List Value, (ItRd (More w0 Φ B) cr0 res0) ∧ v = .agg cr0.toArray ∧ G = B) := by
 unfold rlp_List at hf
 replace va0 := va0.mono (Ψ := More w0 Φ []) (fun w q => q.1)
 replace ha0 := ha0.mono (ItRd.mono (Ψ := More w0 Φ []) (fun w q => q.1))
 have m1 := va0.mx
 refine DoesG.enter Tryd.func57 rfl Tryd.ntmps57 rfl (M := (([] ++ N))) rfl (Z4 (Z2 (OW.alloc (l := [.bool false, .slice none 0 0, .slice none 0 0]) rfl rfl rfl (fun b2 => (Z6 (Z1 (Z4 (Z2 (Z0 (Z3 rfl) rfl ?_)))))))))
 obtain ⟨x4, hx3, hf⟩ := Z102 hf
 refine Z12 Tryd.call82 rfl (rlp_twin_does w0 (More w0 Φ []) ((some b2, blk [.bool false, .slice none 0 0, .slice none 0 0] 25) :: ([] ++ N)) (fun w m => More.of hΦ 1 m rfl) A0_ c0_ cs0_ a0 x4 va0 ha0 hx3) rfl rfl ?_
 rintro L12 M13 ⟨B5, cs6, ob8, c9, r10, h7, o11, e14, e15⟩
 rw [e14, e15]
 clear e14 e15 L12 M13
 refine Z20 (M' := ((ob8, blk (cs6 ++ r10) 25) :: (some b2, blk [.bool false, .slice none 0 0, .slice none 0 0] 25) :: ((B5 ++ []) ++ N))) (fun w m => by have h := Z110 (A := B5) m 1 1 rfl rfl; exact h) ?_
 have gq1 : ∀ w, More w0 Φ (B5 ++ []) w → More w0 Φ [] w := fun w q => More.mono (fun w m => (m).appR) q
 replace va0 := va0.mono gq1
 replace ha0 := ha0.mono (ItRd.mono gq1)
 replace h7 := h7.mono (ItRd.mono (Ψ := (More w0 Φ (B5 ++ []))) (fun w q => More.flat q))
 have m16 := o11.mx
 refine Z0 (Z112 (l := [.bool false, .slice none 0 0, .slice none 0 0]) (cs := [.bool true, .slice none 0 0, sl ob8 0 x4.length c9]) [(0, [.bool true]), (2, [sl ob8 0 x4.length c9])] rfl rfl rfl rfl rfl rfl rfl) rfl (OW.rot1 ?_)
 refine Z28 (Z109 rfl rfl rfl (by intro u hu; simp at hu; rcases hu with rfl | rfl | rfl <;> rfl) rfl rfl rfl) ?_
 refine Z6 (Z1 (CW.ret (QW.mem (M' := (some b2, blk [.bool true, .slice none 0 0, sl ob8 0 x4.length c9] 25) :: (((ob8, blk (cs6 ++ r10) 25) :: (B5 ++ [])) ++ N)) (fun w m => m.pick [0, 1] 2 rfl rfl) ?_)))
 have gq2 : ∀ w, More w0 Φ ((ob8, blk (cs6 ++ r10) 25) :: (B5 ++ [])) w → More w0 Φ (B5 ++ []) w := fun w q => More.mono (fun w m => (m).tail) q
 replace va0 := va0.mono gq2
 replace ha0 := ha0.mono (ItRd.mono gq2)
 replace h7 := h7.mono (ItRd.mono gq2)
 have v17 : View (More w0 Φ ((ob8, blk (cs6 ++ r10) 25) :: (B5 ++ []))) ((ob8).map fun k => ⟨k, 0, none⟩) x4.length c9 3 cs6 := o11.view (by decide) (fun w q => q.2.sublist (List.singleton_sublist.2 (List.mem_cons_self ..)))
 have e0 := Zi hf
 subst e0
 have v18 : View (More w0 Φ ((ob8, blk (cs6 ++ r10) 25) :: (B5 ++ []))) none ([] : List (BitVec 8)).length 0 1 (u8s []) := View.nil
 refine Z108 (rs := [.cell 2 25]) ([.agg [.bool true, .slice none 0 0, .slice ((ob8).map fun k => ⟨k, 0, none⟩) x4.length c9].toArray]) (((ob8, blk (cs6 ++ r10) 25) :: (B5 ++ []))) rfl ?_ rfl ?_ ?_ _ (.inl rfl)
 ·exact ⟨⟨_, _, _, _, rfl, Zh, rfl, rfl, rfl, rfl⟩, trivial⟩
 ·exact ⟨((ob8, blk (cs6 ++ r10) 25) :: (B5 ++ [])), [.bool true, .slice none 0 0, .slice ((ob8).map fun k => ⟨k, 0, none⟩) x4.length c9], (ItRd.mk v18 v17 h7), rfl, rfl⟩
 ·exact (fun w m => m.pick [] 1 rfl rfl)
end Go.Fw.Tryd
