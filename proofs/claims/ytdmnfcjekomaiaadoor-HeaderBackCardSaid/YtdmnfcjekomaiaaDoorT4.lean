/- Part of a proof: rules that its law uses. -/
import Derived.Test.YtdmnfcjekomaiaaDoorT3
set_option linter.unusedVariables false
set_option linter.unusedSimpArgs false
set_option linter.unusedSectionVars false
set_option maxRecDepth 100000
set_option maxHeartbeats 1000000
namespace Go.Fw.Tryd
open Go Go.Proofs Go.Fw
theorem u256_From_does (w0 : World) (Φ : Ctx) (N : List Ent) (hΦ : ∀ w, Mem w0 w N → Φ w) (a0 : BitVec 64) (res0 : Vector (BitVec 64) 4) (hf : u256_From a0 = some res0) : DoesG Tryd.prog 104 [U64 a0] w0 [] N (fun v G => v = .agg (u64s res0.toList).toArray) := by
 unfold u256_From at hf
 refine DoesG.enter Tryd.func104 rfl Tryd.ntmps104 rfl (M := (([] ++ N))) rfl (Z4 (Z2 (OW.alloc (l := (u64s (Vector.replicate 4 0#64).toList)) rfl (by rw [Vector.toList_replicate, ← Z136]; rfl) rfl (fun b1 => (Z6 (Z1 (Z4 (Z2 (Z0 (Z3 rfl) rfl ?_)))))))))
 refine Z0 (RV.buildA (l := (u64s (Vector.replicate 4 0#64).toList)) (cs := (u64s ((Vector.replicate 4 0#64).setIfInBounds 0 a0).toList)) rfl rfl rfl (by rw [Vector.toList_replicate, ← Z136]; rfl) rfl rfl (by simp only [setL, List.foldl, ← vset, Vector.toList_replicate, ← u64s_set'] <;> rfl)) rfl ?_
 refine Z28 (Z107 rfl rfl rfl (Z119 _) rfl ((Z102 _).trans Zv) ((Z102 _).trans Zv)) (Z6 (Z1 (CW.ret ?_)))
 have e0 := Zi hf
 subst e0
 refine Z110 (rs := [.cell 2 35]) ([.agg (u64s ((Vector.replicate 4 0#64).setIfInBounds 0 a0).toList).toArray]) ((some b1, blk (u64s ((Vector.replicate 4 0#64).setIfInBounds 0 a0).toList) 35) :: []) rfl ?_ rfl ?_ ?_ _ (.inl rfl)
 ·exact ⟨⟨_, _, _, _, rfl, Zh, rfl, rfl, (congrArg some ((Z102 _).trans Zv).symm), rfl⟩, trivial⟩
 ·exact rfl
 ·exact (fun w m => m)
theorem rlp_clone_does (w0 : World) (Φ : Ctx) (N : List Ent) (hΦ : ∀ w, Mem w0 w N → Φ w) (A0_ : Option Addr) (c0_ : Nat) (a0 : List (BitVec 8)) (res0 : List (BitVec 8)) (va0 : View Φ A0_ a0.length c0_ 1 (u8s a0)) (hf : rlp_clone a0 = some res0) : DoesG Tryd.prog 77 [.slice A0_ a0.length c0_] w0 [] N (fun v G => ∃ B : List Ent, ∃ or0 : Option Nat, ∃ kr0 : Nat, ∃ rr0 : List Value, (OwnS or0 res0.length kr0 1 (u8s res0) rr0) ∧ v = sl or0 0 res0.length kr0 ∧ G = (or0, blk ((u8s res0) ++ rr0) 5) :: B) := by
 unfold rlp_clone at hf
 replace va0 := va0.mono (Ψ := More w0 Φ []) (fun w q => q.1)
 have m1 := va0.mx
 refine DoesG.enter Tryd.func77 rfl Tryd.ntmps77 rfl (M := (([] ++ N))) rfl (Z4 (Z2 (Z0 (Z5 rfl) rfl (Z6 (Z1 (Z4 (Z2 (Z0 (Z3 rfl) rfl (Z20 (M' := ((none, blk ((u8s ([] : List (BitVec 8))) ++ []) 5) :: ([] ++ N))) (fun w m => m.nil_ent _) (OW.appendOwn (s := 1) rfl rfl rfl rfl rfl rfl OwnS.nil (fun w m => va0.rd w (More.of hΦ 1 m rfl)) va0.n (Z133 _) (va0.zero (by decide)) (by decide) (by decide) (by first | omega | (simp only [i5, List.length_nil]; omega)) rfl rfl (a0.length) (u8s a0) (Nat.zero_add _) rfl (fun ob2 r3 c4 o5 => ?_)))))))))))
 have m6 := o5.mx
 refine Z0 (Z5 rfl) rfl (Z6 (Z1 (CW.ret ?_)))
 have e0 := Zi hf
 subst e0
 refine Z110 (rs := [.tmp 2]) ([sl ob2 0 a0.length c4]) ((ob2, blk ((u8s a0) ++ r3) 5) :: []) rfl ?_ rfl ?_ ?_ _ (.inl rfl)
 ·exact ⟨rfl, trivial⟩
 ·exact ⟨[], ob2, c4, r3, o5, rfl, rfl⟩
 ·exact (fun w m => m.pick [0] 1 rfl rfl)
theorem rlp_Text_does (w0 : World) (Φ : Ctx) (N : List Ent) (hΦ : ∀ w, Mem w0 w N → Φ w) (A0_ : Option Addr) (c0_ : Nat) (a0 : List (BitVec 8)) (res0 : It) (va0 : View Φ A0_ a0.length c0_ 1 (u8s a0)) (hf : rlp_Text a0 = some res0) : DoesG Tryd.prog 80 [.slice A0_ a0.length c0_] w0 [] N (fun v G => ∃ B : List Ent, ∃ cr0 : List Value, (ItRd (More w0 Φ B) cr0 res0) ∧ v = .agg cr0.toArray ∧ G = B) := by
 unfold rlp_Text at hf
 replace va0 := va0.mono (Ψ := More w0 Φ []) (fun w q => q.1)
 have m1 := va0.mx
 refine DoesG.enter Tryd.func80 rfl Tryd.ntmps80 rfl (M := (([] ++ N))) rfl (Z4 (Z2 (OW.alloc (l := [.bool false, .slice none 0 0, .slice none 0 0]) rfl rfl rfl (fun b2 => (Z6 (Z1 (Z4 (Z2 (Z0 (Z3 rfl) rfl ?_)))))))))
 obtain ⟨x4, hx3, hf⟩ := Z105 hf
 refine Z12 Tryd.call77 rfl (rlp_clone_does w0 (More w0 Φ []) ((some b2, blk [.bool false, .slice none 0 0, .slice none 0 0] 25) :: ([] ++ N)) (fun w m => More.of hΦ 1 m rfl) A0_ c0_ a0 x4 va0 hx3) rfl rfl ?_
 rintro L10 M11 ⟨B5, ob6, c7, r8, o9, e12, e13⟩
 rw [e12, e13]
 clear e12 e13 L10 M11
 refine Z20 (M' := ((ob6, blk ((u8s x4) ++ r8) 5) :: (some b2, blk [.bool false, .slice none 0 0, .slice none 0 0] 25) :: ((B5 ++ []) ++ N))) (fun w m => by have h := Z118 (A := B5) m 1 1 rfl rfl; exact h) ?_
 have gq1 : ∀ w, More w0 Φ (B5 ++ []) w → More w0 Φ [] w := fun w q => More.mono (fun w m => (m).appR) q
 replace va0 := va0.mono gq1
 have m14 := o9.mx
 refine Z0 (Z117 (l := [.bool false, .slice none 0 0, .slice none 0 0]) (cs := [.bool false, sl ob6 0 x4.length c7, .slice none 0 0]) [(1, [sl ob6 0 x4.length c7])] rfl rfl rfl rfl rfl rfl rfl) rfl (OW.rot1 ?_)
 refine Z28 (Z107 rfl rfl rfl (by intro u hu; simp at hu; rcases hu with rfl | rfl | rfl <;> rfl) rfl rfl rfl) ?_
 refine Z6 (Z1 (CW.ret (QW.mem (M' := (some b2, blk [.bool false, sl ob6 0 x4.length c7, .slice none 0 0] 25) :: (((ob6, blk ((u8s x4) ++ r8) 5) :: (B5 ++ [])) ++ N)) (fun w m => m.pick [0, 1] 2 rfl rfl) ?_)))
 have gq2 : ∀ w, More w0 Φ ((ob6, blk ((u8s x4) ++ r8) 5) :: (B5 ++ [])) w → More w0 Φ (B5 ++ []) w := fun w q => More.mono (fun w m => (m).tail) q
 replace va0 := va0.mono gq2
 have v15 : View (More w0 Φ ((ob6, blk ((u8s x4) ++ r8) 5) :: (B5 ++ []))) ((ob6).map fun k => ⟨k, 0, none⟩) x4.length c7 1 (u8s x4) := o9.view (by decide) (fun w q => q.2.sublist (List.singleton_sublist.2 (List.mem_cons_self ..)))
 have e0 := Zi hf
 subst e0
 have v16 : View (More w0 Φ ((ob6, blk ((u8s x4) ++ r8) 5) :: (B5 ++ []))) none ([] : List (It)).length 0 3 [] := View.nil
 refine Z110 (rs := [.cell 2 25]) ([.agg [.bool false, .slice ((ob6).map fun k => ⟨k, 0, none⟩) x4.length c7, .slice none 0 0].toArray]) (((ob6, blk ((u8s x4) ++ r8) 5) :: (B5 ++ []))) rfl ?_ rfl ?_ ?_ _ (.inl rfl)
 ·exact ⟨⟨_, _, _, _, rfl, Zh, rfl, rfl, rfl, rfl⟩, trivial⟩
 ·exact ⟨((ob6, blk ((u8s x4) ++ r8) 5) :: (B5 ++ [])), [.bool false, .slice ((ob6).map fun k => ⟨k, 0, none⟩) x4.length c7, .slice none 0 0], (ItRd.mk v15 v16 (Reps.nil)), rfl, rfl⟩
 ·exact (fun w m => m.pick [] 1 rfl rfl)
theorem rlp_odd_does (w0 : World) (Φ : Ctx) (N : List Ent) (hΦ : ∀ w, Mem w0 w N → Φ w) (cs0_ : List Value) (a0 : It) (res0 : Bool) (ha0 : ItRd Φ cs0_ a0) (hf : rlp_odd a0 = some res0) : DoesG Tryd.prog 113 [.agg cs0_.toArray] w0 [] N (fun v G => v = .bool res0) := by
 unfold rlp_odd at hf
 replace ha0 := ItRd.mono (Ψ := More w0 Φ []) (fun w q => q.1) _ _ ha0
 have h10 := ha0
 obtain ⟨A1, c2, A4, c5, cs7, e9, v3, v6, h8⟩ := ItRd.opn ha0
 subst e9
 have m11 := v3.mx
 have m12 := v6.mx
 refine DoesG.enter Tryd.func113 rfl Tryd.ntmps113 rfl (M := (([] ++ N))) rfl (Z4 (Z2 (OW.boxA rfl rfl (fun b13 => (Z0 (Z5 rfl) rfl (Z6 (Z1 (Z4 ?_))))))))
 obtain ⟨q14, hq15, hf⟩ := Z105 hf
 refine Z130 (fun L' M' => ∃ p16 : Bool, q14 = p16 ∧ L' = [(2, .bool (p16))] ∧ M' = (([] ++ N))) ?_ ?_
 ·rintro L18 M19 ⟨p16, e17, e20, e21⟩
  rw [e20, e21]
  clear e20 e21 L18 M19
  clear hq15
  rw [e17] at hf
  clear e17
  try dsimp only at hf
  refine Z1 (CW.ret ?_)
  have e0 := Zi hf
  subst e0
  refine Z110 (rs := [.tmp 2]) ([.bool (p16)]) ([]) rfl ?_ rfl ?_ ?_ _ (.inl rfl)
  ·exact ⟨rfl, trivial⟩
  ·exact rfl
  ·exact (fun w m => m)
 ·skip
  refine Z2 (Z0 (Z30 rfl rfl rfl rfl) rfl (Z0 (Z29 rfl Zh rfl rfl rfl rfl) rfl (Z0 (Z3 rfl) rfl ?_)))
  by_cases h22 : a0.list = true
  ·replace hq15 := if_t hq15 h22
   refine Z7 (.bool true) (congrArg Value.bool (h22)) (Z24 rfl (Z0 (Z30 rfl rfl rfl rfl) rfl (Z24 rfl (Z0 (Z29 rfl Zh rfl rfl rfl rfl) rfl (Z24 rfl (Z0 (RV.len rfl rfl) rfl (Z24 rfl ?_)))))))
   refine Z0 (RV.gtr rfl rfl) rfl (Z7 (.bool (decide (0 < a0.data.length))) (congrArg Value.bool (decide_eq_decide.2 (by omega))) (Z0 (Z108 rfl rfl rfl) rfl (Z0 (Z3 rfl) rfl ?_)))
   by_cases h23 : 0 < a0.data.length
   ·replace hq15 := if_t hq15 h23
    refine Z7 (.bool true) (congrArg Value.bool (decide_eq_true h23)) (Z23 rfl rfl rfl (Z23 rfl rfl rfl (Z23 rfl rfl rfl (Z23 rfl rfl rfl (Z23 rfl rfl rfl (Z23 rfl rfl rfl (Z23 rfl rfl rfl ?_)))))))
    refine Z23 rfl rfl rfl (Z23 rfl rfl rfl (Z0 (Z108 rfl rfl rfl) rfl (Z0 (Z5 rfl) rfl (Z6 ?_))))
    exact QW.join ⟨true, (Zi hq15).symm, rfl, rfl⟩ ⟨rfl, trivial⟩ (fun w m => m.pick [] 1 rfl rfl)
   ·replace hq15 := if_f hq15 h23
    refine Z7 (.bool false) (congrArg Value.bool (decide_eq_false h23)) (Z24 rfl (Z0 (Z30 rfl rfl rfl rfl) rfl (Z24 rfl (Z0 (Z29 rfl Zh rfl rfl rfl rfl) rfl (Z24 rfl (Z0 (RV.not rfl) rfl (Z24 rfl ?_)))))))
    refine Z0 (Z3 rfl) rfl ?_
    by_cases h24 : a0.list = true
    ·replace hq15 := if_t hq15 h24
     refine Z7 (.bool false) (congrArg Value.bool (congrArg (fun b => !b) (h24))) (Z23 rfl rfl rfl (Z23 rfl rfl rfl (Z23 rfl rfl rfl (Z23 rfl rfl rfl (Z24 rfl (Z0 (Z112 rfl rfl rfl) rfl (Z0 (Z112 rfl rfl rfl) rfl ?_)))))))
     refine Z0 (Z5 rfl) rfl (Z6 ?_)
     exact QW.join ⟨false, (Zi hq15).symm, rfl, rfl⟩ ⟨rfl, trivial⟩ (fun w m => m.pick [] 1 rfl rfl)
    ·replace hq15 := if_f hq15 h24
     refine Z7 (.bool true) (congrArg Value.bool (congrArg (fun b => !b) (Bool.eq_false_iff.2 h24))) (Z24 rfl (Z0 (Z30 rfl rfl rfl rfl) rfl (Z24 rfl (Z0 (Z29 rfl Zh rfl rfl rfl rfl) rfl (Z24 rfl (Z0 (RV.len rfl rfl) rfl (Z24 rfl ?_)))))))
     refine Z0 (RV.gtr rfl rfl) rfl (Z7 (.bool (decide (0 < a0.items.length))) (congrArg Value.bool (decide_eq_decide.2 (by omega))) (Z24 rfl (Z0 (Z108 rfl rfl rfl) rfl (Z0 (Z112 rfl rfl rfl) rfl (Z0 (Z5 rfl) rfl (Z6 ?_))))))
     exact QW.join ⟨(decide (0 < a0.items.length)), (Zi hq15).symm, rfl, rfl⟩ ⟨rfl, trivial⟩ (fun w m => m.pick [] 1 rfl rfl)
  ·replace hq15 := if_f hq15 h22
   refine Z7 (.bool false) (congrArg Value.bool (Bool.eq_false_iff.2 h22)) (Z23 rfl rfl rfl (Z23 rfl rfl rfl (Z23 rfl rfl rfl (Z23 rfl rfl rfl (Z0 (Z112 rfl rfl rfl) rfl (Z0 (Z3 rfl) rfl (Z24 rfl ?_)))))))
   refine Z0 (Z30 rfl rfl rfl rfl) rfl (Z24 rfl (Z0 (Z29 rfl Zh rfl rfl rfl rfl) rfl (Z24 rfl (Z0 (RV.not rfl) rfl (Z24 rfl (Z0 (Z3 rfl) rfl ?_))))))
   by_cases h25 : a0.list = true
   ·replace hq15 := if_t hq15 h25
    refine Z7 (.bool false) (congrArg Value.bool (congrArg (fun b => !b) (h25))) (Z23 rfl rfl rfl (Z23 rfl rfl rfl (Z23 rfl rfl rfl (Z23 rfl rfl rfl (Z24 rfl (Z0 (Z112 rfl rfl rfl) rfl (Z0 (Z112 rfl rfl rfl) rfl ?_)))))))
    refine Z0 (Z5 rfl) rfl (Z6 ?_)
    exact QW.join ⟨false, (Zi hq15).symm, rfl, rfl⟩ ⟨rfl, trivial⟩ (fun w m => m.pick [] 1 rfl rfl)
   ·replace hq15 := if_f hq15 h25
    refine Z7 (.bool true) (congrArg Value.bool (congrArg (fun b => !b) (Bool.eq_false_iff.2 h25))) (Z24 rfl (Z0 (Z30 rfl rfl rfl rfl) rfl (Z24 rfl (Z0 (Z29 rfl Zh rfl rfl rfl rfl) rfl (Z24 rfl (Z0 (RV.len rfl rfl) rfl (Z24 rfl ?_)))))))
    refine Z0 (RV.gtr rfl rfl) rfl (Z7 (.bool (decide (0 < a0.items.length))) (congrArg Value.bool (decide_eq_decide.2 (by omega))) (Z24 rfl (Z0 (Z108 rfl rfl rfl) rfl (Z0 (Z112 rfl rfl rfl) rfl (Z0 (Z5 rfl) rfl (Z6 ?_))))))
    exact QW.join ⟨(decide (0 < a0.items.length)), (Zi hq15).symm, rfl, rfl⟩ ⟨rfl, trivial⟩ (fun w m => m.pick [] 1 rfl rfl)
theorem rlp_kind_does (w0 : World) (Φ : Ctx) (N : List Ent) (hΦ : ∀ w, Mem w0 w N → Φ w) (cs0_ : List Value) (a0 : It) (a1 : Bool) (res0 : Nat) (ha0 : ItRd Φ cs0_ a0) (hf : rlp_kind a0 a1 = some res0) : DoesG Tryd.prog 76 [.agg cs0_.toArray, .bool (a1)] w0 [] N (fun v G => (res0 ≤ 9223372036854775807) ∧ v = .int .i64 ((res0 : Nat) : Int)) := by
 unfold rlp_kind at hf
 replace ha0 := ItRd.mono (Ψ := More w0 Φ []) (fun w q => q.1) _ _ ha0
 have h10 := ha0
 obtain ⟨A1, c2, A4, c5, cs7, e9, v3, v6, h8⟩ := ItRd.opn ha0
 subst e9
 have m11 := v3.mx
 have m12 := v6.mx
 refine DoesG.enter Tryd.func76 rfl Tryd.ntmps76 rfl (M := (([] ++ N))) rfl (Z4 (Z2 (OW.boxA rfl rfl (fun b13 => (Z0 (Z5 rfl) rfl (Z6 (Z1 (Z4 (CW.block (Z4 (Z2 (Z0 (Z22 rfl Zh rfl rfl rfl rfl rfl) rfl ?_))))))))))))
 obtain ⟨x15, hx14, hf⟩ := Z105 hf
 refine Z12 Tryd.call113 rfl (rlp_odd_does w0 (More w0 Φ []) ((some b13, blk [.bool (a0.list), .slice A1 a0.data.length c2, .slice A4 a0.items.length c5] 25) :: ([] ++ N)) (fun w m => More.of hΦ 1 m rfl) [.bool (a0.list), .slice A1 a0.data.length c2, .slice A4 a0.items.length c5] a0 x15 h10 hx14) rfl rfl ?_
 rintro _ G16 rfl
 refine Z20 (M' := ((some b13, blk [.bool (a0.list), .slice A1 a0.data.length c2, .slice A4 a0.items.length c5] 25) :: ([] ++ N))) (fun w m => m.appR) (Z0 (Z5 rfl) rfl (Z6 (Z1 ?_)))
 by_cases h18 : x15 = true
 ·replace hf := if_t hf h18
  refine Z13 rfl (h18) (Z4 (Z2 (Z0 (Z5 rfl) rfl (Z6 (Z1 (CW.ret (Z16 (Z8 ?_))))))))
  have e0 := Zi hf
  subst e0
  refine Z110 (rs := [.tmp 4]) ([.int .i64 (78 : Int)]) ((some b13, blk [.bool (a0.list), .slice A1 a0.data.length c2, .slice A4 a0.items.length c5] 25) :: []) rfl ?_ rfl ?_ ?_ _ (.inl rfl)
  ·exact ⟨rfl, trivial⟩
  ·exact ⟨(by omega), rfl⟩
  ·exact (fun w m => m)
 ·replace hf := if_f hf h18
  refine Z14 rfl (Bool.eq_false_iff.2 h18) (Z4 (Z2 (Z0 (Z30 rfl rfl rfl rfl) rfl (Z0 (Z29 rfl Zh rfl rfl rfl rfl) rfl (Z0 (Z3 rfl) rfl (Z0 (RV.neqB rfl rfl rfl) rfl (Z7 (.bool (!decide ((a0.list) = (a1)))) (by first | rfl | (congr 1) | simp) (Z0 (Z5 rfl) rfl ?_))))))))
  refine Z6 (Z1 ?_)
  by_cases h19 : (a0.list) = (a1)
  ·replace hf := if_t hf h19
   refine Z14 rfl (congrArg (fun b => !b) (decide_eq_true h19)) (CW.skip (Z27 (Z1 (Z4 (Z2 (Z0 (Z5 rfl) rfl (Z6 (Z1 (CW.ret ?_)))))))))
   have e0 := Zi hf
   subst e0
   refine Z110 (rs := [.tmp 4]) ([.int .i64 (0 : Int)]) ((some b13, blk [.bool (a0.list), .slice A1 a0.data.length c2, .slice A4 a0.items.length c5] 25) :: []) rfl ?_ rfl ?_ ?_ _ (.inl rfl)
   ·exact ⟨rfl, trivial⟩
   ·exact ⟨(by omega), rfl⟩
   ·exact (fun w m => m)
  ·replace hf := if_f hf h19
   refine Z13 rfl (congrArg (fun b => !b) (decide_eq_false h19)) (Z4 (Z2 (Z0 (Z5 rfl) rfl (Z6 (Z1 (CW.ret (Z16 (Z8 ?_))))))))
   have e0 := Zi hf
   subst e0
   refine Z110 (rs := [.tmp 4]) ([.int .i64 (75 : Int)]) ((some b13, blk [.bool (a0.list), .slice A1 a0.data.length c2, .slice A4 a0.items.length c5] 25) :: []) rfl ?_ rfl ?_ ?_ _ (.inl rfl)
   ·exact ⟨rfl, trivial⟩
   ·exact ⟨(by omega), rfl⟩
   ·exact (fun w m => m)
theorem math_bits_Len64_does (w0 : World) (Φ : Ctx) (N : List Ent) (hΦ : ∀ w, Mem w0 w N → Φ w) (a0 : BitVec 64) (res0 : Nat) (hf : math_bits_Len64 a0 = some res0) : DoesG Tryd.prog 152 [U64 a0] w0 [] N (fun v G => (res0 ≤ 9223372036854775807) ∧ v = .int .i64 ((res0 : Nat) : Int)) := by
 unfold math_bits_Len64 at hf
 refine DoesG.enter Tryd.func152 rfl Tryd.ntmps152 rfl (M := (([] ++ N))) rfl (Z4 (Z2 (Z0 (Z5 rfl) rfl (Z6 (Z1 (Z4 (Z4 (Z2 (Z0 (Z3 rfl) rfl (Z0 (RV.geq rfl rfl) rfl (Z7 (.bool (decide (4294967296 ≤ a0.toNat))) (congrArg Value.bool (decide_eq_decide.2 (by first | exact Int.ofNat_le | exact Int.ofNat_lt | omega | (simp; omega) | simp))) (Z6 (Z1 ?_)))))))))))))
 obtain ⟨q1, hq2, hf⟩ := Z105 hf
 refine Z130 (fun L' M' => ∃ w3 : BitVec 64, ∃ n4 : Nat, q1 = (w3, n4) ∧ (n4 ≤ 9223372036854775807) ∧ L' = [(0, U64 w3), (2, .int .i64 ((n4 : Nat) : Int))] ∧ M' = (([] ++ N))) ?_ ?_
 ·rintro L7 M8 ⟨w3, n4, e6, b5, e9, e10⟩
  rw [e9, e10]
  clear e9 e10 L7 M8
  clear hq2
  rw [e6] at hf
  clear e6
  try dsimp only at hf
  refine Z1 (Z4 (Z4 (Z2 (Z0 (Z3 rfl) rfl (Z0 (RV.geq rfl rfl) rfl (Z7 (.bool (decide (65536 ≤ w3.toNat))) (congrArg Value.bool (decide_eq_decide.2 (by first | exact Int.ofNat_le | exact Int.ofNat_lt | omega | (simp; omega) | simp))) (Z6 (Z1 ?_))))))))
  obtain ⟨q11, hq12, hf⟩ := Z105 hf
  refine Z130 (fun L' M' => ∃ w13 : BitVec 64, ∃ n14 : Nat, q11 = (w13, n14) ∧ (n14 ≤ 9223372036854775807) ∧ L' = [(0, U64 w13), (2, .int .i64 ((n14 : Nat) : Int))] ∧ M' = (([] ++ N))) ?_ ?_
  ·rintro L17 M18 ⟨w13, n14, e16, b15, e19, e20⟩
   rw [e19, e20]
   clear e19 e20 L17 M18
   clear hq12
   rw [e16] at hf
   clear e16
   try dsimp only at hf
   refine Z1 (Z4 (Z4 (Z2 (Z0 (Z3 rfl) rfl (Z0 (RV.geq rfl rfl) rfl (Z7 (.bool (decide (256 ≤ w13.toNat))) (congrArg Value.bool (decide_eq_decide.2 (by first | exact Int.ofNat_le | exact Int.ofNat_lt | omega | (simp; omega) | simp))) (Z6 (Z1 ?_))))))))
   obtain ⟨q21, hq22, hf⟩ := Z105 hf
   refine Z130 (fun L' M' => ∃ w23 : BitVec 64, ∃ n24 : Nat, q21 = (w23, n24) ∧ (n24 ≤ 9223372036854775807) ∧ L' = [(0, U64 w23), (2, .int .i64 ((n24 : Nat) : Int))] ∧ M' = (([] ++ N))) ?_ ?_
   ·rintro L27 M28 ⟨w23, n24, e26, b25, e29, e30⟩
    rw [e29, e30]
    clear e29 e30 L27 M28
    clear hq22
    rw [e26] at hf
    clear e26
    try dsimp only at hf
    refine Z1 (Z4 (Z2 (Z0 (Z3 rfl) rfl (Z0 (Z3 rfl) rfl (Z0 (RV.conv64_8 rfl (by first | rfl | exact lit64 _ rfl) rfl rfl) rfl (Z0 (RV.indexStr (i := ((w23.setWidth 8)).toNat) (BitVec.ofNat 8 (lenB (w23.setWidth 8))) rfl rfl rfl (len_table _)) rfl (Z0 (RV.conv8_i rfl (by first | rfl | exact lit8 _ rfl) rfl rfl) rfl ?_)))))))
    have m31 := ((BitVec.ofNat 8 (lenB (w23.setWidth 8)))).isLt
    obtain ⟨g32, hf⟩ := Z124 hf
    refine Z0 (RV.add rfl rfl (by omega)) rfl (Z7 (.int .i64 (((n24 + (BitVec.ofNat 8 (lenB (w23.setWidth 8))).toNat) : Nat) : Int)) (by first | rfl | (congr 1) | (congr 1; omega)) (Z0 (Z5 rfl) rfl (Z6 (Z1 (CW.ret ?_)))))
    have e0 := Zi hf
    subst e0
    refine Z110 (rs := [.tmp 2]) ([.int .i64 (((n24 + (BitVec.ofNat 8 (lenB (w23.setWidth 8))).toNat) : Nat) : Int)]) ([]) rfl ?_ rfl ?_ ?_ _ (.inl rfl)
    ·exact ⟨rfl, trivial⟩
    ·exact ⟨(by omega), rfl⟩
    ·exact (fun w m => m)
   ·skip
    by_cases h33 : 256 ≤ w13.toNat
    ·replace hq22 := if_t hq22 h33
     refine Z13 rfl (decide_eq_true h33) (Z4 (Z2 (Z0 (Z3 rfl) rfl ?_)))
     refine Z0 (RV.shr64 (s := 8) rfl (by first | rfl | exact lit64 _ rfl) rfl (by first | rfl | (simp [U64]; done))) rfl ?_
     refine Z0 (Z5 rfl) rfl (Z6 (Z1 (Z2 (Z0 (Z3 rfl) rfl ?_))))
     obtain ⟨g34, hq22⟩ := Z124 hq22
     refine Z0 (RV.add rfl rfl (by omega)) rfl (Z7 (.int .i64 (((n14 + 8) : Nat) : Int)) (by first | rfl | (congr 1) | (congr 1; omega)) (Z0 (Z5 rfl) rfl (Z6 ?_)))
     exact QW.join ⟨(w13 >>> 8), (n14 + 8), (Zi hq22).symm, (by omega), rfl, rfl⟩ ⟨rfl, rfl, trivial⟩ (fun w m => m.pick [] 0 rfl rfl)
    ·replace hq22 := if_f hq22 h33
     refine Z14 rfl (decide_eq_false h33) (CW.skip ?_)
     exact QW.join ⟨w13, n14, (Zi hq22).symm, (by omega), rfl, rfl⟩ ⟨rfl, rfl, trivial⟩ (fun w m => m.pick [] 0 rfl rfl)
  ·skip
   by_cases h35 : 65536 ≤ w3.toNat
   ·replace hq12 := if_t hq12 h35
    refine Z13 rfl (decide_eq_true h35) (Z4 (Z2 (Z0 (Z3 rfl) rfl ?_)))
    refine Z0 (RV.shr64 (s := 16) rfl (by first | rfl | exact lit64 _ rfl) rfl (by first | rfl | (simp [U64]; done))) rfl ?_
    refine Z0 (Z5 rfl) rfl (Z6 (Z1 (Z2 (Z0 (Z3 rfl) rfl ?_))))
    obtain ⟨g36, hq12⟩ := Z124 hq12
    refine Z0 (RV.add rfl rfl (by omega)) rfl (Z7 (.int .i64 (((n4 + 16) : Nat) : Int)) (by first | rfl | (congr 1) | (congr 1; omega)) (Z0 (Z5 rfl) rfl (Z6 ?_)))
    exact QW.join ⟨(w3 >>> 16), (n4 + 16), (Zi hq12).symm, (by omega), rfl, rfl⟩ ⟨rfl, rfl, trivial⟩ (fun w m => m.pick [] 0 rfl rfl)
   ·replace hq12 := if_f hq12 h35
    refine Z14 rfl (decide_eq_false h35) (CW.skip ?_)
    exact QW.join ⟨w3, n4, (Zi hq12).symm, (by omega), rfl, rfl⟩ ⟨rfl, rfl, trivial⟩ (fun w m => m.pick [] 0 rfl rfl)
 ·skip
  by_cases h37 : 4294967296 ≤ a0.toNat
  ·replace hq2 := if_t hq2 h37
   refine Z13 rfl (decide_eq_true h37) (Z4 (Z2 (Z0 (Z3 rfl) rfl ?_)))
   refine Z0 (RV.shr64 (s := 32) rfl (by first | rfl | exact lit64 _ rfl) rfl (by first | rfl | (simp [U64]; done))) rfl ?_
   refine Z0 (Z5 rfl) rfl (Z6 (Z1 (Z2 (Z0 (Z5 rfl) rfl (Z6 ?_)))))
   exact QW.join ⟨(a0 >>> 32), 32, (Zi hq2).symm, (by omega), rfl, rfl⟩ ⟨rfl, rfl, trivial⟩ (fun w m => m.pick [] 0 rfl rfl)
  ·replace hq2 := if_f hq2 h37
   refine Z14 rfl (decide_eq_false h37) (CW.skip ?_)
   exact QW.join ⟨a0, 0, (Zi hq2).symm, (by omega), rfl, rfl⟩ ⟨rfl, rfl, trivial⟩ (fun w m => m.pick [] 0 rfl rfl)
theorem u256_Len_does (w0 : World) (Φ : Ctx) (N : List Ent) (hΦ : ∀ w, Mem w0 w N → Φ w) (a0 : Vector (BitVec 64) 4) (res0 : Int) (hf : u256_Len a0 = some res0) : DoesG Tryd.prog 141 [.agg (u64s a0.toList).toArray] w0 [] N (fun v G => (-9223372036854775808 ≤ res0 ∧ res0 ≤ 9223372036854775807) ∧ v = .int .i64 res0) := by
 unfold u256_Len at hf
 refine DoesG.enter Tryd.func141 rfl Tryd.ntmps141 rfl (M := (([] ++ N))) rfl (Z4 (Z2 (OW.boxA rfl rfl (fun b1 => (Z0 (Z5 rfl) rfl (Z6 (Z1 (Z4 (Z4 (Z2 (Z0 (Z5 rfl) rfl (Z6 (Z1 ?_)))))))))))))
 obtain ⟨q2, hq3, hf⟩ := Z105 hf
 refine Z130 (fun L' M' => q2 = Lp.go () ∧ L' = [] ∧ M' = (([] ++ N))) ?_ ?_
 ·rintro L5 M6 ⟨e4, e7, e8⟩
  rw [e7, e8]
  clear e7 e8 L5 M6
  clear hq3
  rw [e4] at hf
  clear e4
  try dsimp only at hf
  refine Z1 (Z4 (Z2 (Z0 (Z5 rfl) rfl (Z6 (Z1 (CW.ret ?_))))))
  have e0 := Zi hf
  subst e0
  refine Z110 (rs := [.tmp 2]) ([.int .i64 (0 : Int)]) ([]) rfl ?_ rfl ?_ ?_ _ (.inl rfl)
  ·exact ⟨rfl, trivial⟩
  ·exact ⟨(by omega), rfl⟩
  ·exact (fun w m => m)
 ·skip
  refine CW.block (Z139 (fun k L' M' => ∃ z9 : Int, (u256_Len.l1 a0 k z9) = some q2 ∧ (-9223372036854775808 ≤ z9 ∧ z9 ≤ 9223372036854775807) ∧ L' = [(1, ptr (some b1) 0), (3, .int .i64 z9)] ∧ M' = ((some b1, blk (u64s a0.toList) 35) :: ([] ++ N))) (k0 := 5) ⟨(3 : Int), hq3, (by omega), rfl, rfl⟩ ⟨rfl, rfl, trivial⟩ (fun w m => m.pick [0] 1 rfl rfl) ?_)
  clear hq3
  rintro k11 L14 M15 ⟨z9, hl12, b10, e16, e17⟩
  rw [e16, e17]
  clear e16 e17 L14 M15
  rcases k11 with _ | k11
  ·rw [u256_Len.l1] at hl12; cases hl12
  rw [u256_Len.l1] at hl12
  refine Z4 (Z4 (Z2 (Z0 (Z3 rfl) rfl (Z0 (RV.geq rfl rfl) rfl (Z6 (Z1 ?_))))))
  by_cases h18 : (0 : Int) ≤ z9
  ·replace hl12 := if_t hl12 h18
   refine Z13 rfl (decide_eq_true h18) (CW.skip (Z1 (Z4 (CW.block (Z4 (Z2 (Z0 (Z3 rfl) rfl ?_)))))))
   obtain ⟨g19, hl12⟩ := Z124 hl12
   refine Z0 (Z125 ((z9).toNat) rfl rfl (by omega) rfl rfl (by omega)) rfl ?_
   obtain ⟨x20, hx21, hl12⟩ := Z105 hl12
   refine Z0 (Z29 rfl Zh rfl rfl rfl (by rw [Nat.zero_add]; exact u64s_at (vat hx21))) rfl ?_
   refine Z0 (RV.neq64 rfl (by first | rfl | exact lit64 _ rfl) rfl (by first | rfl | exact lit64 _ rfl)) rfl (Z6 (Z1 ?_))
   by_cases h22 : x20 = 0#64
   ·replace hl12 := if_t hl12 h22
    refine Z14 rfl (congrArg (fun b => !b) (decide_eq_true h22)) (CW.skip (Z27 (Z1 (Z2 (Z0 (Z3 rfl) rfl ?_)))))
    obtain ⟨g23, hl12⟩ := Z124 hl12
    refine Z0 (RV.sub rfl rfl (by omega)) rfl (Z0 (Z5 rfl) rfl (Z6 ?_))
    exact Z132 (k' := k11) (Nat.lt_succ_self _) ⟨(z9 - (1 : Int)), hl12, (by omega), rfl, rfl⟩ ⟨rfl, rfl, trivial⟩ (fun w m => m.pick [0] 1 rfl rfl)
   ·replace hl12 := if_f hl12 h22
    refine Z13 rfl (congrArg (fun b => !b) (decide_eq_false h22)) (Z4 (Z2 (Z0 (Z3 rfl) rfl ?_)))
    obtain ⟨g24, hl12⟩ := Z124 hl12
    refine Z0 (RV.mul rfl rfl (by omega)) rfl (Z0 (Z3 rfl) rfl (Z0 (Z125 ((z9).toNat) rfl rfl (by omega) rfl rfl (by omega)) rfl ?_))
    obtain ⟨x25, hx26, hl12⟩ := Z105 hl12
    refine Z0 (Z29 rfl Zh rfl rfl rfl (by rw [Nat.zero_add]; exact u64s_at (vat hx26))) rfl ?_
    obtain ⟨x28, hx27, hl12⟩ := Z105 hl12
    refine Z12 Tryd.call152 rfl (math_bits_Len64_does w0 (More w0 Φ []) ((some b1, blk (u64s a0.toList) 35) :: ([] ++ N)) (fun w m => More.of hΦ 1 m rfl) x25 x28 hx27) rfl rfl ?_
    rintro _ G30 ⟨b29, rfl⟩
    refine Z20 (M' := ((some b1, blk (u64s a0.toList) 35) :: ([] ++ N))) (fun w m => m.appR) ?_
    obtain ⟨g32, hl12⟩ := Z124 hl12
    refine Z0 (RV.add rfl rfl (by omega)) rfl (Z0 (Z5 rfl) rfl (Z6 (Z1 (CW.ret (Z16 (Z8 (Z8 (Z16 (Z8 ?_)))))))))
    have hc := Zi hl12
    subst hc
    try dsimp only at hf
    refine Z8 ?_
    have e0 := Zi hf
    subst e0
    refine Z110 (rs := [.tmp 2]) ([.int .i64 (((64 : Int) * z9) + ((x28 : Nat) : Int))]) ((some b1, blk (u64s a0.toList) 35) :: []) rfl ?_ rfl ?_ ?_ _ (.inl rfl)
    ·exact ⟨rfl, trivial⟩
    ·exact ⟨(by omega), rfl⟩
    ·exact (fun w m => m)
  ·replace hl12 := if_f hl12 h18
   refine Z14 rfl (decide_eq_false h18) (CW.exit (Z9 (Z9 (Z15 ?_))))
   exact QW.join ⟨(Zi hl12).symm, rfl, rfl⟩ trivial (fun w m => m.pick [] 1 rfl rfl)
theorem u256_Sub_does (w0 : World) (Φ : Ctx) (N : List Ent) (hΦ : ∀ w, Mem w0 w N → Φ w) (a0 : Vector (BitVec 64) 4) (a1 : Vector (BitVec 64) 4) (res0 : Vector (BitVec 64) 4) (res1 : BitVec 64) (hf : u256_Sub a0 a1 = some (res0, res1)) : DoesG Tryd.prog 129 [.agg (u64s a0.toList).toArray, .agg (u64s a1.toList).toArray] w0 [] N (fun v G => v = .tuple #[.agg (u64s res0.toList).toArray, U64 res1]) := by
 unfold u256_Sub at hf
 refine DoesG.enter Tryd.func129 rfl Tryd.ntmps129 rfl (M := (([] ++ N))) rfl (Z4 (Z2 (OW.boxA rfl rfl (fun b1 => (OW.boxA rfl rfl (fun b2 => (OW.alloc (l := (u64s (Vector.replicate 4 0#64).toList)) rfl (by rw [Vector.toList_replicate, ← Z136]; rfl) rfl (fun b3 => (Z0 (Z5 rfl) rfl (Z6 (Z1 (Z4 (Z2 (OW.alloc (l := (u64s (Vector.replicate 4 0#64).toList)) rfl (by rw [Vector.toList_replicate, ← Z136]; rfl) rfl (fun b4 => ?_)))))))))))))))
 refine Z6 (Z1 (Z4 (Z2 (Z0 (Z5 rfl) rfl (Z6 (Z1 (Z4 (Z4 (Z2 (Z0 (Z3 rfl) rfl (Z6 (Z1 ?_))))))))))))
 obtain ⟨q5, hq6, hf⟩ := Z105 hf
 refine Z130 (fun L' M' => ∃ w7 : BitVec 64, ∃ w8 : Vector (BitVec 64) 4, q5 = (w7, w8) ∧ L' = [(4, ptr (some b3) 0), (6, ptr (some b4) 0), (7, U64 w7)] ∧ M' = ((some b4, blk (u64s w8.toList) 35) :: (some b3, blk (u64s (Vector.replicate 4 0#64).toList) 35) :: ([] ++ N))) ?_ ?_
 ·rintro L10 M11 ⟨w7, w8, e9, e12, e13⟩
  rw [e12, e13]
  clear e12 e13 L10 M11
  clear hq6
  rw [e9] at hf
  clear e9
  try dsimp only at hf
  refine Z1 (Z4 (Z2 (Z0 (Z22 rfl Zh rfl rfl rfl rfl ((Z102 _).trans Zv)) rfl (Z0 (Z3 rfl) rfl (OW.rot1 (Z28 (Z107 rfl rfl rfl (Z119 _) rfl ((Z102 _).trans Zv) ((Z102 _).trans Zv)) (Z0 (Z5 rfl) rfl (Z6 (Z1 (CW.ret ?_))))))))))
  have er0 := Zi hf
  obtain ⟨e0, er1⟩ := Prod.mk.inj er0
  clear er0
  subst e0
  subst er1
  refine Z110 (rs := [.cell 4 35, .tmp 5]) ([.agg (u64s w8.toList).toArray, U64 w7]) ((some b3, blk (u64s w8.toList) 35) :: (some b4, blk (u64s w8.toList) 35) :: []) rfl ?_ rfl ?_ ?_ _ (.inl rfl)
  ·exact ⟨⟨_, _, _, _, rfl, Zh, rfl, rfl, (congrArg some ((Z102 _).trans Zv).symm), rfl⟩, rfl, trivial⟩
  ·exact rfl
  ·exact (fun w m => m)
 ·skip
  refine CW.block (Z139 (fun k L' M' => ∃ w14 : BitVec 64, ∃ n15 : Nat, ∃ w17 : Vector (BitVec 64) 4, (u256_Sub.l1 a0 a1 k w14 n15 w17) = some q5 ∧ (n15 ≤ 9223372036854775807) ∧ L' = [(2, ptr (some b1) 0), (3, ptr (some b2) 0), (4, ptr (some b3) 0), (6, ptr (some b4) 0), (7, U64 w14), (9, .int .i64 ((n15 : Nat) : Int))] ∧ M' = ((some b4, blk (u64s w17.toList) 35) :: (some b3, blk (u64s (Vector.replicate 4 0#64).toList) 35) :: (some b2, blk (u64s a1.toList) 35) :: (some b1, blk (u64s a0.toList) 35) :: ([] ++ N))) (k0 := (4 - 0 + 2)) ⟨0#64, 0, (Vector.replicate 4 0#64), hq6, (by omega), rfl, rfl⟩ ⟨rfl, rfl, rfl, rfl, rfl, rfl, trivial⟩ (fun w m => m.pick [0, 1, 2, 3] 4 rfl rfl) ?_)
  clear hq6
  rintro k18 L21 M22 ⟨w14, n15, w17, hl19, b16, e23, e24⟩
  rw [e23, e24]
  clear e23 e24 L21 M22
  rcases k18 with _ | k18
  ·rw [u256_Sub.l1] at hl19; cases hl19
  rw [u256_Sub.l1] at hl19
  refine Z4 (Z2 (Z0 (RV.lss rfl rfl) rfl (Z7 (.bool (decide (n15 < 4))) (congrArg Value.bool (decide_eq_decide.2 (by omega))) (Z6 (Z1 (Z4 ?_))))))
  by_cases h25 : n15 < 4
  ·replace hl19 := if_t hl19 h25
   refine Z13 rfl (decide_eq_true h25) (CW.skip (Z1 (Z4 (CW.block (Z4 (Z2 (Z0 (Z3 rfl) rfl (Z0 (Z5 rfl) rfl (Z6 (Z1 (CW.drawsX ((some b3, blk (u64s (Vector.replicate 4 0#64).toList) 35) :: (some b2, blk (u64s a1.toList) 35) :: (some b1, blk (u64s a0.toList) 35) :: ([] ++ N)) [13] (fun w m => m.pick [1, 2, 3] 4 rfl rfl) mixed (by kernel_rfl) (Z10 0 rfl (by kernel_rfl) rfl (Z3 rfl) rfl (Z10 1 rfl (by kernel_rfl) rfl (Z3 rfl) rfl ?_)))))))))))))
   refine Z10 2 rfl (by kernel_rfl) rfl (Z125 (n15) rfl rfl rfl rfl rfl (by omega)) rfl ?_
   obtain ⟨x26, hx27, hl19⟩ := Z105 hl19
   refine Z10 3 rfl (by kernel_rfl) rfl (Z29 rfl (List.Mem.tail _ (List.Mem.tail _ Zh)) rfl rfl rfl (by rw [Nat.zero_add]; exact u64s_at (vat hx27))) rfl ?_
   refine Z10 4 rfl (by kernel_rfl) rfl (Z3 rfl) rfl (Z10 5 rfl (by kernel_rfl) rfl (Z125 (n15) rfl rfl rfl rfl rfl (by omega)) rfl ?_)
   obtain ⟨x28, hx29, hl19⟩ := Z105 hl19
   refine Z10 6 rfl (by kernel_rfl) rfl (Z29 rfl (List.Mem.tail _ Zh) rfl rfl rfl (by rw [Nat.zero_add]; exact u64s_at (vat hx29))) rfl ?_
   refine Z10 7 rfl (by kernel_rfl) rfl (Z3 rfl) rfl ?_
   obtain ⟨⟨w30, w31⟩, hx32, hl19⟩ := Z105 hl19
   try dsimp only at hl19
   refine Z10 8 rfl (by kernel_rfl) rfl (RV.sub64c Tryd.ext146 rfl hx32) rfl (Z10 9 rfl (by kernel_rfl) rfl (Z3 rfl) rfl (Z10 10 rfl (by kernel_rfl) rfl (Z17 rfl rfl) rfl (XW.slot (U64 w30) (rfl) (Z10 11 rfl (by kernel_rfl) rfl (Z17 rfl rfl) rfl (XW.slot (U64 w31) (rfl) (Z10 12 rfl (by kernel_rfl) rfl (Z125 (n15) rfl rfl rfl rfl rfl (by omega)) rfl (XW.sv 13 rfl (by kernel_rfl) (SV.store rfl rfl rfl rfl rfl (by rw [Z102, Zv]; omega)) (fun w m => m.pick [1, 2, 3] 4 rfl rfl) ?_)))))))
   refine XW.cells (u64s (w17.setIfInBounds n15 w30).toList) (by rw [Nat.zero_add, u64s_set', vset]) (Z10 14 rfl (by kernel_rfl) rfl (Z5 rfl) rfl (XW.nil (by kernel_rfl) (Z27 (Z1 (Z2 (Z0 (RV.add rfl rfl (by omega)) rfl (Z7 (.int .i64 (((n15 + 1) : Nat) : Int)) (by first | rfl | (congr 1) | (congr 1; omega)) (Z0 (Z3 rfl) rfl (Z6 ?_)))))))))
   exact Z132 (k' := k18) (Nat.lt_succ_self _) ⟨w31, (n15 + 1), (w17.setIfInBounds n15 w30), hl19, (by omega), rfl, rfl⟩ ⟨rfl, rfl, rfl, rfl, rfl, rfl, trivial⟩ (fun w m => m.pick [0, 1, 2, 3] 4 rfl rfl)
  ·replace hl19 := if_f hl19 h25
   refine Z14 rfl (decide_eq_false h25) (CW.exit (Z9 (Z9 (Z15 ?_))))
   exact QW.join ⟨w14, w17, (Zi hl19).symm, rfl, rfl⟩ ⟨rfl, rfl, rfl, trivial⟩ (fun w m => m.pick [0, 1] 4 rfl rfl)
theorem u256_Cmp_does (w0 : World) (Φ : Ctx) (N : List Ent) (hΦ : ∀ w, Mem w0 w N → Φ w) (a0 : Vector (BitVec 64) 4) (a1 : Vector (BitVec 64) 4) (res0 : Int) (hf : u256_Cmp a0 a1 = some res0) : DoesG Tryd.prog 116 [.agg (u64s a0.toList).toArray, .agg (u64s a1.toList).toArray] w0 [] N (fun v G => (-9223372036854775808 ≤ res0 ∧ res0 ≤ 9223372036854775807) ∧ v = .int .i64 res0) := by
 unfold u256_Cmp at hf
 refine DoesG.enter Tryd.func116 rfl Tryd.ntmps116 rfl (M := (([] ++ N))) rfl (Z4 (Z2 (OW.boxA rfl rfl (fun b1 => (OW.boxA rfl rfl (fun b2 => (Z0 (Z5 rfl) rfl (Z6 (Z1 (Z4 (Z4 (Z2 (Z0 (Z22 rfl (List.Mem.tail _ Zh) rfl rfl rfl rfl ((Z102 _).trans Zv)) rfl (Z0 (Z22 rfl Zh rfl rfl rfl rfl ((Z102 _).trans Zv)) rfl ?_))))))))))))))
 refine Z0 (RV.eqA64 rfl rfl rfl rfl rfl rfl (Zv) (Zv)) rfl (Z7 (.bool (decide (a0 = a1))) (congrArg Value.bool (decide_eq_decide.2 Vector.toList_inj)) (Z6 (Z1 ?_)))
 by_cases h3 : a0 = a1
 ·replace hf := if_t hf h3
  refine Z13 rfl (decide_eq_true h3) (Z4 (Z2 (Z0 (Z5 rfl) rfl (Z6 (Z1 (CW.ret (Z8 ?_)))))))
  have e0 := Zi hf
  subst e0
  refine Z110 (rs := [.tmp 4]) ([.int .i64 (0 : Int)]) ((some b2, blk (u64s a1.toList) 35) :: (some b1, blk (u64s a0.toList) 35) :: []) rfl ?_ rfl ?_ ?_ _ (.inl rfl)
  ·exact ⟨rfl, trivial⟩
  ·exact ⟨(by omega), rfl⟩
  ·exact (fun w m => m)
 ·replace hf := if_f hf h3
  refine Z14 rfl (decide_eq_false h3) (CW.skip (Z1 (Z4 (Z4 (Z2 (Z0 (Z22 rfl (List.Mem.tail _ Zh) rfl rfl rfl rfl ((Z102 _).trans Zv)) rfl (Z0 (Z22 rfl Zh rfl rfl rfl rfl ((Z102 _).trans Zv)) rfl ?_)))))))
  obtain ⟨⟨x5, x6⟩, hx4, hf⟩ := Z105 hf
  try dsimp only at hf
  refine Z12 Tryd.call129 rfl (u256_Sub_does w0 (More w0 Φ []) ((some b2, blk (u64s a1.toList) 35) :: (some b1, blk (u64s a0.toList) 35) :: ([] ++ N)) (fun w m => More.of hΦ 2 m rfl) a0 a1 x5 x6 hx4) rfl rfl ?_
  rintro _ G7 rfl
  refine Z20 (M' := ((some b2, blk (u64s a1.toList) 35) :: (some b1, blk (u64s a0.toList) 35) :: ([] ++ N))) (fun w m => m.appR) (Z0 (Z3 rfl) rfl (Z0 (Z17 rfl rfl) rfl (Z7 (.agg (u64s x5.toList).toArray) (rfl) (Z0 (Z17 rfl rfl) rfl (Z7 (U64 x6) (rfl) (OW.alloc (l := (u64s (Vector.replicate 4 0#64).toList)) rfl (by rw [Vector.toList_replicate, ← Z136]; rfl) rfl (fun b9 => (Z28 (Z107 rfl rfl rfl (Z119 _) rfl ((Z102 _).trans Zv) ((Z102 _).trans Zv)) ?_))))))))
  refine Z0 (Z5 rfl) rfl (Z6 (Z1 (Z4 (Z2 (Z0 (Z3 rfl) rfl (Z0 (RV.eql64 rfl (by first | rfl | exact lit64 _ rfl) rfl (by first | rfl | exact lit64 _ rfl)) rfl (Z6 (Z1 ?_))))))))
  by_cases h10 : x6 = 1#64
  ·replace hf := if_t hf h10
   refine Z13 rfl (decide_eq_true h10) (Z4 (Z2 (Z0 (Z5 rfl) rfl (Z6 (Z1 (CW.ret (Z8 ?_)))))))
   have e0 := Zi hf
   subst e0
   refine Z110 (rs := [.tmp 4]) ([.int .i64 (-1 : Int)]) ((some b9, blk (u64s x5.toList) 35) :: (some b2, blk (u64s a1.toList) 35) :: (some b1, blk (u64s a0.toList) 35) :: []) rfl ?_ rfl ?_ ?_ _ (.inl rfl)
   ·exact ⟨rfl, trivial⟩
   ·exact ⟨(by omega), rfl⟩
   ·exact (fun w m => m)
  ·replace hf := if_f hf h10
   refine Z14 rfl (decide_eq_false h10) (CW.skip (Z1 (Z4 (Z2 (Z0 (Z5 rfl) rfl (Z6 (Z1 (CW.ret ?_))))))))
   have e0 := Zi hf
   subst e0
   refine Z110 (rs := [.tmp 4]) ([.int .i64 (1 : Int)]) ((some b9, blk (u64s x5.toList) 35) :: (some b2, blk (u64s a1.toList) 35) :: (some b1, blk (u64s a0.toList) 35) :: []) rfl ?_ rfl ?_ ?_ _ (.inl rfl)
   ·exact ⟨rfl, trivial⟩
   ·exact ⟨(by omega), rfl⟩
   ·exact (fun w m => m)
theorem u256_Put_does (w0 : World) (Φ : Ctx) (N : List Ent) (hΦ : ∀ w, Mem w0 w N → Φ w) (a0 : Vector (BitVec 64) 4) (res0 : Vector (BitVec 8) 32) (hf : u256_Put a0 = some res0) : DoesG Tryd.prog 140 [.agg (u64s a0.toList).toArray] w0 [] N (fun v G => v = .agg (u8s res0.toList).toArray) := by
 unfold u256_Put at hf
 refine DoesG.enter Tryd.func140 rfl Tryd.ntmps140 rfl (M := (([] ++ N))) rfl (Z4 (Z2 (OW.boxA rfl rfl (fun b1 => (OW.alloc (l := (u8s (Vector.replicate 32 0#8).toList)) rfl (by rw [Vector.toList_replicate, ← u8s_rep']; rfl) rfl (fun b2 => (Z6 (Z1 (Z4 (Z2 (OW.alloc (l := (u8s (Vector.replicate 32 0#8).toList)) rfl (by rw [Vector.toList_replicate, ← u8s_rep']; rfl) rfl (fun b3 => (Z6 (Z1 (Z4 (Z4 (Z2 (Z0 (Z3 rfl) rfl ?_))))))))))))))))))
 refine Z6 (Z1 ?_)
 obtain ⟨q4, hq5, hf⟩ := Z105 hf
 refine Z130 (fun L' M' => ∃ w6 : Vector (BitVec 8) 32, q4 = w6 ∧ L' = [(2, ptr (some b2) 0), (3, ptr (some b3) 0)] ∧ M' = ((some b3, blk (u8s w6.toList) 27) :: (some b2, blk (u8s (Vector.replicate 32 0#8).toList) 27) :: ([] ++ N))) ?_ ?_
 ·rintro L8 M9 ⟨w6, e7, e10, e11⟩
  rw [e10, e11]
  clear e10 e11 L8 M9
  clear hq5
  rw [e7] at hf
  clear e7
  try dsimp only at hf
  refine Z1 (Z4 (Z2 (Z0 (Z22 rfl Zh rfl rfl rfl rfl ((Z100 _).trans Zv)) rfl (OW.rot1 (Z28 (Z107 rfl rfl rfl (Z133 _) rfl ((Z100 _).trans Zv) ((Z100 _).trans Zv)) (Z6 (Z1 (CW.ret ?_))))))))
  have e0 := Zi hf
  subst e0
  refine Z110 (rs := [.cell 2 27]) ([.agg (u8s w6.toList).toArray]) ((some b2, blk (u8s w6.toList) 27) :: (some b3, blk (u8s w6.toList) 27) :: []) rfl ?_ rfl ?_ ?_ _ (.inl rfl)
  ·exact ⟨⟨_, _, _, _, rfl, Zh, rfl, rfl, (congrArg some ((Z100 _).trans Zv).symm), rfl⟩, trivial⟩
  ·exact rfl
  ·exact (fun w m => m)
 ·skip
  refine CW.block (Z139 (fun k L' M' => ∃ n12 : Nat, ∃ w14 : Vector (BitVec 8) 32, (u256_Put.l1 a0 k n12 w14) = some q4 ∧ (n12 ≤ 9223372036854775807) ∧ L' = [(1, ptr (some b1) 0), (2, ptr (some b2) 0), (3, ptr (some b3) 0), (5, .int .i64 ((n12 : Nat) : Int))] ∧ M' = ((some b3, blk (u8s w14.toList) 27) :: (some b2, blk (u8s (Vector.replicate 32 0#8).toList) 27) :: (some b1, blk (u64s a0.toList) 35) :: ([] ++ N))) (k0 := (32 - 0 + 2)) ⟨0, (Vector.replicate 32 0#8), hq5, (by omega), rfl, rfl⟩ ⟨rfl, rfl, rfl, rfl, trivial⟩ (fun w m => m.pick [0, 1, 2] 3 rfl rfl) ?_)
  clear hq5
  rintro k15 L18 M19 ⟨n12, w14, hl16, b13, e20, e21⟩
  rw [e20, e21]
  clear e20 e21 L18 M19
  rcases k15 with _ | k15
  ·rw [u256_Put.l1] at hl16; cases hl16
  rw [u256_Put.l1] at hl16
  refine Z4 (Z2 (Z0 (RV.lss rfl rfl) rfl (Z7 (.bool (decide (n12 < 32))) (congrArg Value.bool (decide_eq_decide.2 (by omega))) (Z6 (Z1 (Z4 ?_))))))
  by_cases h22 : n12 < 32
  ·replace hl16 := if_t hl16 h22
   refine Z13 rfl (decide_eq_true h22) (CW.skip (Z1 (Z4 (CW.block (Z4 (Z2 (Z0 (Z3 rfl) rfl (Z0 (Z5 rfl) rfl (Z6 (Z1 (Z2 (Z0 (Z3 rfl) rfl ?_))))))))))))
   obtain ⟨g23, hl16⟩ := Z124 hl16
   refine Z0 (RV.sub rfl rfl (by omega)) rfl (Z7 (.int .i64 ((31 - n12 : Nat) : Int)) (by congr 1; omega) (Z0 (Z3 rfl) rfl (Z0 (RV.quo rfl rfl (by omega) (by omega) (by omega)) rfl (Z7 (.int .i64 ((n12 / 8 : Nat) : Int)) (by first | rfl | (congr 1; omega)) ?_))))
   obtain ⟨g24, hl16⟩ := Z124 hl16
   refine Z0 (Z125 ((n12 / 8)) rfl rfl rfl rfl rfl (by omega)) rfl ?_
   obtain ⟨x25, hx26, hl16⟩ := Z105 hl16
   refine Z0 (Z29 rfl (List.Mem.tail _ (List.Mem.tail _ Zh)) rfl rfl rfl (by rw [Nat.zero_add]; exact u64s_at (vat hx26))) rfl ?_
   refine Z0 (Z3 rfl) rfl (Z0 (RV.rem rfl rfl (by omega) (by omega)) rfl (Z7 (.int .i64 ((n12 % 8 : Nat) : Int)) (by first | rfl | (congr 1; omega)) (Z0 (RV.mul rfl rfl (by omega)) rfl (Z7 (.int .i64 (((8 * (n12 % 8)) : Nat) : Int)) (by first | rfl | (congr 1) | (congr 1; omega)) (Z0 (RV.shr64 (s := (8 * (n12 % 8))) rfl (by first | rfl | exact lit64 _ rfl) rfl (by first | rfl | (congr 1))) rfl (Z0 (RV.conv64_8 rfl (by first | rfl | exact lit64 _ rfl) rfl rfl) rfl ?_))))))
   obtain ⟨g27, hl16⟩ := Z124 hl16
   refine Z0 (Z125 ((31 - n12)) rfl rfl rfl rfl rfl (by omega)) rfl (Z28 (SV.store rfl rfl rfl rfl rfl (by rw [Z100, Zv]; omega)) (OW.cells (u8s (w14.setIfInBounds (31 - n12) ((x25 >>> (8 * (n12 % 8))).setWidth 8)).toList) (by rw [Nat.zero_add, u8s_set', vset]) (Z6 (Z27 (Z1 (Z2 (Z0 (RV.add rfl rfl (by omega)) rfl (Z7 (.int .i64 (((n12 + 1) : Nat) : Int)) (by first | rfl | (congr 1) | (congr 1; omega)) (Z0 (Z3 rfl) rfl (Z6 ?_))))))))))
   exact Z132 (k' := k15) (Nat.lt_succ_self _) ⟨(n12 + 1), (w14.setIfInBounds (31 - n12) ((x25 >>> (8 * (n12 % 8))).setWidth 8)), hl16, (by omega), rfl, rfl⟩ ⟨rfl, rfl, rfl, rfl, trivial⟩ (fun w m => m.pick [0, 1, 2] 3 rfl rfl)
  ·replace hl16 := if_f hl16 h22
   refine Z14 rfl (decide_eq_false h22) (CW.exit (Z9 (Z9 (Z15 ?_))))
   exact QW.join ⟨w14, (Zi hl16).symm, rfl, rfl⟩ ⟨rfl, rfl, trivial⟩ (fun w m => m.pick [0, 1] 3 rfl rfl)
theorem u256_Bytes_does (w0 : World) (Φ : Ctx) (N : List Ent) (hΦ : ∀ w, Mem w0 w N → Φ w) (a0 : Vector (BitVec 64) 4) (res0 : List (BitVec 8)) (hf : u256_Bytes a0 = some res0) : DoesG Tryd.prog 120 [.agg (u64s a0.toList).toArray] w0 [] N (fun v G => ∃ B : List Ent, ∃ or0 : Option Nat, ∃ kr0 : Nat, ∃ rr0 : List Value, (OwnS or0 res0.length kr0 1 (u8s res0) rr0) ∧ v = sl or0 0 res0.length kr0 ∧ G = (or0, blk ((u8s res0) ++ rr0) 5) :: B) := by
 unfold u256_Bytes at hf
 refine DoesG.enter Tryd.func120 rfl Tryd.ntmps120 rfl (M := (([] ++ N))) rfl (Z4 (Z2 (OW.boxA rfl rfl (fun b1 => (Z0 (Z5 rfl) rfl (Z6 (Z1 (Z4 (Z2 (Z0 (Z22 rfl Zh rfl rfl rfl rfl ((Z102 _).trans Zv)) rfl ?_))))))))))
 obtain ⟨x3, hx2, hf⟩ := Z105 hf
 refine Z12 Tryd.call140 rfl (u256_Put_does w0 (More w0 Φ []) ((some b1, blk (u64s a0.toList) 35) :: ([] ++ N)) (fun w m => More.of hΦ 1 m rfl) a0 x3 hx2) rfl rfl ?_
 rintro _ G4 rfl
 refine Z20 (M' := ((some b1, blk (u64s a0.toList) 35) :: ([] ++ N))) (fun w m => m.appR) (OW.alloc (l := (u8s (Vector.replicate 32 0#8).toList)) rfl (by rw [Vector.toList_replicate, ← u8s_rep']; rfl) rfl (fun b6 => (Z28 (Z107 rfl rfl rfl (Z133 _) rfl ((Z100 _).trans Zv) ((Z100 _).trans Zv)) (Z6 (Z1 (Z4 (Z2 (Z0 (Z22 rfl (List.Mem.tail _ Zh) rfl rfl rfl rfl ((Z102 _).trans Zv)) rfl ?_))))))))
 obtain ⟨x8, hx7, hf⟩ := Z105 hf
 refine Z12 Tryd.call141 rfl (u256_Len_does w0 (More w0 Φ []) ((some b6, blk (u8s x3.toList) 27) :: (some b1, blk (u64s a0.toList) 35) :: ([] ++ N)) (fun w m => More.of hΦ 2 m rfl) a0 x8 hx7) rfl rfl ?_
 rintro _ G10 ⟨b9, rfl⟩
 refine Z20 (M' := ((some b6, blk (u8s x3.toList) 27) :: (some b1, blk (u64s a0.toList) 35) :: ([] ++ N))) (fun w m => m.appR) ?_
 obtain ⟨g12, hf⟩ := Z124 hf
 refine Z0 (RV.add rfl rfl (by omega)) rfl ?_
 obtain ⟨g13, hf⟩ := Z124 hf
 refine Z0 (RV.quo rfl rfl (by omega) (by omega) (by omega)) rfl (Z7 (.int .i64 ((((x8 + (7 : Int))).toNat / 8 : Nat) : Int)) (by first | rfl | (congr 1; omega)) (Z0 (Z5 rfl) rfl (Z6 (Z1 (Z4 (Z2 (Z0 (Z3 rfl) rfl (Z0 (RV.sub rfl rfl (by omega)) rfl (Z20 (M' := (some b1, blk (u64s a0.toList) 35) :: (((some b6, blk (u8s x3.toList) 27) :: []) ++ N)) (fun w m => m.pick [1, 0] 2 rfl rfl) ?_)))))))))
 have v14 : View (More w0 Φ ((some b6, blk (u8s x3.toList) 27) :: [])) (some ⟨b6, 0, none⟩) x3.toList.length 32 1 (u8s x3.toList) := View.arr (w0 := w0) (te := 27) (fun w q => q.2.sublist (List.singleton_sublist.2 (List.mem_cons_self ..))) (by decide)
 obtain ⟨g16, hf⟩ := Z124 hf
 obtain ⟨g17, hf⟩ := Z124 hf
 refine Z0 (RV.arr_lo (s := 1) ((((32 : Int) - ((((x8 + (7 : Int))).toNat / 8 : Nat) : Int))).toNat) rfl rfl (by omega) rfl rfl (by omega)) rfl ?_
 refine Z7 (.slice (subA (some ⟨b6, 0, none⟩) 32 ((((32 : Int) - ((((x8 + (7 : Int))).toNat / 8 : Nat) : Int))).toNat) 1) (x3.toList.drop ((((32 : Int) - ((((x8 + (7 : Int))).toNat / 8 : Nat) : Int))).toNat)).length (32 - (((32 : Int) - ((((x8 + (7 : Int))).toNat / 8 : Nat) : Int))).toNat)) (by rw [show ((x3.toList.drop ((((32 : Int) - ((((x8 + (7 : Int))).toNat / 8 : Nat) : Int))).toNat))).length = 32 - ((((32 : Int) - ((((x8 + (7 : Int))).toNat / 8 : Nat) : Int))).toNat) from List.length_drop.trans (by rw [Zv])]; try rfl) ?_
 have hlen_ : x3.toList.length = 32 := Zv
 have v15 : View (More w0 Φ ((some b6, blk (u8s x3.toList) 27) :: [])) (subA (some ⟨b6, 0, none⟩) 32 ((((32 : Int) - ((((x8 + (7 : Int))).toNat / 8 : Nat) : Int))).toNat) 1) (x3.toList.drop ((((32 : Int) - ((((x8 + (7 : Int))).toNat / 8 : Nat) : Int))).toNat)).length (32 - (((32 : Int) - ((((x8 + (7 : Int))).toNat / 8 : Nat) : Int))).toNat) 1 (u8s (x3.toList.drop ((((32 : Int) - ((((x8 + (7 : Int))).toNat / 8 : Nat) : Int))).toNat))) := v14.lo8 (by omega)
 have m18 := v15.mx
 refine Z20 (M' := ((none, blk ((u8s ([] : List (BitVec 8))) ++ []) 5) :: (some b1, blk (u64s a0.toList) 35) :: (((some b6, blk (u8s x3.toList) 27) :: []) ++ N))) (fun w m => m.nil_ent _) (OW.appendOwn (s := 1) rfl rfl rfl rfl rfl rfl OwnS.nil (fun w m => v15.rd w (More.of hΦ 2 m rfl)) v15.n (Z133 _) (v15.zero (by decide)) (by decide) (by decide) (by first | omega | (simp only [i5, List.length_nil]; omega)) rfl rfl ((x3.toList.drop ((((32 : Int) - ((((x8 + (7 : Int))).toNat / 8 : Nat) : Int))).toNat)).length) (u8s (x3.toList.drop ((((32 : Int) - ((((x8 + (7 : Int))).toNat / 8 : Nat) : Int))).toNat))) (Nat.zero_add _) rfl (fun ob19 r20 c21 o22 => ?_))
 have m23 := o22.mx
 refine Z0 (Z5 rfl) rfl (Z6 (Z1 (CW.ret ?_)))
 have e0 := Zi hf
 subst e0
 refine Z110 (rs := [.tmp 2]) ([sl ob19 0 (x3.toList.drop ((((32 : Int) - ((((x8 + (7 : Int))).toNat / 8 : Nat) : Int))).toNat)).length c21]) ((ob19, blk ((u8s (x3.toList.drop ((((32 : Int) - ((((x8 + (7 : Int))).toNat / 8 : Nat) : Int))).toNat))) ++ r20) 5) :: ((some b6, blk (u8s x3.toList) 27) :: [])) rfl ?_ rfl ?_ ?_ _ (.inl rfl)
 ·exact ⟨rfl, trivial⟩
 ·exact ⟨((some b6, blk (u8s x3.toList) 27) :: []), ob19, c21, r20, o22, rfl, rfl⟩
 ·exact (fun w m => m.pick [0] 2 rfl rfl)
theorem u256_Get_does (w0 : World) (Φ : Ctx) (N : List Ent) (hΦ : ∀ w, Mem w0 w N → Φ w) (A0_ : Option Addr) (c0_ : Nat) (a0 : List (BitVec 8)) (res0 : Vector (BitVec 64) 4) (res1 : Nat) (va0 : View Φ A0_ a0.length c0_ 1 (u8s a0)) (hf : u256_Get a0 = some (res0, res1)) : DoesG Tryd.prog 115 [.slice A0_ a0.length c0_] w0 [] N (fun v G => (res1 ≤ 9223372036854775807) ∧ v = .tuple #[.agg (u64s res0.toList).toArray, .int .i64 ((res1 : Nat) : Int)]) := by
 unfold u256_Get at hf
 replace va0 := va0.mono (Ψ := More w0 Φ []) (fun w q => q.1)
 have m1 := va0.mx
 refine DoesG.enter Tryd.func115 rfl Tryd.ntmps115 rfl (M := (([] ++ N))) rfl (Z4 (Z2 (OW.alloc (l := (u64s (Vector.replicate 4 0#64).toList)) rfl (by rw [Vector.toList_replicate, ← Z136]; rfl) rfl (fun b2 => (Z0 (Z5 rfl) rfl (Z6 (Z1 (Z4 (Z4 (Z2 (Z0 (Z3 rfl) rfl (Z0 (RV.len rfl rfl) rfl (Z0 (RV.gtr rfl rfl) rfl ?_)))))))))))))
 refine Z7 (.bool (decide (32 < a0.length))) (congrArg Value.bool (decide_eq_decide.2 (by omega))) (Z6 (Z1 ?_))
 by_cases h3 : 32 < a0.length
 ·replace hf := if_t hf h3
  refine Z13 rfl (decide_eq_true h3) (Z4 (Z2 (Z0 (RV.build0 (l := (u64s (Vector.replicate 4 0#64).toList)) rfl rfl rfl (by rw [Vector.toList_replicate, ← Z136]; rfl)) rfl (Z28 (Z107 rfl rfl rfl (Z119 _) rfl ((Z102 _).trans Zv) ((Z102 _).trans Zv)) (Z0 (Z5 rfl) rfl (Z6 (Z1 (CW.ret (Z8 ?_)))))))))
  have er0 := Zi hf
  obtain ⟨e0, er1⟩ := Prod.mk.inj er0
  clear er0
  subst e0
  subst er1
  refine Z110 (rs := [.cell 2 35, .tmp 3]) ([.agg (u64s (Vector.replicate 4 0#64).toList).toArray, .int .i64 (11 : Int)]) ((some b2, blk (u64s (Vector.replicate 4 0#64).toList) 35) :: []) rfl ?_ rfl ?_ ?_ _ (.inl rfl)
  ·exact ⟨⟨_, _, _, _, rfl, Zh, rfl, rfl, (congrArg some ((Z102 _).trans Zv).symm), rfl⟩, rfl, trivial⟩
  ·exact ⟨(by omega), rfl⟩
  ·exact (fun w m => m)
 ·replace hf := if_f hf h3
  refine Z14 rfl (decide_eq_false h3) (CW.skip (Z1 (Z4 (Z2 (OW.alloc (l := (u64s (Vector.replicate 4 0#64).toList)) rfl (by rw [Vector.toList_replicate, ← Z136]; rfl) rfl (fun b4 => (Z6 (Z1 (Z4 (Z4 (Z2 (Z0 (Z3 rfl) rfl (Z0 (RV.len rfl rfl) rfl (Z0 (Z3 rfl) rfl (Z6 (Z1 ?_))))))))))))))))
  obtain ⟨q5, hq6, hf⟩ := Z105 hf
  refine Z130 (fun L' M' => ∃ w7 : Vector (BitVec 64) 4, q5 = w7 ∧ L' = [(2, ptr (some b2) 0), (4, ptr (some b4) 0)] ∧ M' = ((some b4, blk (u64s w7.toList) 35) :: (some b2, blk (u64s (Vector.replicate 4 0#64).toList) 35) :: ([] ++ N))) ?_ ?_
  ·rintro L9 M10 ⟨w7, e8, e11, e12⟩
   rw [e11, e12]
   clear e11 e12 L9 M10
   clear hq6
   rw [e8] at hf
   clear e8
   try dsimp only at hf
   refine Z1 (Z4 (Z2 (Z0 (Z22 rfl Zh rfl rfl rfl rfl ((Z102 _).trans Zv)) rfl (OW.rot1 (Z28 (Z107 rfl rfl rfl (Z119 _) rfl ((Z102 _).trans Zv) ((Z102 _).trans Zv)) (Z0 (Z5 rfl) rfl (Z6 (Z1 (CW.ret ?_)))))))))
   have er0 := Zi hf
   obtain ⟨e0, er1⟩ := Prod.mk.inj er0
   clear er0
   subst e0
   subst er1
   refine Z110 (rs := [.cell 2 35, .tmp 3]) ([.agg (u64s w7.toList).toArray, .int .i64 (0 : Int)]) ((some b2, blk (u64s w7.toList) 35) :: (some b4, blk (u64s w7.toList) 35) :: []) rfl ?_ rfl ?_ ?_ _ (.inl rfl)
   ·exact ⟨⟨_, _, _, _, rfl, Zh, rfl, rfl, (congrArg some ((Z102 _).trans Zv).symm), rfl⟩, rfl, trivial⟩
   ·exact ⟨(by omega), rfl⟩
   ·exact (fun w m => m)
  ·skip
   refine CW.block (Z139 (fun k L' M' => ∃ n13 : Nat, ∃ w15 : Vector (BitVec 64) 4, (u256_Get.l1 a0 k n13 w15) = some q5 ∧ (n13 ≤ 9223372036854775807) ∧ L' = [(0, .slice A0_ a0.length c0_), (2, ptr (some b2) 0), (4, ptr (some b4) 0), (12, .int .i64 ((a0.length : Nat) : Int)), (13, .int .i64 ((n13 : Nat) : Int))] ∧ M' = ((some b4, blk (u64s w15.toList) 35) :: (some b2, blk (u64s (Vector.replicate 4 0#64).toList) 35) :: ([] ++ N))) (k0 := (a0.length - 0 + 2)) ⟨0, (Vector.replicate 4 0#64), hq6, (by omega), rfl, rfl⟩ ⟨rfl, rfl, rfl, rfl, rfl, trivial⟩ (fun w m => m.pick [0, 1] 2 rfl rfl) ?_)
   clear hq6
   rintro k16 L19 M20 ⟨n13, w15, hl17, b14, e21, e22⟩
   rw [e21, e22]
   clear e21 e22 L19 M20
   rcases k16 with _ | k16
   ·rw [u256_Get.l1] at hl17; cases hl17
   rw [u256_Get.l1] at hl17
   refine Z4 (Z2 (Z0 (RV.lss rfl rfl) rfl (Z7 (.bool (decide (n13 < a0.length))) (congrArg Value.bool (decide_eq_decide.2 (by omega))) (Z6 (Z1 (Z4 ?_))))))
   by_cases h23 : n13 < a0.length
   ·replace hl17 := if_t hl17 h23
    refine Z13 rfl (decide_eq_true h23) (CW.skip (Z1 (Z4 (CW.block (Z4 (Z2 (Z0 (Z3 rfl) rfl (Z0 (Z5 rfl) rfl (Z6 (Z1 (Z4 (Z2 (Z0 (Z3 rfl) rfl (Z0 (RV.len rfl rfl) rfl ?_))))))))))))))
    obtain ⟨g24, hl17⟩ := Z124 hl17
    refine Z0 (RV.sub rfl rfl (by omega)) rfl (Z7 (.int .i64 ((a0.length - 1 : Nat) : Int)) (by congr 1; omega) (Z0 (Z3 rfl) rfl ?_))
    obtain ⟨g25, hl17⟩ := Z124 hl17
    refine Z0 (RV.sub rfl rfl (by omega)) rfl (Z7 (.int .i64 (((a0.length - 1) - n13 : Nat) : Int)) (by congr 1; omega) (Z0 (Z5 rfl) rfl (Z6 (Z1 (CW.drawsX ((some b2, blk (u64s (Vector.replicate 4 0#64).toList) 35) :: ([] ++ N)) [15] (fun w m => m.pick [1] 2 rfl rfl) mixed (by kernel_rfl) (Z10 0 rfl (by kernel_rfl) rfl (Z3 rfl) rfl (Z10 1 rfl (by kernel_rfl) rfl (RV.quo rfl rfl (by omega) (by omega) (by omega)) rfl (XW.slot (.int .i64 ((((a0.length - 1) - n13) / 8 : Nat) : Int)) (by first | rfl | (congr 1; omega)) ?_))))))))
    obtain ⟨g26, hl17⟩ := Z124 hl17
    refine Z10 2 rfl (by kernel_rfl) rfl (Z125 ((((a0.length - 1) - n13) / 8)) rfl rfl rfl rfl rfl (by omega)) rfl ?_
    obtain ⟨x27, hx28, hl17⟩ := Z105 hl17
    refine XW.rv 3 rfl (by kernel_rfl) rfl (by kernel_rfl) (Z29 rfl Zh rfl rfl rfl (by rw [Nat.zero_add]; exact u64s_at (vat hx28))) rfl ?_
    refine Z10 4 rfl (by kernel_rfl) rfl (Z3 rfl) rfl (Z10 5 rfl (by kernel_rfl) rfl (Z3 rfl) rfl ?_)
    obtain ⟨x29, hx30, hl17⟩ := Z105 hl17
    have hl31 := Z145 hx30
    refine Z10 6 rfl (by kernel_rfl) rfl (Z152 (n13) rfl rfl rfl rfl rfl (va0.isSome (by decide) hl31) (by omega)) rfl (Z10 7 rfl (by kernel_rfl) rfl (Z21 rfl rfl rfl (fun w m => va0.cell (More.of hΦ 1 m rfl) (u8s_at hx30))) rfl (Z10 8 rfl (by kernel_rfl) rfl (RV.conv8_64 rfl (by first | rfl | exact lit8 _ rfl) rfl rfl) rfl (Z10 9 rfl (by kernel_rfl) rfl (Z3 rfl) rfl (Z10 10 rfl (by kernel_rfl) rfl (RV.rem rfl rfl (by omega) (by omega)) rfl (XW.slot (.int .i64 ((((a0.length - 1) - n13) % 8 : Nat) : Int)) (by first | rfl | (congr 1; omega)) (Z10 11 rfl (by kernel_rfl) rfl (RV.mul rfl rfl (by omega)) rfl (XW.slot (.int .i64 (((8 * (((a0.length - 1) - n13) % 8)) : Nat) : Int)) (by first | rfl | (congr 1) | (congr 1; omega)) ?_)))))))
    refine Z10 12 rfl (by kernel_rfl) rfl (RV.shl64 (s := (8 * (((a0.length - 1) - n13) % 8))) rfl (by first | rfl | exact lit64 _ rfl) rfl (by first | rfl | (congr 1))) rfl (Z10 13 rfl (by kernel_rfl) rfl (RV.or64 rfl (by first | rfl | exact lit64 _ rfl) rfl (by first | rfl | exact lit64 _ rfl)) rfl (Z10 14 rfl (by kernel_rfl) rfl (Z125 ((((a0.length - 1) - n13) / 8)) rfl rfl rfl rfl rfl (by omega)) rfl (XW.sv 15 rfl (by kernel_rfl) (SV.store rfl rfl rfl rfl rfl (by rw [Z102, Zv]; omega)) (fun w m => m.pick [1] 2 rfl rfl) (XW.cells (u64s (w15.setIfInBounds (((a0.length - 1) - n13) / 8) (x27 ||| ((x29.setWidth 64) <<< (8 * (((a0.length - 1) - n13) % 8))))).toList) (by rw [Nat.zero_add, u64s_set', vset]) (XW.nil (by kernel_rfl) (Z27 (Z1 (Z2 (Z0 (RV.add rfl rfl (by omega)) rfl ?_)))))))))
    refine Z7 (.int .i64 (((n13 + 1) : Nat) : Int)) (by first | rfl | (congr 1) | (congr 1; omega)) (Z0 (Z3 rfl) rfl (Z6 ?_))
    exact Z132 (k' := k16) (Nat.lt_succ_self _) ⟨(n13 + 1), (w15.setIfInBounds (((a0.length - 1) - n13) / 8) (x27 ||| ((x29.setWidth 64) <<< (8 * (((a0.length - 1) - n13) % 8))))), hl17, (by omega), rfl, rfl⟩ ⟨rfl, rfl, rfl, rfl, rfl, trivial⟩ (fun w m => m.pick [0, 1] 2 rfl rfl)
   ·replace hl17 := if_f hl17 h23
    refine Z14 rfl (decide_eq_false h23) (CW.exit (Z9 (Z9 (Z15 ?_))))
    exact QW.join ⟨w15, (Zi hl17).symm, rfl, rfl⟩ ⟨rfl, rfl, trivial⟩ (fun w m => m.pick [0, 1] 2 rfl rfl)
theorem u256_Strict_does (w0 : World) (Φ : Ctx) (N : List Ent) (hΦ : ∀ w, Mem w0 w N → Φ w) (A0_ : Option Addr) (c0_ : Nat) (a0 : List (BitVec 8)) (res0 : Vector (BitVec 64) 4) (res1 : Nat) (va0 : View Φ A0_ a0.length c0_ 1 (u8s a0)) (hf : u256_Strict a0 = some (res0, res1)) : DoesG Tryd.prog 114 [.slice A0_ a0.length c0_] w0 [] N (fun v G => (res1 ≤ 9223372036854775807) ∧ v = .tuple #[.agg (u64s res0.toList).toArray, .int .i64 ((res1 : Nat) : Int)]) := by
 unfold u256_Strict at hf
 replace va0 := va0.mono (Ψ := More w0 Φ []) (fun w q => q.1)
 have m1 := va0.mx
 refine DoesG.enter Tryd.func114 rfl Tryd.ntmps114 rfl (M := (([] ++ N))) rfl (Z4 (Z2 (OW.alloc (l := (u64s (Vector.replicate 4 0#64).toList)) rfl (by rw [Vector.toList_replicate, ← Z136]; rfl) rfl (fun b2 => (Z0 (Z5 rfl) rfl (Z6 (Z1 (Z4 (Z2 (Z0 (Z3 rfl) rfl ?_))))))))))
 obtain ⟨⟨x4, x5⟩, hx3, hf⟩ := Z105 hf
 try dsimp only at hf
 refine Z12 Tryd.call115 rfl (u256_Get_does w0 (More w0 Φ []) ((some b2, blk (u64s (Vector.replicate 4 0#64).toList) 35) :: ([] ++ N)) (fun w m => More.of hΦ 1 m rfl) A0_ c0_ a0 x4 x5 va0 hx3) rfl rfl ?_
 rintro _ G7 ⟨b6, rfl⟩
 refine Z20 (M' := ((some b2, blk (u64s (Vector.replicate 4 0#64).toList) 35) :: ([] ++ N))) (fun w m => m.appR) (Z0 (Z3 rfl) rfl (Z0 (Z17 rfl rfl) rfl (Z7 (.agg (u64s x4.toList).toArray) (rfl) (Z0 (Z17 rfl rfl) rfl (Z7 (.int .i64 ((x5 : Nat) : Int)) (rfl) (OW.alloc (l := (u64s (Vector.replicate 4 0#64).toList)) rfl (by rw [Vector.toList_replicate, ← Z136]; rfl) rfl (fun b9 => (Z28 (Z107 rfl rfl rfl (Z119 _) rfl ((Z102 _).trans Zv) ((Z102 _).trans Zv)) ?_))))))))
 refine Z0 (Z5 rfl) rfl (Z6 (Z1 (Z4 (Z4 ?_))))
 obtain ⟨q10, hq11, hf⟩ := Z105 hf
 refine Z130 (fun L' M' => ∃ p12 : Bool, q10 = p12 ∧ L' = [(2, ptr (some b2) 0), (4, ptr (some b9) 0), (5, .int .i64 ((x5 : Nat) : Int)), (23, .bool (p12))] ∧ M' = ((some b9, blk (u64s x4.toList) 35) :: (some b2, blk (u64s (Vector.replicate 4 0#64).toList) 35) :: ([] ++ N))) ?_ ?_
 ·rintro L14 M15 ⟨p12, e13, e16, e17⟩
  rw [e16, e17]
  clear e16 e17 L14 M15
  clear hq11
  rw [e13] at hf
  clear e13
  try dsimp only at hf
  refine Z1 ?_
  by_cases h18 : p12 = true
  ·replace hf := if_t hf h18
   refine Z13 rfl (h18) (Z4 (Z2 (Z0 (RV.build0 (l := (u64s (Vector.replicate 4 0#64).toList)) rfl rfl rfl (by rw [Vector.toList_replicate, ← Z136]; rfl)) rfl (OW.rot1 (Z28 (Z107 rfl rfl rfl (Z119 _) rfl ((Z102 _).trans Zv) ((Z102 _).trans Zv)) (Z0 (Z5 rfl) rfl (Z6 (Z1 (CW.ret (Z8 ?_))))))))))
   have er0 := Zi hf
   obtain ⟨e0, er1⟩ := Prod.mk.inj er0
   clear er0
   subst e0
   subst er1
   refine Z110 (rs := [.cell 2 35, .tmp 3]) ([.agg (u64s (Vector.replicate 4 0#64).toList).toArray, .int .i64 (13 : Int)]) ((some b2, blk (u64s (Vector.replicate 4 0#64).toList) 35) :: (some b9, blk (u64s x4.toList) 35) :: []) rfl ?_ rfl ?_ ?_ _ (.inl rfl)
   ·exact ⟨⟨_, _, _, _, rfl, Zh, rfl, rfl, (congrArg some ((Z102 _).trans Zv).symm), rfl⟩, rfl, trivial⟩
   ·exact ⟨(by omega), rfl⟩
   ·exact (fun w m => m)
  ·replace hf := if_f hf h18
   refine Z14 rfl (Bool.eq_false_iff.2 h18) (CW.skip (Z1 (Z4 (Z2 (Z0 (Z22 rfl Zh rfl rfl rfl rfl ((Z102 _).trans Zv)) rfl (Z0 (Z3 rfl) rfl (OW.rot1 (Z28 (Z107 rfl rfl rfl (Z119 _) rfl ((Z102 _).trans Zv) ((Z102 _).trans Zv)) (Z0 (Z5 rfl) rfl (Z6 (Z1 (CW.ret ?_))))))))))))
   have er0 := Zi hf
   obtain ⟨e0, er1⟩ := Prod.mk.inj er0
   clear er0
   subst e0
   subst er1
   refine Z110 (rs := [.cell 2 35, .tmp 3]) ([.agg (u64s x4.toList).toArray, .int .i64 ((x5 : Nat) : Int)]) ((some b2, blk (u64s x4.toList) 35) :: (some b9, blk (u64s x4.toList) 35) :: []) rfl ?_ rfl ?_ ?_ _ (.inl rfl)
   ·exact ⟨⟨_, _, _, _, rfl, Zh, rfl, rfl, (congrArg some ((Z102 _).trans Zv).symm), rfl⟩, rfl, trivial⟩
   ·exact ⟨(by omega), rfl⟩
   ·exact (fun w m => m)
 ·skip
  refine Z2 (Z0 (Z3 rfl) rfl (Z0 (RV.eql rfl rfl) rfl (Z7 (.bool (decide (x5 = 0))) (congrArg Value.bool (decide_eq_decide.2 (by omega))) (Z0 (Z3 rfl) rfl ?_))))
  by_cases h19 : x5 = 0
  ·replace hq11 := if_t hq11 h19
   refine Z7 (.bool true) (congrArg Value.bool (decide_eq_true h19)) (Z24 rfl (Z0 (Z3 rfl) rfl (Z24 rfl (Z0 (RV.len rfl rfl) rfl (Z24 rfl (Z0 (RV.gtr rfl rfl) rfl (Z7 (.bool (decide (0 < a0.length))) (congrArg Value.bool (decide_eq_decide.2 (by omega))) ?_)))))))
   refine Z0 (Z108 rfl rfl rfl) rfl (Z0 (Z3 rfl) rfl ?_)
   by_cases h20 : 0 < a0.length
   ·replace hq11 := if_t hq11 h20
    refine Z7 (.bool true) (congrArg Value.bool (decide_eq_true h20)) (Z24 rfl (Z0 (Z3 rfl) rfl (Z24 rfl ?_)))
    obtain ⟨x21, hx22, hq11⟩ := Z105 hq11
    have hl23 := Z145 hx22
    refine Z0 (Z152 (0) rfl rfl rfl rfl rfl (va0.isSome (by decide) hl23) (by omega)) rfl (Z24 rfl (Z0 (Z21 rfl rfl rfl (fun w m => va0.cell (More.of hΦ 2 m rfl) (u8s_at hx22))) rfl (Z24 rfl (Z0 (RV.eql8 rfl (by first | rfl | exact lit8 _ rfl) rfl (by first | rfl | exact lit8 _ rfl)) rfl (Z0 (Z108 rfl rfl rfl) rfl (Z6 ?_))))))
    exact QW.join ⟨(decide (x21 = 0#8)), (Zi hq11).symm, rfl, rfl⟩ ⟨rfl, rfl, rfl, rfl, trivial⟩ (fun w m => m.pick [0, 1] 2 rfl rfl)
   ·replace hq11 := if_f hq11 h20
    refine Z7 (.bool false) (congrArg Value.bool (decide_eq_false h20)) (Z23 rfl rfl rfl (Z23 rfl rfl rfl (Z23 rfl rfl rfl (Z23 rfl rfl rfl (Z0 (Z112 rfl rfl rfl) rfl (Z6 ?_))))))
    exact QW.join ⟨false, (Zi hq11).symm, rfl, rfl⟩ ⟨rfl, rfl, rfl, rfl, trivial⟩ (fun w m => m.pick [0, 1] 2 rfl rfl)
  ·replace hq11 := if_f hq11 h19
   refine Z7 (.bool false) (congrArg Value.bool (decide_eq_false h19)) (Z23 rfl rfl rfl (Z23 rfl rfl rfl (Z23 rfl rfl rfl (Z0 (Z112 rfl rfl rfl) rfl (Z0 (Z3 rfl) rfl (Z23 rfl rfl rfl (Z23 rfl rfl rfl ?_)))))))
   refine Z23 rfl rfl rfl (Z23 rfl rfl rfl (Z0 (Z112 rfl rfl rfl) rfl (Z6 ?_)))
   exact QW.join ⟨false, (Zi hq11).symm, rfl, rfl⟩ ⟨rfl, rfl, rfl, rfl, trivial⟩ (fun w m => m.pick [0, 1] 2 rfl rfl)
theorem rlp_head_does (w0 : World) (Φ : Ctx) (N : List Ent) (hΦ : ∀ w, Mem w0 w N → Φ w) (a0 : BitVec 8) (a1 : Nat) (res0 : List (BitVec 8)) (ba1 : a1 ≤ 9223372036854775807) (hf : rlp_head a0 a1 = some res0) : DoesG Tryd.prog 101 [U8 a0, .int .i64 ((a1 : Nat) : Int)] w0 [] N (fun v G => ∃ B : List Ent, ∃ or0 : Option Nat, ∃ kr0 : Nat, ∃ rr0 : List Value, (OwnS or0 res0.length kr0 1 (u8s res0) rr0) ∧ v = sl or0 0 res0.length kr0 ∧ G = (or0, blk ((u8s res0) ++ rr0) 5) :: B) := by
 unfold rlp_head at hf
 refine DoesG.enter Tryd.func101 rfl Tryd.ntmps101 rfl (M := (([] ++ N))) rfl (Z4 (Z2 (Z0 (Z5 rfl) rfl (Z6 (Z1 (Z4 (Z4 (Z2 (Z0 (Z3 rfl) rfl (Z0 (RV.leq rfl rfl) rfl (Z7 (.bool (decide (a1 ≤ 55))) (congrArg Value.bool (decide_eq_decide.2 (by omega))) (Z6 (Z1 ?_)))))))))))))
 by_cases h1 : a1 ≤ 55
 ·replace hf := if_t hf h1
  refine Z13 rfl (decide_eq_true h1) (Z4 (Z2 (Z0 (Z3 rfl) rfl (Z0 (Z3 rfl) rfl (Z0 (RV.conv_i8 rfl rfl rfl) rfl (Z7 (U8 (BitVec.ofNat 8 a1)) (congrArg U8 (BitVec.ofInt_natCast ..)) (Z0 (RV.add8 rfl (by first | rfl | exact lit8 _ rfl) rfl (by first | rfl | exact lit8 _ rfl)) rfl (OW.ofN (NV.bs1 rfl rfl rfl rfl rfl rfl) rfl (fun b2 => ?_)))))))))
  refine Z20 (M' := (((some b2), blk ((u8s ([(a0 + (BitVec.ofNat 8 a1))] : List (BitVec 8))) ++ []) 5) :: ([] ++ N))) (fun w m => by first | exact m | simpa [u8s] using m) ?_
  have o3 : OwnS (some b2) ([(a0 + (BitVec.ofNat 8 a1))] : List (BitVec 8)).length 1 1 (u8s ([(a0 + (BitVec.ofNat 8 a1))] : List (BitVec 8))) [] := ⟨by simp [u8s], by simp [u8s], (fun h => nomatch h), by simp⟩
  have mx_o3 := o3.mx
  refine Z7 (sl (some b2) 0 ([(a0 + (BitVec.ofNat 8 a1))] : List (BitVec 8)).length 1) (rfl) (Z0 (Z5 rfl) rfl (Z6 (Z1 (CW.ret (Z8 ?_)))))
  have e0 := Zi hf
  subst e0
  refine Z110 (rs := [.tmp 4]) ([sl (some b2) 0 ([(a0 + (BitVec.ofNat 8 a1))] : List (BitVec 8)).length 1]) (((some b2), blk ((u8s ([(a0 + (BitVec.ofNat 8 a1))] : List (BitVec 8))) ++ []) 5) :: []) rfl ?_ rfl ?_ ?_ _ (.inl rfl)
  ·exact ⟨rfl, trivial⟩
  ·exact ⟨[], (some b2), 1, [], o3, rfl, rfl⟩
  ·exact (fun w m => m.pick [0] 1 rfl rfl)
 ·replace hf := if_f hf h1
  refine Z14 rfl (decide_eq_false h1) (CW.skip (Z1 (Z4 (Z2 (Z0 (Z3 rfl) rfl (Z0 (RV.conv_i64 rfl rfl rfl) rfl (Z7 (U64 (BitVec.ofNat 64 a1)) (congrArg U64 (BitVec.ofInt_natCast ..)) ?_)))))))
  obtain ⟨x5, hx4, hf⟩ := Z105 hf
  refine Z12 Tryd.call104 rfl (u256_From_does w0 (More w0 Φ []) (([] ++ N)) (fun w m => More.of hΦ 0 m rfl) (BitVec.ofNat 64 a1) x5 hx4) rfl rfl ?_
  rintro _ G6 rfl
  refine Z20 (M' := (([] ++ N))) (fun w m => m.appR) ?_
  obtain ⟨x9, hx8, hf⟩ := Z105 hf
  refine Z12 Tryd.call120 rfl (u256_Bytes_does w0 (More w0 Φ []) (([] ++ N)) (fun w m => More.of hΦ 0 m rfl) x5 x9 hx8) rfl rfl ?_
  rintro L15 M16 ⟨B10, ob11, c12, r13, o14, e17, e18⟩
  rw [e17, e18]
  clear e17 e18 L15 M16
  refine Z20 (M' := ((ob11, blk ((u8s x9) ++ r13) 5) :: ((B10 ++ []) ++ N))) (fun w m => by have h := Z118 (A := B10) m 1 0 rfl rfl; exact h) ?_
  have m19 := o14.mx
  refine Z0 (Z5 rfl) rfl (Z6 (Z1 (Z4 (Z2 (Z0 (Z3 rfl) rfl (Z0 (RV.add8 rfl (by first | rfl | exact lit8 _ rfl) rfl (by first | rfl | exact lit8 _ rfl)) rfl (Z0 (Z3 rfl) rfl (Z0 (RV.len rfl rfl) rfl (Z0 (RV.conv_i8 rfl rfl rfl) rfl (Z7 (U8 (BitVec.ofNat 8 x9.length)) (congrArg U8 (BitVec.ofInt_natCast ..)) ?_))))))))))
  refine Z0 (RV.add8 rfl (by first | rfl | exact lit8 _ rfl) rfl (by first | rfl | exact lit8 _ rfl)) rfl (OW.ofN (NV.bs1 rfl rfl rfl rfl rfl rfl) rfl (fun b20 => (Z20 (M' := (((some b20), blk ((u8s ([((a0 + 55#8) + (BitVec.ofNat 8 x9.length))] : List (BitVec 8))) ++ []) 5) :: (ob11, blk ((u8s x9) ++ r13) 5) :: ((B10 ++ []) ++ N))) (fun w m => by first | exact m | simpa [u8s] using m) ?_)))
  have o21 : OwnS (some b20) ([((a0 + 55#8) + (BitVec.ofNat 8 x9.length))] : List (BitVec 8)).length 1 1 (u8s ([((a0 + 55#8) + (BitVec.ofNat 8 x9.length))] : List (BitVec 8))) [] := ⟨by simp [u8s], by simp [u8s], (fun h => nomatch h), by simp⟩
  have mx_o21 := o21.mx
  refine Z7 (sl (some b20) 0 ([((a0 + 55#8) + (BitVec.ofNat 8 x9.length))] : List (BitVec 8)).length 1) (rfl) (Z0 (Z3 rfl) rfl ?_)
  obtain ⟨g22, hf⟩ := Z124 hf
  refine OW.appendOwn (s := 1) rfl rfl rfl rfl rfl rfl o21 (fun w m => m.rd0 (List.Mem.tail _ Zh) (fun e => o14.nilc (by decide) e)) o14.n (Z133 _) (o14.zeroO (by decide)) (by decide) (by decide) (by first | omega | (simp only [i5, List.length_nil]; omega)) rfl rfl ((([((a0 + 55#8) + (BitVec.ofNat 8 x9.length))] : List (BitVec 8)) ++ x9).length) (u8s (([((a0 + 55#8) + (BitVec.ofNat 8 x9.length))] : List (BitVec 8)) ++ x9)) (List.length_append ..).symm (u8s_app _ _) (fun ob23 r24 c25 o26 => ?_)
  have m27 := o26.mx
  refine Z0 (Z5 rfl) rfl (Z6 (Z1 (CW.ret ?_)))
  have e0 := Zi hf
  subst e0
  refine Z110 (rs := [.tmp 4]) ([sl ob23 0 (([((a0 + 55#8) + (BitVec.ofNat 8 x9.length))] : List (BitVec 8)) ++ x9).length c25]) ((ob23, blk ((u8s (([((a0 + 55#8) + (BitVec.ofNat 8 x9.length))] : List (BitVec 8)) ++ x9)) ++ r24) 5) :: (B10 ++ [])) rfl ?_ rfl ?_ ?_ _ (.inl rfl)
  ·exact ⟨rfl, trivial⟩
  ·exact ⟨(B10 ++ []), ob23, c25, r24, o26, rfl, rfl⟩
  ·exact (fun w m => m.pick [0] 2 rfl rfl)
theorem rlp_twin_rec (w0 : World) : ∀ (kf : Nat) (Φ : Ctx) (N : List Ent) (hΦ : ∀ w, Mem w0 w N → Φ w) (A0_ : Option Addr) (c0_ : Nat) (cs0_ : List Value) (a0 : List (It)) (res0 : List (It)) (va0 : View Φ A0_ a0.length c0_ 3 cs0_) (ha0 : Reps (ItRd Φ) cs0_ a0) (hf : rlp_twin.r kf a0 = some res0), DoesG Tryd.prog 82 [.slice A0_ a0.length c0_] w0 [] N (fun v G => ∃ B : List Ent, ∃ cr0 : List Value, ∃ or0 : Option Nat, ∃ kr0 : Nat, ∃ rr0 : List Value, (Reps (ItRd (More w0 Φ B)) cr0 res0) ∧ (OwnS or0 res0.length kr0 3 cr0 rr0) ∧ v = sl or0 0 res0.length kr0 ∧ G = (or0, blk (cr0 ++ rr0) 25) :: B) := by
 intro kf
 induction kf with
 | zero => intro Φ N hΦ A0_ c0_ cs0_ a0 res0 va0 ha0 hf; rw [rlp_twin.r] at hf; cases hf
 | succ kf ih =>
  intro Φ N hΦ A0_ c0_ cs0_ a0 res0 va0 ha0 hf
  rw [rlp_twin.r] at hf
  replace va0 := va0.mono (Ψ := More w0 Φ []) (fun w q => q.1)
  replace ha0 := ha0.mono (ItRd.mono (Ψ := More w0 Φ []) (fun w q => q.1))
  have m1 := va0.mx
  refine DoesG.enter Tryd.func82 rfl Tryd.ntmps82 rfl (M := (([] ++ N))) rfl (Z4 (Z2 (Z0 (Z5 rfl) rfl (Z6 (Z1 (Z4 (Z2 (Z0 (Z5 rfl) rfl (Z6 (Z1 (Z4 (Z4 (Z2 (Z0 (Z3 rfl) rfl (Z0 (RV.len rfl rfl) rfl ?_)))))))))))))))
  refine Z0 (Z3 rfl) rfl (Z6 (Z1 ?_))
  obtain ⟨q2, hq3, hf⟩ := Z105 hf
  refine Z130 (fun L' M' => ∃ l6 : List (It), ∃ B4 : List Ent, ∃ cs7 : List Value, ∃ ob9 : Option Nat, ∃ c10 : Nat, ∃ r11 : List Value, q2 = l6 ∧ (∀ w, Mem w0 w B4 → Mem w0 w []) ∧ (Reps (ItRd (More w0 Φ B4)) cs7 l6) ∧ (OwnS ob9 l6.length c10 3 cs7 r11) ∧ L' = [(3, sl ob9 0 l6.length c10)] ∧ M' = ((ob9, blk (cs7 ++ r11) 25) :: (B4 ++ N))) ?_ ?_
  ·rintro L14 M15 ⟨l6, B4, cs7, ob9, c10, r11, e13, hB5, h8, o12, e16, e17⟩
   rw [e16, e17]
   clear e16 e17 L14 M15
   clear hq3
   rw [e13] at hf
   clear e13
   try dsimp only at hf
   have m18 := o12.mx
   refine Z1 (Z4 (Z2 (Z0 (Z3 rfl) rfl (Z0 (Z5 rfl) rfl (Z6 (Z1 (CW.ret ?_)))))))
   have e0 := Zi hf
   subst e0
   refine Z110 (rs := [.tmp 2]) ([sl ob9 0 l6.length c10]) ((ob9, blk (cs7 ++ r11) 25) :: B4) rfl ?_ rfl ?_ ?_ _ (.inl rfl)
   ·exact ⟨rfl, trivial⟩
   ·exact ⟨B4, cs7, ob9, c10, r11, h8, o12, rfl, rfl⟩
   ·exact (fun w m => m.pick [0] 1 rfl rfl)
  ·skip
   refine CW.block (CW.mem (M' := ((none, blk ([] ++ []) 25) :: ([] ++ N))) (fun w m => m.nil_ent _) (Z139 (fun k L' M' => ∃ l21 : List (It), ∃ n28 : Nat, ∃ B19 : List Ent, ∃ cs22 : List Value, ∃ ob24 : Option Nat, ∃ c25 : Nat, ∃ r26 : List Value, (rlp_twin.l1 a0 (rlp_twin.r kf) k l21 n28) = some q2 ∧ (∀ w, Mem w0 w B19 → Mem w0 w []) ∧ (Reps (ItRd (More w0 Φ B19)) cs22 l21) ∧ (OwnS ob24 l21.length c25 3 cs22 r26) ∧ (n28 ≤ 9223372036854775807) ∧ L' = [(3, sl ob24 0 l21.length c25), (6, .slice A0_ a0.length c0_), (7, .int .i64 ((a0.length : Nat) : Int)), (8, .int .i64 ((n28 : Nat) : Int))] ∧ M' = ((ob24, blk (cs22 ++ r26) 25) :: (B19 ++ N))) (k0 := (a0.length - 0 + 2)) ⟨([] : List (It)), 0, [], [], none, 0, [], hq3, (fun w m => m), Reps.nil, OwnS.nil, (by omega), rfl, rfl⟩ ⟨rfl, rfl, rfl, rfl, trivial⟩ (fun w m => m.pick [0] 1 rfl rfl) ?_))
   clear hq3
   rintro k30 L33 M34 ⟨l21, n28, B19, cs22, ob24, c25, r26, hl31, hB20, h23, o27, b29, e35, e36⟩
   rw [e35, e36]
   clear e35 e36 L33 M34
   rcases k30 with _ | k30
   ·rw [rlp_twin.l1] at hl31; cases hl31
   rw [rlp_twin.l1] at hl31
   have gq6 : ∀ w, More w0 Φ B19 w → More w0 Φ [] w := fun w q => More.mono (fun w m => hB20 w (m)) q
   replace va0 := va0.mono gq6
   replace ha0 := ha0.mono (ItRd.mono gq6)
   have m37 := o27.mx
   refine Z4 (Z2 (Z0 (RV.lss rfl rfl) rfl (Z7 (.bool (decide (n28 < a0.length))) (congrArg Value.bool (decide_eq_decide.2 (by omega))) (Z6 (Z1 (Z4 ?_))))))
   by_cases h38 : n28 < a0.length
   ·replace hl31 := if_t hl31 h38
    refine Z13 rfl (decide_eq_true h38) (CW.skip (Z1 (Z4 (CW.block (Z4 (Z2 ?_))))))
    obtain ⟨x39, hx40, hl31⟩ := Z105 hl31
    have hl41 := Z145 hx40
    refine Z0 (RV.idx_rs (n28) rfl rfl rfl rfl rfl (va0.isSome (by decide) hl41) (by omega)) rfl ?_
    obtain ⟨cs42, h43, h44⟩ := ha0.get ItRd.len hx40
    have h54 := h43
    obtain ⟨A45, c46, A48, c49, cs51, e53, v47, v50, h52⟩ := ItRd.opn h43
    subst e53
    have m55 := v47.mx
    have m56 := v50.mx
    refine Z0 (RV.loadAs rfl rfl rfl rfl (fun w m => va0.load (More.of hΦ 1 m rfl) h44) rfl) rfl (OW.alloc (l := [.bool false, .slice none 0 0, .slice none 0 0]) rfl rfl rfl (fun b57 => ?_))
    refine Z28 (Z107 rfl rfl rfl (by intro u hu; simp at hu; rcases hu with rfl | rfl | rfl <;> rfl) rfl rfl rfl) ?_
    refine Z6 (Z1 (Z151 11 mixed (by kernel_rfl) rfl (Z18 0 rfl (by kernel_rfl) rfl (Z3 rfl) rfl (Z18 1 rfl (by kernel_rfl) rfl (Z30 rfl rfl rfl rfl) rfl (Z18 2 rfl (by kernel_rfl) rfl (Z29 rfl Zh rfl rfl rfl rfl) rfl (Z18 3 rfl (by kernel_rfl) rfl (Z30 rfl rfl rfl rfl) rfl (Z18 4 rfl (by kernel_rfl) rfl (Z29 rfl Zh rfl rfl rfl rfl) rfl (Z18 6 rfl (by kernel_rfl) rfl (Z30 rfl rfl rfl rfl) rfl ?_))))))))
    refine Z18 7 rfl (by kernel_rfl) rfl (Z29 rfl Zh rfl rfl rfl rfl) rfl ?_
    obtain ⟨x59, hx58, hl31⟩ := Z105 hl31
    refine Z25 5 rfl (by kernel_rfl) rfl Tryd.call77 rfl (fun N' hN' => rlp_clone_does w0 (More w0 Φ B19) N' (fun w m => More.of hΦ 2 (hN' w m) rfl) A45 c46 x39.data x59 v47 hx58) rfl ?_
    rintro L65 M66 ⟨B60, ob61, c62, r63, o64, e67, e68⟩
    rw [e67, e68]
    clear e67 e68 L65 M66
    refine UW.mem (M' := ((ob61, blk ((u8s x59) ++ r63) 5) :: (some b57, blk [.bool (x39.list), .slice A45 x39.data.length c46, .slice A48 x39.items.length c49] 25) :: (ob24, blk (cs22 ++ r26) 25) :: ((B60 ++ B19) ++ N))) (fun w m => by have h := Z118 (A := B60) m 1 2 rfl rfl; exact h) ?_
    have gq7 : ∀ w, More w0 Φ (B60 ++ B19) w → More w0 Φ B19 w := fun w q => More.mono (fun w m => (m).appR) q
    replace va0 := va0.mono gq7
    replace ha0 := ha0.mono (ItRd.mono gq7)
    replace h23 := h23.mono (ItRd.mono gq7)
    replace h54 := ItRd.mono gq7 _ _ h54
    replace v47 := v47.mono gq7
    replace v50 := v50.mono gq7
    replace h52 := h52.mono (ItRd.mono gq7)
    have m69 := o64.mx
    obtain ⟨x71, hx70, hl31⟩ := Z105 hl31
    refine Z25 8 rfl (by kernel_rfl) rfl Tryd.call82 rfl (fun N' hN' => ih (More w0 Φ (B60 ++ B19)) N' (fun w m => More.of hΦ 3 (hN' w m) rfl) A48 c49 cs51 x39.items x71 v50 h52 hx70) rfl ?_
    rintro L79 M80 ⟨B72, cs73, ob75, c76, r77, h74, o78, e81, e82⟩
    rw [e81, e82]
    clear e81 e82 L79 M80
    refine UW.mem (M' := ((ob75, blk (cs73 ++ r77) 25) :: (ob61, blk ((u8s x59) ++ r63) 5) :: (some b57, blk [.bool (x39.list), .slice A45 x39.data.length c46, .slice A48 x39.items.length c49] 25) :: (ob24, blk (cs22 ++ r26) 25) :: ((B72 ++ (B60 ++ B19)) ++ N))) (fun w m => by have h := Z118 (A := B72) m 1 3 rfl rfl; exact h) ?_
    have gq8 : ∀ w, More w0 Φ (B72 ++ (B60 ++ B19)) w → More w0 Φ (B60 ++ B19) w := fun w q => More.mono (fun w m => (m).appR) q
    replace va0 := va0.mono gq8
    replace ha0 := ha0.mono (ItRd.mono gq8)
    replace h23 := h23.mono (ItRd.mono gq8)
    replace h54 := ItRd.mono gq8 _ _ h54
    replace v47 := v47.mono gq8
    replace v50 := v50.mono gq8
    replace h52 := h52.mono (ItRd.mono gq8)
    replace h74 := h74.mono (ItRd.mono (Ψ := (More w0 Φ (B72 ++ (B60 ++ B19)))) (fun w q => More.flat q))
    have m83 := o78.mx
    refine Z18 9 rfl (by kernel_rfl) rfl (Z117 (l := [.bool false, .slice none 0 0, .slice none 0 0]) (cs := [.bool (x39.list), sl ob61 0 x59.length c62, sl ob75 0 x71.length c76]) [(0, [.bool (x39.list)]), (1, [sl ob61 0 x59.length c62]), (2, [sl ob75 0 x71.length c76])] rfl rfl rfl rfl rfl rfl rfl) rfl (UW.mem (M' := (ob75, blk (cs73 ++ r77) 25) :: (some b57, blk [.bool (x39.list), .slice A45 x39.data.length c46, .slice A48 x39.items.length c49] 25) :: (ob24, blk (cs22 ++ r26) 25) :: (((ob61, blk ((u8s x59) ++ r63) 5) :: (B72 ++ (B60 ++ B19))) ++ N)) (fun w m => m.pick [0, 2, 3, 1] 4 rfl rfl) ?_)
    have gq9 : ∀ w, More w0 Φ ((ob61, blk ((u8s x59) ++ r63) 5) :: (B72 ++ (B60 ++ B19))) w → More w0 Φ (B72 ++ (B60 ++ B19)) w := fun w q => More.mono (fun w m => (m).tail) q
    replace va0 := va0.mono gq9
    replace ha0 := ha0.mono (ItRd.mono gq9)
    replace h23 := h23.mono (ItRd.mono gq9)
    replace h54 := ItRd.mono gq9 _ _ h54
    replace v47 := v47.mono gq9
    replace v50 := v50.mono gq9
    replace h52 := h52.mono (ItRd.mono gq9)
    replace h74 := h74.mono (ItRd.mono gq9)
    have v86 : View (More w0 Φ ((ob61, blk ((u8s x59) ++ r63) 5) :: (B72 ++ (B60 ++ B19)))) ((ob61).map fun k => ⟨k, 0, none⟩) x59.length c62 1 (u8s x59) := o64.view (by decide) (fun w q => q.2.sublist (List.singleton_sublist.2 (List.mem_cons_self ..)))
    refine UW.mem (M' := (some b57, blk [.bool (x39.list), .slice A45 x39.data.length c46, .slice A48 x39.items.length c49] 25) :: (ob24, blk (cs22 ++ r26) 25) :: (((ob75, blk (cs73 ++ r77) 25) :: ((ob61, blk ((u8s x59) ++ r63) 5) :: (B72 ++ (B60 ++ B19)))) ++ N)) (fun w m => m.pick [1, 2, 0] 3 rfl rfl) ?_
    have gq10 : ∀ w, More w0 Φ ((ob75, blk (cs73 ++ r77) 25) :: ((ob61, blk ((u8s x59) ++ r63) 5) :: (B72 ++ (B60 ++ B19)))) w → More w0 Φ ((ob61, blk ((u8s x59) ++ r63) 5) :: (B72 ++ (B60 ++ B19))) w := fun w q => More.mono (fun w m => (m).tail) q
    replace va0 := va0.mono gq10
    replace ha0 := ha0.mono (ItRd.mono gq10)
    replace h23 := h23.mono (ItRd.mono gq10)
    replace h54 := ItRd.mono gq10 _ _ h54
    replace v47 := v47.mono gq10
    replace v50 := v50.mono gq10
    replace h52 := h52.mono (ItRd.mono gq10)
    replace v86 := v86.mono gq10
    replace h74 := h74.mono (ItRd.mono gq10)
    have v87 : View (More w0 Φ ((ob75, blk (cs73 ++ r77) 25) :: ((ob61, blk ((u8s x59) ++ r63) 5) :: (B72 ++ (B60 ++ B19))))) ((ob75).map fun k => ⟨k, 0, none⟩) x71.length c76 3 cs73 := o78.view (by decide) (fun w q => q.2.sublist (List.singleton_sublist.2 (List.mem_cons_self ..)))
    refine UW.new 10 rfl (by kernel_rfl) rfl (NV.bsA rfl rfl (by intro x hx; simp at hx; subst hx; exact rfl) rfl rfl rfl (by decide) (by decide) rfl) rfl (fun b84 => ?_)
    have h89 : Reps (ItRd (More w0 Φ ((ob75, blk (cs73 ++ r77) 25) :: ((ob61, blk ((u8s x59) ++ r63) 5) :: (B72 ++ (B60 ++ B19)))))) (([.bool (x39.list), .slice ((ob61).map fun k => ⟨k, 0, none⟩) x59.length c62, .slice ((ob75).map fun k => ⟨k, 0, none⟩) x71.length c76] : List Value)) [(It.mk (x39.list) x59 x71)] := Reps.one (ItRd.mk v86 v87 h74)
    refine UW.mem (M' := (((some b84), blk ((([.bool (x39.list), .slice ((ob61).map fun k => ⟨k, 0, none⟩) x59.length c62, .slice ((ob75).map fun k => ⟨k, 0, none⟩) x71.length c76] : List Value)) ++ []) 25) :: (some b57, blk [.bool (x39.list), .slice A45 x39.data.length c46, .slice A48 x39.items.length c49] 25) :: (ob24, blk (cs22 ++ r26) 25) :: (((ob75, blk (cs73 ++ r77) 25) :: ((ob61, blk ((u8s x59) ++ r63) 5) :: (B72 ++ (B60 ++ B19)))) ++ N))) (fun w m => m) ?_
    have o85 : OwnS (some b84) ([(It.mk (x39.list) x59 x71)] : List (It)).length 1 3 (([.bool (x39.list), .slice ((ob61).map fun k => ⟨k, 0, none⟩) x59.length c62, .slice ((ob75).map fun k => ⟨k, 0, none⟩) x71.length c76] : List Value)) [] := ⟨by simp [ItRd], by simp [ItRd], (fun h => nomatch h), by simp⟩
    have mx_o85 := o85.mx
    refine UW.slot (sl (some b84) 0 ([(It.mk (x39.list) x59 x71)] : List (It)).length 1) (rfl) (UW.nil (by kernel_rfl) (OW.rot2 ?_))
    obtain ⟨g90, hl31⟩ := Z124 hl31
    have h95 := h23.app h89
    refine OW.appendOwn (s := 3) rfl rfl rfl rfl rfl rfl o27 (fun w m => m.rd0 (List.Mem.tail _ Zh) (fun e => o85.nilc (by decide) e)) o85.n (h89.cell1 ItRd.one) (o85.zeroO (by decide)) (by decide) (by decide) (by first | omega | (simp only [i25, List.length_nil]; omega)) rfl rfl ((l21 ++ ([(It.mk (x39.list) x59 x71)] : List (It))).length) (cs22 ++ (([.bool (x39.list), .slice ((ob61).map fun k => ⟨k, 0, none⟩) x59.length c62, .slice ((ob75).map fun k => ⟨k, 0, none⟩) x71.length c76] : List Value))) (List.length_append ..).symm rfl (fun ob91 r92 c93 o94 => ?_)
    have m96 := o94.mx
    refine Z0 (Z5 rfl) rfl (Z6 (Z27 (Z1 (Z2 (Z0 (RV.add rfl rfl (by omega)) rfl (Z7 (.int .i64 (((n28 + 1) : Nat) : Int)) (by first | rfl | (congr 1) | (congr 1; omega)) (Z0 (Z3 rfl) rfl (Z6 ?_))))))))
    exact Z132 (k' := k30) (Nat.lt_succ_self _) ⟨(l21 ++ ([(It.mk (x39.list) x59 x71)] : List (It))), (n28 + 1), ((ob75, blk (cs73 ++ r77) 25) :: ((ob61, blk ((u8s x59) ++ r63) 5) :: (B72 ++ (B60 ++ B19)))), (cs22 ++ (([.bool (x39.list), .slice ((ob61).map fun k => ⟨k, 0, none⟩) x59.length c62, .slice ((ob75).map fun k => ⟨k, 0, none⟩) x71.length c76] : List Value))), ob91, c93, r92, hl31, (fun w m => hB20 w (((((m).tail).tail).appR).appR)), h95, o94, (by omega), rfl, rfl⟩ ⟨rfl, rfl, rfl, rfl, trivial⟩ (fun w m => m.pick [0] 3 rfl rfl)
   ·replace hl31 := if_f hl31 h38
    refine Z14 rfl (decide_eq_false h38) (CW.exit (Z9 (Z9 (Z15 ?_))))
    exact QW.join ⟨l21, B19, cs22, ob24, c25, r26, (Zi hl31).symm, (fun w m => hB20 w (m)), h23, o27, rfl, rfl⟩ ⟨rfl, trivial⟩ (fun w m => m.pick [0] 1 rfl rfl)
theorem rlp_twin_does (w0 : World) (Φ : Ctx) (N : List Ent) (hΦ : ∀ w, Mem w0 w N → Φ w) (A0_ : Option Addr) (c0_ : Nat) (cs0_ : List Value) (a0 : List (It)) (res0 : List (It)) (va0 : View Φ A0_ a0.length c0_ 3 cs0_) (ha0 : Reps (ItRd Φ) cs0_ a0) (hf : rlp_twin a0 = some res0) : DoesG Tryd.prog 82 [.slice A0_ a0.length c0_] w0 [] N (fun v G => ∃ B : List Ent, ∃ cr0 : List Value, ∃ or0 : Option Nat, ∃ kr0 : Nat, ∃ rr0 : List Value, (Reps (ItRd (More w0 Φ B)) cr0 res0) ∧ (OwnS or0 res0.length kr0 3 cr0 rr0) ∧ v = sl or0 0 res0.length kr0 ∧ G = (or0, blk (cr0 ++ rr0) 25) :: B) := rlp_twin_rec w0 _ Φ N hΦ A0_ c0_ cs0_ a0 res0 va0 ha0 hf
theorem rlp_size_rec (w0 : World) : ∀ (kf : Nat) (Φ : Ctx) (N : List Ent) (hΦ : ∀ w, Mem w0 w N → Φ w) (cs0_ : List Value) (a0 : It) (res0 : Nat) (ha0 : ItRd Φ cs0_ a0) (hf : rlp_size.r kf a0 = some res0), DoesG Tryd.prog 100 [.agg cs0_.toArray] w0 [] N (fun v G => (res0 ≤ 9223372036854775807) ∧ v = .int .i64 ((res0 : Nat) : Int)) := by
 intro kf
 induction kf with
 | zero => intro Φ N hΦ cs0_ a0 res0 ha0 hf; rw [rlp_size.r] at hf; cases hf
 | succ kf ih =>
  intro Φ N hΦ cs0_ a0 res0 ha0 hf
  rw [rlp_size.r] at hf
  replace ha0 := ItRd.mono (Ψ := More w0 Φ []) (fun w q => q.1) _ _ ha0
  have h10 := ha0
  obtain ⟨A1, c2, A4, c5, cs7, e9, v3, v6, h8⟩ := ItRd.opn ha0
  subst e9
  have m11 := v3.mx
  have m12 := v6.mx
  refine DoesG.enter Tryd.func100 rfl Tryd.ntmps100 rfl (M := (([] ++ N))) rfl (Z4 (Z2 (OW.boxA rfl rfl (fun b13 => (Z0 (Z5 rfl) rfl (Z6 (Z1 (Z4 (Z4 (Z2 (Z0 (Z30 rfl rfl rfl rfl) rfl (Z0 (Z29 rfl Zh rfl rfl rfl rfl) rfl (Z0 (RV.not rfl) rfl ?_)))))))))))))
  refine Z6 (Z1 ?_)
  by_cases h14 : a0.list = true
  ·replace hf := if_t hf h14
   refine Z14 rfl (congrArg (fun b => !b) (h14)) (CW.skip (Z1 (Z4 (Z2 (Z0 (Z5 rfl) rfl (Z6 (Z1 (Z4 (Z4 (Z2 (Z0 (Z30 rfl rfl rfl rfl) rfl (Z0 (Z29 rfl Zh rfl rfl rfl rfl) rfl (Z0 (RV.len rfl rfl) rfl (Z0 (Z3 rfl) rfl ?_))))))))))))))
   refine Z6 (Z1 ?_)
   obtain ⟨q15, hq16, hf⟩ := Z105 hf
   refine Z130 (fun L' M' => ∃ n17 : Nat, q15 = n17 ∧ (n17 ≤ 9223372036854775807) ∧ L' = [(3, .int .i64 ((n17 : Nat) : Int))] ∧ M' = (([] ++ N))) ?_ ?_
   ·rintro L20 M21 ⟨n17, e19, b18, e22, e23⟩
    rw [e22, e23]
    clear e22 e23 L20 M21
    clear hq16
    rw [e19] at hf
    clear e19
    try dsimp only at hf
    refine Z1 (Z4 (Z2 (Z0 (Z3 rfl) rfl ?_)))
    obtain ⟨x25, hx24, hf⟩ := Z105 hf
    refine Z12 Tryd.call101 rfl (rlp_head_does w0 (More w0 Φ []) (([] ++ N)) (fun w m => More.of hΦ 0 m rfl) (192#8) n17 x25 (by omega) hx24) rfl rfl ?_
    rintro L31 M32 ⟨B26, ob27, c28, r29, o30, e33, e34⟩
    rw [e33, e34]
    clear e33 e34 L31 M32
    refine Z20 (M' := ((ob27, blk ((u8s x25) ++ r29) 5) :: ((B26 ++ []) ++ N))) (fun w m => by have h := Z118 (A := B26) m 1 0 rfl rfl; exact h) ?_
    have m35 := o30.mx
    refine Z0 (RV.len rfl rfl) rfl (Z0 (Z3 rfl) rfl ?_)
    obtain ⟨g36, hf⟩ := Z124 hf
    refine Z0 (RV.add rfl rfl (by omega)) rfl (Z7 (.int .i64 (((x25.length + n17) : Nat) : Int)) (by first | rfl | (congr 1) | (congr 1; omega)) (Z0 (Z5 rfl) rfl (Z6 (Z1 (CW.ret ?_)))))
    have e0 := Zi hf
    subst e0
    refine Z110 (rs := [.tmp 2]) ([.int .i64 (((x25.length + n17) : Nat) : Int)]) ((ob27, blk ((u8s x25) ++ r29) 5) :: (B26 ++ [])) rfl ?_ rfl ?_ ?_ _ (.inl rfl)
    ·exact ⟨rfl, trivial⟩
    ·exact ⟨(by omega), rfl⟩
    ·exact (fun w m => m)
   ·skip
    refine CW.block (Z139 (fun k L' M' => ∃ n37 : Nat, ∃ n39 : Nat, (rlp_size.l1 a0 (rlp_size.r kf) k n37 n39) = some q15 ∧ (n37 ≤ 9223372036854775807) ∧ (n39 ≤ 9223372036854775807) ∧ L' = [(3, .int .i64 ((n37 : Nat) : Int)), (30, .slice A4 a0.items.length c5), (31, .int .i64 ((a0.items.length : Nat) : Int)), (32, .int .i64 ((n39 : Nat) : Int))] ∧ M' = (([] ++ N))) (k0 := (a0.items.length - 0 + 2)) ⟨0, 0, hq16, (by omega), (by omega), rfl, rfl⟩ ⟨rfl, rfl, rfl, rfl, trivial⟩ (fun w m => m.pick [] 1 rfl rfl) ?_)
    clear hq16
    rintro k41 L44 M45 ⟨n37, n39, hl42, b38, b40, e46, e47⟩
    rw [e46, e47]
    clear e46 e47 L44 M45
    rcases k41 with _ | k41
    ·rw [rlp_size.l1] at hl42; cases hl42
    rw [rlp_size.l1] at hl42
    refine Z4 (Z2 (Z0 (RV.lss rfl rfl) rfl (Z7 (.bool (decide (n39 < a0.items.length))) (congrArg Value.bool (decide_eq_decide.2 (by omega))) (Z6 (Z1 (Z4 ?_))))))
    by_cases h48 : n39 < a0.items.length
    ·replace hl42 := if_t hl42 h48
     refine Z13 rfl (decide_eq_true h48) (CW.skip (Z1 (Z4 (CW.block (Z4 (Z2 ?_))))))
     obtain ⟨x49, hx50, hl42⟩ := Z105 hl42
     have hl51 := Z145 hx50
     refine Z0 (RV.idx_rs (n39) rfl rfl rfl rfl rfl (v6.isSome (by decide) hl51) (by omega)) rfl ?_
     obtain ⟨cs52, h53, h54⟩ := h8.get ItRd.len hx50
     have h64 := h53
     obtain ⟨A55, c56, A58, c59, cs61, e63, v57, v60, h62⟩ := ItRd.opn h53
     subst e63
     have m65 := v57.mx
     have m66 := v60.mx
     refine Z0 (RV.loadAs rfl rfl rfl rfl (fun w m => v6.load (More.of hΦ 0 m rfl) h54) rfl) rfl (OW.alloc (l := [.bool false, .slice none 0 0, .slice none 0 0]) rfl rfl rfl (fun b67 => ?_))
     refine Z28 (Z107 rfl rfl rfl (by intro u hu; simp at hu; rcases hu with rfl | rfl | rfl <;> rfl) rfl rfl rfl) ?_
     refine Z6 (Z1 (Z2 (Z0 (Z3 rfl) rfl (Z0 (Z22 rfl Zh rfl rfl rfl rfl rfl) rfl ?_))))
     obtain ⟨x69, hx68, hl42⟩ := Z105 hl42
     refine Z12 Tryd.call100 rfl (ih (More w0 Φ []) ((some b67, blk [.bool (x49.list), .slice A55 x49.data.length c56, .slice A58 x49.items.length c59] 25) :: ([] ++ N)) (fun w m => More.of hΦ 1 m rfl) [.bool (x49.list), .slice A55 x49.data.length c56, .slice A58 x49.items.length c59] x49 x69 h64 hx68) rfl rfl ?_
     rintro _ G71 ⟨b70, rfl⟩
     refine Z20 (M' := ((some b67, blk [.bool (x49.list), .slice A55 x49.data.length c56, .slice A58 x49.items.length c59] 25) :: ([] ++ N))) (fun w m => m.appR) ?_
     obtain ⟨g73, hl42⟩ := Z124 hl42
     refine Z0 (RV.add rfl rfl (by omega)) rfl (Z7 (.int .i64 (((n37 + x69) : Nat) : Int)) (by first | rfl | (congr 1) | (congr 1; omega)) (Z0 (Z5 rfl) rfl (Z6 (Z27 (Z1 (Z2 (Z0 (RV.add rfl rfl (by omega)) rfl (Z7 (.int .i64 (((n39 + 1) : Nat) : Int)) (by first | rfl | (congr 1) | (congr 1; omega)) (Z0 (Z3 rfl) rfl (Z6 ?_))))))))))
     exact Z132 (k' := k41) (Nat.lt_succ_self _) ⟨(n37 + x69), (n39 + 1), hl42, (by omega), (by omega), rfl, rfl⟩ ⟨rfl, rfl, rfl, rfl, trivial⟩ (fun w m => m.pick [] 1 rfl rfl)
    ·replace hl42 := if_f hl42 h48
     refine Z14 rfl (decide_eq_false h48) (CW.exit (Z9 (Z9 (Z15 ?_))))
     exact QW.join ⟨n37, (Zi hl42).symm, (by omega), rfl, rfl⟩ ⟨rfl, trivial⟩ (fun w m => m.pick [] 0 rfl rfl)
  ·replace hf := if_f hf h14
   refine Z13 rfl (congrArg (fun b => !b) (Bool.eq_false_iff.2 h14)) (Z4 (Z4 ?_))
   obtain ⟨q74, hq75, hf⟩ := Z105 hf
   refine Z130 (fun L' M' => ∃ p76 : Bool, q74 = p76 ∧ L' = [(1, ptr (some b13) 0), (19, .bool (p76))] ∧ M' = ((some b13, blk [.bool (a0.list), .slice A1 a0.data.length c2, .slice A4 a0.items.length c5] 25) :: ([] ++ N))) ?_ ?_
   ·rintro L78 M79 ⟨p76, e77, e80, e81⟩
    rw [e80, e81]
    clear e80 e81 L78 M79
    clear hq75
    rw [e77] at hf
    clear e77
    try dsimp only at hf
    refine Z1 ?_
    by_cases h82 : p76 = true
    ·replace hf := if_t hf h82
     refine Z13 rfl (h82) (Z4 (Z2 (Z0 (Z5 rfl) rfl (Z6 (Z1 (CW.ret (Z8 (Z8 ?_))))))))
     have e0 := Zi hf
     subst e0
     refine Z110 (rs := [.tmp 2]) ([.int .i64 (1 : Int)]) ((some b13, blk [.bool (a0.list), .slice A1 a0.data.length c2, .slice A4 a0.items.length c5] 25) :: []) rfl ?_ rfl ?_ ?_ _ (.inl rfl)
     ·exact ⟨rfl, trivial⟩
     ·exact ⟨(by omega), rfl⟩
     ·exact (fun w m => m)
    ·replace hf := if_f hf h82
     refine Z14 rfl (Bool.eq_false_iff.2 h82) (CW.skip (Z1 (Z4 (Z151 10 mixed (by kernel_rfl) rfl (Z18 0 rfl (by kernel_rfl) rfl (Z30 rfl rfl rfl rfl) rfl (Z18 1 rfl (by kernel_rfl) rfl (Z29 rfl Zh rfl rfl rfl rfl) rfl (Z18 2 rfl (by kernel_rfl) rfl (RV.len rfl rfl) rfl (Z18 5 rfl (by kernel_rfl) rfl (Z30 rfl rfl rfl rfl) rfl (Z18 6 rfl (by kernel_rfl) rfl (Z29 rfl Zh rfl rfl rfl rfl) rfl ?_)))))))))
     refine Z18 7 rfl (by kernel_rfl) rfl (RV.len rfl rfl) rfl ?_
     obtain ⟨x84, hx83, hf⟩ := Z105 hf
     refine Z25 3 rfl (by kernel_rfl) rfl Tryd.call101 rfl (fun N' hN' => rlp_head_does w0 (More w0 Φ []) N' (fun w m => More.of hΦ 1 (hN' w m) rfl) (128#8) a0.data.length x84 (by omega) hx83) rfl ?_
     rintro L90 M91 ⟨B85, ob86, c87, r88, o89, e92, e93⟩
     rw [e92, e93]
     clear e92 e93 L90 M91
     refine UW.mem (M' := ((ob86, blk ((u8s x84) ++ r88) 5) :: (some b13, blk [.bool (a0.list), .slice A1 a0.data.length c2, .slice A4 a0.items.length c5] 25) :: ((B85 ++ []) ++ N))) (fun w m => by have h := Z118 (A := B85) m 1 1 rfl rfl; exact h) ?_
     have gq1 : ∀ w, More w0 Φ (B85 ++ []) w → More w0 Φ [] w := fun w q => More.mono (fun w m => (m).appR) q
     replace v3 := v3.mono gq1
     replace h10 := ItRd.mono gq1 _ _ h10
     replace v6 := v6.mono gq1
     replace h8 := h8.mono (ItRd.mono gq1)
     have m94 := o89.mx
     refine Z18 4 rfl (by kernel_rfl) rfl (RV.len rfl rfl) rfl (Z18 8 rfl (by kernel_rfl) rfl (RV.add rfl rfl (by omega)) rfl (UW.slot (.int .i64 (((x84.length + a0.data.length) : Nat) : Int)) (by first | rfl | (congr 1) | (congr 1; omega)) (Z18 9 rfl (by kernel_rfl) rfl (Z5 rfl) rfl (UW.nil (by kernel_rfl) (Z6 (Z1 (CW.ret (Z8 ?_))))))))
     have e0 := Zi hf
     subst e0
     refine Z110 (rs := [.tmp 2]) ([.int .i64 (((x84.length + a0.data.length) : Nat) : Int)]) ((ob86, blk ((u8s x84) ++ r88) 5) :: (some b13, blk [.bool (a0.list), .slice A1 a0.data.length c2, .slice A4 a0.items.length c5] 25) :: (B85 ++ [])) rfl ?_ rfl ?_ ?_ _ (.inl rfl)
     ·exact ⟨rfl, trivial⟩
     ·exact ⟨(by omega), rfl⟩
     ·exact (fun w m => m)
   ·skip
    refine Z2 (Z0 (Z30 rfl rfl rfl rfl) rfl (Z0 (Z29 rfl Zh rfl rfl rfl rfl) rfl (Z0 (RV.len rfl rfl) rfl (Z0 (RV.eql rfl rfl) rfl (Z7 (.bool (decide (a0.data.length = 1))) (congrArg Value.bool (decide_eq_decide.2 (by omega))) (Z0 (Z3 rfl) rfl ?_))))))
    by_cases h95 : a0.data.length = 1
    ·replace hq75 := if_t hq75 h95
     refine Z7 (.bool true) (congrArg Value.bool (decide_eq_true h95)) (Z24 rfl (Z0 (Z30 rfl rfl rfl rfl) rfl (Z24 rfl (Z0 (Z29 rfl Zh rfl rfl rfl rfl) rfl (Z24 rfl ?_)))))
     obtain ⟨x96, hx97, hq75⟩ := Z105 hq75
     have hl98 := Z145 hx97
     refine Z0 (Z152 (0) rfl rfl rfl rfl rfl (v3.isSome (by decide) hl98) (by omega)) rfl (Z24 rfl (Z0 (Z21 rfl rfl rfl (fun w m => v3.cell (More.of hΦ 1 m rfl) (u8s_at hx97))) rfl (Z24 rfl (Z0 (RV.lss rfl rfl) rfl (Z7 (.bool (decide (x96.toNat < 128))) (congrArg Value.bool (decide_eq_decide.2 (by first | exact Int.ofNat_le | exact Int.ofNat_lt | omega | (simp; omega) | simp))) (Z0 (Z108 rfl rfl rfl) rfl (Z6 ?_)))))))
     exact QW.join ⟨(decide (x96.toNat < 128)), (Zi hq75).symm, rfl, rfl⟩ ⟨rfl, rfl, trivial⟩ (fun w m => m.pick [0] 1 rfl rfl)
    ·replace hq75 := if_f hq75 h95
     refine Z7 (.bool false) (congrArg Value.bool (decide_eq_false h95)) (Z23 rfl rfl rfl (Z23 rfl rfl rfl (Z23 rfl rfl rfl (Z23 rfl rfl rfl (Z23 rfl rfl rfl (Z0 (Z112 rfl rfl rfl) rfl (Z6 ?_)))))))
     exact QW.join ⟨false, (Zi hq75).symm, rfl, rfl⟩ ⟨rfl, rfl, trivial⟩ (fun w m => m.pick [0] 1 rfl rfl)
theorem rlp_size_does (w0 : World) (Φ : Ctx) (N : List Ent) (hΦ : ∀ w, Mem w0 w N → Φ w) (cs0_ : List Value) (a0 : It) (res0 : Nat) (ha0 : ItRd Φ cs0_ a0) (hf : rlp_size a0 = some res0) : DoesG Tryd.prog 100 [.agg cs0_.toArray] w0 [] N (fun v G => (res0 ≤ 9223372036854775807) ∧ v = .int .i64 ((res0 : Nat) : Int)) := rlp_size_rec w0 _ Φ N hΦ cs0_ a0 res0 ha0 hf
theorem rlp_sound_rec (w0 : World) : ∀ (kf : Nat) (Φ : Ctx) (N : List Ent) (hΦ : ∀ w, Mem w0 w N → Φ w) (cs0_ : List Value) (a0 : It) (res0 : Nat) (res1 : Bool) (ha0 : ItRd Φ cs0_ a0) (hf : rlp_sound.r kf a0 = some (res0, res1)), DoesG Tryd.prog 99 [.agg cs0_.toArray] w0 [] N (fun v G => (res0 ≤ 9223372036854775807) ∧ v = .tuple #[.int .i64 ((res0 : Nat) : Int), .bool res1]) := by
 intro kf
 induction kf with
 | zero => intro Φ N hΦ cs0_ a0 res0 res1 ha0 hf; rw [rlp_sound.r] at hf; cases hf
 | succ kf ih =>
  intro Φ N hΦ cs0_ a0 res0 res1 ha0 hf
  rw [rlp_sound.r] at hf
  replace ha0 := ItRd.mono (Ψ := More w0 Φ []) (fun w q => q.1) _ _ ha0
  have h10 := ha0
  obtain ⟨A1, c2, A4, c5, cs7, e9, v3, v6, h8⟩ := ItRd.opn ha0
  subst e9
  have m11 := v3.mx
  have m12 := v6.mx
  refine DoesG.enter Tryd.func99 rfl Tryd.ntmps99 rfl (M := (([] ++ N))) rfl (Z4 (Z2 (OW.boxA rfl rfl (fun b13 => (Z0 (Z5 rfl) rfl (Z0 (Z5 rfl) rfl (Z6 (Z1 (Z4 (Z4 (Z2 (Z0 (Z22 rfl Zh rfl rfl rfl rfl rfl) rfl ?_))))))))))))
  obtain ⟨x15, hx14, hf⟩ := Z105 hf
  refine Z12 Tryd.call113 rfl (rlp_odd_does w0 (More w0 Φ []) ((some b13, blk [.bool (a0.list), .slice A1 a0.data.length c2, .slice A4 a0.items.length c5] 25) :: ([] ++ N)) (fun w m => More.of hΦ 1 m rfl) [.bool (a0.list), .slice A1 a0.data.length c2, .slice A4 a0.items.length c5] a0 x15 h10 hx14) rfl rfl ?_
  rintro _ G16 rfl
  refine Z20 (M' := ((some b13, blk [.bool (a0.list), .slice A1 a0.data.length c2, .slice A4 a0.items.length c5] 25) :: ([] ++ N))) (fun w m => m.appR) (Z6 (Z1 ?_))
  by_cases h18 : x15 = true
  ·replace hf := if_t hf h18
   refine Z13 rfl (h18) (Z4 (Z2 (Z0 (Z5 rfl) rfl (Z0 (Z5 rfl) rfl (Z6 (Z1 (CW.ret (Z8 ?_))))))))
   have er0 := Zi hf
   obtain ⟨e0, er1⟩ := Prod.mk.inj er0
   clear er0
   subst e0
   subst er1
   refine Z110 (rs := [.tmp 2, .tmp 3]) ([.int .i64 (0 : Int), .bool false]) ((some b13, blk [.bool (a0.list), .slice A1 a0.data.length c2, .slice A4 a0.items.length c5] 25) :: []) rfl ?_ rfl ?_ ?_ _ (.inl rfl)
   ·exact ⟨rfl, rfl, trivial⟩
   ·exact ⟨(by omega), rfl⟩
   ·exact (fun w m => m)
  ·replace hf := if_f hf h18
   refine Z14 rfl (Bool.eq_false_iff.2 h18) (CW.skip (Z1 (Z4 (Z4 (Z2 (Z0 (Z30 rfl rfl rfl rfl) rfl (Z0 (Z29 rfl Zh rfl rfl rfl rfl) rfl (Z0 (RV.not rfl) rfl (Z6 (Z1 ?_))))))))))
   by_cases h19 : a0.list = true
   ·replace hf := if_t hf h19
    refine Z14 rfl (congrArg (fun b => !b) (h19)) (CW.skip (Z1 (Z4 (Z2 (Z0 (Z5 rfl) rfl (Z6 (Z1 (Z4 (Z4 (Z2 (Z0 (Z30 rfl rfl rfl rfl) rfl (Z0 (Z29 rfl Zh rfl rfl rfl rfl) rfl (Z0 (RV.len rfl rfl) rfl (Z0 (Z3 rfl) rfl ?_))))))))))))))
    refine Z6 (Z1 ?_)
    obtain ⟨q20, hq21, hf⟩ := Z105 hf
    refine Z130 (fun L' M' => ∃ n22 : Nat, q20 = Lp.go n22 ∧ (n22 ≤ 9223372036854775807) ∧ L' = [(4, .int .i64 ((n22 : Nat) : Int))] ∧ M' = (([] ++ N))) ?_ ?_
    ·rintro L25 M26 ⟨n22, e24, b23, e27, e28⟩
     rw [e27, e28]
     clear e27 e28 L25 M26
     clear hq21
     rw [e24] at hf
     clear e24
     try dsimp only at hf
     refine Z1 (Z4 (Z2 (Z0 (Z3 rfl) rfl ?_)))
     obtain ⟨g29, hf⟩ := Z124 hf
     refine Z0 (RV.add rfl rfl (by omega)) rfl (Z7 (.int .i64 (((n22 + 1) : Nat) : Int)) (by first | rfl | (congr 1) | (congr 1; omega)) (Z0 (Z5 rfl) rfl (Z0 (Z5 rfl) rfl (Z6 (Z1 (CW.ret ?_))))))
     have er0 := Zi hf
     obtain ⟨e0, er1⟩ := Prod.mk.inj er0
     clear er0
     subst e0
     subst er1
     refine Z110 (rs := [.tmp 2, .tmp 3]) ([.int .i64 (((n22 + 1) : Nat) : Int), .bool true]) ([]) rfl ?_ rfl ?_ ?_ _ (.inl rfl)
     ·exact ⟨rfl, rfl, trivial⟩
     ·exact ⟨(by omega), rfl⟩
     ·exact (fun w m => m)
    ·skip
     refine CW.block (Z139 (fun k L' M' => ∃ n30 : Nat, ∃ n32 : Nat, (rlp_sound.l1 a0 (rlp_sound.r kf) k n30 n32) = some q20 ∧ (n30 ≤ 9223372036854775807) ∧ (n32 ≤ 9223372036854775807) ∧ L' = [(4, .int .i64 ((n30 : Nat) : Int)), (15, .slice A4 a0.items.length c5), (16, .int .i64 ((a0.items.length : Nat) : Int)), (17, .int .i64 ((n32 : Nat) : Int))] ∧ M' = (([] ++ N))) (k0 := (a0.items.length - 0 + 2)) ⟨0, 0, hq21, (by omega), (by omega), rfl, rfl⟩ ⟨rfl, rfl, rfl, rfl, trivial⟩ (fun w m => m.pick [] 1 rfl rfl) ?_)
     clear hq21
     rintro k34 L37 M38 ⟨n30, n32, hl35, b31, b33, e39, e40⟩
     rw [e39, e40]
     clear e39 e40 L37 M38
     rcases k34 with _ | k34
     ·rw [rlp_sound.l1] at hl35; cases hl35
     rw [rlp_sound.l1] at hl35
     refine Z4 (Z2 (Z0 (RV.lss rfl rfl) rfl (Z7 (.bool (decide (n32 < a0.items.length))) (congrArg Value.bool (decide_eq_decide.2 (by omega))) (Z6 (Z1 (Z4 ?_))))))
     by_cases h41 : n32 < a0.items.length
     ·replace hl35 := if_t hl35 h41
      refine Z13 rfl (decide_eq_true h41) (CW.skip (Z1 (Z4 (CW.block (Z4 (Z2 ?_))))))
      obtain ⟨x42, hx43, hl35⟩ := Z105 hl35
      have hl44 := Z145 hx43
      refine Z0 (RV.idx_rs (n32) rfl rfl rfl rfl rfl (v6.isSome (by decide) hl44) (by omega)) rfl ?_
      obtain ⟨cs45, h46, h47⟩ := h8.get ItRd.len hx43
      have h57 := h46
      obtain ⟨A48, c49, A51, c52, cs54, e56, v50, v53, h55⟩ := ItRd.opn h46
      subst e56
      have m58 := v50.mx
      have m59 := v53.mx
      refine Z0 (RV.loadAs rfl rfl rfl rfl (fun w m => v6.load (More.of hΦ 0 m rfl) h47) rfl) rfl (OW.alloc (l := [.bool false, .slice none 0 0, .slice none 0 0]) rfl rfl rfl (fun b60 => ?_))
      refine Z28 (Z107 rfl rfl rfl (by intro u hu; simp at hu; rcases hu with rfl | rfl | rfl <;> rfl) rfl rfl rfl) ?_
      refine Z6 (Z1 (Z4 (Z2 (Z0 (Z22 rfl Zh rfl rfl rfl rfl rfl) rfl ?_))))
      obtain ⟨⟨x62, x63⟩, hx61, hl35⟩ := Z105 hl35
      try dsimp only at hl35
      refine Z12 Tryd.call99 rfl (ih (More w0 Φ []) ((some b60, blk [.bool (x42.list), .slice A48 x42.data.length c49, .slice A51 x42.items.length c52] 25) :: ([] ++ N)) (fun w m => More.of hΦ 1 m rfl) [.bool (x42.list), .slice A48 x42.data.length c49, .slice A51 x42.items.length c52] x42 x62 x63 h57 hx61) rfl rfl ?_
      rintro _ G65 ⟨b64, rfl⟩
      refine Z20 (M' := ((some b60, blk [.bool (x42.list), .slice A48 x42.data.length c49, .slice A51 x42.items.length c52] 25) :: ([] ++ N))) (fun w m => m.appR) (Z0 (Z3 rfl) rfl (Z0 (Z17 rfl rfl) rfl (Z7 (.int .i64 ((x62 : Nat) : Int)) (rfl) (Z0 (Z17 rfl rfl) rfl (Z7 (.bool (x63)) (rfl) (Z0 (Z5 rfl) rfl (Z0 (Z5 rfl) rfl ?_)))))))
      refine Z6 (Z1 (Z4 (Z4 (Z2 (Z0 (Z3 rfl) rfl (Z0 (RV.not rfl) rfl (Z6 (Z1 ?_))))))))
      by_cases h67 : x63 = true
      ·replace hl35 := if_t hl35 h67
       refine Z14 rfl (congrArg (fun b => !b) (h67)) (CW.skip (Z1 (Z2 (Z0 (Z3 rfl) rfl (Z0 (Z3 rfl) rfl (Z0 (RV.max2 rfl rfl) rfl (Z7 (.int .i64 ((max n30 x62 : Nat) : Int)) (by congr 1; omega) (Z0 (Z5 rfl) rfl (Z6 (Z27 (Z1 (Z2 ?_))))))))))))
       refine Z0 (RV.add rfl rfl (by omega)) rfl (Z7 (.int .i64 (((n32 + 1) : Nat) : Int)) (by first | rfl | (congr 1) | (congr 1; omega)) (Z0 (Z3 rfl) rfl (Z6 ?_)))
       exact Z132 (k' := k34) (Nat.lt_succ_self _) ⟨(max n30 x62), (n32 + 1), hl35, (by omega), (by omega), rfl, rfl⟩ ⟨rfl, rfl, rfl, rfl, trivial⟩ (fun w m => m.pick [] 1 rfl rfl)
      ·replace hl35 := if_f hl35 h67
       refine Z13 rfl (congrArg (fun b => !b) (Bool.eq_false_iff.2 h67)) (Z4 (Z2 (Z0 (Z5 rfl) rfl (Z0 (Z5 rfl) rfl (Z6 (Z1 (CW.ret (Z8 (Z16 (Z8 (Z8 (Z16 (Z8 ?_)))))))))))))
       have hc := Zi hl35
       subst hc
       try dsimp only at hf
       refine Z8 ?_
       have er0 := Zi hf
       obtain ⟨e0, er1⟩ := Prod.mk.inj er0
       clear er0
       subst e0
       subst er1
       refine Z110 (rs := [.tmp 2, .tmp 3]) ([.int .i64 (0 : Int), .bool false]) ((some b60, blk [.bool (x42.list), .slice A48 x42.data.length c49, .slice A51 x42.items.length c52] 25) :: []) rfl ?_ rfl ?_ ?_ _ (.inl rfl)
       ·exact ⟨rfl, rfl, trivial⟩
       ·exact ⟨(by omega), rfl⟩
       ·exact (fun w m => m)
     ·replace hl35 := if_f hl35 h41
      refine Z14 rfl (decide_eq_false h41) (CW.exit (Z9 (Z9 (Z15 ?_))))
      exact QW.join ⟨n30, (Zi hl35).symm, (by omega), rfl, rfl⟩ ⟨rfl, trivial⟩ (fun w m => m.pick [] 0 rfl rfl)
   ·replace hf := if_f hf h19
    refine Z13 rfl (congrArg (fun b => !b) (Bool.eq_false_iff.2 h19)) (Z4 (Z2 (Z0 (Z5 rfl) rfl (Z0 (Z5 rfl) rfl (Z6 (Z1 (CW.ret (Z8 ?_))))))))
    have er0 := Zi hf
    obtain ⟨e0, er1⟩ := Prod.mk.inj er0
    clear er0
    subst e0
    subst er1
    refine Z110 (rs := [.tmp 2, .tmp 3]) ([.int .i64 (0 : Int), .bool true]) ((some b13, blk [.bool (a0.list), .slice A1 a0.data.length c2, .slice A4 a0.items.length c5] 25) :: []) rfl ?_ rfl ?_ ?_ _ (.inl rfl)
    ·exact ⟨rfl, rfl, trivial⟩
    ·exact ⟨(by omega), rfl⟩
    ·exact (fun w m => m)
theorem rlp_sound_does (w0 : World) (Φ : Ctx) (N : List Ent) (hΦ : ∀ w, Mem w0 w N → Φ w) (cs0_ : List Value) (a0 : It) (res0 : Nat) (res1 : Bool) (ha0 : ItRd Φ cs0_ a0) (hf : rlp_sound a0 = some (res0, res1)) : DoesG Tryd.prog 99 [.agg cs0_.toArray] w0 [] N (fun v G => (res0 ≤ 9223372036854775807) ∧ v = .tuple #[.int .i64 ((res0 : Nat) : Int), .bool res1]) := rlp_sound_rec w0 _ Φ N hΦ cs0_ a0 res0 res1 ha0 hf
theorem rlp_lay_rec (w0 : World) : ∀ (kf : Nat) (Φ : Ctx) (N : List Ent) (hΦ : ∀ w, Mem w0 w N → Φ w) (ob0_ : Option Nat) (c0_ : Nat) (r0_ : List Value) (a0 : List (BitVec 8)) (cs1_ : List Value) (a1 : It) (res0 : List (BitVec 8)) (oa0 : OwnS ob0_ a0.length c0_ 1 (u8s a0) r0_) (ha1 : ItRd Φ cs1_ a1) (hf : rlp_lay.r kf a0 a1 = some res0), DoesG Tryd.prog 65 [sl ob0_ 0 a0.length c0_, .agg cs1_.toArray] w0 [(ob0_, blk ((u8s a0) ++ r0_) 5)] N (fun v G => ∃ B : List Ent, ∃ or0 : Option Nat, ∃ kr0 : Nat, ∃ rr0 : List Value, (OwnS or0 res0.length kr0 1 (u8s res0) rr0) ∧ v = sl or0 0 res0.length kr0 ∧ G = (or0, blk ((u8s res0) ++ rr0) 5) :: B) := by
 intro kf
 induction kf with
 | zero => intro Φ N hΦ ob0_ c0_ r0_ a0 cs1_ a1 res0 oa0 ha1 hf; rw [rlp_lay.r] at hf; cases hf
 | succ kf ih =>
  intro Φ N hΦ ob0_ c0_ r0_ a0 cs1_ a1 res0 oa0 ha1 hf
  rw [rlp_lay.r] at hf
  replace ha1 := ItRd.mono (Ψ := More w0 Φ []) (fun w q => q.1) _ _ ha1
  have h10 := ha1
  obtain ⟨A1, c2, A4, c5, cs7, e9, v3, v6, h8⟩ := ItRd.opn ha1
  subst e9
  have m11 := v3.mx
  have m12 := v6.mx
  have m13 := oa0.mx
  refine DoesG.enter Tryd.func65 rfl Tryd.ntmps65 rfl (M := ((ob0_, blk ((u8s a0) ++ r0_) 5) :: ([] ++ N))) rfl (Z4 (Z2 (OW.boxA rfl rfl (fun b14 => (Z0 (Z5 rfl) rfl (Z6 (Z1 (Z4 (Z4 (Z2 (Z0 (Z30 rfl rfl rfl rfl) rfl (Z0 (Z29 rfl Zh rfl rfl rfl rfl) rfl (Z0 (RV.not rfl) rfl ?_)))))))))))))
  refine Z6 (Z1 ?_)
  by_cases h15 : a1.list = true
  ·replace hf := if_t hf h15
   refine Z14 rfl (congrArg (fun b => !b) (h15)) (CW.skip (Z1 (Z4 (Z2 (Z0 (Z5 rfl) rfl (Z6 (Z1 (Z4 (Z4 (Z2 (Z0 (Z30 rfl rfl rfl rfl) rfl (Z0 (Z29 rfl Zh rfl rfl rfl rfl) rfl (Z0 (RV.len rfl rfl) rfl (Z0 (Z3 rfl) rfl ?_))))))))))))))
   refine Z6 (Z1 ?_)
   obtain ⟨q16, hq17, hf⟩ := Z105 hf
   refine Z130 (fun L' M' => ∃ l20 : List (BitVec 8), ∃ B18 : List Ent, ∃ ob21 : Option Nat, ∃ c22 : Nat, ∃ r23 : List Value, q16 = l20 ∧ (∀ w, Mem w0 w B18 → Mem w0 w []) ∧ (OwnS ob21 l20.length c22 1 (u8s l20) r23) ∧ L' = [(0, sl ob0_ 0 a0.length c0_), (5, sl ob21 0 l20.length c22)] ∧ M' = ((ob21, blk ((u8s l20) ++ r23) 5) :: (ob0_, blk ((u8s a0) ++ r0_) 5) :: (B18 ++ N))) ?_ ?_
   ·rintro L26 M27 ⟨l20, B18, ob21, c22, r23, e25, hB19, o24, e28, e29⟩
    rw [e28, e29]
    clear e28 e29 L26 M27
    clear hq17
    rw [e25] at hf
    clear e25
    try dsimp only at hf
    have m30 := o24.mx
    have m31 := oa0.mx
    refine Z1 (Z4 (Z2 (Z0 (Z3 rfl) rfl (Z0 (Z3 rfl) rfl (Z0 (RV.len rfl rfl) rfl ?_)))))
    obtain ⟨x33, hx32, hf⟩ := Z105 hf
    refine Z12 Tryd.call101 rfl (rlp_head_does w0 (More w0 Φ B18) ((ob21, blk ((u8s l20) ++ r23) 5) :: (ob0_, blk ((u8s a0) ++ r0_) 5) :: (B18 ++ N)) (fun w m => More.of hΦ 2 m rfl) (192#8) l20.length x33 (by omega) hx32) rfl rfl ?_
    rintro L39 M40 ⟨B34, ob35, c36, r37, o38, e41, e42⟩
    rw [e41, e42]
    clear e41 e42 L39 M40
    refine Z20 (M' := ((ob35, blk ((u8s x33) ++ r37) 5) :: (ob21, blk ((u8s l20) ++ r23) 5) :: (ob0_, blk ((u8s a0) ++ r0_) 5) :: ((B34 ++ B18) ++ N))) (fun w m => by have h := Z118 (A := B34) m 1 2 rfl rfl; exact h) ?_
    have m43 := o38.mx
    refine OW.rot2 ?_
    obtain ⟨g44, hf⟩ := Z124 hf
    refine OW.appendOwn (s := 1) rfl rfl rfl rfl rfl rfl oa0 (fun w m => m.rd0 (List.Mem.tail _ Zh) (fun e => o38.nilc (by decide) e)) o38.n (Z133 _) (o38.zeroO (by decide)) (by decide) (by decide) (by first | omega | (simp only [i5, List.length_nil]; omega)) rfl rfl ((a0 ++ x33).length) (u8s (a0 ++ x33)) (List.length_append ..).symm (u8s_app _ _) (fun ob45 r46 c47 o48 => ?_)
    have m49 := o48.mx
    refine Z0 (Z3 rfl) rfl ?_
    obtain ⟨g50, hf⟩ := Z124 hf
    refine OW.appendOwn (s := 1) rfl rfl rfl rfl rfl rfl o48 (fun w m => m.rd0 (List.Mem.tail _ (List.Mem.tail _ Zh)) (fun e => o24.nilc (by decide) e)) o24.n (Z133 _) (o24.zeroO (by decide)) (by decide) (by decide) (by first | omega | (simp only [i5, List.length_nil]; omega)) rfl rfl (((a0 ++ x33) ++ l20).length) (u8s ((a0 ++ x33) ++ l20)) (List.length_append ..).symm (u8s_app _ _) (fun ob51 r52 c53 o54 => ?_)
    have m55 := o54.mx
    refine Z0 (Z5 rfl) rfl (Z6 (Z1 (CW.ret ?_)))
    have e0 := Zi hf
    subst e0
    refine Z110 (rs := [.tmp 4]) ([sl ob51 0 ((a0 ++ x33) ++ l20).length c53]) ((ob51, blk ((u8s ((a0 ++ x33) ++ l20)) ++ r52) 5) :: (B34 ++ B18)) rfl ?_ rfl ?_ ?_ _ (.inl rfl)
    ·exact ⟨rfl, trivial⟩
    ·exact ⟨(B34 ++ B18), ob51, c53, r52, o54, rfl, rfl⟩
    ·exact (fun w m => m.pick [0] 3 rfl rfl)
   ·skip
    refine CW.block (CW.mem (M' := ((none, blk ((u8s ([] : List (BitVec 8))) ++ []) 5) :: (some b14, blk [.bool (a1.list), .slice A1 a1.data.length c2, .slice A4 a1.items.length c5] 25) :: (ob0_, blk ((u8s a0) ++ r0_) 5) :: ([] ++ N))) (fun w m => m.nil_ent _) (Z139 (fun k L' M' => ∃ l58 : List (BitVec 8), ∃ n63 : Nat, ∃ B56 : List Ent, ∃ ob59 : Option Nat, ∃ c60 : Nat, ∃ r61 : List Value, (rlp_lay.l1 a1 (rlp_lay.r kf) k l58 n63) = some q16 ∧ (∀ w, Mem w0 w B56 → Mem w0 w []) ∧ (OwnS ob59 l58.length c60 1 (u8s l58) r61) ∧ (n63 ≤ 9223372036854775807) ∧ L' = [(0, sl ob0_ 0 a0.length c0_), (5, sl ob59 0 l58.length c60), (33, .slice A4 a1.items.length c5), (34, .int .i64 ((a1.items.length : Nat) : Int)), (35, .int .i64 ((n63 : Nat) : Int))] ∧ M' = ((ob59, blk ((u8s l58) ++ r61) 5) :: (ob0_, blk ((u8s a0) ++ r0_) 5) :: (B56 ++ N))) (k0 := (a1.items.length - 0 + 2)) ⟨([] : List (BitVec 8)), 0, [], none, 0, [], hq17, (fun w m => m), OwnS.nil, (by omega), rfl, rfl⟩ ⟨rfl, rfl, rfl, rfl, rfl, trivial⟩ (fun w m => m.pick [0, 2] 3 rfl rfl) ?_))
    clear hq17
    rintro k65 L68 M69 ⟨l58, n63, B56, ob59, c60, r61, hl66, hB57, o62, b64, e70, e71⟩
    rw [e70, e71]
    clear e70 e71 L68 M69
    rcases k65 with _ | k65
    ·rw [rlp_lay.l1] at hl66; cases hl66
    rw [rlp_lay.l1] at hl66
    have gq3 : ∀ w, More w0 Φ B56 w → More w0 Φ [] w := fun w q => More.mono (fun w m => hB57 w (m)) q
    replace v6 := v6.mono gq3
    replace h8 := h8.mono (ItRd.mono gq3)
    have m72 := o62.mx
    have m73 := oa0.mx
    refine Z4 (Z2 (Z0 (RV.lss rfl rfl) rfl (Z7 (.bool (decide (n63 < a1.items.length))) (congrArg Value.bool (decide_eq_decide.2 (by omega))) (Z6 (Z1 (Z4 ?_))))))
    by_cases h74 : n63 < a1.items.length
    ·replace hl66 := if_t hl66 h74
     refine Z13 rfl (decide_eq_true h74) (CW.skip (Z1 (Z4 (CW.block (Z4 (Z2 ?_))))))
     obtain ⟨x75, hx76, hl66⟩ := Z105 hl66
     have hl77 := Z145 hx76
     refine Z0 (RV.idx_rs (n63) rfl rfl rfl rfl rfl (v6.isSome (by decide) hl77) (by omega)) rfl ?_
     obtain ⟨cs78, h79, h80⟩ := h8.get ItRd.len hx76
     have h90 := h79
     obtain ⟨A81, c82, A84, c85, cs87, e89, v83, v86, h88⟩ := ItRd.opn h79
     subst e89
     have m91 := v83.mx
     have m92 := v86.mx
     refine Z0 (RV.loadAs rfl rfl rfl rfl (fun w m => v6.load (More.of hΦ 2 m rfl) h80) rfl) rfl (OW.alloc (l := [.bool false, .slice none 0 0, .slice none 0 0]) rfl rfl rfl (fun b93 => ?_))
     refine Z28 (Z107 rfl rfl rfl (by intro u hu; simp at hu; rcases hu with rfl | rfl | rfl <;> rfl) rfl rfl rfl) ?_
     refine Z6 (Z1 (Z2 (Z0 (Z3 rfl) rfl (Z0 (Z22 rfl Zh rfl rfl rfl rfl rfl) rfl ?_))))
     obtain ⟨x95, hx94, hl66⟩ := Z105 hl66
     refine Z20 (M' := ((ob59, blk ((u8s l58) ++ r61) 5) :: (some b93, blk [.bool (x75.list), .slice A81 x75.data.length c82, .slice A84 x75.items.length c85] 25) :: (ob0_, blk ((u8s a0) ++ r0_) 5) :: (B56 ++ N))) (fun w m => m.pick [1, 0, 2] 3 rfl rfl) (Z12 Tryd.call65 rfl (ih (More w0 Φ B56) ((some b93, blk [.bool (x75.list), .slice A81 x75.data.length c82, .slice A84 x75.items.length c85] 25) :: (ob0_, blk ((u8s a0) ++ r0_) 5) :: (B56 ++ N)) (fun w m => More.of hΦ 2 m rfl) ob59 c60 r61 l58 [.bool (x75.list), .slice A81 x75.data.length c82, .slice A84 x75.items.length c85] x75 x95 o62 h90 hx94) rfl rfl ?_)
     rintro L101 M102 ⟨B96, ob97, c98, r99, o100, e103, e104⟩
     rw [e103, e104]
     clear e103 e104 L101 M102
     refine Z20 (M' := ((ob97, blk ((u8s x95) ++ r99) 5) :: (some b93, blk [.bool (x75.list), .slice A81 x75.data.length c82, .slice A84 x75.items.length c85] 25) :: (ob0_, blk ((u8s a0) ++ r0_) 5) :: ((B96 ++ B56) ++ N))) (fun w m => by have h := Z118 (A := B96) m 1 2 rfl rfl; exact h) ?_
     have gq4 : ∀ w, More w0 Φ (B96 ++ B56) w → More w0 Φ B56 w := fun w q => More.mono (fun w m => (m).appR) q
     replace v6 := v6.mono gq4
     replace h8 := h8.mono (ItRd.mono gq4)
     replace h90 := ItRd.mono gq4 _ _ h90
     replace v83 := v83.mono gq4
     replace v86 := v86.mono gq4
     replace h88 := h88.mono (ItRd.mono gq4)
     have m105 := o100.mx
     refine Z0 (Z5 rfl) rfl (Z6 (Z27 (Z1 (Z2 (Z0 (RV.add rfl rfl (by omega)) rfl (Z7 (.int .i64 (((n63 + 1) : Nat) : Int)) (by first | rfl | (congr 1) | (congr 1; omega)) (Z0 (Z3 rfl) rfl (Z6 ?_))))))))
     exact Z132 (k' := k65) (Nat.lt_succ_self _) ⟨x95, (n63 + 1), (B96 ++ B56), ob97, c98, r99, hl66, (fun w m => hB57 w ((m).appR)), o100, (by omega), rfl, rfl⟩ ⟨rfl, rfl, rfl, rfl, rfl, trivial⟩ (fun w m => m.pick [0, 2] 3 rfl rfl)
    ·replace hl66 := if_f hl66 h74
     refine Z14 rfl (decide_eq_false h74) (CW.exit (Z9 (Z9 (Z15 ?_))))
     exact QW.join ⟨l58, B56, ob59, c60, r61, (Zi hl66).symm, (fun w m => hB57 w (m)), o62, rfl, rfl⟩ ⟨rfl, rfl, trivial⟩ (fun w m => m.pick [0, 1] 2 rfl rfl)
  ·replace hf := if_f hf h15
   refine Z13 rfl (congrArg (fun b => !b) (Bool.eq_false_iff.2 h15)) (Z4 (Z4 ?_))
   obtain ⟨q106, hq107, hf⟩ := Z105 hf
   refine Z130 (fun L' M' => ∃ p108 : Bool, q106 = p108 ∧ L' = [(0, sl ob0_ 0 a0.length c0_), (3, ptr (some b14) 0), (21, .bool (p108))] ∧ M' = ((some b14, blk [.bool (a1.list), .slice A1 a1.data.length c2, .slice A4 a1.items.length c5] 25) :: (ob0_, blk ((u8s a0) ++ r0_) 5) :: ([] ++ N))) ?_ ?_
   ·rintro L110 M111 ⟨p108, e109, e112, e113⟩
    rw [e112, e113]
    clear e112 e113 L110 M111
    clear hq107
    rw [e109] at hf
    clear e109
    try dsimp only at hf
    have m114 := oa0.mx
    refine Z1 ?_
    obtain ⟨q115, hq116, hf⟩ := Z105 hf
    refine Z130 (fun L' M' => ∃ l119 : List (BitVec 8), ∃ B117 : List Ent, ∃ ob120 : Option Nat, ∃ c121 : Nat, ∃ r122 : List Value, q115 = l119 ∧ (∀ w, Mem w0 w B117 → Mem w0 w []) ∧ (OwnS ob120 l119.length c121 1 (u8s l119) r122) ∧ L' = [(0, sl ob120 0 l119.length c121), (3, ptr (some b14) 0)] ∧ M' = ((ob120, blk ((u8s l119) ++ r122) 5) :: (some b14, blk [.bool (a1.list), .slice A1 a1.data.length c2, .slice A4 a1.items.length c5] 25) :: (B117 ++ N))) ?_ ?_
    ·rintro L125 M126 ⟨l119, B117, ob120, c121, r122, e124, hB118, o123, e127, e128⟩
     rw [e127, e128]
     clear e127 e128 L125 M126
     clear hq116
     rw [e124] at hf
     clear e124
     try dsimp only at hf
     have gq5 : ∀ w, More w0 Φ B117 w → More w0 Φ [] w := fun w q => More.mono (fun w m => hB118 w (m)) q
     replace h10 := ItRd.mono gq5 _ _ h10
     replace v3 := v3.mono gq5
     replace v6 := v6.mono gq5
     replace h8 := h8.mono (ItRd.mono gq5)
     have m129 := o123.mx
     refine Z1 (Z4 (Z2 (Z0 (Z3 rfl) rfl (Z0 (Z30 rfl rfl rfl rfl) rfl (Z0 (Z29 rfl (List.Mem.tail _ Zh) rfl rfl rfl rfl) rfl ?_)))))
     obtain ⟨g130, hf⟩ := Z124 hf
     refine OW.appendOwn (s := 1) rfl rfl rfl rfl rfl rfl o123 (fun w m => v3.rd w (More.of hΦ 2 m rfl)) v3.n (Z133 _) (v3.zero (by decide)) (by decide) (by decide) (by first | omega | (simp only [i5, List.length_nil]; omega)) rfl rfl ((l119 ++ a1.data).length) (u8s (l119 ++ a1.data)) (List.length_append ..).symm (u8s_app _ _) (fun ob131 r132 c133 o134 => ?_)
     have m135 := o134.mx
     refine Z0 (Z5 rfl) rfl (Z6 (Z1 (CW.ret (Z8 ?_))))
     have e0 := Zi hf
     subst e0
     refine Z110 (rs := [.tmp 4]) ([sl ob131 0 (l119 ++ a1.data).length c133]) ((ob131, blk ((u8s (l119 ++ a1.data)) ++ r132) 5) :: B117) rfl ?_ rfl ?_ ?_ _ (.inl rfl)
     ·exact ⟨rfl, trivial⟩
     ·exact ⟨B117, ob131, c133, r132, o134, rfl, rfl⟩
     ·exact (fun w m => m.pick [0] 2 rfl rfl)
    ·skip
     by_cases h136 : p108 = true
     ·replace hq116 := if_t hq116 h136
      refine Z13 rfl (h136) (Z2 (Z0 (Z3 rfl) rfl (Z0 (Z30 rfl rfl rfl rfl) rfl (Z0 (Z29 rfl Zh rfl rfl rfl rfl) rfl (Z0 (RV.len rfl rfl) rfl ?_)))))
      obtain ⟨x138, hx137, hq116⟩ := Z105 hq116
      refine Z12 Tryd.call101 rfl (rlp_head_does w0 (More w0 Φ []) ((some b14, blk [.bool (a1.list), .slice A1 a1.data.length c2, .slice A4 a1.items.length c5] 25) :: (ob0_, blk ((u8s a0) ++ r0_) 5) :: ([] ++ N)) (fun w m => More.of hΦ 2 m rfl) (128#8) a1.data.length x138 (by omega) hx137) rfl rfl ?_
      rintro L144 M145 ⟨B139, ob140, c141, r142, o143, e146, e147⟩
      rw [e146, e147]
      clear e146 e147 L144 M145
      refine Z20 (M' := ((ob140, blk ((u8s x138) ++ r142) 5) :: (some b14, blk [.bool (a1.list), .slice A1 a1.data.length c2, .slice A4 a1.items.length c5] 25) :: (ob0_, blk ((u8s a0) ++ r0_) 5) :: ((B139 ++ []) ++ N))) (fun w m => by have h := Z118 (A := B139) m 1 2 rfl rfl; exact h) ?_
      have gq6 : ∀ w, More w0 Φ (B139 ++ []) w → More w0 Φ [] w := fun w q => More.mono (fun w m => (m).appR) q
      replace v3 := v3.mono gq6
      replace h10 := ItRd.mono gq6 _ _ h10
      replace v6 := v6.mono gq6
      replace h8 := h8.mono (ItRd.mono gq6)
      have m148 := o143.mx
      refine OW.rot2 ?_
      obtain ⟨g149, hq116⟩ := Z124 hq116
      refine OW.appendOwn (s := 1) rfl rfl rfl rfl rfl rfl oa0 (fun w m => m.rd0 (List.Mem.tail _ Zh) (fun e => o143.nilc (by decide) e)) o143.n (Z133 _) (o143.zeroO (by decide)) (by decide) (by decide) (by first | omega | (simp only [i5, List.length_nil]; omega)) rfl rfl ((a0 ++ x138).length) (u8s (a0 ++ x138)) (List.length_append ..).symm (u8s_app _ _) (fun ob150 r151 c152 o153 => ?_)
      have m154 := o153.mx
      refine Z0 (Z5 rfl) rfl (Z6 ?_)
      exact QW.join ⟨(a0 ++ x138), (B139 ++ []), ob150, c152, r151, (Zi hq116).symm, (fun w m => (m).appR), o153, rfl, rfl⟩ ⟨rfl, rfl, trivial⟩ (fun w m => m.pick [0, 2] 3 rfl rfl)
     ·replace hq116 := if_f hq116 h136
      refine Z14 rfl (Bool.eq_false_iff.2 h136) (CW.skip ?_)
      exact QW.join ⟨a0, [], ob0_, c0_, r0_, (Zi hq116).symm, (fun w m => m), oa0, rfl, rfl⟩ ⟨rfl, rfl, trivial⟩ (fun w m => m.pick [1, 0] 2 rfl rfl)
   ·skip
    refine Z2 (Z0 (Z30 rfl rfl rfl rfl) rfl (Z0 (Z29 rfl Zh rfl rfl rfl rfl) rfl (Z0 (RV.len rfl rfl) rfl (Z0 (RV.neq rfl rfl) rfl (Z7 (.bool (!decide (a1.data.length = 1))) (congrArg (fun b => Value.bool (!b)) (decide_eq_decide.2 (by omega))) (Z0 (Z3 rfl) rfl ?_))))))
    by_cases h155 : a1.data.length = 1
    ·replace hq107 := if_t hq107 h155
     refine Z7 (.bool false) (congrArg Value.bool (congrArg (fun b => !b) (decide_eq_true h155))) (Z24 rfl (Z0 (Z30 rfl rfl rfl rfl) rfl (Z24 rfl (Z0 (Z29 rfl Zh rfl rfl rfl rfl) rfl (Z24 rfl ?_)))))
     obtain ⟨x156, hx157, hq107⟩ := Z105 hq107
     have hl158 := Z145 hx157
     refine Z0 (Z152 (0) rfl rfl rfl rfl rfl (v3.isSome (by decide) hl158) (by omega)) rfl (Z24 rfl (Z0 (Z21 rfl rfl rfl (fun w m => v3.cell (More.of hΦ 2 m rfl) (u8s_at hx157))) rfl (Z24 rfl (Z0 (RV.geq rfl rfl) rfl (Z7 (.bool (decide (128 ≤ x156.toNat))) (congrArg Value.bool (decide_eq_decide.2 (by first | exact Int.ofNat_le | exact Int.ofNat_lt | omega | (simp; omega) | simp))) (Z0 (Z112 rfl rfl rfl) rfl (Z6 ?_)))))))
     exact QW.join ⟨(decide (128 ≤ x156.toNat)), (Zi hq107).symm, rfl, rfl⟩ ⟨rfl, rfl, rfl, trivial⟩ (fun w m => m.pick [0, 1] 2 rfl rfl)
    ·replace hq107 := if_f hq107 h155
     refine Z7 (.bool true) (congrArg Value.bool (congrArg (fun b => !b) (decide_eq_false h155))) (Z23 rfl rfl rfl (Z23 rfl rfl rfl (Z23 rfl rfl rfl (Z23 rfl rfl rfl (Z23 rfl rfl rfl (Z0 (Z108 rfl rfl rfl) rfl (Z6 ?_)))))))
     exact QW.join ⟨true, (Zi hq107).symm, rfl, rfl⟩ ⟨rfl, rfl, rfl, trivial⟩ (fun w m => m.pick [0, 1] 2 rfl rfl)
theorem rlp_lay_does (w0 : World) (Φ : Ctx) (N : List Ent) (hΦ : ∀ w, Mem w0 w N → Φ w) (ob0_ : Option Nat) (c0_ : Nat) (r0_ : List Value) (a0 : List (BitVec 8)) (cs1_ : List Value) (a1 : It) (res0 : List (BitVec 8)) (oa0 : OwnS ob0_ a0.length c0_ 1 (u8s a0) r0_) (ha1 : ItRd Φ cs1_ a1) (hf : rlp_lay a0 a1 = some res0) : DoesG Tryd.prog 65 [sl ob0_ 0 a0.length c0_, .agg cs1_.toArray] w0 [(ob0_, blk ((u8s a0) ++ r0_) 5)] N (fun v G => ∃ B : List Ent, ∃ or0 : Option Nat, ∃ kr0 : Nat, ∃ rr0 : List Value, (OwnS or0 res0.length kr0 1 (u8s res0) rr0) ∧ v = sl or0 0 res0.length kr0 ∧ G = (or0, blk ((u8s res0) ++ rr0) 5) :: B) := rlp_lay_rec w0 _ Φ N hΦ ob0_ c0_ r0_ a0 cs1_ a1 res0 oa0 ha1 hf
theorem rlp_Number_does (w0 : World) (Φ : Ctx) (N : List Ent) (hΦ : ∀ w, Mem w0 w N → Φ w) (a0 : Vector (BitVec 64) 4) (res0 : It) (hf : rlp_Number a0 = some res0) : DoesG Tryd.prog 91 [.agg (u64s a0.toList).toArray] w0 [] N (fun v G => ∃ B : List Ent, ∃ cr0 : List Value, (ItRd (More w0 Φ B) cr0 res0) ∧ v = .agg cr0.toArray ∧ G = B) := by
 unfold rlp_Number at hf
 refine DoesG.enter Tryd.func91 rfl Tryd.ntmps91 rfl (M := (([] ++ N))) rfl (Z4 (Z2 (OW.boxA rfl rfl (fun b1 => (OW.alloc (l := [.bool false, .slice none 0 0, .slice none 0 0]) rfl rfl rfl (fun b2 => (Z6 (Z1 (Z4 (Z2 (Z0 (Z22 rfl (List.Mem.tail _ Zh) rfl rfl rfl rfl ((Z102 _).trans Zv)) rfl ?_)))))))))))
 obtain ⟨x4, hx3, hf⟩ := Z105 hf
 refine Z12 Tryd.call120 rfl (u256_Bytes_does w0 (More w0 Φ []) ((some b2, blk [.bool false, .slice none 0 0, .slice none 0 0] 25) :: (some b1, blk (u64s a0.toList) 35) :: ([] ++ N)) (fun w m => More.of hΦ 2 m rfl) a0 x4 hx3) rfl rfl ?_
 rintro L10 M11 ⟨B5, ob6, c7, r8, o9, e12, e13⟩
 rw [e12, e13]
 clear e12 e13 L10 M11
 refine Z20 (M' := ((ob6, blk ((u8s x4) ++ r8) 5) :: (some b2, blk [.bool false, .slice none 0 0, .slice none 0 0] 25) :: (some b1, blk (u64s a0.toList) 35) :: ((B5 ++ []) ++ N))) (fun w m => by have h := Z118 (A := B5) m 1 2 rfl rfl; exact h) ?_
 have m14 := o9.mx
 refine Z0 (Z117 (l := [.bool false, .slice none 0 0, .slice none 0 0]) (cs := [.bool false, sl ob6 0 x4.length c7, .slice none 0 0]) [(1, [sl ob6 0 x4.length c7])] rfl rfl rfl rfl rfl rfl rfl) rfl (OW.rot1 ?_)
 refine Z28 (Z107 rfl rfl rfl (by intro u hu; simp at hu; rcases hu with rfl | rfl | rfl <;> rfl) rfl rfl rfl) ?_
 refine Z6 (Z1 (CW.ret (QW.mem (M' := (some b2, blk [.bool false, sl ob6 0 x4.length c7, .slice none 0 0] 25) :: (some b1, blk (u64s a0.toList) 35) :: (((ob6, blk ((u8s x4) ++ r8) 5) :: (B5 ++ [])) ++ N)) (fun w m => m.pick [0, 2, 1] 3 rfl rfl) ?_)))
 have v15 : View (More w0 Φ ((ob6, blk ((u8s x4) ++ r8) 5) :: (B5 ++ []))) ((ob6).map fun k => ⟨k, 0, none⟩) x4.length c7 1 (u8s x4) := o9.view (by decide) (fun w q => q.2.sublist (List.singleton_sublist.2 (List.mem_cons_self ..)))
 have e0 := Zi hf
 subst e0
 have v16 : View (More w0 Φ ((ob6, blk ((u8s x4) ++ r8) 5) :: (B5 ++ []))) none ([] : List (It)).length 0 3 [] := View.nil
 refine Z110 (rs := [.cell 2 25]) ([.agg [.bool false, .slice ((ob6).map fun k => ⟨k, 0, none⟩) x4.length c7, .slice none 0 0].toArray]) (((ob6, blk ((u8s x4) ++ r8) 5) :: (B5 ++ []))) rfl ?_ rfl ?_ ?_ _ (.inl rfl)
 ·exact ⟨⟨_, _, _, _, rfl, Zh, rfl, rfl, rfl, rfl⟩, trivial⟩
 ·exact ⟨((ob6, blk ((u8s x4) ++ r8) 5) :: (B5 ++ [])), [.bool false, .slice ((ob6).map fun k => ⟨k, 0, none⟩) x4.length c7, .slice none 0 0], (ItRd.mk v15 v16 (Reps.nil)), rfl, rfl⟩
 ·exact (fun w m => m.pick [] 2 rfl rfl)
theorem rlp_Small_does (w0 : World) (Φ : Ctx) (N : List Ent) (hΦ : ∀ w, Mem w0 w N → Φ w) (a0 : BitVec 64) (res0 : It) (hf : rlp_Small a0 = some res0) : DoesG Tryd.prog 92 [U64 a0] w0 [] N (fun v G => ∃ B : List Ent, ∃ cr0 : List Value, (ItRd (More w0 Φ B) cr0 res0) ∧ v = .agg cr0.toArray ∧ G = B) := by
 unfold rlp_Small at hf
 refine DoesG.enter Tryd.func92 rfl Tryd.ntmps92 rfl (M := (([] ++ N))) rfl (Z4 (Z2 (OW.alloc (l := [.bool false, .slice none 0 0, .slice none 0 0]) rfl rfl rfl (fun b1 => (Z6 (Z1 (Z4 (Z2 (Z0 (Z3 rfl) rfl ?_)))))))))
 obtain ⟨x3, hx2, hf⟩ := Z105 hf
 refine Z12 Tryd.call104 rfl (u256_From_does w0 (More w0 Φ []) ((some b1, blk [.bool false, .slice none 0 0, .slice none 0 0] 25) :: ([] ++ N)) (fun w m => More.of hΦ 1 m rfl) a0 x3 hx2) rfl rfl ?_
 rintro _ G4 rfl
 refine Z20 (M' := ((some b1, blk [.bool false, .slice none 0 0, .slice none 0 0] 25) :: ([] ++ N))) (fun w m => m.appR) ?_
 obtain ⟨x7, hx6, hf⟩ := Z105 hf
 refine Z12 Tryd.call91 rfl (rlp_Number_does w0 (More w0 Φ []) ((some b1, blk [.bool false, .slice none 0 0, .slice none 0 0] 25) :: ([] ++ N)) (fun w m => More.of hΦ 1 m rfl) x3 x7 hx6) rfl rfl ?_
 rintro L11 M12 ⟨B8, cs9, h10, e13, e14⟩
 rw [e13, e14]
 clear e13 e14 L11 M12
 refine Z20 (M' := ((some b1, blk [.bool false, .slice none 0 0, .slice none 0 0] 25) :: ((B8 ++ []) ++ N))) (fun w m => by have h := Z118 (A := B8) m 0 1 rfl rfl; exact h) ?_
 replace h10 := ItRd.mono (Ψ := (More w0 Φ (B8 ++ []))) (fun w q => More.flat q) _ _ h10
 have h24 := h10
 obtain ⟨A15, c16, A18, c19, cs21, e23, v17, v20, h22⟩ := ItRd.opn h10
 subst e23
 have m25 := v17.mx
 have m26 := v20.mx
 have m27 := v17.mx
 have m28 := v20.mx
 refine Z28 (Z107 rfl rfl rfl (by intro u hu; simp at hu; rcases hu with rfl | rfl | rfl <;> rfl) rfl rfl rfl) ?_
 refine Z6 (Z1 (CW.ret ?_))
 have e0 := Zi hf
 subst e0
 refine Z110 (rs := [.cell 2 25]) ([.agg [.bool (x7.list), .slice A15 x7.data.length c16, .slice A18 x7.items.length c19].toArray]) ((B8 ++ [])) rfl ?_ rfl ?_ ?_ _ (.inl rfl)
 ·exact ⟨⟨_, _, _, _, rfl, Zh, rfl, rfl, rfl, rfl⟩, trivial⟩
 ·exact ⟨(B8 ++ []), [.bool (x7.list), .slice A15 x7.data.length c16, .slice A18 x7.items.length c19], h24, rfl, rfl⟩
 ·exact (fun w m => m.pick [] 1 rfl rfl)
theorem rlp_List_does (w0 : World) (Φ : Ctx) (N : List Ent) (hΦ : ∀ w, Mem w0 w N → Φ w) (A0_ : Option Addr) (c0_ : Nat) (cs0_ : List Value) (a0 : List (It)) (res0 : It) (va0 : View Φ A0_ a0.length c0_ 3 cs0_) (ha0 : Reps (ItRd Φ) cs0_ a0) (hf : rlp_List a0 = some res0) : DoesG Tryd.prog 57 [.slice A0_ a0.length c0_] w0 [] N (fun v G => ∃ B : List Ent, ∃ cr0 : List Value, (ItRd (More w0 Φ B) cr0 res0) ∧ v = .agg cr0.toArray ∧ G = B) := by
 unfold rlp_List at hf
 replace va0 := va0.mono (Ψ := More w0 Φ []) (fun w q => q.1)
 replace ha0 := ha0.mono (ItRd.mono (Ψ := More w0 Φ []) (fun w q => q.1))
 have m1 := va0.mx
 refine DoesG.enter Tryd.func57 rfl Tryd.ntmps57 rfl (M := (([] ++ N))) rfl (Z4 (Z2 (OW.alloc (l := [.bool false, .slice none 0 0, .slice none 0 0]) rfl rfl rfl (fun b2 => (Z6 (Z1 (Z4 (Z2 (Z0 (Z3 rfl) rfl ?_)))))))))
 obtain ⟨x4, hx3, hf⟩ := Z105 hf
 refine Z12 Tryd.call82 rfl (rlp_twin_does w0 (More w0 Φ []) ((some b2, blk [.bool false, .slice none 0 0, .slice none 0 0] 25) :: ([] ++ N)) (fun w m => More.of hΦ 1 m rfl) A0_ c0_ cs0_ a0 x4 va0 ha0 hx3) rfl rfl ?_
 rintro L12 M13 ⟨B5, cs6, ob8, c9, r10, h7, o11, e14, e15⟩
 rw [e14, e15]
 clear e14 e15 L12 M13
 refine Z20 (M' := ((ob8, blk (cs6 ++ r10) 25) :: (some b2, blk [.bool false, .slice none 0 0, .slice none 0 0] 25) :: ((B5 ++ []) ++ N))) (fun w m => by have h := Z118 (A := B5) m 1 1 rfl rfl; exact h) ?_
 have gq1 : ∀ w, More w0 Φ (B5 ++ []) w → More w0 Φ [] w := fun w q => More.mono (fun w m => (m).appR) q
 replace va0 := va0.mono gq1
 replace ha0 := ha0.mono (ItRd.mono gq1)
 replace h7 := h7.mono (ItRd.mono (Ψ := (More w0 Φ (B5 ++ []))) (fun w q => More.flat q))
 have m16 := o11.mx
 refine Z0 (Z117 (l := [.bool false, .slice none 0 0, .slice none 0 0]) (cs := [.bool true, .slice none 0 0, sl ob8 0 x4.length c9]) [(0, [.bool true]), (2, [sl ob8 0 x4.length c9])] rfl rfl rfl rfl rfl rfl rfl) rfl (OW.rot1 ?_)
 refine Z28 (Z107 rfl rfl rfl (by intro u hu; simp at hu; rcases hu with rfl | rfl | rfl <;> rfl) rfl rfl rfl) ?_
 refine Z6 (Z1 (CW.ret (QW.mem (M' := (some b2, blk [.bool true, .slice none 0 0, sl ob8 0 x4.length c9] 25) :: (((ob8, blk (cs6 ++ r10) 25) :: (B5 ++ [])) ++ N)) (fun w m => m.pick [0, 1] 2 rfl rfl) ?_)))
 have gq2 : ∀ w, More w0 Φ ((ob8, blk (cs6 ++ r10) 25) :: (B5 ++ [])) w → More w0 Φ (B5 ++ []) w := fun w q => More.mono (fun w m => (m).tail) q
 replace va0 := va0.mono gq2
 replace ha0 := ha0.mono (ItRd.mono gq2)
 replace h7 := h7.mono (ItRd.mono gq2)
 have v17 : View (More w0 Φ ((ob8, blk (cs6 ++ r10) 25) :: (B5 ++ []))) ((ob8).map fun k => ⟨k, 0, none⟩) x4.length c9 3 cs6 := o11.view (by decide) (fun w q => q.2.sublist (List.singleton_sublist.2 (List.mem_cons_self ..)))
 have e0 := Zi hf
 subst e0
 have v18 : View (More w0 Φ ((ob8, blk (cs6 ++ r10) 25) :: (B5 ++ []))) none ([] : List (BitVec 8)).length 0 1 (u8s []) := View.nil
 refine Z110 (rs := [.cell 2 25]) ([.agg [.bool true, .slice none 0 0, .slice ((ob8).map fun k => ⟨k, 0, none⟩) x4.length c9].toArray]) (((ob8, blk (cs6 ++ r10) 25) :: (B5 ++ []))) rfl ?_ rfl ?_ ?_ _ (.inl rfl)
 ·exact ⟨⟨_, _, _, _, rfl, Zh, rfl, rfl, rfl, rfl⟩, trivial⟩
 ·exact ⟨((ob8, blk (cs6 ++ r10) 25) :: (B5 ++ [])), [.bool true, .slice none 0 0, .slice ((ob8).map fun k => ⟨k, 0, none⟩) x4.length c9], (ItRd.mk v18 v17 h7), rfl, rfl⟩
 ·exact (fun w m => m.pick [] 1 rfl rfl)
theorem rlp_GetText_does (w0 : World) (Φ : Ctx) (N : List Ent) (hΦ : ∀ w, Mem w0 w N → Φ w) (cs0_ : List Value) (a0 : It) (res0 : List (BitVec 8)) (res1 : Nat) (ha0 : ItRd Φ cs0_ a0) (hf : rlp_GetText a0 = some (res0, res1)) : DoesG Tryd.prog 84 [.agg cs0_.toArray] w0 [] N (fun v G => ∃ B : List Ent, ∃ or0 : Option Nat, ∃ kr0 : Nat, ∃ rr0 : List Value, (OwnS or0 res0.length kr0 1 (u8s res0) rr0) ∧ (res1 ≤ 9223372036854775807) ∧ v = .tuple #[sl or0 0 res0.length kr0, .int .i64 ((res1 : Nat) : Int)] ∧ G = (or0, blk ((u8s res0) ++ rr0) 5) :: B) := by
 unfold rlp_GetText at hf
 replace ha0 := ItRd.mono (Ψ := More w0 Φ []) (fun w q => q.1) _ _ ha0
 have h10 := ha0
 obtain ⟨A1, c2, A4, c5, cs7, e9, v3, v6, h8⟩ := ItRd.opn ha0
 subst e9
 have m11 := v3.mx
 have m12 := v6.mx
 refine DoesG.enter Tryd.func84 rfl Tryd.ntmps84 rfl (M := (([] ++ N))) rfl (Z4 (Z2 (OW.boxA rfl rfl (fun b13 => (Z0 (Z5 rfl) rfl (Z0 (Z5 rfl) rfl (Z6 (Z1 (Z4 (Z4 (Z2 (Z0 (Z22 rfl Zh rfl rfl rfl rfl rfl) rfl ?_))))))))))))
 obtain ⟨x15, hx14, hf⟩ := Z105 hf
 refine Z12 Tryd.call76 rfl (rlp_kind_does w0 (More w0 Φ []) ((some b13, blk [.bool (a0.list), .slice A1 a0.data.length c2, .slice A4 a0.items.length c5] 25) :: ([] ++ N)) (fun w m => More.of hΦ 1 m rfl) [.bool (a0.list), .slice A1 a0.data.length c2, .slice A4 a0.items.length c5] a0 false x15 h10 hx14) rfl rfl ?_
 rintro _ G17 ⟨b16, rfl⟩
 refine Z20 (M' := ((some b13, blk [.bool (a0.list), .slice A1 a0.data.length c2, .slice A4 a0.items.length c5] 25) :: ([] ++ N))) (fun w m => m.appR) (Z0 (Z5 rfl) rfl (Z6 (Z1 (Z4 (Z2 (Z0 (Z3 rfl) rfl (Z0 (RV.neq rfl rfl) rfl (Z7 (.bool (!decide (x15 = 0))) (congrArg (fun b => Value.bool (!b)) (decide_eq_decide.2 (by omega))) (Z6 (Z1 ?_))))))))))
 by_cases h19 : x15 = 0
 ·replace hf := if_t hf h19
  refine Z14 rfl (congrArg (fun b => !b) (decide_eq_true h19)) (CW.skip (Z1 (Z4 (Z2 (Z0 (Z30 rfl rfl rfl rfl) rfl (Z0 (Z29 rfl Zh rfl rfl rfl rfl) rfl ?_))))))
  obtain ⟨x21, hx20, hf⟩ := Z105 hf
  refine Z12 Tryd.call77 rfl (rlp_clone_does w0 (More w0 Φ []) ((some b13, blk [.bool (a0.list), .slice A1 a0.data.length c2, .slice A4 a0.items.length c5] 25) :: ([] ++ N)) (fun w m => More.of hΦ 1 m rfl) A1 c2 a0.data x21 v3 hx20) rfl rfl ?_
  rintro L27 M28 ⟨B22, ob23, c24, r25, o26, e29, e30⟩
  rw [e29, e30]
  clear e29 e30 L27 M28
  refine Z20 (M' := ((ob23, blk ((u8s x21) ++ r25) 5) :: (some b13, blk [.bool (a0.list), .slice A1 a0.data.length c2, .slice A4 a0.items.length c5] 25) :: ((B22 ++ []) ++ N))) (fun w m => by have h := Z118 (A := B22) m 1 1 rfl rfl; exact h) ?_
  have gq1 : ∀ w, More w0 Φ (B22 ++ []) w → More w0 Φ [] w := fun w q => More.mono (fun w m => (m).appR) q
  replace h10 := ItRd.mono gq1 _ _ h10
  replace v3 := v3.mono gq1
  replace v6 := v6.mono gq1
  replace h8 := h8.mono (ItRd.mono gq1)
  have m31 := o26.mx
  refine Z0 (Z5 rfl) rfl (Z0 (Z5 rfl) rfl (Z6 (Z1 (CW.ret ?_))))
  have er0 := Zi hf
  obtain ⟨e0, er1⟩ := Prod.mk.inj er0
  clear er0
  subst e0
  subst er1
  refine Z110 (rs := [.tmp 2, .tmp 3]) ([sl ob23 0 x21.length c24, .int .i64 (0 : Int)]) ((ob23, blk ((u8s x21) ++ r25) 5) :: (B22 ++ [])) rfl ?_ rfl ?_ ?_ _ (.inl rfl)
  ·exact ⟨rfl, rfl, trivial⟩
  ·exact ⟨(B22 ++ []), ob23, c24, r25, o26, (by omega), rfl, rfl⟩
  ·exact (fun w m => m.pick [0] 2 rfl rfl)
 ·replace hf := if_f hf h19
  refine Z13 rfl (congrArg (fun b => !b) (decide_eq_false h19)) (Z4 (Z2 (Z0 (Z3 rfl) rfl (Z0 (Z5 rfl) rfl (Z0 (Z5 rfl) rfl (Z6 (Z1 (CW.ret (Z8 (QW.mem (M' := ((none, blk ((u8s ([] : List (BitVec 8))) ++ []) 5) :: (some b13, blk [.bool (a0.list), .slice A1 a0.data.length c2, .slice A4 a0.items.length c5] 25) :: ([] ++ N))) (fun w m => m.nil_ent _) ?_))))))))))
  have er0 := Zi hf
  obtain ⟨e0, er1⟩ := Prod.mk.inj er0
  clear er0
  subst e0
  subst er1
  refine Z110 (rs := [.tmp 2, .tmp 3]) ([sl none 0 ([] : List (BitVec 8)).length 0, .int .i64 ((x15 : Nat) : Int)]) ((none, blk ((u8s ([] : List (BitVec 8))) ++ []) 5) :: []) rfl ?_ rfl ?_ ?_ _ (.inl rfl)
  ·exact ⟨rfl, rfl, trivial⟩
  ·exact ⟨[], none, 0, [], OwnS.nil, (by omega), rfl, rfl⟩
  ·exact (fun w m => m.pick [0] 2 rfl rfl)
theorem rlp_number_does (w0 : World) (Φ : Ctx) (N : List Ent) (hΦ : ∀ w, Mem w0 w N → Φ w) (cs0_ : List Value) (a0 : It) (a1 : Int) (res0 : Vector (BitVec 64) 4) (res1 : Nat) (ha0 : ItRd Φ cs0_ a0) (ba1 : -9223372036854775808 ≤ a1 ∧ a1 ≤ 9223372036854775807) (hf : rlp_number a0 a1 = some (res0, res1)) : DoesG Tryd.prog 78 [.agg cs0_.toArray, .int .i64 a1] w0 [] N (fun v G => (res1 ≤ 9223372036854775807) ∧ v = .tuple #[.agg (u64s res0.toList).toArray, .int .i64 ((res1 : Nat) : Int)]) := by
 unfold rlp_number at hf
 replace ha0 := ItRd.mono (Ψ := More w0 Φ []) (fun w q => q.1) _ _ ha0
 have h10 := ha0
 obtain ⟨A1, c2, A4, c5, cs7, e9, v3, v6, h8⟩ := ItRd.opn ha0
 subst e9
 have m11 := v3.mx
 have m12 := v6.mx
 refine DoesG.enter Tryd.func78 rfl Tryd.ntmps78 rfl (M := (([] ++ N))) rfl (Z4 (Z2 (OW.boxA rfl rfl (fun b13 => (OW.alloc (l := (u64s (Vector.replicate 4 0#64).toList)) rfl (by rw [Vector.toList_replicate, ← Z136]; rfl) rfl (fun b14 => (Z0 (Z5 rfl) rfl (Z6 (Z1 (Z4 (Z4 (Z2 (Z0 (Z22 rfl (List.Mem.tail _ Zh) rfl rfl rfl rfl rfl) rfl ?_)))))))))))))
 obtain ⟨x16, hx15, hf⟩ := Z105 hf
 refine Z12 Tryd.call76 rfl (rlp_kind_does w0 (More w0 Φ []) ((some b14, blk (u64s (Vector.replicate 4 0#64).toList) 35) :: (some b13, blk [.bool (a0.list), .slice A1 a0.data.length c2, .slice A4 a0.items.length c5] 25) :: ([] ++ N)) (fun w m => More.of hΦ 2 m rfl) [.bool (a0.list), .slice A1 a0.data.length c2, .slice A4 a0.items.length c5] a0 false x16 h10 hx15) rfl rfl ?_
 rintro _ G18 ⟨b17, rfl⟩
 refine Z20 (M' := ((some b14, blk (u64s (Vector.replicate 4 0#64).toList) 35) :: (some b13, blk [.bool (a0.list), .slice A1 a0.data.length c2, .slice A4 a0.items.length c5] 25) :: ([] ++ N))) (fun w m => m.appR) (Z0 (Z5 rfl) rfl (Z6 (Z1 (Z4 (Z2 (Z0 (Z3 rfl) rfl (Z0 (RV.neq rfl rfl) rfl (Z7 (.bool (!decide (x16 = 0))) (congrArg (fun b => Value.bool (!b)) (decide_eq_decide.2 (by omega))) (Z6 (Z1 ?_))))))))))
 by_cases h20 : x16 = 0
 ·replace hf := if_t hf h20
  refine Z14 rfl (congrArg (fun b => !b) (decide_eq_true h20)) (CW.skip (Z1 (Z4 (Z4 (Z2 (Z0 (Z30 rfl rfl rfl rfl) rfl (Z0 (Z29 rfl (List.Mem.tail _ Zh) rfl rfl rfl rfl) rfl (Z0 (RV.len rfl rfl) rfl (Z0 (Z3 rfl) rfl (Z0 (RV.gtr rfl rfl) rfl (Z6 (Z1 ?_))))))))))))
  by_cases h21 : a1 < ((a0.data.length : Nat) : Int)
  ·replace hf := if_t hf h21
   refine Z13 rfl (decide_eq_true h21) (Z4 (Z2 (Z0 (RV.build0 (l := (u64s (Vector.replicate 4 0#64).toList)) rfl rfl rfl (by rw [Vector.toList_replicate, ← Z136]; rfl)) rfl (Z28 (Z107 rfl rfl rfl (Z119 _) rfl ((Z102 _).trans Zv) ((Z102 _).trans Zv)) (Z0 (Z5 rfl) rfl (Z6 (Z1 (CW.ret (Z8 ?_)))))))))
   have er0 := Zi hf
   obtain ⟨e0, er1⟩ := Prod.mk.inj er0
   clear er0
   subst e0
   subst er1
   refine Z110 (rs := [.cell 4 35, .tmp 5]) ([.agg (u64s (Vector.replicate 4 0#64).toList).toArray, .int .i64 (77 : Int)]) ((some b14, blk (u64s (Vector.replicate 4 0#64).toList) 35) :: (some b13, blk [.bool (a0.list), .slice A1 a0.data.length c2, .slice A4 a0.items.length c5] 25) :: []) rfl ?_ rfl ?_ ?_ _ (.inl rfl)
   ·exact ⟨⟨_, _, _, _, rfl, Zh, rfl, rfl, (congrArg some ((Z102 _).trans Zv).symm), rfl⟩, rfl, trivial⟩
   ·exact ⟨(by omega), rfl⟩
   ·exact (fun w m => m)
  ·replace hf := if_f hf h21
   refine Z14 rfl (decide_eq_false h21) (CW.skip (Z1 (Z4 (Z2 (Z0 (Z30 rfl rfl rfl rfl) rfl (Z0 (Z29 rfl (List.Mem.tail _ Zh) rfl rfl rfl rfl) rfl ?_))))))
   obtain ⟨⟨x23, x24⟩, hx22, hf⟩ := Z105 hf
   try dsimp only at hf
   refine Z12 Tryd.call114 rfl (u256_Strict_does w0 (More w0 Φ []) ((some b14, blk (u64s (Vector.replicate 4 0#64).toList) 35) :: (some b13, blk [.bool (a0.list), .slice A1 a0.data.length c2, .slice A4 a0.items.length c5] 25) :: ([] ++ N)) (fun w m => More.of hΦ 2 m rfl) A1 c2 a0.data x23 x24 v3 hx22) rfl rfl ?_
   rintro _ G26 ⟨b25, rfl⟩
   refine Z20 (M' := ((some b14, blk (u64s (Vector.replicate 4 0#64).toList) 35) :: (some b13, blk [.bool (a0.list), .slice A1 a0.data.length c2, .slice A4 a0.items.length c5] 25) :: ([] ++ N))) (fun w m => m.appR) (Z0 (Z3 rfl) rfl (Z0 (Z17 rfl rfl) rfl (Z7 (.agg (u64s x23.toList).toArray) (rfl) (Z0 (Z17 rfl rfl) rfl (Z7 (.int .i64 ((x24 : Nat) : Int)) (rfl) (OW.alloc (l := (u64s (Vector.replicate 4 0#64).toList)) rfl (by rw [Vector.toList_replicate, ← Z136]; rfl) rfl (fun b28 => (Z28 (Z107 rfl rfl rfl (Z119 _) rfl ((Z102 _).trans Zv) ((Z102 _).trans Zv)) ?_))))))))
   refine Z0 (Z5 rfl) rfl (Z6 (Z1 (Z4 (Z4 (Z2 (Z0 (Z3 rfl) rfl (Z0 (RV.neq rfl rfl) rfl (Z7 (.bool (!decide (x24 = 0))) (congrArg (fun b => Value.bool (!b)) (decide_eq_decide.2 (by omega))) (Z6 (Z1 ?_))))))))))
   by_cases h29 : x24 = 0
   ·replace hf := if_t hf h29
    refine Z14 rfl (congrArg (fun b => !b) (decide_eq_true h29)) (CW.skip (Z1 (Z4 (Z2 (Z0 (Z22 rfl Zh rfl rfl rfl rfl ((Z102 _).trans Zv)) rfl (OW.rot1 (Z28 (Z107 rfl rfl rfl (Z119 _) rfl ((Z102 _).trans Zv) ((Z102 _).trans Zv)) (Z0 (Z5 rfl) rfl (Z6 (Z1 (CW.ret ?_)))))))))))
    have er0 := Zi hf
    obtain ⟨e0, er1⟩ := Prod.mk.inj er0
    clear er0
    subst e0
    subst er1
    refine Z110 (rs := [.cell 4 35, .tmp 5]) ([.agg (u64s x23.toList).toArray, .int .i64 (0 : Int)]) ((some b14, blk (u64s x23.toList) 35) :: (some b28, blk (u64s x23.toList) 35) :: (some b13, blk [.bool (a0.list), .slice A1 a0.data.length c2, .slice A4 a0.items.length c5] 25) :: []) rfl ?_ rfl ?_ ?_ _ (.inl rfl)
    ·exact ⟨⟨_, _, _, _, rfl, Zh, rfl, rfl, (congrArg some ((Z102 _).trans Zv).symm), rfl⟩, rfl, trivial⟩
    ·exact ⟨(by omega), rfl⟩
    ·exact (fun w m => m)
   ·replace hf := if_f hf h29
    refine Z13 rfl (congrArg (fun b => !b) (decide_eq_false h29)) (Z4 (Z2 (Z0 (RV.build0 (l := (u64s (Vector.replicate 4 0#64).toList)) rfl rfl rfl (by rw [Vector.toList_replicate, ← Z136]; rfl)) rfl (OW.rot1 (Z28 (Z107 rfl rfl rfl (Z119 _) rfl ((Z102 _).trans Zv) ((Z102 _).trans Zv)) (Z0 (Z5 rfl) rfl (Z6 (Z1 (CW.ret (Z8 ?_))))))))))
    have er0 := Zi hf
    obtain ⟨e0, er1⟩ := Prod.mk.inj er0
    clear er0
    subst e0
    subst er1
    refine Z110 (rs := [.cell 4 35, .tmp 5]) ([.agg (u64s (Vector.replicate 4 0#64).toList).toArray, .int .i64 (76 : Int)]) ((some b14, blk (u64s (Vector.replicate 4 0#64).toList) 35) :: (some b28, blk (u64s x23.toList) 35) :: (some b13, blk [.bool (a0.list), .slice A1 a0.data.length c2, .slice A4 a0.items.length c5] 25) :: []) rfl ?_ rfl ?_ ?_ _ (.inl rfl)
    ·exact ⟨⟨_, _, _, _, rfl, Zh, rfl, rfl, (congrArg some ((Z102 _).trans Zv).symm), rfl⟩, rfl, trivial⟩
    ·exact ⟨(by omega), rfl⟩
    ·exact (fun w m => m)
 ·replace hf := if_f hf h20
  refine Z13 rfl (congrArg (fun b => !b) (decide_eq_false h20)) (Z4 (Z2 (Z0 (RV.build0 (l := (u64s (Vector.replicate 4 0#64).toList)) rfl rfl rfl (by rw [Vector.toList_replicate, ← Z136]; rfl)) rfl (Z0 (Z3 rfl) rfl (Z28 (Z107 rfl rfl rfl (Z119 _) rfl ((Z102 _).trans Zv) ((Z102 _).trans Zv)) (Z0 (Z5 rfl) rfl (Z6 (Z1 (CW.ret (Z8 ?_))))))))))
  have er0 := Zi hf
  obtain ⟨e0, er1⟩ := Prod.mk.inj er0
  clear er0
  subst e0
  subst er1
  refine Z110 (rs := [.cell 4 35, .tmp 5]) ([.agg (u64s (Vector.replicate 4 0#64).toList).toArray, .int .i64 ((x16 : Nat) : Int)]) ((some b14, blk (u64s (Vector.replicate 4 0#64).toList) 35) :: (some b13, blk [.bool (a0.list), .slice A1 a0.data.length c2, .slice A4 a0.items.length c5] 25) :: []) rfl ?_ rfl ?_ ?_ _ (.inl rfl)
  ·exact ⟨⟨_, _, _, _, rfl, Zh, rfl, rfl, (congrArg some ((Z102 _).trans Zv).symm), rfl⟩, rfl, trivial⟩
  ·exact ⟨(by omega), rfl⟩
  ·exact (fun w m => m)
theorem rlp_GetNumber_does (w0 : World) (Φ : Ctx) (N : List Ent) (hΦ : ∀ w, Mem w0 w N → Φ w) (cs0_ : List Value) (a0 : It) (res0 : Vector (BitVec 64) 4) (res1 : Nat) (ha0 : ItRd Φ cs0_ a0) (hf : rlp_GetNumber a0 = some (res0, res1)) : DoesG Tryd.prog 83 [.agg cs0_.toArray] w0 [] N (fun v G => (res1 ≤ 9223372036854775807) ∧ v = .tuple #[.agg (u64s res0.toList).toArray, .int .i64 ((res1 : Nat) : Int)]) := by
 unfold rlp_GetNumber at hf
 replace ha0 := ItRd.mono (Ψ := More w0 Φ []) (fun w q => q.1) _ _ ha0
 have h10 := ha0
 obtain ⟨A1, c2, A4, c5, cs7, e9, v3, v6, h8⟩ := ItRd.opn ha0
 subst e9
 have m11 := v3.mx
 have m12 := v6.mx
 refine DoesG.enter Tryd.func83 rfl Tryd.ntmps83 rfl (M := (([] ++ N))) rfl (Z4 (Z2 (OW.boxA rfl rfl (fun b13 => (OW.alloc (l := (u64s (Vector.replicate 4 0#64).toList)) rfl (by rw [Vector.toList_replicate, ← Z136]; rfl) rfl (fun b14 => (Z0 (Z5 rfl) rfl (Z6 (Z1 (Z4 (Z2 (Z0 (Z22 rfl (List.Mem.tail _ Zh) rfl rfl rfl rfl rfl) rfl ?_))))))))))))
 obtain ⟨⟨x16, x17⟩, hx15, hf⟩ := Z105 hf
 try dsimp only at hf
 refine Z12 Tryd.call78 rfl (rlp_number_does w0 (More w0 Φ []) ((some b14, blk (u64s (Vector.replicate 4 0#64).toList) 35) :: (some b13, blk [.bool (a0.list), .slice A1 a0.data.length c2, .slice A4 a0.items.length c5] 25) :: ([] ++ N)) (fun w m => More.of hΦ 2 m rfl) [.bool (a0.list), .slice A1 a0.data.length c2, .slice A4 a0.items.length c5] a0 (32 : Int) x16 x17 h10 (by omega) hx15) rfl rfl ?_
 rintro _ G19 ⟨b18, rfl⟩
 refine Z20 (M' := ((some b14, blk (u64s (Vector.replicate 4 0#64).toList) 35) :: (some b13, blk [.bool (a0.list), .slice A1 a0.data.length c2, .slice A4 a0.items.length c5] 25) :: ([] ++ N))) (fun w m => m.appR) (Z0 (Z17 rfl rfl) rfl (Z7 (.agg (u64s x16.toList).toArray) (rfl) (Z0 (Z17 rfl rfl) rfl (Z7 (.int .i64 ((x17 : Nat) : Int)) (rfl) (Z28 (Z107 rfl rfl rfl (Z119 _) rfl ((Z102 _).trans Zv) ((Z102 _).trans Zv)) (Z0 (Z5 rfl) rfl (Z6 (Z1 (CW.ret ?_)))))))))
 have er0 := Zi hf
 obtain ⟨e0, er1⟩ := Prod.mk.inj er0
 clear er0
 subst e0
 subst er1
 refine Z110 (rs := [.cell 2 35, .tmp 3]) ([.agg (u64s x16.toList).toArray, .int .i64 ((x17 : Nat) : Int)]) ((some b14, blk (u64s x16.toList) 35) :: (some b13, blk [.bool (a0.list), .slice A1 a0.data.length c2, .slice A4 a0.items.length c5] 25) :: []) rfl ?_ rfl ?_ ?_ _ (.inl rfl)
 ·exact ⟨⟨_, _, _, _, rfl, Zh, rfl, rfl, (congrArg some ((Z102 _).trans Zv).symm), rfl⟩, rfl, trivial⟩
 ·exact ⟨(by omega), rfl⟩
 ·exact (fun w m => m)
theorem rlp_GetSmall_does (w0 : World) (Φ : Ctx) (N : List Ent) (hΦ : ∀ w, Mem w0 w N → Φ w) (cs0_ : List Value) (a0 : It) (res0 : BitVec 64) (res1 : Nat) (ha0 : ItRd Φ cs0_ a0) (hf : rlp_GetSmall a0 = some (res0, res1)) : DoesG Tryd.prog 38 [.agg cs0_.toArray] w0 [] N (fun v G => (res1 ≤ 9223372036854775807) ∧ v = .tuple #[U64 res0, .int .i64 ((res1 : Nat) : Int)]) := by
 unfold rlp_GetSmall at hf
 replace ha0 := ItRd.mono (Ψ := More w0 Φ []) (fun w q => q.1) _ _ ha0
 have h10 := ha0
 obtain ⟨A1, c2, A4, c5, cs7, e9, v3, v6, h8⟩ := ItRd.opn ha0
 subst e9
 have m11 := v3.mx
 have m12 := v6.mx
 refine DoesG.enter Tryd.func38 rfl Tryd.ntmps38 rfl (M := (([] ++ N))) rfl (Z4 (Z2 (OW.boxA rfl rfl (fun b13 => (Z0 (Z5 rfl) rfl (Z0 (Z5 rfl) rfl (Z6 (Z1 (Z4 (Z2 (Z0 (Z22 rfl Zh rfl rfl rfl rfl rfl) rfl ?_)))))))))))
 obtain ⟨⟨x15, x16⟩, hx14, hf⟩ := Z105 hf
 try dsimp only at hf
 refine Z12 Tryd.call78 rfl (rlp_number_does w0 (More w0 Φ []) ((some b13, blk [.bool (a0.list), .slice A1 a0.data.length c2, .slice A4 a0.items.length c5] 25) :: ([] ++ N)) (fun w m => More.of hΦ 1 m rfl) [.bool (a0.list), .slice A1 a0.data.length c2, .slice A4 a0.items.length c5] a0 (8 : Int) x15 x16 h10 (by omega) hx14) rfl rfl ?_
 rintro _ G18 ⟨b17, rfl⟩
 refine Z20 (M' := ((some b13, blk [.bool (a0.list), .slice A1 a0.data.length c2, .slice A4 a0.items.length c5] 25) :: ([] ++ N))) (fun w m => m.appR) (Z0 (Z3 rfl) rfl (Z0 (Z17 rfl rfl) rfl (Z7 (.agg (u64s x15.toList).toArray) (rfl) (Z0 (Z17 rfl rfl) rfl (Z7 (.int .i64 ((x16 : Nat) : Int)) (rfl) (OW.alloc (l := (u64s (Vector.replicate 4 0#64).toList)) rfl (by rw [Vector.toList_replicate, ← Z136]; rfl) rfl (fun b20 => (Z28 (Z107 rfl rfl rfl (Z119 _) rfl ((Z102 _).trans Zv) ((Z102 _).trans Zv)) ?_))))))))
 refine Z0 (Z5 rfl) rfl (Z6 (Z1 (Z4 (Z2 (Z0 (Z125 (0) rfl rfl rfl rfl rfl (by omega)) rfl (Z0 (Z29 rfl Zh rfl rfl rfl (u64s_at (vat' (by decide)))) rfl (Z0 (Z3 rfl) rfl (Z0 (Z5 rfl) rfl (Z0 (Z5 rfl) rfl (Z6 (Z1 (CW.ret ?_))))))))))))
 have er0 := Zi hf
 obtain ⟨e0, er1⟩ := Prod.mk.inj er0
 clear er0
 subst e0
 subst er1
 refine Z110 (rs := [.tmp 2, .tmp 3]) ([U64 x15[0], .int .i64 ((x16 : Nat) : Int)]) ((some b20, blk (u64s x15.toList) 35) :: (some b13, blk [.bool (a0.list), .slice A1 a0.data.length c2, .slice A4 a0.items.length c5] 25) :: []) rfl ?_ rfl ?_ ?_ _ (.inl rfl)
 ·exact ⟨rfl, rfl, trivial⟩
 ·exact ⟨(by omega), rfl⟩
 ·exact (fun w m => m)
theorem rlp_GetFixed_does (w0 : World) (Φ : Ctx) (N : List Ent) (hΦ : ∀ w, Mem w0 w N → Φ w) (cs0_ : List Value) (a0 : It) (a1 : Int) (res0 : List (BitVec 8)) (res1 : Nat) (ha0 : ItRd Φ cs0_ a0) (ba1 : -9223372036854775808 ≤ a1 ∧ a1 ≤ 9223372036854775807) (hf : rlp_GetFixed a0 a1 = some (res0, res1)) : DoesG Tryd.prog 37 [.agg cs0_.toArray, .int .i64 a1] w0 [] N (fun v G => ∃ B : List Ent, ∃ or0 : Option Nat, ∃ kr0 : Nat, ∃ rr0 : List Value, (OwnS or0 res0.length kr0 1 (u8s res0) rr0) ∧ (res1 ≤ 9223372036854775807) ∧ v = .tuple #[sl or0 0 res0.length kr0, .int .i64 ((res1 : Nat) : Int)] ∧ G = (or0, blk ((u8s res0) ++ rr0) 5) :: B) := by
 unfold rlp_GetFixed at hf
 replace ha0 := ItRd.mono (Ψ := More w0 Φ []) (fun w q => q.1) _ _ ha0
 have h10 := ha0
 obtain ⟨A1, c2, A4, c5, cs7, e9, v3, v6, h8⟩ := ItRd.opn ha0
 subst e9
 have m11 := v3.mx
 have m12 := v6.mx
 refine DoesG.enter Tryd.func37 rfl Tryd.ntmps37 rfl (M := (([] ++ N))) rfl (Z4 (Z2 (OW.boxA rfl rfl (fun b13 => (Z0 (Z5 rfl) rfl (Z0 (Z5 rfl) rfl (Z6 (Z1 (Z4 (Z4 (Z2 (Z0 (Z3 rfl) rfl (Z0 (RV.lss rfl rfl) rfl ?_)))))))))))))
 refine Z6 (Z1 ?_)
 by_cases h14 : a1 < (0 : Int)
 ·replace hf := if_t hf h14
  refine Z13 rfl (decide_eq_true h14) (Z4 (Z2 (Z0 (Z5 rfl) rfl (Z0 (Z5 rfl) rfl (Z6 (Z1 (CW.ret (Z8 (QW.mem (M' := ((none, blk ((u8s ([] : List (BitVec 8))) ++ []) 5) :: (some b13, blk [.bool (a0.list), .slice A1 a0.data.length c2, .slice A4 a0.items.length c5] 25) :: ([] ++ N))) (fun w m => m.nil_ent _) ?_)))))))))
  have er0 := Zi hf
  obtain ⟨e0, er1⟩ := Prod.mk.inj er0
  clear er0
  subst e0
  subst er1
  refine Z110 (rs := [.tmp 4, .tmp 5]) ([sl none 0 ([] : List (BitVec 8)).length 0, .int .i64 (1 : Int)]) ((none, blk ((u8s ([] : List (BitVec 8))) ++ []) 5) :: []) rfl ?_ rfl ?_ ?_ _ (.inl rfl)
  ·exact ⟨rfl, rfl, trivial⟩
  ·exact ⟨[], none, 0, [], OwnS.nil, (by omega), rfl, rfl⟩
  ·exact (fun w m => m.pick [0] 2 rfl rfl)
 ·replace hf := if_f hf h14
  refine Z14 rfl (decide_eq_false h14) (CW.skip (Z1 (Z4 (Z4 (Z2 (Z0 (Z22 rfl Zh rfl rfl rfl rfl rfl) rfl ?_))))))
  obtain ⟨x16, hx15, hf⟩ := Z105 hf
  refine Z12 Tryd.call76 rfl (rlp_kind_does w0 (More w0 Φ []) ((some b13, blk [.bool (a0.list), .slice A1 a0.data.length c2, .slice A4 a0.items.length c5] 25) :: ([] ++ N)) (fun w m => More.of hΦ 1 m rfl) [.bool (a0.list), .slice A1 a0.data.length c2, .slice A4 a0.items.length c5] a0 false x16 h10 hx15) rfl rfl ?_
  rintro _ G18 ⟨b17, rfl⟩
  refine Z20 (M' := ((some b13, blk [.bool (a0.list), .slice A1 a0.data.length c2, .slice A4 a0.items.length c5] 25) :: ([] ++ N))) (fun w m => m.appR) (Z0 (Z5 rfl) rfl (Z6 (Z1 (Z4 (Z2 (Z0 (Z3 rfl) rfl (Z0 (RV.neq rfl rfl) rfl (Z7 (.bool (!decide (x16 = 0))) (congrArg (fun b => Value.bool (!b)) (decide_eq_decide.2 (by omega))) (Z6 (Z1 ?_))))))))))
  by_cases h20 : x16 = 0
  ·replace hf := if_t hf h20
   refine Z14 rfl (congrArg (fun b => !b) (decide_eq_true h20)) (CW.skip (Z1 (Z4 (Z4 (Z2 (Z0 (Z30 rfl rfl rfl rfl) rfl (Z0 (Z29 rfl Zh rfl rfl rfl rfl) rfl (Z0 (RV.len rfl rfl) rfl (Z0 (Z3 rfl) rfl (Z0 (RV.neq rfl rfl) rfl (Z6 (Z1 ?_))))))))))))
   by_cases h21 : ((a0.data.length : Nat) : Int) = a1
   ·replace hf := if_t hf h21
    refine Z14 rfl (congrArg (fun b => !b) (decide_eq_true h21)) (CW.skip (Z1 (Z4 (Z2 (Z0 (Z30 rfl rfl rfl rfl) rfl (Z0 (Z29 rfl Zh rfl rfl rfl rfl) rfl ?_))))))
    obtain ⟨x23, hx22, hf⟩ := Z105 hf
    refine Z12 Tryd.call77 rfl (rlp_clone_does w0 (More w0 Φ []) ((some b13, blk [.bool (a0.list), .slice A1 a0.data.length c2, .slice A4 a0.items.length c5] 25) :: ([] ++ N)) (fun w m => More.of hΦ 1 m rfl) A1 c2 a0.data x23 v3 hx22) rfl rfl ?_
    rintro L29 M30 ⟨B24, ob25, c26, r27, o28, e31, e32⟩
    rw [e31, e32]
    clear e31 e32 L29 M30
    refine Z20 (M' := ((ob25, blk ((u8s x23) ++ r27) 5) :: (some b13, blk [.bool (a0.list), .slice A1 a0.data.length c2, .slice A4 a0.items.length c5] 25) :: ((B24 ++ []) ++ N))) (fun w m => by have h := Z118 (A := B24) m 1 1 rfl rfl; exact h) ?_
    have gq1 : ∀ w, More w0 Φ (B24 ++ []) w → More w0 Φ [] w := fun w q => More.mono (fun w m => (m).appR) q
    replace h10 := ItRd.mono gq1 _ _ h10
    replace v3 := v3.mono gq1
    replace v6 := v6.mono gq1
    replace h8 := h8.mono (ItRd.mono gq1)
    have m33 := o28.mx
    refine Z0 (Z5 rfl) rfl (Z0 (Z5 rfl) rfl (Z6 (Z1 (CW.ret ?_))))
    have er0 := Zi hf
    obtain ⟨e0, er1⟩ := Prod.mk.inj er0
    clear er0
    subst e0
    subst er1
    refine Z110 (rs := [.tmp 4, .tmp 5]) ([sl ob25 0 x23.length c26, .int .i64 (0 : Int)]) ((ob25, blk ((u8s x23) ++ r27) 5) :: (B24 ++ [])) rfl ?_ rfl ?_ ?_ _ (.inl rfl)
    ·exact ⟨rfl, rfl, trivial⟩
    ·exact ⟨(B24 ++ []), ob25, c26, r27, o28, (by omega), rfl, rfl⟩
    ·exact (fun w m => m.pick [0] 2 rfl rfl)
   ·replace hf := if_f hf h21
    refine Z13 rfl (congrArg (fun b => !b) (decide_eq_false h21)) (Z4 (Z2 (Z0 (Z5 rfl) rfl (Z0 (Z5 rfl) rfl (Z6 (Z1 (CW.ret (Z8 (QW.mem (M' := ((none, blk ((u8s ([] : List (BitVec 8))) ++ []) 5) :: (some b13, blk [.bool (a0.list), .slice A1 a0.data.length c2, .slice A4 a0.items.length c5] 25) :: ([] ++ N))) (fun w m => m.nil_ent _) ?_)))))))))
    have er0 := Zi hf
    obtain ⟨e0, er1⟩ := Prod.mk.inj er0
    clear er0
    subst e0
    subst er1
    refine Z110 (rs := [.tmp 4, .tmp 5]) ([sl none 0 ([] : List (BitVec 8)).length 0, .int .i64 (77 : Int)]) ((none, blk ((u8s ([] : List (BitVec 8))) ++ []) 5) :: []) rfl ?_ rfl ?_ ?_ _ (.inl rfl)
    ·exact ⟨rfl, rfl, trivial⟩
    ·exact ⟨[], none, 0, [], OwnS.nil, (by omega), rfl, rfl⟩
    ·exact (fun w m => m.pick [0] 2 rfl rfl)
  ·replace hf := if_f hf h20
   refine Z13 rfl (congrArg (fun b => !b) (decide_eq_false h20)) (Z4 (Z2 (Z0 (Z3 rfl) rfl (Z0 (Z5 rfl) rfl (Z0 (Z5 rfl) rfl (Z6 (Z1 (CW.ret (Z8 (QW.mem (M' := ((none, blk ((u8s ([] : List (BitVec 8))) ++ []) 5) :: (some b13, blk [.bool (a0.list), .slice A1 a0.data.length c2, .slice A4 a0.items.length c5] 25) :: ([] ++ N))) (fun w m => m.nil_ent _) ?_))))))))))
   have er0 := Zi hf
   obtain ⟨e0, er1⟩ := Prod.mk.inj er0
   clear er0
   subst e0
   subst er1
   refine Z110 (rs := [.tmp 4, .tmp 5]) ([sl none 0 ([] : List (BitVec 8)).length 0, .int .i64 ((x16 : Nat) : Int)]) ((none, blk ((u8s ([] : List (BitVec 8))) ++ []) 5) :: []) rfl ?_ rfl ?_ ?_ _ (.inl rfl)
   ·exact ⟨rfl, rfl, trivial⟩
   ·exact ⟨[], none, 0, [], OwnS.nil, (by omega), rfl, rfl⟩
   ·exact (fun w m => m.pick [0] 2 rfl rfl)
theorem rlp_GetList_does (w0 : World) (Φ : Ctx) (N : List Ent) (hΦ : ∀ w, Mem w0 w N → Φ w) (cs0_ : List Value) (a0 : It) (res0 : List (It)) (res1 : Nat) (ha0 : ItRd Φ cs0_ a0) (hf : rlp_GetList a0 = some (res0, res1)) : DoesG Tryd.prog 42 [.agg cs0_.toArray] w0 [] N (fun v G => ∃ B : List Ent, ∃ cr0 : List Value, ∃ or0 : Option Nat, ∃ kr0 : Nat, ∃ rr0 : List Value, (Reps (ItRd (More w0 Φ B)) cr0 res0) ∧ (OwnS or0 res0.length kr0 3 cr0 rr0) ∧ (res1 ≤ 9223372036854775807) ∧ v = .tuple #[sl or0 0 res0.length kr0, .int .i64 ((res1 : Nat) : Int)] ∧ G = (or0, blk (cr0 ++ rr0) 25) :: B) := by
 unfold rlp_GetList at hf
 replace ha0 := ItRd.mono (Ψ := More w0 Φ []) (fun w q => q.1) _ _ ha0
 have h10 := ha0
 obtain ⟨A1, c2, A4, c5, cs7, e9, v3, v6, h8⟩ := ItRd.opn ha0
 subst e9
 have m11 := v3.mx
 have m12 := v6.mx
 refine DoesG.enter Tryd.func42 rfl Tryd.ntmps42 rfl (M := (([] ++ N))) rfl (Z4 (Z2 (OW.boxA rfl rfl (fun b13 => (Z0 (Z5 rfl) rfl (Z0 (Z5 rfl) rfl (Z6 (Z1 (Z4 (Z4 (Z2 (Z0 (Z22 rfl Zh rfl rfl rfl rfl rfl) rfl ?_))))))))))))
 obtain ⟨x15, hx14, hf⟩ := Z105 hf
 refine Z12 Tryd.call76 rfl (rlp_kind_does w0 (More w0 Φ []) ((some b13, blk [.bool (a0.list), .slice A1 a0.data.length c2, .slice A4 a0.items.length c5] 25) :: ([] ++ N)) (fun w m => More.of hΦ 1 m rfl) [.bool (a0.list), .slice A1 a0.data.length c2, .slice A4 a0.items.length c5] a0 true x15 h10 hx14) rfl rfl ?_
 rintro _ G17 ⟨b16, rfl⟩
 refine Z20 (M' := ((some b13, blk [.bool (a0.list), .slice A1 a0.data.length c2, .slice A4 a0.items.length c5] 25) :: ([] ++ N))) (fun w m => m.appR) (Z0 (Z5 rfl) rfl (Z6 (Z1 (Z4 (Z2 (Z0 (Z3 rfl) rfl (Z0 (RV.neq rfl rfl) rfl (Z7 (.bool (!decide (x15 = 0))) (congrArg (fun b => Value.bool (!b)) (decide_eq_decide.2 (by omega))) (Z6 (Z1 ?_))))))))))
 by_cases h19 : x15 = 0
 ·replace hf := if_t hf h19
  refine Z14 rfl (congrArg (fun b => !b) (decide_eq_true h19)) (CW.skip (Z1 (Z4 (Z2 (Z0 (Z30 rfl rfl rfl rfl) rfl (Z0 (Z29 rfl Zh rfl rfl rfl rfl) rfl ?_))))))
  obtain ⟨x21, hx20, hf⟩ := Z105 hf
  refine Z12 Tryd.call82 rfl (rlp_twin_does w0 (More w0 Φ []) ((some b13, blk [.bool (a0.list), .slice A1 a0.data.length c2, .slice A4 a0.items.length c5] 25) :: ([] ++ N)) (fun w m => More.of hΦ 1 m rfl) A4 c5 cs7 a0.items x21 v6 h8 hx20) rfl rfl ?_
  rintro L29 M30 ⟨B22, cs23, ob25, c26, r27, h24, o28, e31, e32⟩
  rw [e31, e32]
  clear e31 e32 L29 M30
  refine Z20 (M' := ((ob25, blk (cs23 ++ r27) 25) :: (some b13, blk [.bool (a0.list), .slice A1 a0.data.length c2, .slice A4 a0.items.length c5] 25) :: ((B22 ++ []) ++ N))) (fun w m => by have h := Z118 (A := B22) m 1 1 rfl rfl; exact h) ?_
  have gq1 : ∀ w, More w0 Φ (B22 ++ []) w → More w0 Φ [] w := fun w q => More.mono (fun w m => (m).appR) q
  replace h10 := ItRd.mono gq1 _ _ h10
  replace v3 := v3.mono gq1
  replace v6 := v6.mono gq1
  replace h8 := h8.mono (ItRd.mono gq1)
  replace h24 := h24.mono (ItRd.mono (Ψ := (More w0 Φ (B22 ++ []))) (fun w q => More.flat q))
  have m33 := o28.mx
  refine Z0 (Z5 rfl) rfl (Z0 (Z5 rfl) rfl (Z6 (Z1 (CW.ret ?_))))
  have er0 := Zi hf
  obtain ⟨e0, er1⟩ := Prod.mk.inj er0
  clear er0
  subst e0
  subst er1
  refine Z110 (rs := [.tmp 2, .tmp 3]) ([sl ob25 0 x21.length c26, .int .i64 (0 : Int)]) ((ob25, blk (cs23 ++ r27) 25) :: (B22 ++ [])) rfl ?_ rfl ?_ ?_ _ (.inl rfl)
  ·exact ⟨rfl, rfl, trivial⟩
  ·exact ⟨(B22 ++ []), cs23, ob25, c26, r27, h24, o28, (by omega), rfl, rfl⟩
  ·exact (fun w m => m.pick [0] 2 rfl rfl)
 ·replace hf := if_f hf h19
  refine Z13 rfl (congrArg (fun b => !b) (decide_eq_false h19)) (Z4 (Z2 (Z0 (Z3 rfl) rfl (Z0 (Z5 rfl) rfl (Z0 (Z5 rfl) rfl (Z6 (Z1 (CW.ret (Z8 (QW.mem (M' := ((none, blk ([] ++ []) 25) :: (some b13, blk [.bool (a0.list), .slice A1 a0.data.length c2, .slice A4 a0.items.length c5] 25) :: ([] ++ N))) (fun w m => m.nil_ent _) ?_))))))))))
  have er0 := Zi hf
  obtain ⟨e0, er1⟩ := Prod.mk.inj er0
  clear er0
  subst e0
  subst er1
  refine Z110 (rs := [.tmp 2, .tmp 3]) ([sl none 0 ([] : List (It)).length 0, .int .i64 ((x15 : Nat) : Int)]) ((none, blk ([] ++ []) 25) :: []) rfl ?_ rfl ?_ ?_ _ (.inl rfl)
  ·exact ⟨rfl, rfl, trivial⟩
  ·exact ⟨[], [], none, 0, [], Reps.nil, OwnS.nil, (by omega), rfl, rfl⟩
  ·exact (fun w m => m.pick [0] 2 rfl rfl)
theorem rlp_Check_does (w0 : World) (Φ : Ctx) (N : List Ent) (hΦ : ∀ w, Mem w0 w N → Φ w) (cs0_ : List Value) (a0 : It) (res0 : Nat) (ha0 : ItRd Φ cs0_ a0) (hf : rlp_Check a0 = some res0) : DoesG Tryd.prog 64 [.agg cs0_.toArray] w0 [] N (fun v G => (res0 ≤ 9223372036854775807) ∧ v = .int .i64 ((res0 : Nat) : Int)) := by
 unfold rlp_Check at hf
 replace ha0 := ItRd.mono (Ψ := More w0 Φ []) (fun w q => q.1) _ _ ha0
 have h10 := ha0
 obtain ⟨A1, c2, A4, c5, cs7, e9, v3, v6, h8⟩ := ItRd.opn ha0
 subst e9
 have m11 := v3.mx
 have m12 := v6.mx
 refine DoesG.enter Tryd.func64 rfl Tryd.ntmps64 rfl (M := (([] ++ N))) rfl (Z4 (Z2 (OW.boxA rfl rfl (fun b13 => (Z0 (Z5 rfl) rfl (Z6 (Z1 (Z4 (Z2 (Z0 (Z22 rfl Zh rfl rfl rfl rfl rfl) rfl ?_))))))))))
 obtain ⟨⟨x15, x16⟩, hx14, hf⟩ := Z105 hf
 try dsimp only at hf
 refine Z12 Tryd.call99 rfl (rlp_sound_does w0 (More w0 Φ []) ((some b13, blk [.bool (a0.list), .slice A1 a0.data.length c2, .slice A4 a0.items.length c5] 25) :: ([] ++ N)) (fun w m => More.of hΦ 1 m rfl) [.bool (a0.list), .slice A1 a0.data.length c2, .slice A4 a0.items.length c5] a0 x15 x16 h10 hx14) rfl rfl ?_
 rintro _ G18 ⟨b17, rfl⟩
 refine Z20 (M' := ((some b13, blk [.bool (a0.list), .slice A1 a0.data.length c2, .slice A4 a0.items.length c5] 25) :: ([] ++ N))) (fun w m => m.appR) (Z0 (Z3 rfl) rfl (Z0 (Z17 rfl rfl) rfl (Z7 (.int .i64 ((x15 : Nat) : Int)) (rfl) (Z0 (Z17 rfl rfl) rfl (Z7 (.bool (x16)) (rfl) (Z0 (Z5 rfl) rfl (Z0 (Z5 rfl) rfl ?_)))))))
 refine Z6 (Z1 (Z4 (CW.block (Z4 (Z2 (Z0 (Z3 rfl) rfl (Z0 (RV.not rfl) rfl (Z0 (Z5 rfl) rfl (Z6 (Z1 ?_))))))))))
 by_cases h20 : x16 = true
 ·replace hf := if_t hf h20
  refine Z14 rfl (congrArg (fun b => !b) (h20)) (Z4 (Z2 (Z0 (Z3 rfl) rfl (Z0 (RV.gtr rfl rfl) rfl (Z7 (.bool (decide (1024 < x15))) (congrArg Value.bool (decide_eq_decide.2 (by omega))) (Z0 (Z5 rfl) rfl (Z6 (Z1 ?_))))))))
  by_cases h21 : 1024 < x15
  ·replace hf := if_t hf h21
   refine Z13 rfl (decide_eq_true h21) (Z4 (Z2 (Z0 (Z5 rfl) rfl (Z6 (Z1 (CW.ret (Z16 (Z8 ?_))))))))
   have e0 := Zi hf
   subst e0
   refine Z110 (rs := [.tmp 2]) ([.int .i64 (74 : Int)]) ((some b13, blk [.bool (a0.list), .slice A1 a0.data.length c2, .slice A4 a0.items.length c5] 25) :: []) rfl ?_ rfl ?_ ?_ _ (.inl rfl)
   ·exact ⟨rfl, trivial⟩
   ·exact ⟨(by omega), rfl⟩
   ·exact (fun w m => m)
  ·replace hf := if_f hf h21
   refine Z14 rfl (decide_eq_false h21) (Z4 (Z2 (Z0 (Z22 rfl Zh rfl rfl rfl rfl rfl) rfl ?_)))
   obtain ⟨x23, hx22, hf⟩ := Z105 hf
   refine Z12 Tryd.call100 rfl (rlp_size_does w0 (More w0 Φ []) ((some b13, blk [.bool (a0.list), .slice A1 a0.data.length c2, .slice A4 a0.items.length c5] 25) :: ([] ++ N)) (fun w m => More.of hΦ 1 m rfl) [.bool (a0.list), .slice A1 a0.data.length c2, .slice A4 a0.items.length c5] a0 x23 h10 hx22) rfl rfl ?_
   rintro _ G25 ⟨b24, rfl⟩
   refine Z20 (M' := ((some b13, blk [.bool (a0.list), .slice A1 a0.data.length c2, .slice A4 a0.items.length c5] 25) :: ([] ++ N))) (fun w m => m.appR) (Z0 (RV.gtr rfl rfl) rfl (Z7 (.bool (decide (16777216 < x23))) (congrArg Value.bool (decide_eq_decide.2 (by omega))) (Z0 (Z5 rfl) rfl (Z6 (Z1 ?_)))))
   by_cases h27 : 16777216 < x23
   ·replace hf := if_t hf h27
    refine Z13 rfl (decide_eq_true h27) (Z4 (Z2 (Z0 (Z5 rfl) rfl (Z6 (Z1 (CW.ret (Z16 (Z8 ?_))))))))
    have e0 := Zi hf
    subst e0
    refine Z110 (rs := [.tmp 2]) ([.int .i64 (2 : Int)]) ((some b13, blk [.bool (a0.list), .slice A1 a0.data.length c2, .slice A4 a0.items.length c5] 25) :: []) rfl ?_ rfl ?_ ?_ _ (.inl rfl)
    ·exact ⟨rfl, trivial⟩
    ·exact ⟨(by omega), rfl⟩
    ·exact (fun w m => m)
   ·replace hf := if_f hf h27
    refine Z14 rfl (decide_eq_false h27) (CW.skip (Z27 (Z1 (Z4 (Z2 (Z0 (Z5 rfl) rfl (Z6 (Z1 (CW.ret ?_)))))))))
    have e0 := Zi hf
    subst e0
    refine Z110 (rs := [.tmp 2]) ([.int .i64 (0 : Int)]) ((some b13, blk [.bool (a0.list), .slice A1 a0.data.length c2, .slice A4 a0.items.length c5] 25) :: []) rfl ?_ rfl ?_ ?_ _ (.inl rfl)
    ·exact ⟨rfl, trivial⟩
    ·exact ⟨(by omega), rfl⟩
    ·exact (fun w m => m)
 ·replace hf := if_f hf h20
  refine Z13 rfl (congrArg (fun b => !b) (Bool.eq_false_iff.2 h20)) (Z4 (Z2 (Z0 (Z5 rfl) rfl (Z6 (Z1 (CW.ret (Z16 (Z8 ?_))))))))
  have e0 := Zi hf
  subst e0
  refine Z110 (rs := [.tmp 2]) ([.int .i64 (78 : Int)]) ((some b13, blk [.bool (a0.list), .slice A1 a0.data.length c2, .slice A4 a0.items.length c5] 25) :: []) rfl ?_ rfl ?_ ?_ _ (.inl rfl)
  ·exact ⟨rfl, trivial⟩
  ·exact ⟨(by omega), rfl⟩
  ·exact (fun w m => m)
theorem rlp_Encode_does (w0 : World) (Φ : Ctx) (N : List Ent) (hΦ : ∀ w, Mem w0 w N → Φ w) (cs0_ : List Value) (a0 : It) (res0 : List (BitVec 8)) (res1 : Nat) (ha0 : ItRd Φ cs0_ a0) (hf : rlp_Encode a0 = some (res0, res1)) : DoesG Tryd.prog 29 [.agg cs0_.toArray] w0 [] N (fun v G => ∃ B : List Ent, ∃ or0 : Option Nat, ∃ kr0 : Nat, ∃ rr0 : List Value, (OwnS or0 res0.length kr0 1 (u8s res0) rr0) ∧ (res1 ≤ 9223372036854775807) ∧ v = .tuple #[sl or0 0 res0.length kr0, .int .i64 ((res1 : Nat) : Int)] ∧ G = (or0, blk ((u8s res0) ++ rr0) 5) :: B) := by
 unfold rlp_Encode at hf
 replace ha0 := ItRd.mono (Ψ := More w0 Φ []) (fun w q => q.1) _ _ ha0
 have h10 := ha0
 obtain ⟨A1, c2, A4, c5, cs7, e9, v3, v6, h8⟩ := ItRd.opn ha0
 subst e9
 have m11 := v3.mx
 have m12 := v6.mx
 refine DoesG.enter Tryd.func29 rfl Tryd.ntmps29 rfl (M := (([] ++ N))) rfl (Z4 (Z2 (OW.boxA rfl rfl (fun b13 => (Z0 (Z5 rfl) rfl (Z0 (Z5 rfl) rfl (Z6 (Z1 (Z4 (Z4 (Z2 (Z0 (Z22 rfl Zh rfl rfl rfl rfl rfl) rfl ?_))))))))))))
 obtain ⟨x15, hx14, hf⟩ := Z105 hf
 refine Z12 Tryd.call64 rfl (rlp_Check_does w0 (More w0 Φ []) ((some b13, blk [.bool (a0.list), .slice A1 a0.data.length c2, .slice A4 a0.items.length c5] 25) :: ([] ++ N)) (fun w m => More.of hΦ 1 m rfl) [.bool (a0.list), .slice A1 a0.data.length c2, .slice A4 a0.items.length c5] a0 x15 h10 hx14) rfl rfl ?_
 rintro _ G17 ⟨b16, rfl⟩
 refine Z20 (M' := ((some b13, blk [.bool (a0.list), .slice A1 a0.data.length c2, .slice A4 a0.items.length c5] 25) :: ([] ++ N))) (fun w m => m.appR) (Z0 (Z5 rfl) rfl (Z6 (Z1 (Z4 (Z2 (Z0 (Z3 rfl) rfl (Z0 (RV.neq rfl rfl) rfl (Z7 (.bool (!decide (x15 = 0))) (congrArg (fun b => Value.bool (!b)) (decide_eq_decide.2 (by omega))) (Z6 (Z1 ?_))))))))))
 by_cases h19 : x15 = 0
 ·replace hf := if_t hf h19
  refine Z14 rfl (congrArg (fun b => !b) (decide_eq_true h19)) (CW.skip (Z1 (Z4 (Z2 (Z0 (Z22 rfl Zh rfl rfl rfl rfl rfl) rfl (Z20 (M' := ((none, blk ((u8s ([] : List (BitVec 8))) ++ []) 5) :: (some b13, blk [.bool (a0.list), .slice A1 a0.data.length c2, .slice A4 a0.items.length c5] 25) :: ([] ++ N))) (fun w m => m.nil_ent _) ?_))))))
  obtain ⟨x21, hx20, hf⟩ := Z105 hf
  refine Z12 Tryd.call65 rfl (rlp_lay_does w0 (More w0 Φ []) ((some b13, blk [.bool (a0.list), .slice A1 a0.data.length c2, .slice A4 a0.items.length c5] 25) :: ([] ++ N)) (fun w m => More.of hΦ 1 m rfl) none 0 ([]) ([] : List (BitVec 8)) [.bool (a0.list), .slice A1 a0.data.length c2, .slice A4 a0.items.length c5] a0 x21 OwnS.nil h10 hx20) rfl rfl ?_
  rintro L27 M28 ⟨B22, ob23, c24, r25, o26, e29, e30⟩
  rw [e29, e30]
  clear e29 e30 L27 M28
  refine Z20 (M' := ((ob23, blk ((u8s x21) ++ r25) 5) :: (some b13, blk [.bool (a0.list), .slice A1 a0.data.length c2, .slice A4 a0.items.length c5] 25) :: ((B22 ++ []) ++ N))) (fun w m => by have h := Z118 (A := B22) m 1 1 rfl rfl; exact h) ?_
  have gq1 : ∀ w, More w0 Φ (B22 ++ []) w → More w0 Φ [] w := fun w q => More.mono (fun w m => (m).appR) q
  replace h10 := ItRd.mono gq1 _ _ h10
  replace v3 := v3.mono gq1
  replace v6 := v6.mono gq1
  replace h8 := h8.mono (ItRd.mono gq1)
  have m31 := o26.mx
  refine Z0 (Z5 rfl) rfl (Z0 (Z5 rfl) rfl (Z6 (Z1 (CW.ret ?_))))
  have er0 := Zi hf
  obtain ⟨e0, er1⟩ := Prod.mk.inj er0
  clear er0
  subst e0
  subst er1
  refine Z110 (rs := [.tmp 2, .tmp 3]) ([sl ob23 0 x21.length c24, .int .i64 (0 : Int)]) ((ob23, blk ((u8s x21) ++ r25) 5) :: (B22 ++ [])) rfl ?_ rfl ?_ ?_ _ (.inl rfl)
  ·exact ⟨rfl, rfl, trivial⟩
  ·exact ⟨(B22 ++ []), ob23, c24, r25, o26, (by omega), rfl, rfl⟩
  ·exact (fun w m => m.pick [0] 2 rfl rfl)
 ·replace hf := if_f hf h19
  refine Z13 rfl (congrArg (fun b => !b) (decide_eq_false h19)) (Z4 (Z2 (Z0 (Z3 rfl) rfl (Z0 (Z5 rfl) rfl (Z0 (Z5 rfl) rfl (Z6 (Z1 (CW.ret (Z8 (QW.mem (M' := ((none, blk ((u8s ([] : List (BitVec 8))) ++ []) 5) :: (some b13, blk [.bool (a0.list), .slice A1 a0.data.length c2, .slice A4 a0.items.length c5] 25) :: ([] ++ N))) (fun w m => m.nil_ent _) ?_))))))))))
  have er0 := Zi hf
  obtain ⟨e0, er1⟩ := Prod.mk.inj er0
  clear er0
  subst e0
  subst er1
  refine Z110 (rs := [.tmp 2, .tmp 3]) ([sl none 0 ([] : List (BitVec 8)).length 0, .int .i64 ((x15 : Nat) : Int)]) ((none, blk ((u8s ([] : List (BitVec 8))) ++ []) 5) :: []) rfl ?_ rfl ?_ ?_ _ (.inl rfl)
  ·exact ⟨rfl, rfl, trivial⟩
  ·exact ⟨[], none, 0, [], OwnS.nil, (by omega), rfl, rfl⟩
  ·exact (fun w m => m.pick [0] 2 rfl rfl)
theorem rlp_cut_does (w0 : World) (Φ : Ctx) (N : List Ent) (hΦ : ∀ w, Mem w0 w N → Φ w) (A0_ : Option Addr) (c0_ : Nat) (a0 : List (BitVec 8)) (res0 : Bool) (res1 : List (BitVec 8)) (res2 : List (BitVec 8)) (res3 : Nat) (va0 : View Φ A0_ a0.length c0_ 1 (u8s a0)) (hf : rlp_cut a0 = some (res0, res1, res2, res3)) : DoesG Tryd.prog 79 [.slice A0_ a0.length c0_] w0 [] N (fun v G => ∃ B : List Ent, ∃ Ar1 : Option Addr, ∃ kr1 : Nat, ∃ Ar2 : Option Addr, ∃ kr2 : Nat, (View (More w0 Φ B) Ar1 res1.length kr1 1 (u8s res1)) ∧ (View (More w0 Φ B) Ar2 res2.length kr2 1 (u8s res2)) ∧ (res3 ≤ 9223372036854775807) ∧ v = .tuple #[.bool res0, .slice Ar1 res1.length kr1, .slice Ar2 res2.length kr2, .int .i64 ((res3 : Nat) : Int)] ∧ G = B) := by
 unfold rlp_cut at hf
 replace va0 := va0.mono (Ψ := More w0 Φ []) (fun w q => q.1)
 have m1 := va0.mx
 refine DoesG.enter Tryd.func79 rfl Tryd.ntmps79 rfl (M := (([] ++ N))) rfl (Z4 (Z2 (Z0 (Z5 rfl) rfl (Z0 (Z5 rfl) rfl (Z0 (Z5 rfl) rfl (Z0 (Z5 rfl) rfl (Z6 (Z1 (Z4 (Z4 (Z2 (Z0 (Z3 rfl) rfl ?_))))))))))))
 refine Z0 (RV.len rfl rfl) rfl (Z0 (RV.eql rfl rfl) rfl (Z7 (.bool (decide (a0.length = 0))) (congrArg Value.bool (decide_eq_decide.2 (by omega))) (Z6 (Z1 ?_))))
 by_cases h2 : a0.length = 0
 ·replace hf := if_t hf h2
  refine Z13 rfl (decide_eq_true h2) (Z4 (Z2 (Z0 (Z5 rfl) rfl (Z0 (Z5 rfl) rfl (Z0 (Z5 rfl) rfl (Z0 (Z5 rfl) rfl (Z6 (Z1 (CW.ret (Z8 ?_))))))))))
  have er0 := Zi hf
  obtain ⟨e0, er1⟩ := Prod.mk.inj er0
  clear er0
  obtain ⟨e1, er2⟩ := Prod.mk.inj er1
  clear er1
  obtain ⟨e2, er3⟩ := Prod.mk.inj er2
  clear er2
  subst e0
  subst e1
  subst e2
  subst er3
  refine Z110 (rs := [.tmp 2, .tmp 3, .tmp 4, .tmp 5]) ([.bool false, .slice none 0 0, .slice none 0 0, .int .i64 (70 : Int)]) ([]) rfl ?_ rfl ?_ ?_ _ (.inl rfl)
  ·exact ⟨rfl, rfl, rfl, rfl, trivial⟩
  ·exact ⟨[], none, 0, none, 0, View.nil, View.nil, (by omega), rfl, rfl⟩
  ·exact (fun w m => m.pick [] 0 rfl rfl)
 ·replace hf := if_f hf h2
  refine Z14 rfl (decide_eq_false h2) (CW.skip (Z1 (Z4 (Z2 (Z0 (Z3 rfl) rfl ?_)))))
  obtain ⟨x3, hx4, hf⟩ := Z105 hf
  have hl5 := Z145 hx4
  refine Z0 (Z152 (0) rfl rfl rfl rfl rfl (va0.isSome (by decide) hl5) (by omega)) rfl (Z0 (Z21 rfl rfl rfl (fun w m => va0.cell (More.of hΦ 0 m rfl) (u8s_at hx4))) rfl (Z0 (Z5 rfl) rfl (Z6 (Z1 (Z4 (Z4 (Z2 (Z0 (Z3 rfl) rfl (Z0 (RV.lss rfl rfl) rfl (Z7 (.bool (decide (x3.toNat < 128))) (congrArg Value.bool (decide_eq_decide.2 (by first | exact Int.ofNat_le | exact Int.ofNat_lt | omega | (simp; omega) | simp))) (Z6 (Z1 ?_))))))))))))
  by_cases h6 : x3.toNat < 128
  ·replace hf := if_t hf h6
   refine Z13 rfl (decide_eq_true h6) (Z4 (Z151 8 mixed (by kernel_rfl) rfl (Z18 0 rfl (by kernel_rfl) rfl (Z3 rfl) rfl ?_)))
   obtain ⟨g8, hf⟩ := Z124 hf
   have hle := va0.le
   have hlen_ : a0.length = a0.length := rfl
   refine Z18 1 rfl (by kernel_rfl) rfl (RV.cut_hi (1) rfl rfl (by omega) rfl rfl (by omega)) rfl (UW.slot (.slice A0_ (a0.take 1).length c0_) (by rw [show ((a0.take 1)).length = 1 from List.length_take.trans (Nat.min_eq_left (by omega))]) ?_)
   have v7 : View (More w0 Φ []) A0_ (a0.take 1).length c0_ 1 (u8s (a0.take 1)) := va0.hi8 (by omega)
   have m9 := v7.mx
   refine Z18 2 rfl (by kernel_rfl) rfl (Z3 rfl) rfl (Z18 3 rfl (by kernel_rfl) rfl (RV.cut_lo (s := 1) (1) rfl rfl (by omega) rfl rfl (by omega)) rfl (UW.slot (.slice (subA A0_ c0_ 1 1) (a0.drop 1).length (c0_ - 1)) (by rw [show ((a0.drop 1)).length = (a0).length - (1) from List.length_drop]) ?_))
   have v10 : View (More w0 Φ []) (subA A0_ c0_ 1 1) (a0.drop 1).length (c0_ - 1) 1 (u8s (a0.drop 1)) := va0.lo8 (by omega)
   have m11 := v10.mx
   refine Z18 4 rfl (by kernel_rfl) rfl (Z5 rfl) rfl (Z18 5 rfl (by kernel_rfl) rfl (Z5 rfl) rfl (Z18 6 rfl (by kernel_rfl) rfl (Z5 rfl) rfl (Z18 7 rfl (by kernel_rfl) rfl (Z5 rfl) rfl (UW.nil (by kernel_rfl) (Z6 (Z1 (CW.ret (Z8 ?_))))))))
   have er0 := Zi hf
   obtain ⟨e0, er1⟩ := Prod.mk.inj er0
   clear er0
   obtain ⟨e1, er2⟩ := Prod.mk.inj er1
   clear er1
   obtain ⟨e2, er3⟩ := Prod.mk.inj er2
   clear er2
   subst e0
   subst e1
   subst e2
   subst er3
   refine Z110 (rs := [.tmp 2, .tmp 3, .tmp 4, .tmp 5]) ([.bool false, .slice A0_ (a0.take 1).length c0_, .slice (subA A0_ c0_ 1 1) (a0.drop 1).length (c0_ - 1), .int .i64 (0 : Int)]) ([]) rfl ?_ rfl ?_ ?_ _ (.inl rfl)
   ·exact ⟨rfl, rfl, rfl, rfl, trivial⟩
   ·exact ⟨[], A0_, c0_, (subA A0_ c0_ 1 1), (c0_ - 1), v7, v10, (by omega), rfl, rfl⟩
   ·exact (fun w m => m.pick [] 0 rfl rfl)
  ·replace hf := if_f hf h6
   refine Z14 rfl (decide_eq_false h6) (CW.skip (Z1 (Z4 (Z2 (Z0 (Z3 rfl) rfl (Z0 (RV.geq rfl rfl) rfl (Z7 (.bool (decide (192 ≤ x3.toNat))) (congrArg Value.bool (decide_eq_decide.2 (by first | exact Int.ofNat_le | exact Int.ofNat_lt | omega | (simp; omega) | simp))) (Z0 (Z5 rfl) rfl (Z6 (Z1 (Z4 (Z2 (Z0 (Z3 rfl) rfl ?_)))))))))))))
   refine Z0 (RV.sub8 rfl (by first | rfl | exact lit8 _ rfl) rfl (by first | rfl | exact lit8 _ rfl)) rfl (Z0 (RV.conv8_i rfl (by first | rfl | exact lit8 _ rfl) rfl rfl) rfl ?_)
   have m12 := ((x3 - 128#8)).isLt
   refine Z0 (Z5 rfl) rfl (Z6 (Z1 (Z4 (Z4 (Z2 (Z0 (Z3 rfl) rfl (Z6 (Z1 ?_))))))))
   obtain ⟨q13, hq14, hf⟩ := Z105 hf
   refine Z130 (fun L' M' => ∃ n15 : Nat, q13 = n15 ∧ (n15 ≤ 9223372036854775807) ∧ L' = [(0, .slice A0_ a0.length c0_), (2, .bool (decide (192 ≤ x3.toNat))), (7, .int .i64 ((n15 : Nat) : Int))] ∧ M' = (([] ++ N))) ?_ ?_
   ·rintro L18 M19 ⟨n15, e17, b16, e20, e21⟩
    rw [e20, e21]
    clear e20 e21 L18 M19
    clear hq14
    rw [e17] at hf
    clear e17
    try dsimp only at hf
    refine Z1 (Z4 (Z2 (Z0 (Z3 rfl) rfl ?_)))
    obtain ⟨g23, hf⟩ := Z124 hf
    refine Z0 (RV.cut_lo (s := 1) (1) rfl rfl (by omega) rfl rfl (by omega)) rfl (Z7 (.slice (subA A0_ c0_ 1 1) (a0.drop 1).length (c0_ - 1)) (by rw [show ((a0.drop 1)).length = (a0).length - (1) from List.length_drop]) ?_)
    have v22 : View (More w0 Φ []) (subA A0_ c0_ 1 1) (a0.drop 1).length (c0_ - 1) 1 (u8s (a0.drop 1)) := va0.lo8 (by omega)
    have m24 := v22.mx
    refine Z0 (Z5 rfl) rfl (Z6 (Z1 (Z4 (Z4 (Z2 (Z0 (Z3 rfl) rfl (Z0 (RV.gtr rfl rfl) rfl (Z7 (.bool (decide (55 < n15))) (congrArg Value.bool (decide_eq_decide.2 (by omega))) (Z6 (Z1 ?_))))))))))
    obtain ⟨q25, hq26, hf⟩ := Z105 hf
    refine Z130 (fun L' M' => ∃ l27 : List (BitVec 8), ∃ n31 : Nat, ∃ A28 : Option Addr, ∃ c29 : Nat, q25 = Lp.go (l27, n31) ∧ (View (More w0 Φ []) A28 l27.length c29 1 (u8s l27)) ∧ (n31 ≤ 9223372036854775807) ∧ L' = [(0, .slice A28 l27.length c29), (2, .bool (decide (192 ≤ x3.toNat))), (7, .int .i64 ((n31 : Nat) : Int))] ∧ M' = (([] ++ N))) ?_ ?_
    ·rintro L34 M35 ⟨l27, n31, A28, c29, e33, v30, b32, e36, e37⟩
     rw [e36, e37]
     clear e36 e37 L34 M35
     clear hq26
     rw [e33] at hf
     clear e33
     try dsimp only at hf
     have m38 := v30.mx
     refine Z1 (Z4 (Z4 (Z2 (Z0 (Z3 rfl) rfl (Z0 (RV.len rfl rfl) rfl (Z0 (Z3 rfl) rfl (Z0 (RV.lss rfl rfl) rfl (Z7 (.bool (decide (l27.length < n31))) (congrArg Value.bool (decide_eq_decide.2 (by omega))) (Z6 (Z1 ?_))))))))))
     by_cases h39 : l27.length < n31
     ·replace hf := if_t hf h39
      refine Z13 rfl (decide_eq_true h39) (Z4 (Z2 (Z0 (Z5 rfl) rfl (Z0 (Z5 rfl) rfl (Z0 (Z5 rfl) rfl (Z0 (Z5 rfl) rfl (Z6 (Z1 (CW.ret (Z8 ?_))))))))))
      have er0 := Zi hf
      obtain ⟨e0, er1⟩ := Prod.mk.inj er0
      clear er0
      obtain ⟨e1, er2⟩ := Prod.mk.inj er1
      clear er1
      obtain ⟨e2, er3⟩ := Prod.mk.inj er2
      clear er2
      subst e0
      subst e1
      subst e2
      subst er3
      refine Z110 (rs := [.tmp 2, .tmp 3, .tmp 4, .tmp 5]) ([.bool false, .slice none 0 0, .slice none 0 0, .int .i64 (70 : Int)]) ([]) rfl ?_ rfl ?_ ?_ _ (.inl rfl)
      ·exact ⟨rfl, rfl, rfl, rfl, trivial⟩
      ·exact ⟨[], none, 0, none, 0, View.nil, View.nil, (by omega), rfl, rfl⟩
      ·exact (fun w m => m.pick [] 0 rfl rfl)
     ·replace hf := if_f hf h39
      refine Z14 rfl (decide_eq_false h39) (CW.skip (Z1 (Z4 (Z4 ?_))))
      obtain ⟨q40, hq41, hf⟩ := Z105 hf
      refine Z130 (fun L' M' => ∃ p42 : Bool, q40 = p42 ∧ L' = [(0, .slice A28 l27.length c29), (2, .bool (decide (192 ≤ x3.toNat))), (7, .int .i64 ((n31 : Nat) : Int)), (87, .bool (p42))] ∧ M' = (([] ++ N))) ?_ ?_
      ·rintro L44 M45 ⟨p42, e43, e46, e47⟩
       rw [e46, e47]
       clear e46 e47 L44 M45
       clear hq41
       rw [e43] at hf
       clear e43
       try dsimp only at hf
       refine Z1 ?_
       by_cases h48 : p42 = true
       ·replace hf := if_t hf h48
        refine Z13 rfl (h48) (Z4 (Z2 (Z0 (Z5 rfl) rfl (Z0 (Z5 rfl) rfl (Z0 (Z5 rfl) rfl (Z0 (Z5 rfl) rfl (Z6 (Z1 (CW.ret (Z8 ?_))))))))))
        have er0 := Zi hf
        obtain ⟨e0, er1⟩ := Prod.mk.inj er0
        clear er0
        obtain ⟨e1, er2⟩ := Prod.mk.inj er1
        clear er1
        obtain ⟨e2, er3⟩ := Prod.mk.inj er2
        clear er2
        subst e0
        subst e1
        subst e2
        subst er3
        refine Z110 (rs := [.tmp 2, .tmp 3, .tmp 4, .tmp 5]) ([.bool false, .slice none 0 0, .slice none 0 0, .int .i64 (71 : Int)]) ([]) rfl ?_ rfl ?_ ?_ _ (.inl rfl)
        ·exact ⟨rfl, rfl, rfl, rfl, trivial⟩
        ·exact ⟨[], none, 0, none, 0, View.nil, View.nil, (by omega), rfl, rfl⟩
        ·exact (fun w m => m.pick [] 0 rfl rfl)
       ·replace hf := if_f hf h48
        refine Z14 rfl (Bool.eq_false_iff.2 h48) (CW.skip (Z1 (Z4 (Z151 11 mixed (by kernel_rfl) rfl (Z18 0 rfl (by kernel_rfl) rfl (Z3 rfl) rfl (Z18 1 rfl (by kernel_rfl) rfl (Z3 rfl) rfl (Z18 2 rfl (by kernel_rfl) rfl (Z3 rfl) rfl ?_)))))))
        obtain ⟨g50, hf⟩ := Z124 hf
        have hle := v30.le
        have hlen_ : l27.length = l27.length := rfl
        refine Z18 3 rfl (by kernel_rfl) rfl (RV.cut_hi (n31) rfl rfl (by omega) rfl rfl (by omega)) rfl (UW.slot (.slice A28 (l27.take n31).length c29) (by rw [show ((l27.take n31)).length = n31 from List.length_take.trans (Nat.min_eq_left (by omega))]) ?_)
        have v49 : View (More w0 Φ []) A28 (l27.take n31).length c29 1 (u8s (l27.take n31)) := v30.hi8 (by omega)
        have m51 := v49.mx
        refine Z18 4 rfl (by kernel_rfl) rfl (Z3 rfl) rfl (Z18 5 rfl (by kernel_rfl) rfl (Z3 rfl) rfl (Z18 6 rfl (by kernel_rfl) rfl (RV.cut_lo (s := 1) (n31) rfl rfl (by omega) rfl rfl (by omega)) rfl (UW.slot (.slice (subA A28 c29 n31 1) (l27.drop n31).length (c29 - n31)) (by rw [show ((l27.drop n31)).length = (l27).length - (n31) from List.length_drop]) ?_)))
        have v52 : View (More w0 Φ []) (subA A28 c29 n31 1) (l27.drop n31).length (c29 - n31) 1 (u8s (l27.drop n31)) := v30.lo8 (by omega)
        have m53 := v52.mx
        refine Z18 7 rfl (by kernel_rfl) rfl (Z5 rfl) rfl (Z18 8 rfl (by kernel_rfl) rfl (Z5 rfl) rfl (Z18 9 rfl (by kernel_rfl) rfl (Z5 rfl) rfl (Z18 10 rfl (by kernel_rfl) rfl (Z5 rfl) rfl (UW.nil (by kernel_rfl) (Z6 (Z1 (CW.ret ?_)))))))
        have er0 := Zi hf
        obtain ⟨e0, er1⟩ := Prod.mk.inj er0
        clear er0
        obtain ⟨e1, er2⟩ := Prod.mk.inj er1
        clear er1
        obtain ⟨e2, er3⟩ := Prod.mk.inj er2
        clear er2
        subst e0
        subst e1
        subst e2
        subst er3
        refine Z110 (rs := [.tmp 2, .tmp 3, .tmp 4, .tmp 5]) ([.bool (decide (192 ≤ x3.toNat)), .slice A28 (l27.take n31).length c29, .slice (subA A28 c29 n31 1) (l27.drop n31).length (c29 - n31), .int .i64 (0 : Int)]) ([]) rfl ?_ rfl ?_ ?_ _ (.inl rfl)
        ·exact ⟨rfl, rfl, rfl, rfl, trivial⟩
        ·exact ⟨[], A28, c29, (subA A28 c29 n31 1), (c29 - n31), v49, v52, (by omega), rfl, rfl⟩
        ·exact (fun w m => m.pick [] 0 rfl rfl)
      ·skip
       refine Z2 (Z0 (Z3 rfl) rfl (Z0 (RV.not rfl) rfl (Z0 (Z3 rfl) rfl ?_)))
       by_cases h54 : 192 ≤ x3.toNat
       ·replace hq41 := if_t hq41 h54
        refine Z7 (.bool false) (congrArg Value.bool (congrArg (fun b => !b) (decide_eq_true h54))) (Z23 rfl rfl rfl (Z23 rfl rfl rfl (Z0 (Z112 rfl rfl rfl) rfl (Z0 (Z3 rfl) rfl (Z23 rfl rfl rfl (Z23 rfl rfl rfl (Z23 rfl rfl rfl ?_)))))))
        refine Z23 rfl rfl rfl (Z0 (Z112 rfl rfl rfl) rfl (Z6 ?_))
        exact QW.join ⟨false, (Zi hq41).symm, rfl, rfl⟩ ⟨rfl, rfl, rfl, rfl, trivial⟩ (fun w m => m.pick [] 0 rfl rfl)
       ·replace hq41 := if_f hq41 h54
        refine Z7 (.bool true) (congrArg Value.bool (congrArg (fun b => !b) (decide_eq_false h54))) (Z24 rfl (Z0 (Z3 rfl) rfl (Z24 rfl (Z0 (RV.eql rfl rfl) rfl (Z7 (.bool (decide (n31 = 1))) (congrArg Value.bool (decide_eq_decide.2 (by omega))) (Z0 (Z108 rfl rfl rfl) rfl (Z0 (Z3 rfl) rfl ?_)))))))
        by_cases h55 : n31 = 1
        ·replace hq41 := if_t hq41 h55
         refine Z7 (.bool true) (congrArg Value.bool (decide_eq_true h55)) (Z24 rfl (Z0 (Z3 rfl) rfl (Z24 rfl ?_)))
         obtain ⟨x56, hx57, hq41⟩ := Z105 hq41
         have hl58 := Z145 hx57
         refine Z0 (Z152 (0) rfl rfl rfl rfl rfl (v30.isSome (by decide) hl58) (by omega)) rfl (Z24 rfl (Z0 (Z21 rfl rfl rfl (fun w m => v30.cell (More.of hΦ 0 m rfl) (u8s_at hx57))) rfl (Z24 rfl (Z0 (RV.lss rfl rfl) rfl (Z7 (.bool (decide (x56.toNat < 128))) (congrArg Value.bool (decide_eq_decide.2 (by first | exact Int.ofNat_le | exact Int.ofNat_lt | omega | (simp; omega) | simp))) (Z0 (Z108 rfl rfl rfl) rfl (Z6 ?_)))))))
         exact QW.join ⟨(decide (x56.toNat < 128)), (Zi hq41).symm, rfl, rfl⟩ ⟨rfl, rfl, rfl, rfl, trivial⟩ (fun w m => m.pick [] 0 rfl rfl)
        ·replace hq41 := if_f hq41 h55
         refine Z7 (.bool false) (congrArg Value.bool (decide_eq_false h55)) (Z23 rfl rfl rfl (Z23 rfl rfl rfl (Z23 rfl rfl rfl (Z23 rfl rfl rfl (Z0 (Z112 rfl rfl rfl) rfl (Z6 ?_))))))
         exact QW.join ⟨false, (Zi hq41).symm, rfl, rfl⟩ ⟨rfl, rfl, rfl, rfl, trivial⟩ (fun w m => m.pick [] 0 rfl rfl)
    ·skip
     by_cases h59 : 55 < n15
     ·replace hq26 := if_t hq26 h59
      refine Z13 rfl (decide_eq_true h59) (Z4 (Z2 (Z0 (Z3 rfl) rfl (Z0 (RV.sub rfl rfl (by omega)) rfl (Z7 (.int .i64 ((n15 - 55 : Nat) : Int)) (by congr 1; omega) (Z0 (Z5 rfl) rfl (Z6 (Z1 (Z4 (Z4 (Z2 (Z0 (Z3 rfl) rfl ?_))))))))))))
      refine Z0 (RV.len rfl rfl) rfl (Z0 (Z3 rfl) rfl (Z0 (RV.lss rfl rfl) rfl (Z7 (.bool (decide ((a0.drop 1).length < (n15 - 55)))) (congrArg Value.bool (decide_eq_decide.2 (by omega))) (Z6 (Z1 ?_)))))
      by_cases h60 : (a0.drop 1).length < (n15 - 55)
      ·replace hq26 := if_t hq26 h60
       refine Z13 rfl (decide_eq_true h60) (Z4 (Z2 (Z0 (Z5 rfl) rfl (Z0 (Z5 rfl) rfl (Z0 (Z5 rfl) rfl (Z0 (Z5 rfl) rfl (Z6 (Z1 (CW.ret (Z8 (Z8 ?_)))))))))))
       have hc := Zi hq26
       subst hc
       try dsimp only at hf
       refine Z8 ?_
       have er0 := Zi hf
       obtain ⟨e0, er1⟩ := Prod.mk.inj er0
       clear er0
       obtain ⟨e1, er2⟩ := Prod.mk.inj er1
       clear er1
       obtain ⟨e2, er3⟩ := Prod.mk.inj er2
       clear er2
       subst e0
       subst e1
       subst e2
       subst er3
       refine Z110 (rs := [.tmp 2, .tmp 3, .tmp 4, .tmp 5]) ([.bool false, .slice none 0 0, .slice none 0 0, .int .i64 (70 : Int)]) ([]) rfl ?_ rfl ?_ ?_ _ (.inl rfl)
       ·exact ⟨rfl, rfl, rfl, rfl, trivial⟩
       ·exact ⟨[], none, 0, none, 0, View.nil, View.nil, (by omega), rfl, rfl⟩
       ·exact (fun w m => m.pick [] 0 rfl rfl)
      ·replace hq26 := if_f hq26 h60
       refine Z14 rfl (decide_eq_false h60) (CW.skip (Z1 (Z4 (Z2 (Z0 (Z3 rfl) rfl (Z0 (Z3 rfl) rfl ?_))))))
       obtain ⟨g62, hq26⟩ := Z124 hq26
       have hle := v22.le
       have hlen_ : (a0.drop 1).length = (a0.drop 1).length := rfl
       refine Z0 (RV.cut_hi ((n15 - 55)) rfl rfl (by omega) rfl rfl (by omega)) rfl (Z7 (.slice (subA A0_ c0_ 1 1) ((a0.drop 1).take (n15 - 55)).length (c0_ - 1)) (by rw [show (((a0.drop 1).take (n15 - 55))).length = (n15 - 55) from List.length_take.trans (Nat.min_eq_left (by omega))]) ?_)
       have v61 : View (More w0 Φ []) (subA A0_ c0_ 1 1) ((a0.drop 1).take (n15 - 55)).length (c0_ - 1) 1 (u8s ((a0.drop 1).take (n15 - 55))) := v22.hi8 (by omega)
       have m63 := v61.mx
       obtain ⟨⟨x65, x66⟩, hx64, hq26⟩ := Z105 hq26
       try dsimp only at hq26
       refine Z12 Tryd.call115 rfl (u256_Get_does w0 (More w0 Φ []) (([] ++ N)) (fun w m => More.of hΦ 0 m rfl) (subA A0_ c0_ 1 1) (c0_ - 1) ((a0.drop 1).take (n15 - 55)) x65 x66 v61 hx64) rfl rfl ?_
       rintro _ G68 ⟨b67, rfl⟩
       refine Z20 (M' := (([] ++ N))) (fun w m => m.appR) (Z0 (Z3 rfl) rfl (Z0 (Z17 rfl rfl) rfl (Z7 (.agg (u64s x65.toList).toArray) (rfl) (Z0 (Z17 rfl rfl) rfl (Z7 (.int .i64 ((x66 : Nat) : Int)) (rfl) (OW.alloc (l := (u64s (Vector.replicate 4 0#64).toList)) rfl (by rw [Vector.toList_replicate, ← Z136]; rfl) rfl (fun b70 => (Z28 (Z107 rfl rfl rfl (Z119 _) rfl ((Z102 _).trans Zv) ((Z102 _).trans Zv)) ?_))))))))
       refine Z0 (Z5 rfl) rfl (Z6 (Z1 (Z4 (Z4 ?_))))
       obtain ⟨q71, hq72, hq26⟩ := Z105 hq26
       refine Z130 (fun L' M' => ∃ p73 : Bool, q71 = p73 ∧ L' = [(0, .slice (subA A0_ c0_ 1 1) (a0.drop 1).length (c0_ - 1)), (2, .bool (decide (192 ≤ x3.toNat))), (8, .int .i64 ((n15 - 55 : Nat) : Int)), (9, ptr (some b70) 0), (58, .bool (p73))] ∧ M' = ((some b70, blk (u64s x65.toList) 35) :: ([] ++ N))) ?_ ?_
       ·rintro L75 M76 ⟨p73, e74, e77, e78⟩
        rw [e77, e78]
        clear e77 e78 L75 M76
        clear hq72
        rw [e74] at hq26
        clear e74
        try dsimp only at hq26
        refine Z1 ?_
        by_cases h79 : p73 = true
        ·replace hq26 := if_t hq26 h79
         refine Z13 rfl (h79) (Z4 (Z2 (Z0 (Z5 rfl) rfl (Z0 (Z5 rfl) rfl (Z0 (Z5 rfl) rfl (Z0 (Z5 rfl) rfl (Z6 (Z1 (CW.ret (Z8 (Z8 ?_)))))))))))
         have hc := Zi hq26
         subst hc
         try dsimp only at hf
         refine Z8 ?_
         have er0 := Zi hf
         obtain ⟨e0, er1⟩ := Prod.mk.inj er0
         clear er0
         obtain ⟨e1, er2⟩ := Prod.mk.inj er1
         clear er1
         obtain ⟨e2, er3⟩ := Prod.mk.inj er2
         clear er2
         subst e0
         subst e1
         subst e2
         subst er3
         refine Z110 (rs := [.tmp 2, .tmp 3, .tmp 4, .tmp 5]) ([.bool false, .slice none 0 0, .slice none 0 0, .int .i64 (72 : Int)]) ([]) rfl ?_ rfl ?_ ?_ _ (.inl rfl)
         ·exact ⟨rfl, rfl, rfl, rfl, trivial⟩
         ·exact ⟨[], none, 0, none, 0, View.nil, View.nil, (by omega), rfl, rfl⟩
         ·exact (fun w m => m.pick [] 1 rfl rfl)
        ·replace hq26 := if_f hq26 h79
         refine Z14 rfl (Bool.eq_false_iff.2 h79) (CW.skip (Z1 (Z4 (Z2 (Z0 (Z3 rfl) rfl (Z0 (Z3 rfl) rfl (Z0 (RV.cut_lo (s := 1) ((n15 - 55)) rfl rfl (by omega) rfl rfl (by omega)) rfl (Z7 (.slice (subA (subA A0_ c0_ 1 1) (c0_ - 1) (n15 - 55) 1) ((a0.drop 1).drop (n15 - 55)).length ((c0_ - 1) - (n15 - 55))) (by rw [show (((a0.drop 1).drop (n15 - 55))).length = ((a0.drop 1)).length - ((n15 - 55)) from List.length_drop]) ?_))))))))
         have v80 : View (More w0 Φ []) (subA (subA A0_ c0_ 1 1) (c0_ - 1) (n15 - 55) 1) ((a0.drop 1).drop (n15 - 55)).length ((c0_ - 1) - (n15 - 55)) 1 (u8s ((a0.drop 1).drop (n15 - 55))) := v22.lo8 (by omega)
         have m81 := v80.mx
         refine Z0 (Z5 rfl) rfl (Z6 (Z1 (Z4 (Z4 (Z151 7 mixed (by kernel_rfl) rfl (Z18 0 rfl (by kernel_rfl) rfl (Z22 rfl Zh rfl rfl rfl rfl ((Z102 _).trans Zv)) rfl (Z18 1 rfl (by kernel_rfl) rfl (Z3 rfl) rfl (Z18 2 rfl (by kernel_rfl) rfl (RV.len rfl rfl) rfl (Z18 3 rfl (by kernel_rfl) rfl (RV.conv_i64 rfl rfl rfl) rfl (UW.slot (U64 (BitVec.ofNat 64 (((a0.drop 1).drop (n15 - 55)).length))) (congrArg U64 (BitVec.ofInt_natCast ..)) ?_))))))))))
         obtain ⟨x83, hx82, hq26⟩ := Z105 hq26
         refine Z25 4 rfl (by kernel_rfl) rfl Tryd.call104 rfl (fun N' hN' => u256_From_does w0 (More w0 Φ []) N' (fun w m => More.of hΦ 1 (hN' w m) rfl) (BitVec.ofNat 64 (((a0.drop 1).drop (n15 - 55)).length)) x83 hx82) rfl ?_
         rintro _ G84 rfl
         refine UW.mem (M' := ((some b70, blk (u64s x65.toList) 35) :: ([] ++ N))) (fun w m => m.appR) ?_
         obtain ⟨x87, hx86, hq26⟩ := Z105 hq26
         refine Z25 5 rfl (by kernel_rfl) rfl Tryd.call116 rfl (fun N' hN' => u256_Cmp_does w0 (More w0 Φ []) N' (fun w m => More.of hΦ 1 (hN' w m) rfl) x65 x83 x87 hx86) rfl ?_
         rintro _ G89 ⟨b88, rfl⟩
         refine UW.mem (M' := ((some b70, blk (u64s x65.toList) 35) :: ([] ++ N))) (fun w m => m.appR) (Z18 6 rfl (by kernel_rfl) rfl (RV.gtr rfl rfl) rfl (UW.nil (by kernel_rfl) (Z6 (Z1 ?_))))
         by_cases h91 : (0 : Int) < x87
         ·replace hq26 := if_t hq26 h91
          refine Z13 rfl (decide_eq_true h91) (Z4 (Z2 (Z0 (Z5 rfl) rfl (Z0 (Z5 rfl) rfl (Z0 (Z5 rfl) rfl (Z0 (Z5 rfl) rfl (Z6 (Z1 (CW.ret (Z8 (Z8 ?_)))))))))))
          have hc := Zi hq26
          subst hc
          try dsimp only at hf
          refine Z8 ?_
          have er0 := Zi hf
          obtain ⟨e0, er1⟩ := Prod.mk.inj er0
          clear er0
          obtain ⟨e1, er2⟩ := Prod.mk.inj er1
          clear er1
          obtain ⟨e2, er3⟩ := Prod.mk.inj er2
          clear er2
          subst e0
          subst e1
          subst e2
          subst er3
          refine Z110 (rs := [.tmp 2, .tmp 3, .tmp 4, .tmp 5]) ([.bool false, .slice none 0 0, .slice none 0 0, .int .i64 (70 : Int)]) ([]) rfl ?_ rfl ?_ ?_ _ (.inl rfl)
          ·exact ⟨rfl, rfl, rfl, rfl, trivial⟩
          ·exact ⟨[], none, 0, none, 0, View.nil, View.nil, (by omega), rfl, rfl⟩
          ·exact (fun w m => m.pick [] 1 rfl rfl)
         ·replace hq26 := if_f hq26 h91
          refine Z14 rfl (decide_eq_false h91) (CW.skip (Z1 (Z2 (Z0 (Z125 (0) rfl rfl rfl rfl rfl (by omega)) rfl (Z0 (Z29 rfl Zh rfl rfl rfl (u64s_at (vat' (by decide)))) rfl ?_)))))
          obtain ⟨g92, hq26⟩ := Z124 hq26
          refine Z0 (RV.conv64_i rfl (by first | rfl | exact lit64 _ rfl) rfl rfl (by first | omega | (simp; omega))) rfl ?_
          have m93 := (x65[0]).isLt
          refine Z0 (Z5 rfl) rfl (Z6 ?_)
          exact QW.join ⟨((a0.drop 1).drop (n15 - 55)), (x65[0]).toNat, (subA (subA A0_ c0_ 1 1) (c0_ - 1) (n15 - 55) 1), ((c0_ - 1) - (n15 - 55)), (Zi hq26).symm, v80, (by omega), rfl, rfl⟩ ⟨rfl, rfl, rfl, trivial⟩ (fun w m => m.pick [] 1 rfl rfl)
       ·skip
        refine Z151 10 mixed (by kernel_rfl) rfl (Z18 0 rfl (by kernel_rfl) rfl (Z3 rfl) rfl ?_)
        obtain ⟨x94, hx95, hq72⟩ := Z105 hq72
        have hl96 := Z145 hx95
        refine Z18 1 rfl (by kernel_rfl) rfl (Z152 (0) rfl rfl rfl rfl rfl (v22.isSome (by decide) hl96) (by omega)) rfl (Z18 2 rfl (by kernel_rfl) rfl (Z21 rfl rfl rfl (fun w m => v22.cell (More.of hΦ 1 m rfl) (u8s_at hx95))) rfl (Z18 3 rfl (by kernel_rfl) rfl (RV.eql8 rfl (by first | rfl | exact lit8 _ rfl) rfl (by first | rfl | exact lit8 _ rfl)) rfl (Z18 4 rfl (by kernel_rfl) rfl (Z3 rfl) rfl ?_)))
        by_cases h97 : x94 = 0#8
        ·replace hq72 := if_t hq72 h97
         refine UW.slot (.bool true) (congrArg Value.bool (decide_eq_true h97)) (UW.skip 5 rfl (by kernel_rfl) rfl rfl (UW.skip 6 rfl (by kernel_rfl) rfl rfl (UW.skip 7 rfl (by kernel_rfl) rfl rfl (UW.skip 8 rfl (by kernel_rfl) rfl rfl (Z18 9 rfl (by kernel_rfl) rfl (Z108 rfl rfl rfl) rfl (UW.nil (by kernel_rfl) (Z6 ?_)))))))
         exact QW.join ⟨true, (Zi hq72).symm, rfl, rfl⟩ ⟨rfl, rfl, rfl, rfl, rfl, trivial⟩ (fun w m => m.pick [0] 1 rfl rfl)
        ·replace hq72 := if_f hq72 h97
         refine UW.slot (.bool false) (congrArg Value.bool (decide_eq_false h97)) (Z18 5 rfl (by kernel_rfl) rfl (Z22 rfl Zh rfl rfl rfl rfl ((Z102 _).trans Zv)) rfl ?_)
         obtain ⟨x99, hx98, hq72⟩ := Z105 hq72
         refine Z25 6 rfl (by kernel_rfl) rfl Tryd.call104 rfl (fun N' hN' => u256_From_does w0 (More w0 Φ []) N' (fun w m => More.of hΦ 1 (hN' w m) rfl) (55#64) x99 hx98) rfl ?_
         rintro _ G100 rfl
         refine UW.mem (M' := ((some b70, blk (u64s x65.toList) 35) :: ([] ++ N))) (fun w m => m.appR) ?_
         obtain ⟨x103, hx102, hq72⟩ := Z105 hq72
         refine Z25 7 rfl (by kernel_rfl) rfl Tryd.call116 rfl (fun N' hN' => u256_Cmp_does w0 (More w0 Φ []) N' (fun w m => More.of hΦ 1 (hN' w m) rfl) x65 x99 x103 hx102) rfl ?_
         rintro _ G105 ⟨b104, rfl⟩
         refine UW.mem (M' := ((some b70, blk (u64s x65.toList) 35) :: ([] ++ N))) (fun w m => m.appR) (Z18 8 rfl (by kernel_rfl) rfl (RV.leq rfl rfl) rfl (Z18 9 rfl (by kernel_rfl) rfl (Z112 rfl rfl rfl) rfl (UW.nil (by kernel_rfl) (Z6 ?_))))
         exact QW.join ⟨(decide (x103 ≤ (0 : Int))), (Zi hq72).symm, rfl, rfl⟩ ⟨rfl, rfl, rfl, rfl, rfl, trivial⟩ (fun w m => m.pick [0] 1 rfl rfl)
     ·replace hq26 := if_f hq26 h59
      refine Z14 rfl (decide_eq_false h59) (CW.skip ?_)
      exact QW.join ⟨(a0.drop 1), n15, (subA A0_ c0_ 1 1), (c0_ - 1), (Zi hq26).symm, v22, (by omega), rfl, rfl⟩ ⟨rfl, rfl, rfl, trivial⟩ (fun w m => m.pick [] 0 rfl rfl)
   ·skip
    by_cases h107 : 192 ≤ x3.toNat
    ·replace hq14 := if_t hq14 h107
     refine Z13 rfl (decide_eq_true h107) (Z2 (Z0 (Z3 rfl) rfl (Z0 (RV.sub8 rfl (by first | rfl | exact lit8 _ rfl) rfl (by first | rfl | exact lit8 _ rfl)) rfl (Z0 (RV.conv8_i rfl (by first | rfl | exact lit8 _ rfl) rfl rfl) rfl ?_))))
     have m108 := ((x3 - 192#8)).isLt
     refine Z0 (Z5 rfl) rfl (Z6 ?_)
     exact QW.join ⟨(x3 - 192#8).toNat, (Zi hq14).symm, (by omega), rfl, rfl⟩ ⟨rfl, rfl, rfl, trivial⟩ (fun w m => m.pick [] 0 rfl rfl)
    ·replace hq14 := if_f hq14 h107
     refine Z14 rfl (decide_eq_false h107) (CW.skip ?_)
     exact QW.join ⟨(x3 - 128#8).toNat, (Zi hq14).symm, (by omega), rfl, rfl⟩ ⟨rfl, rfl, rfl, trivial⟩ (fun w m => m.pick [] 0 rfl rfl)
end Go.Fw.Tryd
