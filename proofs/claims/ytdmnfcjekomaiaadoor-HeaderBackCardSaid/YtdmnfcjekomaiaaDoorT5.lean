/- Part of a proof: rules that its law uses. -/
import Derived.Test.YtdmnfcjekomaiaaDoorT4
set_option linter.unusedVariables false
set_option linter.unusedSimpArgs false
set_option linter.unusedSectionVars false
set_option maxRecDepth 100000
set_option maxHeartbeats 1000000
namespace Go.Fw.Tryd
open Go Go.Proofs Go.Fw
theorem Z154 (w0 : World) (Φ : Ctx) (N : List Ent) (hΦ : ∀ w, Mem w0 w N → Φ w) (b0_ : Nat) (a0 : Sponge) (new0 : Sponge) (hf : keccak_Sponge_absorb a0 = some new0) : DoesG Tryd.prog 128 [ptr (some b0_) 0] w0 [(some b0_, blk a0.C 157)] N (fun v G => ∃ B : List Ent, v = .tuple #[] ∧ G = (some b0_, blk new0.C 157) :: B) := by
 unfold keccak_Sponge_absorb at hf
 refine DoesG.enter Tryd.func128 rfl Tryd.ntmps128 rfl (M := ((some b0_, blk a0.C 157) :: ([] ++ N))) rfl (Z4 (Z4 (Z2 (Z0 (Z3 rfl) rfl (Z0 (RV.nilCheck rfl) rfl (Z0 (Z30 rfl rfl rfl rfl) rfl (Z7 (ptr (some b0_) 26) rfl (Z0 (Z122 rfl Zh rfl rfl rfl rfl (Sponge.C_part_all _) ((Z100 _).trans Zv)) rfl (Z0 (Z3 rfl) rfl ?_)))))))))
 refine Z6 (Z1 ?_)
 obtain ⟨q1, hq2, hf⟩ := Z105 hf
 refine Z130 (fun L' M' => ∃ w3 : Sponge, q1 = w3 ∧ L' = [(0, ptr (some b0_) 0)] ∧ M' = ((some b0_, blk w3.C 157) :: ([] ++ N))) ?_ ?_
 ·rintro L5 M6 ⟨w3, e4, e7, e8⟩
  rw [e7, e8]
  clear e7 e8 L5 M6
  clear hq2
  rw [e4] at hf
  clear e4
  try dsimp only at hf
  refine Z1 (Z4 (Z2 (Z0 (Z3 rfl) rfl (Z0 (Z3 rfl) rfl (Z0 (RV.nilCheck rfl) rfl (Z0 (Z30 rfl rfl rfl rfl) rfl (Z7 (ptr (some b0_) 1) rfl (Z0 (Z122 rfl Zh rfl rfl rfl rfl (Sponge.C_lanes_all _) ((Z102 _).trans Zv)) rfl ?_))))))))
  obtain ⟨x10, hx9, hf⟩ := Z105 hf
  refine Z12 Tryd.call145 rfl (keccak_Permute_does w0 (More w0 Φ []) ((some b0_, blk w3.C 157) :: ([] ++ N)) (fun w m => More.of hΦ 1 m rfl) w3.lanes x10 hx9) rfl rfl ?_
  rintro _ G11 rfl
  refine Z20 (M' := ((some b0_, blk w3.C 157) :: ([] ++ N))) (fun w m => m.appR) (Z0 (RV.nilCheck rfl) rfl (Z0 (Z30 rfl rfl rfl rfl) rfl (Z7 (ptr (some b0_) 1) rfl ?_)))
  refine Z28 (Z116 rfl rfl rfl (Z119 _) rfl ((Z102 _).trans Zv) (by rw [Sponge.C_length]; first | omega | decide)) ?_
  refine OW.cells ({ w3 with lanes := x10 } : Sponge).C (Sponge.C_lanes_spl _ _) (Z6 (Z1 (Z2 (Z0 (Z3 rfl) rfl (Z0 (RV.nilCheck rfl) rfl (Z0 (Z30 rfl rfl rfl rfl) rfl (Z7 (ptr (some b0_) 162) rfl (Z28 (SV.store rfl rfl rfl rfl rfl (by rw [Sponge.C_length]; omega)) (OW.cells ({ ({ w3 with lanes := x10 } : Sponge) with held := (0 : Int) } : Sponge).C (Sponge.C_held_set _ _) ?_)))))))))
  refine Z6 ?_
  have e0 := Zi hf
  subst e0
  refine Z110 (rs := []) ([]) ((some b0_, blk ({ ({ w3 with lanes := x10 } : Sponge) with held := (0 : Int) } : Sponge).C 157) :: []) rfl ?_ rfl ?_ ?_ _ (.inr rfl)
  ·exact trivial
  ·exact ⟨[], rfl, rfl⟩
  ·exact (fun w m => m.pick [0] 1 rfl rfl)
 ·skip
  refine CW.block (Z139 (fun k L' M' => ∃ n13 : Nat, ∃ w15 : Sponge, (keccak_Sponge_absorb.l1 a0 k n13 w15) = some q1 ∧ (n13 ≤ 9223372036854775807) ∧ L' = [(0, ptr (some b0_) 0), (7, .agg (u8s a0.part.toList).toArray), (8, .int .i64 ((n13 : Nat) : Int))] ∧ M' = ((some b0_, blk w15.C 157) :: ([] ++ N))) (k0 := (136 - 0 + 2)) ⟨0, a0, hq2, (by omega), rfl, rfl⟩ ⟨rfl, rfl, rfl, trivial⟩ (fun w m => m.pick [0] 1 rfl rfl) ?_)
  clear hq2
  rintro k16 L19 M20 ⟨n13, w15, hl17, b14, e21, e22⟩
  rw [e21, e22]
  clear e21 e22 L19 M20
  rcases k16 with _ | k16
  ·rw [keccak_Sponge_absorb.l1] at hl17; cases hl17
  rw [keccak_Sponge_absorb.l1] at hl17
  refine Z4 (Z2 (Z0 (RV.lss rfl rfl) rfl (Z7 (.bool (decide (n13 < 136))) (congrArg Value.bool (decide_eq_decide.2 (by omega))) (Z6 (Z1 (Z4 ?_))))))
  by_cases h23 : n13 < 136
  ·replace hl17 := if_t hl17 h23
   refine Z13 rfl (decide_eq_true h23) (CW.skip (Z1 (Z4 (CW.block (Z4 (Z2 (Z0 (Z3 rfl) rfl ?_)))))))
   obtain ⟨x24, hx25, hl17⟩ := Z105 hl17
   have hl26 := (Vector.getElem?_eq_some_iff.1 hx25).1
   refine Z0 (RV.indexV (n13) rfl rfl rfl rfl rfl rfl rfl (by omega) (u8s_at (vat hx25))) rfl (Z0 (Z5 rfl) rfl (Z0 (Z5 rfl) rfl (Z6 (Z1 (CW.drawsX (([] ++ N)) [17] (fun w m => m.pick [] 1 rfl rfl) mixed (by kernel_rfl) (Z10 0 rfl (by kernel_rfl) rfl (Z3 rfl) rfl (Z10 1 rfl (by kernel_rfl) rfl (Z3 rfl) rfl (Z10 2 rfl (by kernel_rfl) rfl (RV.quo rfl rfl (by omega) (by omega) (by omega)) rfl ?_))))))))
   refine XW.slot (.int .i64 ((n13 / 8 : Nat) : Int)) (by first | rfl | (congr 1; omega)) (Z10 3 rfl (by kernel_rfl) rfl (RV.nilCheck rfl) rfl (Z10 4 rfl (by kernel_rfl) rfl (Z30 rfl rfl rfl rfl) rfl (XW.slot (ptr (some b0_) 1) rfl ?_)))
   obtain ⟨g27, hl17⟩ := Z124 hl17
   refine Z10 5 rfl (by kernel_rfl) rfl (Z125 ((n13 / 8)) rfl rfl rfl rfl rfl (by omega)) rfl ?_
   obtain ⟨x28, hx29, hl17⟩ := Z105 hl17
   refine XW.rv 6 rfl (by kernel_rfl) rfl (by kernel_rfl) (Z29 rfl Zh rfl rfl rfl (Sponge.C_lanes _ hx29)) rfl (Z10 7 rfl (by kernel_rfl) rfl (Z3 rfl) rfl (Z10 8 rfl (by kernel_rfl) rfl (RV.conv8_64 rfl (by first | rfl | exact lit8 _ rfl) rfl rfl) rfl (Z10 9 rfl (by kernel_rfl) rfl (Z3 rfl) rfl (Z10 10 rfl (by kernel_rfl) rfl (RV.rem rfl rfl (by omega) (by omega)) rfl (XW.slot (.int .i64 ((n13 % 8 : Nat) : Int)) (by first | rfl | (congr 1; omega)) (Z10 11 rfl (by kernel_rfl) rfl (RV.mul rfl rfl (by omega)) rfl (XW.slot (.int .i64 (((8 * (n13 % 8)) : Nat) : Int)) (by first | rfl | (congr 1) | (congr 1; omega)) ?_)))))))
   refine Z10 12 rfl (by kernel_rfl) rfl (RV.shl64 (s := (8 * (n13 % 8))) rfl (by first | rfl | exact lit64 _ rfl) rfl (by first | rfl | (congr 1))) rfl (Z10 13 rfl (by kernel_rfl) rfl (RV.xor64 rfl (by first | rfl | exact lit64 _ rfl) rfl (by first | rfl | exact lit64 _ rfl)) rfl (Z10 14 rfl (by kernel_rfl) rfl (RV.nilCheck rfl) rfl (Z10 15 rfl (by kernel_rfl) rfl (Z30 rfl rfl rfl rfl) rfl (XW.slot (ptr (some b0_) 1) rfl (Z10 16 rfl (by kernel_rfl) rfl (Z125 ((n13 / 8)) rfl rfl rfl rfl rfl (by omega)) rfl (XW.sv 17 rfl (by kernel_rfl) (SV.store rfl rfl rfl rfl rfl (by rw [Sponge.C_length]; omega)) (fun w m => m.pick [] 1 rfl rfl) (XW.cells ({ w15 with lanes := w15.lanes.setIfInBounds (n13 / 8) (x28 ^^^ ((x24.setWidth 64) <<< (8 * (n13 % 8)))) } : Sponge).C (Sponge.C_lanes_set _ (by omega) _) ?_)))))))
   refine XW.nil (by kernel_rfl) (Z27 (Z1 (Z2 (Z0 (RV.add rfl rfl (by omega)) rfl (Z7 (.int .i64 (((n13 + 1) : Nat) : Int)) (by first | rfl | (congr 1) | (congr 1; omega)) (Z0 (Z3 rfl) rfl (Z6 ?_)))))))
   exact Z132 (k' := k16) (Nat.lt_succ_self _) ⟨(n13 + 1), ({ w15 with lanes := w15.lanes.setIfInBounds (n13 / 8) (x28 ^^^ ((x24.setWidth 64) <<< (8 * (n13 % 8)))) } : Sponge), hl17, (by omega), rfl, rfl⟩ ⟨rfl, rfl, rfl, trivial⟩ (fun w m => m.pick [0] 1 rfl rfl)
  ·replace hl17 := if_f hl17 h23
   refine Z14 rfl (decide_eq_false h23) (CW.exit (Z9 (Z9 (Z15 ?_))))
   exact QW.join ⟨w15, (Zi hl17).symm, rfl, rfl⟩ ⟨rfl, trivial⟩ (fun w m => m.pick [0] 1 rfl rfl)
theorem keccak_Sponge_Write_does (w0 : World) (Φ : Ctx) (N : List Ent) (hΦ : ∀ w, Mem w0 w N → Φ w) (b0_ : Nat) (a0 : Sponge) (A1_ : Option Addr) (c1_ : Nat) (a1 : List (BitVec 8)) (new0 : Sponge) (va1 : View Φ A1_ a1.length c1_ 1 (u8s a1)) (hf : keccak_Sponge_Write a0 a1 = some new0) : DoesG Tryd.prog 102 [ptr (some b0_) 0, .slice A1_ a1.length c1_] w0 [(some b0_, blk a0.C 157)] N (fun v G => ∃ B : List Ent, v = .tuple #[] ∧ G = (some b0_, blk new0.C 157) :: B) := by
 unfold keccak_Sponge_Write at hf
 replace va1 := va1.mono (Ψ := More w0 Φ []) (fun w q => q.1)
 have m1 := va1.mx
 refine DoesG.enter Tryd.func102 rfl Tryd.ntmps102 rfl (M := ((some b0_, blk a0.C 157) :: ([] ++ N))) rfl (Z4 (Z4 (Z2 (Z0 (Z3 rfl) rfl (Z0 (RV.eqlS rfl rfl rfl) rfl (Z6 (Z1 (Z14 rfl rfl (CW.skip (Z1 (Z4 (Z2 (Z0 (Z3 rfl) rfl ?_)))))))))))))
 refine Z0 (RV.nilCheck rfl) rfl (Z0 (Z30 rfl rfl rfl rfl) rfl (Z7 (ptr (some b0_) 163) rfl (Z0 (Z29 rfl Zh rfl rfl rfl (Sponge.C_long _)) rfl (Z0 (Z3 rfl) rfl (Z0 (RV.len rfl rfl) rfl ?_)))))
 obtain ⟨g2, hf⟩ := Z124 hf
 refine Z0 (RV.add rfl rfl (by omega)) rfl (Z0 (RV.nilCheck rfl) rfl (Z0 (Z30 rfl rfl rfl rfl) rfl (Z7 (ptr (some b0_) 163) rfl (Z28 (SV.store rfl rfl rfl rfl rfl (by rw [Sponge.C_length]; omega)) (OW.cells ({ a0 with long := (a0.long + ((a1.length : Nat) : Int)) } : Sponge).C (Sponge.C_long_set _ _) (Z6 (Z1 ?_)))))))
 obtain ⟨q3, hq4, hf⟩ := Z105 hf
 refine Z130 (fun L' M' => ∃ w7 : Sponge, ∃ B5 : List Ent, q3 = w7 ∧ (∀ w, Mem w0 w B5 → Mem w0 w []) ∧ L' = [] ∧ M' = ((some b0_, blk w7.C 157) :: (B5 ++ N))) ?_ ?_
 ·rintro L9 M10 ⟨w7, B5, e8, hB6, e11, e12⟩
  rw [e11, e12]
  clear e11 e12 L9 M10
  clear hq4
  rw [e8] at hf
  clear e8
  try dsimp only at hf
  have e0 := Zi hf
  subst e0
  refine Z110 (rs := []) ([]) ((some b0_, blk w7.C 157) :: B5) rfl ?_ rfl ?_ ?_ _ (.inr rfl)
  ·exact trivial
  ·exact ⟨B5, rfl, rfl⟩
  ·exact (fun w m => m.pick [0] 1 rfl rfl)
 ·skip
  refine CW.block (Z139 (fun k L' M' => ∃ l15 : List (BitVec 8), ∃ w19 : Sponge, ∃ B13 : List Ent, ∃ A16 : Option Addr, ∃ c17 : Nat, (keccak_Sponge_Write.l1 k l15 w19) = some q3 ∧ (∀ w, Mem w0 w B13 → Mem w0 w []) ∧ (View (More w0 Φ B13) A16 l15.length c17 1 (u8s l15)) ∧ L' = [(0, ptr (some b0_) 0), (1, .slice A16 l15.length c17)] ∧ M' = ((some b0_, blk w19.C 157) :: (B13 ++ N))) (k0 := (a1.length - 0 + 2)) ⟨a1, ({ a0 with long := (a0.long + ((a1.length : Nat) : Int)) } : Sponge), [], A1_, c1_, hq4, (fun w m => m), va1, rfl, rfl⟩ ⟨rfl, rfl, trivial⟩ (fun w m => m.pick [0] 1 rfl rfl) ?_)
  clear hq4
  rintro k20 L23 M24 ⟨l15, w19, B13, A16, c17, hl21, hB14, v18, e25, e26⟩
  rw [e25, e26]
  clear e25 e26 L23 M24
  rcases k20 with _ | k20
  ·rw [keccak_Sponge_Write.l1] at hl21; cases hl21
  rw [keccak_Sponge_Write.l1] at hl21
  have m27 := v18.mx
  refine Z4 (Z4 (Z2 (Z0 (Z3 rfl) rfl (Z0 (RV.len rfl rfl) rfl (Z0 (RV.gtr rfl rfl) rfl (Z7 (.bool (decide (0 < l15.length))) (congrArg Value.bool (decide_eq_decide.2 (by omega))) (Z6 (Z1 ?_))))))))
  by_cases h28 : 0 < l15.length
  ·replace hl21 := if_t hl21 h28
   refine Z13 rfl (decide_eq_true h28) (CW.skip (Z1 (CW.block (Z4 (Z151 9 mixed (by kernel_rfl) rfl (Z18 0 rfl (by kernel_rfl) rfl (Z3 rfl) rfl (Z18 1 rfl (by kernel_rfl) rfl (RV.nilCheck rfl) rfl (Z18 2 rfl (by kernel_rfl) rfl (Z30 rfl rfl rfl rfl) rfl (UW.slot (ptr (some b0_) 26) rfl (Z18 3 rfl (by kernel_rfl) rfl (Z3 rfl) rfl ?_))))))))))
   refine Z18 4 rfl (by kernel_rfl) rfl (RV.nilCheck rfl) rfl (Z18 5 rfl (by kernel_rfl) rfl (Z30 rfl rfl rfl rfl) rfl (UW.slot (ptr (some b0_) 162) rfl (Z18 6 rfl (by kernel_rfl) rfl (Z29 rfl Zh rfl rfl rfl (Sponge.C_held _)) rfl ?_)))
   obtain ⟨g29, hl21⟩ := Z124 hl21
   obtain ⟨g30, hl21⟩ := Z124 hl21
   refine Z18 7 rfl (by kernel_rfl) rfl (RV.arr_loS ((w19.held).toNat) rfl rfl (by omega) rfl rfl (by omega)) rfl (Z18 8 rfl (by kernel_rfl) rfl (Z3 rfl) rfl (UW.nil (by kernel_rfl) (OW.copy (ob := some b0_) (off := 26 + ((w19.held).toNat)) rfl rfl rfl rfl (fun h => nomatch h) (by rw [Sponge.C_length]; omega) (fun w m => v18.rd w (More.of hΦ 1 m rfl)) (Z100 _) (Z133 _) (v18.zero (by decide)) rfl ?_)))
   refine OW.cells ({ w19 with part := cpV w19.part ((w19.held).toNat) (l15.take (min l15.length (136 - ((w19.held).toNat)))) } : Sponge).C (by rw [u8s_take]; exact Sponge.C_part_cpy _ (by rw [List.length_take]; omega)) ?_
   refine Z0 (Z5 rfl) rfl (Z6 (Z1 (Z4 (Z2 (Z0 (Z3 rfl) rfl (Z0 (Z3 rfl) rfl ?_))))))
   obtain ⟨g32, hl21⟩ := Z124 hl21
   refine Z0 (RV.cut_lo (s := 1) ((min l15.length (136 - ((w19.held).toNat)))) rfl rfl (by omega) rfl rfl (by omega)) rfl (Z7 (.slice (subA A16 c17 (min l15.length (136 - ((w19.held).toNat))) 1) (l15.drop (min l15.length (136 - ((w19.held).toNat)))).length (c17 - (min l15.length (136 - ((w19.held).toNat))))) (by rw [show ((l15.drop (min l15.length (136 - ((w19.held).toNat))))).length = (l15).length - ((min l15.length (136 - ((w19.held).toNat)))) from List.length_drop]) ?_)
   have v31 : View (More w0 Φ B13) (subA A16 c17 (min l15.length (136 - ((w19.held).toNat))) 1) (l15.drop (min l15.length (136 - ((w19.held).toNat)))).length (c17 - (min l15.length (136 - ((w19.held).toNat)))) 1 (u8s (l15.drop (min l15.length (136 - ((w19.held).toNat))))) := v18.lo8 (by omega)
   have m33 := v31.mx
   refine Z0 (Z5 rfl) rfl (Z6 (Z1 (Z4 (Z2 (Z0 (Z3 rfl) rfl (Z0 (RV.nilCheck rfl) rfl (Z0 (Z30 rfl rfl rfl rfl) rfl (Z7 (ptr (some b0_) 162) rfl (Z0 (Z29 rfl Zh rfl rfl rfl (Sponge.C_held _)) rfl (Z0 (Z3 rfl) rfl ?_))))))))))
   obtain ⟨g34, hl21⟩ := Z124 hl21
   refine Z0 (RV.add rfl rfl (by omega)) rfl (Z0 (RV.nilCheck rfl) rfl (Z0 (Z30 rfl rfl rfl rfl) rfl (Z7 (ptr (some b0_) 162) rfl (Z28 (SV.store rfl rfl rfl rfl rfl (by rw [Sponge.C_length]; omega)) (OW.cells ({ ({ w19 with part := cpV w19.part ((w19.held).toNat) (l15.take (min l15.length (136 - ((w19.held).toNat)))) } : Sponge) with held := (({ w19 with part := cpV w19.part ((w19.held).toNat) (l15.take (min l15.length (136 - ((w19.held).toNat)))) } : Sponge).held + (((min l15.length (136 - ((w19.held).toNat))) : Nat) : Int)) } : Sponge).C (Sponge.C_held_set _ _) (Z6 (Z1 (Z4 (Z2 (Z0 (Z3 rfl) rfl ?_))))))))))
   refine Z0 (RV.nilCheck rfl) rfl (Z0 (Z30 rfl rfl rfl rfl) rfl (Z7 (ptr (some b0_) 162) rfl (Z0 (Z29 rfl Zh rfl rfl rfl (Sponge.C_held _)) rfl (Z0 (RV.eql rfl rfl) rfl (Z6 (Z1 ?_))))))
   obtain ⟨q35, hq36, hl21⟩ := Z105 hl21
   refine Z130 (fun L' M' => ∃ w39 : Sponge, ∃ B37 : List Ent, q35 = w39 ∧ (∀ w, Mem w0 w B37 → Mem w0 w B13) ∧ L' = [(0, ptr (some b0_) 0), (1, .slice (subA A16 c17 (min l15.length (136 - ((w19.held).toNat))) 1) (l15.drop (min l15.length (136 - ((w19.held).toNat)))).length (c17 - (min l15.length (136 - ((w19.held).toNat)))))] ∧ M' = ((some b0_, blk w39.C 157) :: (B37 ++ N))) ?_ ?_
   ·rintro L41 M42 ⟨w39, B37, e40, hB38, e43, e44⟩
    rw [e43, e44]
    clear e43 e44 L41 M42
    clear hq36
    rw [e40] at hl21
    clear e40
    try dsimp only at hl21
    have gq3 : ∀ w, More w0 Φ B37 w → More w0 Φ B13 w := fun w q => More.mono (fun w m => hB38 w (m)) q
    replace v31 := v31.mono gq3
    refine Z27 ?_
    exact Z132 (k' := k20) (Nat.lt_succ_self _) ⟨(l15.drop (min l15.length (136 - ((w19.held).toNat)))), w39, B37, (subA A16 c17 (min l15.length (136 - ((w19.held).toNat))) 1), (c17 - (min l15.length (136 - ((w19.held).toNat)))), hl21, (fun w m => hB14 w (hB38 w (m))), v31, rfl, rfl⟩ ⟨rfl, rfl, trivial⟩ (fun w m => m.pick [0] 1 rfl rfl)
   ·skip
    by_cases h45 : ({ ({ w19 with part := cpV w19.part ((w19.held).toNat) (l15.take (min l15.length (136 - ((w19.held).toNat)))) } : Sponge) with held := (({ w19 with part := cpV w19.part ((w19.held).toNat) (l15.take (min l15.length (136 - ((w19.held).toNat)))) } : Sponge).held + (((min l15.length (136 - ((w19.held).toNat))) : Nat) : Int)) } : Sponge).held = (136 : Int)
    ·replace hq36 := if_t hq36 h45
     refine Z13 rfl (decide_eq_true h45) (Z2 (Z0 (Z3 rfl) rfl ?_))
     obtain ⟨x47, hx46, hq36⟩ := Z105 hq36
     refine Z12 Tryd.call128 rfl (Z154 w0 (More w0 Φ B13) ((B13 ++ N)) (fun w m => More.of hΦ 0 m rfl) b0_ ({ ({ w19 with part := cpV w19.part ((w19.held).toNat) (l15.take (min l15.length (136 - ((w19.held).toNat)))) } : Sponge) with held := (({ w19 with part := cpV w19.part ((w19.held).toNat) (l15.take (min l15.length (136 - ((w19.held).toNat)))) } : Sponge).held + (((min l15.length (136 - ((w19.held).toNat))) : Nat) : Int)) } : Sponge) x47 hx46) rfl rfl ?_
     rintro L49 M50 ⟨B48, e51, e52⟩
     rw [e51, e52]
     clear e51 e52 L49 M50
     refine Z20 (M' := ((some b0_, blk x47.C 157) :: ((B48 ++ B13) ++ N))) (fun w m => by have h := Z118 (A := B48) m 1 0 rfl rfl; exact h) ?_
     have gq4 : ∀ w, More w0 Φ (B48 ++ B13) w → More w0 Φ B13 w := fun w q => More.mono (fun w m => (m).appR) q
     replace v31 := v31.mono gq4
     replace v18 := v18.mono gq4
     refine Z6 ?_
     exact QW.join ⟨x47, (B48 ++ B13), (Zi hq36).symm, (fun w m => (m).appR), rfl, rfl⟩ ⟨rfl, rfl, trivial⟩ (fun w m => m.pick [0] 1 rfl rfl)
    ·replace hq36 := if_f hq36 h45
     refine Z14 rfl (decide_eq_false h45) (CW.skip ?_)
     exact QW.join ⟨({ ({ w19 with part := cpV w19.part ((w19.held).toNat) (l15.take (min l15.length (136 - ((w19.held).toNat)))) } : Sponge) with held := (({ w19 with part := cpV w19.part ((w19.held).toNat) (l15.take (min l15.length (136 - ((w19.held).toNat)))) } : Sponge).held + (((min l15.length (136 - ((w19.held).toNat))) : Nat) : Int)) } : Sponge), B13, (Zi hq36).symm, (fun w m => m), rfl, rfl⟩ ⟨rfl, rfl, trivial⟩ (fun w m => m.pick [0] 1 rfl rfl)
  ·replace hl21 := if_f hl21 h28
   refine Z14 rfl (decide_eq_false h28) (CW.exit (Z9 (Z9 (Z15 ?_))))
   exact QW.join ⟨w19, B13, (Zi hl21).symm, (fun w m => hB14 w (m)), rfl, rfl⟩ trivial (fun w m => m.pick [0] 1 rfl rfl)
theorem keccak_Sponge_Sum_does (w0 : World) (Φ : Ctx) (N : List Ent) (hΦ : ∀ w, Mem w0 w N → Φ w) (b0_ : Nat) (a0 : Sponge) (res0 : Vector (BitVec 8) 32) (new0 : Sponge) (hg1 : View Φ (some ⟨1, 0, none⟩) 2 2 1 (u8s firstL)) (hf : keccak_Sponge_Sum a0 = some (res0, new0)) : DoesG Tryd.prog 103 [ptr (some b0_) 0] w0 [(some b0_, blk a0.C 157)] N (fun v G => ∃ B : List Ent, v = .agg (u8s res0.toList).toArray ∧ G = (some b0_, blk new0.C 157) :: B) := by
 unfold keccak_Sponge_Sum at hf
 replace hg1 := hg1.mono (Ψ := More w0 Φ []) (fun w q => q.1)
 refine DoesG.enter Tryd.func103 rfl Tryd.ntmps103 rfl (M := ((some b0_, blk a0.C 157) :: ([] ++ N))) rfl (Z4 (Z2 (OW.alloc (l := (u8s (Vector.replicate 32 0#8).toList)) rfl (by rw [Vector.toList_replicate, ← u8s_rep']; rfl) rfl (fun b1 => (Z6 (Z1 (Z4 (Z4 (Z2 (Z0 (Z3 rfl) rfl (Z0 (RV.eqlS rfl rfl rfl) rfl (Z6 (Z1 (Z14 rfl rfl ?_))))))))))))))
 refine CW.skip (Z1 (Z4 (Z2 (Z0 (Z3 rfl) rfl (Z0 (RV.nilCheck rfl) rfl (Z0 (Z22 rfl (List.Mem.tail _ Zh) rfl rfl rfl rfl (Sponge.C_length _)) rfl (OW.alloc (l := (⟨0, (Vector.replicate 25 0#64), (Vector.replicate 136 0#8), 0, 0⟩ : Sponge).C) rfl (by kernel_rfl) rfl (fun b2 => (Z28 (Z107 rfl rfl rfl (Sponge.C_one _) rfl (Sponge.C_length _) (Sponge.C_length _)) (Z6 (Z1 (Z4 (Z2 (Z0 (Z30 rfl rfl rfl rfl) rfl ?_))))))))))))))
 refine Z7 (ptr (some b2) 26) rfl (Z0 (Z30 rfl rfl rfl rfl) rfl (Z7 (ptr (some b2) 162) rfl (Z0 (Z29 rfl Zh rfl rfl rfl (Sponge.C_held _)) rfl ?_)))
 obtain ⟨g3, hf⟩ := Z124 hf
 obtain ⟨g4, hf⟩ := Z124 hf
 refine Z0 (RV.arr_loS ((a0.held).toNat) rfl rfl (by omega) rfl rfl (by omega)) rfl (OW.clear (z := .int .u8 0) (b := b2) (off := 26 + ((a0.held).toNat)) rfl rfl rfl rfl rfl (by omega) (by rw [Sponge.C_length]; omega) ?_)
 refine OW.cells ({ a0 with part := cpV a0.part ((a0.held).toNat) (List.replicate (136 - ((a0.held).toNat)) 0#8) } : Sponge).C (by rw [u8s_rep0]; exact Sponge.C_part_cpy _ (by rw [List.length_replicate]; omega)) ?_
 refine Z6 (Z1 (Z4 (CW.drawsX ((some b1, blk (u8s (Vector.replicate 32 0#8).toList) 28) :: (some b0_, blk a0.C 157) :: ([] ++ N)) [12] (fun w m => m.pick [1, 2] 3 rfl rfl) mixed (by kernel_rfl) (Z10 0 rfl (by kernel_rfl) rfl (Z30 rfl rfl rfl rfl) rfl (XW.slot (ptr (some b2) 162) rfl (XW.rv 1 rfl (by kernel_rfl) rfl (by kernel_rfl) (Z29 rfl Zh rfl rfl rfl (Sponge.C_held _)) rfl (Z10 2 rfl (by kernel_rfl) rfl (Z30 rfl rfl rfl rfl) rfl (XW.slot (ptr (some b2) 26) rfl ?_))))))))
 obtain ⟨g5, hf⟩ := Z124 hf
 obtain ⟨g6, hf⟩ := Z124 hf
 refine Z10 3 rfl (by kernel_rfl) rfl (Z125 ((({ a0 with part := cpV a0.part ((a0.held).toNat) (List.replicate (136 - ((a0.held).toNat)) 0#8) } : Sponge).held).toNat) rfl rfl (by omega) rfl rfl (by omega)) rfl ?_
 obtain ⟨x7, hx8, hf⟩ := Z105 hf
 refine XW.rv 4 rfl (by kernel_rfl) rfl (by kernel_rfl) (Z29 rfl Zh rfl rfl rfl (Sponge.C_part _ hx8)) rfl (Z10 5 rfl (by kernel_rfl) rfl (Z30 rfl rfl rfl rfl) rfl (XW.slot (ptr (some b2) 0) rfl (XW.rv 6 rfl (by kernel_rfl) rfl (by kernel_rfl) (Z29 rfl Zh rfl rfl rfl (Sponge.C_kind _)) rfl ?_)))
 obtain ⟨g9, hf⟩ := Z124 hf
 obtain ⟨x10, hx11, hf⟩ := Z105 hf
 have hl12 : (({ a0 with part := cpV a0.part ((a0.held).toNat) (List.replicate (136 - ((a0.held).toNat)) 0#8) } : Sponge).kind).toNat < 2 := Z145 hx11
 refine Z10 7 rfl (by kernel_rfl) rfl (RV.idx_arr_at (a := ⟨1, 0, none⟩) rfl rfl rfl rfl (by omega) (by omega)) rfl (XW.slot (rptr (some ⟨1, 0, none⟩) ((({ a0 with part := cpV a0.part ((a0.held).toNat) (List.replicate (136 - ((a0.held).toNat)) 0#8) } : Sponge).kind).toNat)) (congrArg (fun k => Value.pointer (some (Addr.add ⟨1, 0, none⟩ k))) (Nat.mul_one _)) (Z10 8 rfl (by kernel_rfl) rfl (Z21 rfl rfl rfl (fun w m => hg1.cell (More.of hΦ 2 m rfl) (u8s_at hx11))) rfl (Z10 9 rfl (by kernel_rfl) rfl (RV.xor8 rfl (by first | rfl | exact lit8 _ rfl) rfl (by first | rfl | exact lit8 _ rfl)) rfl (Z10 10 rfl (by kernel_rfl) rfl (Z30 rfl rfl rfl rfl) rfl (XW.slot (ptr (some b2) 26) rfl (Z10 11 rfl (by kernel_rfl) rfl (Z125 ((({ a0 with part := cpV a0.part ((a0.held).toNat) (List.replicate (136 - ((a0.held).toNat)) 0#8) } : Sponge).held).toNat) rfl rfl (by omega) rfl rfl (by omega)) rfl (XW.sv 12 rfl (by kernel_rfl) (SV.store rfl rfl rfl rfl rfl (by rw [Sponge.C_length]; omega)) (fun w m => m.pick [1, 2] 3 rfl rfl) ?_)))))))
 refine XW.cells ({ ({ a0 with part := cpV a0.part ((a0.held).toNat) (List.replicate (136 - ((a0.held).toNat)) 0#8) } : Sponge) with part := ({ a0 with part := cpV a0.part ((a0.held).toNat) (List.replicate (136 - ((a0.held).toNat)) 0#8) } : Sponge).part.setIfInBounds ((({ a0 with part := cpV a0.part ((a0.held).toNat) (List.replicate (136 - ((a0.held).toNat)) 0#8) } : Sponge).held).toNat) (x7 ^^^ x10) } : Sponge).C (Sponge.C_part_set _ (by omega) _) (XW.nil (by kernel_rfl) (Z1 (Z4 (Z2 (Z0 (Z30 rfl rfl rfl rfl) rfl (Z7 (ptr (some b2) 26) rfl (Z0 (Z125 (135) rfl rfl rfl rfl rfl (by omega)) rfl ?_)))))))
 refine Z0 (Z29 rfl Zh rfl rfl rfl (Sponge.C_part _ (Vector.getElem?_eq_getElem (by decide)))) rfl ?_
 refine Z0 (RV.xor8 rfl (by first | rfl | exact lit8 _ rfl) rfl (by first | rfl | exact lit8 _ rfl)) rfl (Z0 (Z30 rfl rfl rfl rfl) rfl (Z7 (ptr (some b2) 26) rfl (Z0 (Z125 (135) rfl rfl rfl rfl rfl (by omega)) rfl (Z28 (SV.store rfl rfl rfl rfl rfl (by rw [Sponge.C_length]; omega)) (OW.cells ({ ({ ({ a0 with part := cpV a0.part ((a0.held).toNat) (List.replicate (136 - ((a0.held).toNat)) 0#8) } : Sponge) with part := ({ a0 with part := cpV a0.part ((a0.held).toNat) (List.replicate (136 - ((a0.held).toNat)) 0#8) } : Sponge).part.setIfInBounds ((({ a0 with part := cpV a0.part ((a0.held).toNat) (List.replicate (136 - ((a0.held).toNat)) 0#8) } : Sponge).held).toNat) (x7 ^^^ x10) } : Sponge) with part := ({ ({ a0 with part := cpV a0.part ((a0.held).toNat) (List.replicate (136 - ((a0.held).toNat)) 0#8) } : Sponge) with part := ({ a0 with part := cpV a0.part ((a0.held).toNat) (List.replicate (136 - ((a0.held).toNat)) 0#8) } : Sponge).part.setIfInBounds ((({ a0 with part := cpV a0.part ((a0.held).toNat) (List.replicate (136 - ((a0.held).toNat)) 0#8) } : Sponge).held).toNat) (x7 ^^^ x10) } : Sponge).part.setIfInBounds 135 (({ ({ a0 with part := cpV a0.part ((a0.held).toNat) (List.replicate (136 - ((a0.held).toNat)) 0#8) } : Sponge) with part := ({ a0 with part := cpV a0.part ((a0.held).toNat) (List.replicate (136 - ((a0.held).toNat)) 0#8) } : Sponge).part.setIfInBounds ((({ a0 with part := cpV a0.part ((a0.held).toNat) (List.replicate (136 - ((a0.held).toNat)) 0#8) } : Sponge).held).toNat) (x7 ^^^ x10) } : Sponge).part[135] ^^^ 128#8) } : Sponge).C (Sponge.C_part_set _ (by omega) _) (Z6 (Z1 (Z4 (Z2 ?_)))))))))
 obtain ⟨x14, hx13, hf⟩ := Z105 hf
 refine Z12 Tryd.call128 rfl (Z154 w0 (More w0 Φ []) ((some b1, blk (u8s (Vector.replicate 32 0#8).toList) 28) :: (some b0_, blk a0.C 157) :: ([] ++ N)) (fun w m => More.of hΦ 2 m rfl) b2 ({ ({ ({ a0 with part := cpV a0.part ((a0.held).toNat) (List.replicate (136 - ((a0.held).toNat)) 0#8) } : Sponge) with part := ({ a0 with part := cpV a0.part ((a0.held).toNat) (List.replicate (136 - ((a0.held).toNat)) 0#8) } : Sponge).part.setIfInBounds ((({ a0 with part := cpV a0.part ((a0.held).toNat) (List.replicate (136 - ((a0.held).toNat)) 0#8) } : Sponge).held).toNat) (x7 ^^^ x10) } : Sponge) with part := ({ ({ a0 with part := cpV a0.part ((a0.held).toNat) (List.replicate (136 - ((a0.held).toNat)) 0#8) } : Sponge) with part := ({ a0 with part := cpV a0.part ((a0.held).toNat) (List.replicate (136 - ((a0.held).toNat)) 0#8) } : Sponge).part.setIfInBounds ((({ a0 with part := cpV a0.part ((a0.held).toNat) (List.replicate (136 - ((a0.held).toNat)) 0#8) } : Sponge).held).toNat) (x7 ^^^ x10) } : Sponge).part.setIfInBounds 135 (({ ({ a0 with part := cpV a0.part ((a0.held).toNat) (List.replicate (136 - ((a0.held).toNat)) 0#8) } : Sponge) with part := ({ a0 with part := cpV a0.part ((a0.held).toNat) (List.replicate (136 - ((a0.held).toNat)) 0#8) } : Sponge).part.setIfInBounds ((({ a0 with part := cpV a0.part ((a0.held).toNat) (List.replicate (136 - ((a0.held).toNat)) 0#8) } : Sponge).held).toNat) (x7 ^^^ x10) } : Sponge).part[135] ^^^ 128#8) } : Sponge) x14 hx13) rfl rfl ?_
 rintro L16 M17 ⟨B15, e18, e19⟩
 rw [e18, e19]
 clear e18 e19 L16 M17
 refine Z20 (M' := ((some b2, blk x14.C 157) :: (some b1, blk (u8s (Vector.replicate 32 0#8).toList) 28) :: (some b0_, blk a0.C 157) :: ((B15 ++ []) ++ N))) (fun w m => by have h := Z118 (A := B15) m 1 2 rfl rfl; exact h) ?_
 have gq1 : ∀ w, More w0 Φ (B15 ++ []) w → More w0 Φ [] w := fun w q => More.mono (fun w m => (m).appR) q
 replace hg1 := hg1.mono gq1
 refine Z6 (Z1 (Z4 (Z2 (OW.alloc (l := (u8s (Vector.replicate 32 0#8).toList)) rfl (by rw [Vector.toList_replicate, ← u8s_rep']; rfl) rfl (fun b20 => (Z6 (Z1 (Z4 (Z4 (Z2 (Z0 (Z3 rfl) rfl (Z6 (Z1 ?_)))))))))))))
 obtain ⟨q21, hq22, hf⟩ := Z105 hf
 refine Z130 (fun L' M' => ∃ w23 : Vector (BitVec 8) 32, q21 = w23 ∧ L' = [(2, ptr (some b1) 0), (4, ptr (some b20) 0)] ∧ M' = ((some b20, blk (u8s w23.toList) 28) :: (some b1, blk (u8s (Vector.replicate 32 0#8).toList) 28) :: (some b0_, blk a0.C 157) :: ((B15 ++ []) ++ N))) ?_ ?_
 ·rintro L25 M26 ⟨w23, e24, e27, e28⟩
  rw [e27, e28]
  clear e27 e28 L25 M26
  clear hq22
  rw [e24] at hf
  clear e24
  try dsimp only at hf
  refine Z1 (Z4 (Z2 (Z0 (Z22 rfl Zh rfl rfl rfl rfl ((Z100 _).trans Zv)) rfl (OW.rot1 (Z28 (Z107 rfl rfl rfl (Z133 _) rfl ((Z100 _).trans Zv) ((Z100 _).trans Zv)) (Z6 (Z1 (CW.ret ?_))))))))
  have er0 := Zi hf
  obtain ⟨e0, er1⟩ := Prod.mk.inj er0
  clear er0
  subst e0
  subst er1
  refine Z110 (rs := [.cell 2 28]) ([.agg (u8s w23.toList).toArray]) ((some b0_, blk a0.C 157) :: (B15 ++ [])) rfl ?_ rfl ?_ ?_ _ (.inl rfl)
  ·exact ⟨⟨_, _, _, _, rfl, Zh, rfl, rfl, (congrArg some ((Z100 _).trans Zv).symm), rfl⟩, trivial⟩
  ·exact ⟨(B15 ++ []), rfl, rfl⟩
  ·exact (fun w m => m.pick [2] 3 rfl rfl)
 ·skip
  refine CW.block (Z139 (fun k L' M' => ∃ n29 : Nat, ∃ w31 : Vector (BitVec 8) 32, (keccak_Sponge_Sum.l1 x14 k n29 w31) = some q21 ∧ (n29 ≤ 9223372036854775807) ∧ L' = [(2, ptr (some b1) 0), (3, ptr (some b2) 0), (4, ptr (some b20) 0), (35, .int .i64 ((n29 : Nat) : Int))] ∧ M' = ((some b20, blk (u8s w31.toList) 28) :: (some b2, blk x14.C 157) :: (some b1, blk (u8s (Vector.replicate 32 0#8).toList) 28) :: (some b0_, blk a0.C 157) :: ((B15 ++ []) ++ N))) (k0 := (32 - 0 + 2)) ⟨0, (Vector.replicate 32 0#8), hq22, (by omega), rfl, rfl⟩ ⟨rfl, rfl, rfl, rfl, trivial⟩ (fun w m => m.pick [0, 1, 2, 3] 4 rfl rfl) ?_)
  clear hq22
  rintro k32 L35 M36 ⟨n29, w31, hl33, b30, e37, e38⟩
  rw [e37, e38]
  clear e37 e38 L35 M36
  rcases k32 with _ | k32
  ·rw [keccak_Sponge_Sum.l1] at hl33; cases hl33
  rw [keccak_Sponge_Sum.l1] at hl33
  refine Z4 (Z2 (Z0 (RV.lss rfl rfl) rfl (Z7 (.bool (decide (n29 < 32))) (congrArg Value.bool (decide_eq_decide.2 (by omega))) (Z6 (Z1 (Z4 ?_))))))
  by_cases h39 : n29 < 32
  ·replace hl33 := if_t hl33 h39
   refine Z13 rfl (decide_eq_true h39) (CW.skip (Z1 (Z4 (CW.block (Z4 (Z2 (Z0 (Z3 rfl) rfl (Z0 (Z5 rfl) rfl (Z6 (Z1 (Z2 (Z0 (Z3 rfl) rfl (Z0 (Z3 rfl) rfl (Z0 (RV.quo rfl rfl (by omega) (by omega) (by omega)) rfl ?_))))))))))))))
   refine Z7 (.int .i64 ((n29 / 8 : Nat) : Int)) (by first | rfl | (congr 1; omega)) (Z0 (Z30 rfl rfl rfl rfl) rfl (Z7 (ptr (some b2) 1) rfl ?_))
   obtain ⟨g40, hl33⟩ := Z124 hl33
   refine Z0 (Z125 ((n29 / 8)) rfl rfl rfl rfl rfl (by omega)) rfl ?_
   obtain ⟨x41, hx42, hl33⟩ := Z105 hl33
   refine Z0 (Z29 rfl (List.Mem.tail _ Zh) rfl rfl rfl (Sponge.C_lanes _ hx42)) rfl (Z0 (Z3 rfl) rfl (Z0 (RV.rem rfl rfl (by omega) (by omega)) rfl (Z7 (.int .i64 ((n29 % 8 : Nat) : Int)) (by first | rfl | (congr 1; omega)) (Z0 (RV.mul rfl rfl (by omega)) rfl (Z7 (.int .i64 (((8 * (n29 % 8)) : Nat) : Int)) (by first | rfl | (congr 1) | (congr 1; omega)) (Z0 (RV.shr64 (s := (8 * (n29 % 8))) rfl (by first | rfl | exact lit64 _ rfl) rfl (by first | rfl | (congr 1))) rfl (Z0 (RV.conv64_8 rfl (by first | rfl | exact lit64 _ rfl) rfl rfl) rfl ?_)))))))
   refine Z0 (Z125 (n29) rfl rfl rfl rfl rfl (by omega)) rfl (Z28 (SV.store rfl rfl rfl rfl rfl (by rw [Z100, Zv]; omega)) (OW.cells (u8s (w31.setIfInBounds n29 ((x41 >>> (8 * (n29 % 8))).setWidth 8)).toList) (by rw [Nat.zero_add, u8s_set', vset]) (Z6 (Z27 (Z1 (Z2 (Z0 (RV.add rfl rfl (by omega)) rfl (Z7 (.int .i64 (((n29 + 1) : Nat) : Int)) (by first | rfl | (congr 1) | (congr 1; omega)) (Z0 (Z3 rfl) rfl (Z6 ?_))))))))))
   exact Z132 (k' := k32) (Nat.lt_succ_self _) ⟨(n29 + 1), (w31.setIfInBounds n29 ((x41 >>> (8 * (n29 % 8))).setWidth 8)), hl33, (by omega), rfl, rfl⟩ ⟨rfl, rfl, rfl, rfl, trivial⟩ (fun w m => m.pick [0, 1, 2, 3] 4 rfl rfl)
  ·replace hl33 := if_f hl33 h39
   refine Z14 rfl (decide_eq_false h39) (CW.exit (Z9 (Z9 (Z15 ?_))))
   exact QW.join ⟨w31, (Zi hl33).symm, rfl, rfl⟩ ⟨rfl, rfl, trivial⟩ (fun w m => m.pick [0, 2, 3] 4 rfl rfl)
theorem keccak_digest_does (w0 : World) (Φ : Ctx) (N : List Ent) (hΦ : ∀ w, Mem w0 w N → Φ w) (a0 : Int) (A1_ : Option Addr) (c1_ : Nat) (cs1_ : List Value) (a1 : List (List (BitVec 8))) (res0 : Vector (BitVec 8) 32) (ba0 : -9223372036854775808 ≤ a0 ∧ a0 ≤ 9223372036854775807) (va1 : View Φ A1_ a1.length c1_ 1 cs1_) (ha1 : Reps (BsRd Φ) cs1_ a1) (hg1 : View Φ (some ⟨1, 0, none⟩) 2 2 1 (u8s firstL)) (hf : keccak_digest a0 a1 = some res0) : DoesG Tryd.prog 66 [.int .i64 a0, .slice A1_ a1.length c1_] w0 [] N (fun v G => v = .agg (u8s res0.toList).toArray) := by
 unfold keccak_digest at hf
 replace va1 := va1.mono (Ψ := More w0 Φ []) (fun w q => q.1)
 replace hg1 := hg1.mono (Ψ := More w0 Φ []) (fun w q => q.1)
 replace ha1 := ha1.mono (BsRd.mono (Ψ := More w0 Φ []) (fun w q => q.1))
 have m1 := va1.mx
 refine DoesG.enter Tryd.func66 rfl Tryd.ntmps66 rfl (M := (([] ++ N))) rfl (Z4 (Z2 (OW.alloc (l := (u8s (Vector.replicate 32 0#8).toList)) rfl (by rw [Vector.toList_replicate, ← u8s_rep']; rfl) rfl (fun b2 => (Z6 (Z1 (Z4 (Z2 (Z0 (Z3 rfl) rfl (Z0 (Z117 (l := (⟨0, (Vector.replicate 25 0#64), (Vector.replicate 136 0#8), 0, 0⟩ : Sponge).C) (cs := ({ (⟨0, (Vector.replicate 25 0#64), (Vector.replicate 136 0#8), 0, 0⟩ : Sponge) with kind := a0 } : Sponge).C) [(0, [.int .i64 a0])] rfl rfl rfl rfl rfl rfl rfl) rfl (OW.alloc (l := (⟨0, (Vector.replicate 25 0#64), (Vector.replicate 136 0#8), 0, 0⟩ : Sponge).C) rfl (by kernel_rfl) rfl (fun b3 => (Z28 (Z107 rfl rfl rfl (Sponge.C_one _) rfl (Sponge.C_length _) (Sponge.C_length _)) ?_)))))))))))))
 refine Z6 (Z1 (Z4 (Z4 (Z2 (Z0 (Z3 rfl) rfl (Z0 (RV.len rfl rfl) rfl (Z0 (Z3 rfl) rfl (Z6 (Z1 ?_)))))))))
 obtain ⟨q4, hq5, hf⟩ := Z105 hf
 refine Z130 (fun L' M' => ∃ w8 : Sponge, ∃ B6 : List Ent, q4 = w8 ∧ (∀ w, Mem w0 w B6 → Mem w0 w []) ∧ L' = [(4, ptr (some b2) 0), (5, ptr (some b3) 0)] ∧ M' = ((some b3, blk w8.C 157) :: (some b2, blk (u8s (Vector.replicate 32 0#8).toList) 28) :: (B6 ++ N))) ?_ ?_
 ·rintro L10 M11 ⟨w8, B6, e9, hB7, e12, e13⟩
  rw [e12, e13]
  clear e12 e13 L10 M11
  clear hq5
  rw [e9] at hf
  clear e9
  try dsimp only at hf
  have gq1 : ∀ w, More w0 Φ B6 w → More w0 Φ [] w := fun w q => More.mono (fun w m => hB7 w (m)) q
  replace hg1 := hg1.mono gq1
  refine Z1 (Z4 (Z2 ?_))
  obtain ⟨⟨x15, x16⟩, hx14, hf⟩ := Z105 hf
  try dsimp only at hf
  refine Z12 Tryd.call103 rfl (keccak_Sponge_Sum_does w0 (More w0 Φ B6) ((some b2, blk (u8s (Vector.replicate 32 0#8).toList) 28) :: (B6 ++ N)) (fun w m => More.of hΦ 1 m rfl) b3 w8 x15 x16 hg1 hx14) rfl rfl ?_
  rintro L18 M19 ⟨B17, e20, e21⟩
  rw [e20, e21]
  clear e20 e21 L18 M19
  refine Z20 (M' := ((some b3, blk x16.C 157) :: (some b2, blk (u8s (Vector.replicate 32 0#8).toList) 28) :: ((B17 ++ B6) ++ N))) (fun w m => by have h := Z118 (A := B17) m 1 1 rfl rfl; exact h) ?_
  have gq2 : ∀ w, More w0 Φ (B17 ++ B6) w → More w0 Φ B6 w := fun w q => More.mono (fun w m => (m).appR) q
  replace hg1 := hg1.mono gq2
  refine OW.rot1 (Z28 (Z107 rfl rfl rfl (Z133 _) rfl ((Z100 _).trans Zv) ((Z100 _).trans Zv)) (Z6 (Z1 (CW.ret ?_))))
  have e0 := Zi hf
  subst e0
  refine Z110 (rs := [.cell 4 28]) ([.agg (u8s x15.toList).toArray]) ((some b2, blk (u8s x15.toList) 28) :: (some b3, blk x16.C 157) :: (B17 ++ B6)) rfl ?_ rfl ?_ ?_ _ (.inl rfl)
  ·exact ⟨⟨_, _, _, _, rfl, Zh, rfl, rfl, (congrArg some ((Z100 _).trans Zv).symm), rfl⟩, trivial⟩
  ·exact rfl
  ·exact (fun w m => m)
 ·skip
  refine CW.block (Z139 (fun k L' M' => ∃ n24 : Nat, ∃ w26 : Sponge, ∃ B22 : List Ent, (keccak_digest.l1 a1 k n24 w26) = some q4 ∧ (∀ w, Mem w0 w B22 → Mem w0 w []) ∧ (n24 ≤ 9223372036854775807) ∧ L' = [(4, ptr (some b2) 0), (5, ptr (some b3) 0), (10, .slice A1_ a1.length c1_), (11, .int .i64 ((a1.length : Nat) : Int)), (12, .int .i64 ((n24 : Nat) : Int))] ∧ M' = ((some b3, blk w26.C 157) :: (some b2, blk (u8s (Vector.replicate 32 0#8).toList) 28) :: (B22 ++ N))) (k0 := (a1.length - 0 + 2)) ⟨0, ({ (⟨0, (Vector.replicate 25 0#64), (Vector.replicate 136 0#8), 0, 0⟩ : Sponge) with kind := a0 } : Sponge), [], hq5, (fun w m => m), (by omega), rfl, rfl⟩ ⟨rfl, rfl, rfl, rfl, rfl, trivial⟩ (fun w m => m.pick [0, 1] 2 rfl rfl) ?_)
  clear hq5
  rintro k27 L30 M31 ⟨n24, w26, B22, hl28, hB23, b25, e32, e33⟩
  rw [e32, e33]
  clear e32 e33 L30 M31
  rcases k27 with _ | k27
  ·rw [keccak_digest.l1] at hl28; cases hl28
  rw [keccak_digest.l1] at hl28
  have gq3 : ∀ w, More w0 Φ B22 w → More w0 Φ [] w := fun w q => More.mono (fun w m => hB23 w (m)) q
  replace va1 := va1.mono gq3
  replace ha1 := ha1.mono (BsRd.mono gq3)
  replace hg1 := hg1.mono gq3
  refine Z4 (Z2 (Z0 (RV.lss rfl rfl) rfl (Z7 (.bool (decide (n24 < a1.length))) (congrArg Value.bool (decide_eq_decide.2 (by omega))) (Z6 (Z1 (Z4 ?_))))))
  by_cases h34 : n24 < a1.length
  ·replace hl28 := if_t hl28 h34
   refine Z13 rfl (decide_eq_true h34) (CW.skip (Z1 (Z4 (CW.block (Z4 (Z2 ?_))))))
   obtain ⟨x35, hx36, hl28⟩ := Z105 hl28
   have hl37 := Z145 hx36
   refine Z0 (Z152 (n24) rfl rfl rfl rfl rfl (va1.isSome (by decide) hl37) (by omega)) rfl ?_
   obtain ⟨cs38, h39, h40⟩ := ha1.get BsRd.len hx36
   obtain ⟨A41, c42, e44, v43⟩ := h39
   subst e44
   have m45 := v43.mx
   refine Z0 (Z21 rfl rfl rfl (fun w m => by have := va1.load (More.of hΦ 2 m rfl) h40 0 _ rfl; simpa [Addr.add] using this)) rfl ?_
   refine Z0 (Z5 rfl) rfl (Z6 (Z1 (Z2 (Z0 (Z3 rfl) rfl ?_))))
   obtain ⟨x47, hx46, hl28⟩ := Z105 hl28
   refine Z12 Tryd.call102 rfl (keccak_Sponge_Write_does w0 (More w0 Φ B22) ((some b2, blk (u8s (Vector.replicate 32 0#8).toList) 28) :: (B22 ++ N)) (fun w m => More.of hΦ 1 m rfl) b3 w26 A41 c42 x35 x47 v43 hx46) rfl rfl ?_
   rintro L49 M50 ⟨B48, e51, e52⟩
   rw [e51, e52]
   clear e51 e52 L49 M50
   refine Z20 (M' := ((some b3, blk x47.C 157) :: (some b2, blk (u8s (Vector.replicate 32 0#8).toList) 28) :: ((B48 ++ B22) ++ N))) (fun w m => by have h := Z118 (A := B48) m 1 1 rfl rfl; exact h) ?_
   have gq4 : ∀ w, More w0 Φ (B48 ++ B22) w → More w0 Φ B22 w := fun w q => More.mono (fun w m => (m).appR) q
   replace va1 := va1.mono gq4
   replace ha1 := ha1.mono (BsRd.mono gq4)
   replace v43 := v43.mono gq4
   replace hg1 := hg1.mono gq4
   refine Z6 (Z27 (Z1 (Z2 (Z0 (RV.add rfl rfl (by omega)) rfl (Z7 (.int .i64 (((n24 + 1) : Nat) : Int)) (by first | rfl | (congr 1) | (congr 1; omega)) (Z0 (Z3 rfl) rfl (Z6 ?_)))))))
   exact Z132 (k' := k27) (Nat.lt_succ_self _) ⟨(n24 + 1), x47, (B48 ++ B22), hl28, (fun w m => hB23 w ((m).appR)), (by omega), rfl, rfl⟩ ⟨rfl, rfl, rfl, rfl, rfl, trivial⟩ (fun w m => m.pick [0, 1] 2 rfl rfl)
  ·replace hl28 := if_f hl28 h34
   refine Z14 rfl (decide_eq_false h34) (CW.exit (Z9 (Z9 (Z15 ?_))))
   exact QW.join ⟨w26, B22, (Zi hl28).symm, (fun w m => hB23 w (m)), rfl, rfl⟩ ⟨rfl, rfl, trivial⟩ (fun w m => m.pick [0, 1] 2 rfl rfl)
theorem keccak_Sum_does (w0 : World) (Φ : Ctx) (N : List Ent) (hΦ : ∀ w, Mem w0 w N → Φ w) (A0_ : Option Addr) (c0_ : Nat) (cs0_ : List Value) (a0 : List (List (BitVec 8))) (res0 : Vector (BitVec 8) 32) (va0 : View Φ A0_ a0.length c0_ 1 cs0_) (ha0 : Reps (BsRd Φ) cs0_ a0) (hg1 : View Φ (some ⟨1, 0, none⟩) 2 2 1 (u8s firstL)) (hf : keccak_Sum a0 = some res0) : DoesG Tryd.prog 31 [.slice A0_ a0.length c0_] w0 [] N (fun v G => v = .agg (u8s res0.toList).toArray) := by
 unfold keccak_Sum at hf
 replace va0 := va0.mono (Ψ := More w0 Φ []) (fun w q => q.1)
 replace hg1 := hg1.mono (Ψ := More w0 Φ []) (fun w q => q.1)
 replace ha0 := ha0.mono (BsRd.mono (Ψ := More w0 Φ []) (fun w q => q.1))
 have m1 := va0.mx
 refine DoesG.enter Tryd.func31 rfl Tryd.ntmps31 rfl (M := (([] ++ N))) rfl (Z4 (Z2 (OW.alloc (l := (u8s (Vector.replicate 32 0#8).toList)) rfl (by rw [Vector.toList_replicate, ← u8s_rep']; rfl) rfl (fun b2 => (Z6 (Z1 (Z4 (Z2 (Z0 (Z3 rfl) rfl ?_)))))))))
 obtain ⟨x4, hx3, hf⟩ := Z105 hf
 refine Z12 Tryd.call66 rfl (keccak_digest_does w0 (More w0 Φ []) ((some b2, blk (u8s (Vector.replicate 32 0#8).toList) 28) :: ([] ++ N)) (fun w m => More.of hΦ 1 m rfl) (0 : Int) A0_ c0_ cs0_ a0 x4 (by omega) va0 ha0 hg1 hx3) rfl rfl ?_
 rintro _ G5 rfl
 refine Z20 (M' := ((some b2, blk (u8s (Vector.replicate 32 0#8).toList) 28) :: ([] ++ N))) (fun w m => m.appR) (Z28 (Z107 rfl rfl rfl (Z133 _) rfl ((Z100 _).trans Zv) ((Z100 _).trans Zv)) (Z6 (Z1 (CW.ret ?_))))
 have e0 := Zi hf
 subst e0
 refine Z110 (rs := [.cell 2 28]) ([.agg (u8s x4.toList).toArray]) ((some b2, blk (u8s x4.toList) 28) :: []) rfl ?_ rfl ?_ ?_ _ (.inl rfl)
 ·exact ⟨⟨_, _, _, _, rfl, Zh, rfl, rfl, (congrArg some ((Z100 _).trans Zv).symm), rfl⟩, trivial⟩
 ·exact rfl
 ·exact (fun w m => m)
theorem Z138 (w0 : World) (Φ : Ctx) (N : List Ent) (hΦ : ∀ w, Mem w0 w N → Φ w) (a0 : Int) (res0 : Nat) (ba0 : -9223372036854775808 ≤ a0 ∧ a0 ≤ 9223372036854775807) (hf : header_count a0 = some res0) : DoesG Tryd.prog 53 [.int .i64 a0] w0 [] N (fun v G => (res0 ≤ 9223372036854775807) ∧ v = .int .i64 ((res0 : Nat) : Int)) := by
 unfold header_count at hf
 refine DoesG.enter Tryd.func53 rfl Tryd.ntmps53 rfl (M := (([] ++ N))) rfl (Z4 (Z2 (Z0 (Z5 rfl) rfl (Z6 (Z1 (Z4 (Z4 (Z2 (Z0 (Z3 rfl) rfl (Z6 (Z1 (CW.block (Z4 (Z2 (Z0 (RV.eql rfl rfl) rfl (Z0 (Z5 rfl) rfl ?_))))))))))))))))
 refine Z6 (Z1 ?_)
 by_cases h1 : a0 = (0 : Int)
 ·replace hf := if_t hf h1
  refine Z13 rfl (decide_eq_true h1) (Z4 (Z2 (Z0 (Z5 rfl) rfl (Z6 (Z1 (CW.ret (Z16 (Z8 ?_))))))))
  have e0 := Zi hf
  subst e0
  refine Z110 (rs := [.tmp 2]) ([.int .i64 (15 : Int)]) ([]) rfl ?_ rfl ?_ ?_ _ (.inl rfl)
  ·exact ⟨rfl, trivial⟩
  ·exact ⟨(by omega), rfl⟩
  ·exact (fun w m => m)
 ·replace hf := if_f hf h1
  refine Z14 rfl (decide_eq_false h1) (Z4 (Z2 (Z0 (RV.eql rfl rfl) rfl (Z0 (Z5 rfl) rfl (Z6 (Z1 ?_))))))
  by_cases h2 : a0 = (1 : Int)
  ·replace hf := if_t hf h2
   refine Z13 rfl (decide_eq_true h2) (Z4 (Z2 (Z0 (Z5 rfl) rfl (Z6 (Z1 (CW.ret (Z16 (Z8 ?_))))))))
   have e0 := Zi hf
   subst e0
   refine Z110 (rs := [.tmp 2]) ([.int .i64 (16 : Int)]) ([]) rfl ?_ rfl ?_ ?_ _ (.inl rfl)
   ·exact ⟨rfl, trivial⟩
   ·exact ⟨(by omega), rfl⟩
   ·exact (fun w m => m)
  ·replace hf := if_f hf h2
   refine Z14 rfl (decide_eq_false h2) (Z4 (Z2 (Z0 (RV.eql rfl rfl) rfl (Z0 (Z5 rfl) rfl (Z6 (Z1 ?_))))))
   by_cases h3 : a0 = (2 : Int)
   ·replace hf := if_t hf h3
    refine Z13 rfl (decide_eq_true h3) (Z4 (Z2 (Z0 (Z5 rfl) rfl (Z6 (Z1 (CW.ret (Z16 (Z8 ?_))))))))
    have e0 := Zi hf
    subst e0
    refine Z110 (rs := [.tmp 2]) ([.int .i64 (17 : Int)]) ([]) rfl ?_ rfl ?_ ?_ _ (.inl rfl)
    ·exact ⟨rfl, trivial⟩
    ·exact ⟨(by omega), rfl⟩
    ·exact (fun w m => m)
   ·replace hf := if_f hf h3
    refine Z14 rfl (decide_eq_false h3) (Z4 (Z2 (Z0 (RV.eql rfl rfl) rfl (Z0 (Z5 rfl) rfl (Z6 (Z1 ?_))))))
    by_cases h4 : a0 = (3 : Int)
    ·replace hf := if_t hf h4
     refine Z13 rfl (decide_eq_true h4) (Z4 (Z2 (Z0 (Z5 rfl) rfl (Z6 (Z1 (CW.ret (Z16 (Z8 ?_))))))))
     have e0 := Zi hf
     subst e0
     refine Z110 (rs := [.tmp 2]) ([.int .i64 (20 : Int)]) ([]) rfl ?_ rfl ?_ ?_ _ (.inl rfl)
     ·exact ⟨rfl, trivial⟩
     ·exact ⟨(by omega), rfl⟩
     ·exact (fun w m => m)
    ·replace hf := if_f hf h4
     refine Z14 rfl (decide_eq_false h4) (CW.skip (Z27 (Z1 (Z4 (Z2 (Z0 (Z5 rfl) rfl (Z6 (Z1 (CW.ret ?_)))))))))
     have e0 := Zi hf
     subst e0
     refine Z110 (rs := [.tmp 2]) ([.int .i64 (21 : Int)]) ([]) rfl ?_ rfl ?_ ?_ _ (.inl rfl)
     ·exact ⟨rfl, trivial⟩
     ·exact ⟨(by omega), rfl⟩
     ·exact (fun w m => m)
theorem header_tailOf_does (w0 : World) (Φ : Ctx) (N : List Ent) (hΦ : ∀ w, Mem w0 w N → Φ w) (a0 : Int) (res0 : Int) (ba0 : -9223372036854775808 ≤ a0 ∧ a0 ≤ 9223372036854775807) (hf : header_tailOf a0 = some res0) : DoesG Tryd.prog 43 [.int .i64 a0] w0 [] N (fun v G => (-9223372036854775808 ≤ res0 ∧ res0 ≤ 9223372036854775807) ∧ v = .int .i64 res0) := by
 unfold header_tailOf at hf
 refine DoesG.enter Tryd.func43 rfl Tryd.ntmps43 rfl (M := (([] ++ N))) rfl (Z4 (Z2 (Z0 (Z5 rfl) rfl (Z6 (Z1 (Z4 (Z4 (Z2 (Z0 (Z3 rfl) rfl (Z6 (Z1 ?_)))))))))))
 obtain ⟨q1, hq2, hf⟩ := Z105 hf
 refine Z130 (fun L' M' => q1 = Lp.go () ∧ L' = [] ∧ M' = (([] ++ N))) ?_ ?_
 ·rintro L4 M5 ⟨e3, e6, e7⟩
  rw [e6, e7]
  clear e6 e7 L4 M5
  clear hq2
  rw [e3] at hf
  clear e3
  try dsimp only at hf
  refine Z1 (Z4 (Z2 (Z0 (Z5 rfl) rfl (Z6 (Z1 (CW.ret ?_))))))
  have e0 := Zi hf
  subst e0
  refine Z110 (rs := [.tmp 2]) ([.int .i64 (-1 : Int)]) ([]) rfl ?_ rfl ?_ ?_ _ (.inl rfl)
  ·exact ⟨rfl, trivial⟩
  ·exact ⟨(by omega), rfl⟩
  ·exact (fun w m => m)
 ·skip
  refine CW.block (Z139 (fun k L' M' => ∃ n8 : Nat, (header_tailOf.l1 a0 k n8) = some q1 ∧ (n8 ≤ 9223372036854775807) ∧ L' = [(0, .int .i64 a0), (4, .int .i64 ((n8 : Nat) : Int))] ∧ M' = (([] ++ N))) (k0 := (5 - 0 + 2)) ⟨0, hq2, (by omega), rfl, rfl⟩ ⟨rfl, rfl, trivial⟩ (fun w m => m.pick [] 0 rfl rfl) ?_)
  clear hq2
  rintro k10 L13 M14 ⟨n8, hl11, b9, e15, e16⟩
  rw [e15, e16]
  clear e15 e16 L13 M14
  rcases k10 with _ | k10
  ·rw [header_tailOf.l1] at hl11; cases hl11
  rw [header_tailOf.l1] at hl11
  refine Z4 (Z2 (Z0 (RV.lss rfl rfl) rfl (Z7 (.bool (decide (n8 < 5))) (congrArg Value.bool (decide_eq_decide.2 (by omega))) (Z6 (Z1 (Z4 ?_))))))
  by_cases h17 : n8 < 5
  ·replace hl11 := if_t hl11 h17
   refine Z13 rfl (decide_eq_true h17) (CW.skip (Z1 (Z4 (CW.block (Z4 (Z2 (Z0 (Z3 rfl) rfl (Z0 (Z5 rfl) rfl (Z6 (Z1 (Z4 (Z2 (Z0 (Z3 rfl) rfl ?_)))))))))))))
   obtain ⟨x19, hx18, hl11⟩ := Z105 hl11
   refine Z12 Tryd.call53 rfl (Z138 w0 (More w0 Φ []) (([] ++ N)) (fun w m => More.of hΦ 0 m rfl) ((n8 : Nat) : Int) x19 (by omega) hx18) rfl rfl ?_
   rintro _ G21 ⟨b20, rfl⟩
   refine Z20 (M' := (([] ++ N))) (fun w m => m.appR) (Z0 (Z3 rfl) rfl (Z0 (RV.eql rfl rfl) rfl (Z6 (Z1 ?_))))
   by_cases h23 : ((x19 : Nat) : Int) = a0
   ·replace hl11 := if_t hl11 h23
    refine Z13 rfl (decide_eq_true h23) (Z4 (Z2 (Z0 (Z3 rfl) rfl (Z0 (Z5 rfl) rfl (Z6 (Z1 (CW.ret (Z16 (Z8 (Z8 (Z16 (Z8 ?_))))))))))))
    have hc := Zi hl11
    subst hc
    try dsimp only at hf
    refine Z8 ?_
    have e0 := Zi hf
    subst e0
    refine Z110 (rs := [.tmp 2]) ([.int .i64 ((n8 : Nat) : Int)]) ([]) rfl ?_ rfl ?_ ?_ _ (.inl rfl)
    ·exact ⟨rfl, trivial⟩
    ·exact ⟨(by omega), rfl⟩
    ·exact (fun w m => m)
   ·replace hl11 := if_f hl11 h23
    refine Z14 rfl (decide_eq_false h23) (CW.skip (Z27 (Z1 (Z2 (Z0 (RV.add rfl rfl (by omega)) rfl (Z7 (.int .i64 (((n8 + 1) : Nat) : Int)) (by first | rfl | (congr 1) | (congr 1; omega)) (Z0 (Z3 rfl) rfl (Z6 ?_))))))))
    exact Z132 (k' := k10) (Nat.lt_succ_self _) ⟨(n8 + 1), hl11, (by omega), rfl, rfl⟩ ⟨rfl, rfl, trivial⟩ (fun w m => m.pick [] 0 rfl rfl)
  ·replace hl11 := if_f hl11 h17
   refine Z14 rfl (decide_eq_false h17) (CW.exit (Z9 (Z9 (Z15 ?_))))
   exact QW.join ⟨(Zi hl11).symm, rfl, rfl⟩ trivial (fun w m => m.pick [] 0 rfl rfl)
theorem waybilllaw19_equal_does (w0 : World) (Φ : Ctx) (N : List Ent) (hΦ : ∀ w, Mem w0 w N → Φ w) (A0_ : Option Addr) (c0_ : Nat) (a0 : List (BitVec 8)) (A1_ : Option Addr) (c1_ : Nat) (a1 : List (BitVec 8)) (res0 : Bool) (va0 : View Φ A0_ a0.length c0_ 1 (u8s a0)) (va1 : View Φ A1_ a1.length c1_ 1 (u8s a1)) (hf : waybilllaw19_equal a0 a1 = some res0) : DoesG Tryd.prog 14 [.slice A0_ a0.length c0_, .slice A1_ a1.length c1_] w0 [] N (fun v G => v = .bool res0) := by
 unfold waybilllaw19_equal at hf
 replace va0 := va0.mono (Ψ := More w0 Φ []) (fun w q => q.1)
 replace va1 := va1.mono (Ψ := More w0 Φ []) (fun w q => q.1)
 have m1 := va0.mx
 have m2 := va1.mx
 refine DoesG.enter Tryd.func14 rfl Tryd.ntmps14 rfl (M := (([] ++ N))) rfl (Z4 (Z2 (Z0 (Z5 rfl) rfl (Z6 (Z1 (Z4 (Z4 (Z2 (Z0 (Z3 rfl) rfl (Z0 (RV.len rfl rfl) rfl (Z0 (Z3 rfl) rfl (Z0 (RV.len rfl rfl) rfl ?_))))))))))))
 refine Z0 (RV.neq rfl rfl) rfl (Z7 (.bool (!decide (a0.length = a1.length))) (congrArg (fun b => Value.bool (!b)) (decide_eq_decide.2 (by omega))) (Z6 (Z1 ?_)))
 by_cases h3 : a0.length = a1.length
 ·replace hf := if_t hf h3
  refine Z14 rfl (congrArg (fun b => !b) (decide_eq_true h3)) (CW.skip (Z1 (Z4 (Z4 (Z2 (Z0 (Z5 rfl) rfl (Z6 (Z1 ?_))))))))
  obtain ⟨q4, hq5, hf⟩ := Z105 hf
  refine Z130 (fun L' M' => q4 = Lp.go () ∧ L' = [] ∧ M' = (([] ++ N))) ?_ ?_
  ·rintro L7 M8 ⟨e6, e9, e10⟩
   rw [e9, e10]
   clear e9 e10 L7 M8
   clear hq5
   rw [e6] at hf
   clear e6
   try dsimp only at hf
   refine Z1 (Z4 (Z2 (Z0 (Z5 rfl) rfl (Z6 (Z1 (CW.ret ?_))))))
   have e0 := Zi hf
   subst e0
   refine Z110 (rs := [.tmp 4]) ([.bool true]) ([]) rfl ?_ rfl ?_ ?_ _ (.inl rfl)
   ·exact ⟨rfl, trivial⟩
   ·exact rfl
   ·exact (fun w m => m)
  ·skip
   refine CW.block (Z139 (fun k L' M' => ∃ n11 : Nat, (waybilllaw19_equal.l1 a0 a1 k n11) = some q4 ∧ (n11 ≤ 9223372036854775807) ∧ L' = [(0, .slice A0_ a0.length c0_), (1, .slice A1_ a1.length c1_), (5, .int .i64 ((n11 : Nat) : Int))] ∧ M' = (([] ++ N))) (k0 := (a0.length - 0 + 2)) ⟨0, hq5, (by omega), rfl, rfl⟩ ⟨rfl, rfl, rfl, trivial⟩ (fun w m => m.pick [] 0 rfl rfl) ?_)
   clear hq5
   rintro k13 L16 M17 ⟨n11, hl14, b12, e18, e19⟩
   rw [e18, e19]
   clear e18 e19 L16 M17
   rcases k13 with _ | k13
   ·rw [waybilllaw19_equal.l1] at hl14; cases hl14
   rw [waybilllaw19_equal.l1] at hl14
   refine Z4 (Z4 (Z2 (Z0 (Z3 rfl) rfl (Z0 (Z3 rfl) rfl (Z0 (RV.len rfl rfl) rfl (Z0 (RV.lss rfl rfl) rfl (Z7 (.bool (decide (n11 < a0.length))) (congrArg Value.bool (decide_eq_decide.2 (by omega))) (Z6 (Z1 ?_)))))))))
   by_cases h20 : n11 < a0.length
   ·replace hl14 := if_t hl14 h20
    refine Z13 rfl (decide_eq_true h20) (CW.skip (Z1 (Z4 (CW.block (Z4 (Z151 9 mixed (by kernel_rfl) rfl (Z18 0 rfl (by kernel_rfl) rfl (Z3 rfl) rfl (Z18 1 rfl (by kernel_rfl) rfl (Z3 rfl) rfl ?_))))))))
    obtain ⟨x21, hx22, hl14⟩ := Z105 hl14
    have hl23 := Z145 hx22
    refine Z18 2 rfl (by kernel_rfl) rfl (Z152 (n11) rfl rfl rfl rfl rfl (va0.isSome (by decide) hl23) (by omega)) rfl (Z18 3 rfl (by kernel_rfl) rfl (Z21 rfl rfl rfl (fun w m => va0.cell (More.of hΦ 0 m rfl) (u8s_at hx22))) rfl (Z18 4 rfl (by kernel_rfl) rfl (Z3 rfl) rfl (Z18 5 rfl (by kernel_rfl) rfl (Z3 rfl) rfl ?_)))
    obtain ⟨x24, hx25, hl14⟩ := Z105 hl14
    have hl26 := Z145 hx25
    refine Z18 6 rfl (by kernel_rfl) rfl (Z152 (n11) rfl rfl rfl rfl rfl (va1.isSome (by decide) hl26) (by omega)) rfl (Z18 7 rfl (by kernel_rfl) rfl (Z21 rfl rfl rfl (fun w m => va1.cell (More.of hΦ 0 m rfl) (u8s_at hx25))) rfl (Z18 8 rfl (by kernel_rfl) rfl (RV.neq8 rfl (by first | rfl | exact lit8 _ rfl) rfl (by first | rfl | exact lit8 _ rfl)) rfl (UW.nil (by kernel_rfl) (Z6 (Z1 ?_)))))
    by_cases h27 : x21 = x24
    ·replace hl14 := if_t hl14 h27
     refine Z14 rfl (congrArg (fun b => !b) (decide_eq_true h27)) (CW.skip (Z27 (Z1 (Z2 (Z0 (Z3 rfl) rfl (Z0 (RV.add rfl rfl (by omega)) rfl (Z7 (.int .i64 (((n11 + 1) : Nat) : Int)) (by first | rfl | (congr 1) | (congr 1; omega)) (Z0 (Z5 rfl) rfl (Z6 ?_)))))))))
     exact Z132 (k' := k13) (Nat.lt_succ_self _) ⟨(n11 + 1), hl14, (by omega), rfl, rfl⟩ ⟨rfl, rfl, rfl, trivial⟩ (fun w m => m.pick [] 0 rfl rfl)
    ·replace hl14 := if_f hl14 h27
     refine Z13 rfl (congrArg (fun b => !b) (decide_eq_false h27)) (Z4 (Z2 (Z0 (Z5 rfl) rfl (Z6 (Z1 (CW.ret (Z16 (Z8 (Z8 (Z16 (Z8 ?_)))))))))))
     have hc := Zi hl14
     subst hc
     try dsimp only at hf
     refine Z8 ?_
     have e0 := Zi hf
     subst e0
     refine Z110 (rs := [.tmp 4]) ([.bool false]) ([]) rfl ?_ rfl ?_ ?_ _ (.inl rfl)
     ·exact ⟨rfl, trivial⟩
     ·exact rfl
     ·exact (fun w m => m)
   ·replace hl14 := if_f hl14 h20
    refine Z14 rfl (decide_eq_false h20) (CW.exit (Z9 (Z9 (Z15 ?_))))
    exact QW.join ⟨(Zi hl14).symm, rfl, rfl⟩ trivial (fun w m => m.pick [] 0 rfl rfl)
 ·replace hf := if_f hf h3
  refine Z13 rfl (congrArg (fun b => !b) (decide_eq_false h3)) (Z4 (Z2 (Z0 (Z5 rfl) rfl (Z6 (Z1 (CW.ret (Z8 ?_)))))))
  have e0 := Zi hf
  subst e0
  refine Z110 (rs := [.tmp 4]) ([.bool false]) ([]) rfl ?_ rfl ?_ ?_ _ (.inl rfl)
  ·exact ⟨rfl, trivial⟩
  ·exact rfl
  ·exact (fun w m => m)
theorem waybilllaw19_fields_does (w0 : World) (Φ : Ctx) (N : List Ent) (hΦ : ∀ w, Mem w0 w N → Φ w) (a0 : Int) (res0 : Nat) (ba0 : -9223372036854775808 ≤ a0 ∧ a0 ≤ 9223372036854775807) (hf : waybilllaw19_fields a0 = some res0) : DoesG Tryd.prog 30 [.int .i64 a0] w0 [] N (fun v G => (res0 ≤ 9223372036854775807) ∧ v = .int .i64 ((res0 : Nat) : Int)) := by
 unfold waybilllaw19_fields at hf
 refine DoesG.enter Tryd.func30 rfl Tryd.ntmps30 rfl (M := (([] ++ N))) rfl (Z4 (Z2 (Z0 (Z5 rfl) rfl (Z6 (Z1 (Z4 (Z4 (Z2 (Z0 (Z3 rfl) rfl (Z6 (Z1 (CW.block (Z4 (Z2 (Z0 (RV.eql rfl rfl) rfl (Z0 (Z5 rfl) rfl ?_))))))))))))))))
 refine Z6 (Z1 ?_)
 by_cases h1 : a0 = (0 : Int)
 ·replace hf := if_t hf h1
  refine Z13 rfl (decide_eq_true h1) (Z4 (Z2 (Z0 (Z5 rfl) rfl (Z6 (Z1 (CW.ret (Z16 (Z8 ?_))))))))
  have e0 := Zi hf
  subst e0
  refine Z110 (rs := [.tmp 2]) ([.int .i64 (15 : Int)]) ([]) rfl ?_ rfl ?_ ?_ _ (.inl rfl)
  ·exact ⟨rfl, trivial⟩
  ·exact ⟨(by omega), rfl⟩
  ·exact (fun w m => m)
 ·replace hf := if_f hf h1
  refine Z14 rfl (decide_eq_false h1) (Z4 (Z2 (Z0 (RV.eql rfl rfl) rfl (Z0 (Z5 rfl) rfl (Z6 (Z1 ?_))))))
  by_cases h2 : a0 = (1 : Int)
  ·replace hf := if_t hf h2
   refine Z13 rfl (decide_eq_true h2) (Z4 (Z2 (Z0 (Z5 rfl) rfl (Z6 (Z1 (CW.ret (Z16 (Z8 ?_))))))))
   have e0 := Zi hf
   subst e0
   refine Z110 (rs := [.tmp 2]) ([.int .i64 (16 : Int)]) ([]) rfl ?_ rfl ?_ ?_ _ (.inl rfl)
   ·exact ⟨rfl, trivial⟩
   ·exact ⟨(by omega), rfl⟩
   ·exact (fun w m => m)
  ·replace hf := if_f hf h2
   refine Z14 rfl (decide_eq_false h2) (Z4 (Z2 (Z0 (RV.eql rfl rfl) rfl (Z0 (Z5 rfl) rfl (Z6 (Z1 ?_))))))
   by_cases h3 : a0 = (2 : Int)
   ·replace hf := if_t hf h3
    refine Z13 rfl (decide_eq_true h3) (Z4 (Z2 (Z0 (Z5 rfl) rfl (Z6 (Z1 (CW.ret (Z16 (Z8 ?_))))))))
    have e0 := Zi hf
    subst e0
    refine Z110 (rs := [.tmp 2]) ([.int .i64 (17 : Int)]) ([]) rfl ?_ rfl ?_ ?_ _ (.inl rfl)
    ·exact ⟨rfl, trivial⟩
    ·exact ⟨(by omega), rfl⟩
    ·exact (fun w m => m)
   ·replace hf := if_f hf h3
    refine Z14 rfl (decide_eq_false h3) (Z4 (Z2 (Z0 (RV.eql rfl rfl) rfl (Z0 (Z5 rfl) rfl (Z6 (Z1 ?_))))))
    by_cases h4 : a0 = (3 : Int)
    ·replace hf := if_t hf h4
     refine Z13 rfl (decide_eq_true h4) (Z4 (Z2 (Z0 (Z5 rfl) rfl (Z6 (Z1 (CW.ret (Z16 (Z8 ?_))))))))
     have e0 := Zi hf
     subst e0
     refine Z110 (rs := [.tmp 2]) ([.int .i64 (20 : Int)]) ([]) rfl ?_ rfl ?_ ?_ _ (.inl rfl)
     ·exact ⟨rfl, trivial⟩
     ·exact ⟨(by omega), rfl⟩
     ·exact (fun w m => m)
    ·replace hf := if_f hf h4
     refine Z14 rfl (decide_eq_false h4) (CW.skip (Z27 (Z1 (Z4 (Z2 (Z0 (Z5 rfl) rfl (Z6 (Z1 (CW.ret ?_)))))))))
     have e0 := Zi hf
     subst e0
     refine Z110 (rs := [.tmp 2]) ([.int .i64 (21 : Int)]) ([]) rfl ?_ rfl ?_ ?_ _ (.inl rfl)
     ·exact ⟨rfl, trivial⟩
     ·exact ⟨(by omega), rfl⟩
     ·exact (fun w m => m)
theorem Z144 (w0 : World) (Φ : Ctx) (N : List Ent) (hΦ : ∀ w, Mem w0 w N → Φ w) (cs0_ : List Value) (a0 : Hdr) (cs1_ : List Value) (a1 : Hdr) (res0 : Bool) (ha0 : HdrRd Φ cs0_ a0) (ha1 : HdrRd Φ cs1_ a1) (hf : waybillref19_Same a0 a1 = some res0) : DoesG Tryd.prog 13 [.agg cs0_.toArray, .agg cs1_.toArray] w0 [] N (fun v G => v = .bool res0) := by
 unfold waybillref19_Same at hf
 replace ha0 := HdrRd.mono (Ψ := More w0 Φ []) (fun w q => q.1) _ _ ha0
 have h6 := ha0
 obtain ⟨A1, c2, e5, v3, b4⟩ := HdrRd.opn ha0
 subst e5
 have m7 := v3.mx
 replace ha1 := HdrRd.mono (Ψ := More w0 Φ []) (fun w q => q.1) _ _ ha1
 have h13 := ha1
 obtain ⟨A8, c9, e12, v10, b11⟩ := HdrRd.opn ha1
 subst e12
 have m14 := v10.mx
 refine DoesG.enter Tryd.func13 rfl Tryd.ntmps13 rfl (M := (([] ++ N))) rfl (Z4 (Z2 (OW.boxA rfl rfl (fun b15 => (OW.boxA rfl rfl (fun b16 => (Z0 (Z5 rfl) rfl (Z6 (Z1 (Z4 (Z4 (Z2 (Z0 (Z30 rfl rfl rfl rfl) rfl (Z7 (ptr (some b15) 444) rfl ?_))))))))))))))
 refine Z0 (Z29 rfl (List.Mem.tail _ Zh) rfl rfl rfl (Z148 (⟨a0.parent, a0.uncles, a0.coinbase, a0.state, a0.txRoot, a0.receiptRoot, a0.bloom, a0.difficulty, a0.number, a0.limit, a0.used, a0.time, .slice A1 a0.extra.length c2, a0.mix, a0.nonce, a0.tail, a0.baseFee, a0.withdrawals, a0.blobUsed, a0.blobExcess, a0.beacon, a0.requests⟩ : HdrC))) rfl (Z0 (RV.len rfl rfl) rfl (Z0 (Z30 rfl rfl rfl rfl) rfl (Z7 (ptr (some b16) 444) rfl (Z0 (Z29 rfl Zh rfl rfl rfl (Z148 (⟨a1.parent, a1.uncles, a1.coinbase, a1.state, a1.txRoot, a1.receiptRoot, a1.bloom, a1.difficulty, a1.number, a1.limit, a1.used, a1.time, .slice A8 a1.extra.length c9, a1.mix, a1.nonce, a1.tail, a1.baseFee, a1.withdrawals, a1.blobUsed, a1.blobExcess, a1.beacon, a1.requests⟩ : HdrC))) rfl (Z0 (RV.len rfl rfl) rfl (Z0 (RV.neq rfl rfl) rfl (Z7 (.bool (!decide (a0.extra.length = a1.extra.length))) (congrArg (fun b => Value.bool (!b)) (decide_eq_decide.2 (by omega))) ?_)))))))
 refine Z6 (Z1 ?_)
 by_cases h17 : a0.extra.length = a1.extra.length
 ·replace hf := if_t hf h17
  refine Z14 rfl (congrArg (fun b => !b) (decide_eq_true h17)) (CW.skip (Z1 (Z4 (Z4 (Z2 (Z0 (Z5 rfl) rfl (Z6 (Z1 ?_))))))))
  obtain ⟨q18, hq19, hf⟩ := Z105 hf
  refine Z130 (fun L' M' => q18 = Lp.go () ∧ L' = [(2, ptr (some b15) 0), (3, ptr (some b16) 0)] ∧ M' = ((some b16, blk (⟨a1.parent, a1.uncles, a1.coinbase, a1.state, a1.txRoot, a1.receiptRoot, a1.bloom, a1.difficulty, a1.number, a1.limit, a1.used, a1.time, .slice A8 a1.extra.length c9, a1.mix, a1.nonce, a1.tail, a1.baseFee, a1.withdrawals, a1.blobUsed, a1.blobExcess, a1.beacon, a1.requests⟩ : HdrC).C 38) :: (some b15, blk (⟨a0.parent, a0.uncles, a0.coinbase, a0.state, a0.txRoot, a0.receiptRoot, a0.bloom, a0.difficulty, a0.number, a0.limit, a0.used, a0.time, .slice A1 a0.extra.length c2, a0.mix, a0.nonce, a0.tail, a0.baseFee, a0.withdrawals, a0.blobUsed, a0.blobExcess, a0.beacon, a0.requests⟩ : HdrC).C 38) :: ([] ++ N))) ?_ ?_
  ·rintro L21 M22 ⟨e20, e23, e24⟩
   rw [e23, e24]
   clear e23 e24 L21 M22
   clear hq19
   rw [e20] at hf
   clear e20
   try dsimp only at hf
   refine Z1 (Z4 (Z4 ?_))
   obtain ⟨q25, hq26, hf⟩ := Z105 hf
   refine Z130 (fun L' M' => ∃ p27 : Bool, q25 = p27 ∧ L' = [(2, ptr (some b15) 0), (3, ptr (some b16) 0), (77, .bool (p27))] ∧ M' = ((some b16, blk (⟨a1.parent, a1.uncles, a1.coinbase, a1.state, a1.txRoot, a1.receiptRoot, a1.bloom, a1.difficulty, a1.number, a1.limit, a1.used, a1.time, .slice A8 a1.extra.length c9, a1.mix, a1.nonce, a1.tail, a1.baseFee, a1.withdrawals, a1.blobUsed, a1.blobExcess, a1.beacon, a1.requests⟩ : HdrC).C 38) :: (some b15, blk (⟨a0.parent, a0.uncles, a0.coinbase, a0.state, a0.txRoot, a0.receiptRoot, a0.bloom, a0.difficulty, a0.number, a0.limit, a0.used, a0.time, .slice A1 a0.extra.length c2, a0.mix, a0.nonce, a0.tail, a0.baseFee, a0.withdrawals, a0.blobUsed, a0.blobExcess, a0.beacon, a0.requests⟩ : HdrC).C 38) :: ([] ++ N))) ?_ ?_
   ·rintro L29 M30 ⟨p27, e28, e31, e32⟩
    rw [e31, e32]
    clear e31 e32 L29 M30
    clear hq26
    rw [e28] at hf
    clear e28
    try dsimp only at hf
    refine Z1 ?_
    by_cases h33 : p27 = true
    ·replace hf := if_t hf h33
     refine Z13 rfl (h33) (Z4 (Z2 (Z0 (Z5 rfl) rfl (Z6 (Z1 (CW.ret (Z8 ?_)))))))
     have e0 := Zi hf
     subst e0
     refine Z110 (rs := [.tmp 4]) ([.bool false]) ((some b16, blk (⟨a1.parent, a1.uncles, a1.coinbase, a1.state, a1.txRoot, a1.receiptRoot, a1.bloom, a1.difficulty, a1.number, a1.limit, a1.used, a1.time, .slice A8 a1.extra.length c9, a1.mix, a1.nonce, a1.tail, a1.baseFee, a1.withdrawals, a1.blobUsed, a1.blobExcess, a1.beacon, a1.requests⟩ : HdrC).C 38) :: (some b15, blk (⟨a0.parent, a0.uncles, a0.coinbase, a0.state, a0.txRoot, a0.receiptRoot, a0.bloom, a0.difficulty, a0.number, a0.limit, a0.used, a0.time, .slice A1 a0.extra.length c2, a0.mix, a0.nonce, a0.tail, a0.baseFee, a0.withdrawals, a0.blobUsed, a0.blobExcess, a0.beacon, a0.requests⟩ : HdrC).C 38) :: []) rfl ?_ rfl ?_ ?_ _ (.inl rfl)
     ·exact ⟨rfl, trivial⟩
     ·exact rfl
     ·exact (fun w m => m)
    ·replace hf := if_f hf h33
     refine Z14 rfl (Bool.eq_false_iff.2 h33) (CW.skip (Z1 (Z4 (Z4 ?_))))
     obtain ⟨q34, hq35, hf⟩ := Z105 hf
     refine Z130 (fun L' M' => ∃ p36 : Bool, q34 = p36 ∧ L' = [(2, ptr (some b15) 0), (3, ptr (some b16) 0), (131, .bool (p36))] ∧ M' = ((some b16, blk (⟨a1.parent, a1.uncles, a1.coinbase, a1.state, a1.txRoot, a1.receiptRoot, a1.bloom, a1.difficulty, a1.number, a1.limit, a1.used, a1.time, .slice A8 a1.extra.length c9, a1.mix, a1.nonce, a1.tail, a1.baseFee, a1.withdrawals, a1.blobUsed, a1.blobExcess, a1.beacon, a1.requests⟩ : HdrC).C 38) :: (some b15, blk (⟨a0.parent, a0.uncles, a0.coinbase, a0.state, a0.txRoot, a0.receiptRoot, a0.bloom, a0.difficulty, a0.number, a0.limit, a0.used, a0.time, .slice A1 a0.extra.length c2, a0.mix, a0.nonce, a0.tail, a0.baseFee, a0.withdrawals, a0.blobUsed, a0.blobExcess, a0.beacon, a0.requests⟩ : HdrC).C 38) :: ([] ++ N))) ?_ ?_
     ·rintro L38 M39 ⟨p36, e37, e40, e41⟩
      rw [e40, e41]
      clear e40 e41 L38 M39
      clear hq35
      rw [e37] at hf
      clear e37
      try dsimp only at hf
      refine Z1 ?_
      by_cases h42 : p36 = true
      ·replace hf := if_t hf h42
       refine Z13 rfl (h42) (Z4 (Z2 (Z0 (Z5 rfl) rfl (Z6 (Z1 (CW.ret (Z8 ?_)))))))
       have e0 := Zi hf
       subst e0
       refine Z110 (rs := [.tmp 4]) ([.bool false]) ((some b16, blk (⟨a1.parent, a1.uncles, a1.coinbase, a1.state, a1.txRoot, a1.receiptRoot, a1.bloom, a1.difficulty, a1.number, a1.limit, a1.used, a1.time, .slice A8 a1.extra.length c9, a1.mix, a1.nonce, a1.tail, a1.baseFee, a1.withdrawals, a1.blobUsed, a1.blobExcess, a1.beacon, a1.requests⟩ : HdrC).C 38) :: (some b15, blk (⟨a0.parent, a0.uncles, a0.coinbase, a0.state, a0.txRoot, a0.receiptRoot, a0.bloom, a0.difficulty, a0.number, a0.limit, a0.used, a0.time, .slice A1 a0.extra.length c2, a0.mix, a0.nonce, a0.tail, a0.baseFee, a0.withdrawals, a0.blobUsed, a0.blobExcess, a0.beacon, a0.requests⟩ : HdrC).C 38) :: []) rfl ?_ rfl ?_ ?_ _ (.inl rfl)
       ·exact ⟨rfl, trivial⟩
       ·exact rfl
       ·exact (fun w m => m)
      ·replace hf := if_f hf h42
       refine Z14 rfl (Bool.eq_false_iff.2 h42) (CW.skip (Z1 (Z4 ?_)))
       obtain ⟨q43, hq44, hf⟩ := Z105 hf
       refine Z130 (fun L' M' => ∃ p45 : Bool, q43 = p45 ∧ L' = [(4, .bool (p45))] ∧ M' = (([] ++ N))) ?_ ?_
       ·rintro L47 M48 ⟨p45, e46, e49, e50⟩
        rw [e49, e50]
        clear e49 e50 L47 M48
        clear hq44
        rw [e46] at hf
        clear e46
        try dsimp only at hf
        refine Z1 (CW.ret ?_)
        have e0 := Zi hf
        subst e0
        refine Z110 (rs := [.tmp 4]) ([.bool (p45)]) ([]) rfl ?_ rfl ?_ ?_ _ (.inl rfl)
        ·exact ⟨rfl, trivial⟩
        ·exact rfl
        ·exact (fun w m => m)
       ·skip
        refine Z2 (Z0 (Z30 rfl rfl rfl rfl) rfl (Z7 (ptr (some b15) 486) rfl (Z0 (Z122 rfl (List.Mem.tail _ Zh) rfl rfl rfl rfl (HdrC.C_baseFee_all (⟨a0.parent, a0.uncles, a0.coinbase, a0.state, a0.txRoot, a0.receiptRoot, a0.bloom, a0.difficulty, a0.number, a0.limit, a0.used, a0.time, .slice A1 a0.extra.length c2, a0.mix, a0.nonce, a0.tail, a0.baseFee, a0.withdrawals, a0.blobUsed, a0.blobExcess, a0.beacon, a0.requests⟩ : HdrC)) ((Z102 _).trans Zv)) rfl (Z0 (Z30 rfl rfl rfl rfl) rfl (Z7 (ptr (some b16) 486) rfl (Z0 (Z122 rfl Zh rfl rfl rfl rfl (HdrC.C_baseFee_all (⟨a1.parent, a1.uncles, a1.coinbase, a1.state, a1.txRoot, a1.receiptRoot, a1.bloom, a1.difficulty, a1.number, a1.limit, a1.used, a1.time, .slice A8 a1.extra.length c9, a1.mix, a1.nonce, a1.tail, a1.baseFee, a1.withdrawals, a1.blobUsed, a1.blobExcess, a1.beacon, a1.requests⟩ : HdrC)) ((Z102 _).trans Zv)) rfl (Z0 (RV.eqA64 rfl rfl rfl rfl rfl rfl (Zv) (Zv)) rfl ?_)))))))
        refine Z7 (.bool (decide (a0.baseFee = a1.baseFee))) (congrArg Value.bool (decide_eq_decide.2 Vector.toList_inj)) (Z0 (Z3 rfl) rfl ?_)
        by_cases h51 : a0.baseFee = a1.baseFee
        ·replace hq44 := if_t hq44 h51
         refine Z7 (.bool true) (congrArg Value.bool (decide_eq_true h51)) (Z24 rfl (Z0 (Z30 rfl rfl rfl rfl) rfl (Z7 (ptr (some b15) 490) rfl (Z24 rfl (Z0 (Z122 rfl (List.Mem.tail _ Zh) rfl rfl rfl rfl (Z146 (⟨a0.parent, a0.uncles, a0.coinbase, a0.state, a0.txRoot, a0.receiptRoot, a0.bloom, a0.difficulty, a0.number, a0.limit, a0.used, a0.time, .slice A1 a0.extra.length c2, a0.mix, a0.nonce, a0.tail, a0.baseFee, a0.withdrawals, a0.blobUsed, a0.blobExcess, a0.beacon, a0.requests⟩ : HdrC)) ((Z100 _).trans Zv)) rfl (Z24 rfl (Z0 (Z30 rfl rfl rfl rfl) rfl ?_)))))))
         refine Z7 (ptr (some b16) 490) rfl (Z24 rfl (Z0 (Z122 rfl Zh rfl rfl rfl rfl (Z146 (⟨a1.parent, a1.uncles, a1.coinbase, a1.state, a1.txRoot, a1.receiptRoot, a1.bloom, a1.difficulty, a1.number, a1.limit, a1.used, a1.time, .slice A8 a1.extra.length c9, a1.mix, a1.nonce, a1.tail, a1.baseFee, a1.withdrawals, a1.blobUsed, a1.blobExcess, a1.beacon, a1.requests⟩ : HdrC)) ((Z100 _).trans Zv)) rfl (Z24 rfl (Z0 (RV.eqA8 rfl rfl rfl rfl rfl rfl (Zv) (Zv)) rfl (Z7 (.bool (decide (a0.withdrawals = a1.withdrawals))) (congrArg Value.bool (decide_eq_decide.2 Vector.toList_inj)) (Z0 (Z108 rfl rfl rfl) rfl (Z0 (Z3 rfl) rfl ?_)))))))
         by_cases h52 : a0.withdrawals = a1.withdrawals
         ·replace hq44 := if_t hq44 h52
          refine Z7 (.bool true) (congrArg Value.bool (decide_eq_true h52)) (Z24 rfl (Z0 (Z30 rfl rfl rfl rfl) rfl (Z7 (ptr (some b15) 522) rfl (Z24 rfl (Z0 (Z29 rfl (List.Mem.tail _ Zh) rfl rfl rfl (HdrC.C_blobUsed (⟨a0.parent, a0.uncles, a0.coinbase, a0.state, a0.txRoot, a0.receiptRoot, a0.bloom, a0.difficulty, a0.number, a0.limit, a0.used, a0.time, .slice A1 a0.extra.length c2, a0.mix, a0.nonce, a0.tail, a0.baseFee, a0.withdrawals, a0.blobUsed, a0.blobExcess, a0.beacon, a0.requests⟩ : HdrC))) rfl (Z24 rfl (Z0 (Z30 rfl rfl rfl rfl) rfl ?_)))))))
          refine Z7 (ptr (some b16) 522) rfl (Z24 rfl (Z0 (Z29 rfl Zh rfl rfl rfl (HdrC.C_blobUsed (⟨a1.parent, a1.uncles, a1.coinbase, a1.state, a1.txRoot, a1.receiptRoot, a1.bloom, a1.difficulty, a1.number, a1.limit, a1.used, a1.time, .slice A8 a1.extra.length c9, a1.mix, a1.nonce, a1.tail, a1.baseFee, a1.withdrawals, a1.blobUsed, a1.blobExcess, a1.beacon, a1.requests⟩ : HdrC))) rfl (Z24 rfl (Z0 (RV.eql64 rfl (by first | rfl | exact lit64 _ rfl) rfl (by first | rfl | exact lit64 _ rfl)) rfl (Z0 (Z108 rfl rfl rfl) rfl (Z0 (Z3 rfl) rfl ?_))))))
          by_cases h53 : a0.blobUsed = a1.blobUsed
          ·replace hq44 := if_t hq44 h53
           refine Z7 (.bool true) (congrArg Value.bool (decide_eq_true h53)) (Z24 rfl (Z0 (Z30 rfl rfl rfl rfl) rfl (Z7 (ptr (some b15) 523) rfl (Z24 rfl (Z0 (Z29 rfl (List.Mem.tail _ Zh) rfl rfl rfl (HdrC.C_blobExcess (⟨a0.parent, a0.uncles, a0.coinbase, a0.state, a0.txRoot, a0.receiptRoot, a0.bloom, a0.difficulty, a0.number, a0.limit, a0.used, a0.time, .slice A1 a0.extra.length c2, a0.mix, a0.nonce, a0.tail, a0.baseFee, a0.withdrawals, a0.blobUsed, a0.blobExcess, a0.beacon, a0.requests⟩ : HdrC))) rfl (Z24 rfl (Z0 (Z30 rfl rfl rfl rfl) rfl ?_)))))))
           refine Z7 (ptr (some b16) 523) rfl (Z24 rfl (Z0 (Z29 rfl Zh rfl rfl rfl (HdrC.C_blobExcess (⟨a1.parent, a1.uncles, a1.coinbase, a1.state, a1.txRoot, a1.receiptRoot, a1.bloom, a1.difficulty, a1.number, a1.limit, a1.used, a1.time, .slice A8 a1.extra.length c9, a1.mix, a1.nonce, a1.tail, a1.baseFee, a1.withdrawals, a1.blobUsed, a1.blobExcess, a1.beacon, a1.requests⟩ : HdrC))) rfl (Z24 rfl (Z0 (RV.eql64 rfl (by first | rfl | exact lit64 _ rfl) rfl (by first | rfl | exact lit64 _ rfl)) rfl (Z0 (Z108 rfl rfl rfl) rfl (Z0 (Z3 rfl) rfl ?_))))))
           by_cases h54 : a0.blobExcess = a1.blobExcess
           ·replace hq44 := if_t hq44 h54
            refine Z7 (.bool true) (congrArg Value.bool (decide_eq_true h54)) (Z24 rfl (Z0 (Z30 rfl rfl rfl rfl) rfl (Z7 (ptr (some b15) 524) rfl (Z24 rfl (Z0 (Z122 rfl (List.Mem.tail _ Zh) rfl rfl rfl rfl (HdrC.C_beacon_all (⟨a0.parent, a0.uncles, a0.coinbase, a0.state, a0.txRoot, a0.receiptRoot, a0.bloom, a0.difficulty, a0.number, a0.limit, a0.used, a0.time, .slice A1 a0.extra.length c2, a0.mix, a0.nonce, a0.tail, a0.baseFee, a0.withdrawals, a0.blobUsed, a0.blobExcess, a0.beacon, a0.requests⟩ : HdrC)) ((Z100 _).trans Zv)) rfl (Z24 rfl (Z0 (Z30 rfl rfl rfl rfl) rfl ?_)))))))
            refine Z7 (ptr (some b16) 524) rfl (Z24 rfl (Z0 (Z122 rfl Zh rfl rfl rfl rfl (HdrC.C_beacon_all (⟨a1.parent, a1.uncles, a1.coinbase, a1.state, a1.txRoot, a1.receiptRoot, a1.bloom, a1.difficulty, a1.number, a1.limit, a1.used, a1.time, .slice A8 a1.extra.length c9, a1.mix, a1.nonce, a1.tail, a1.baseFee, a1.withdrawals, a1.blobUsed, a1.blobExcess, a1.beacon, a1.requests⟩ : HdrC)) ((Z100 _).trans Zv)) rfl (Z24 rfl (Z0 (RV.eqA8 rfl rfl rfl rfl rfl rfl (Zv) (Zv)) rfl (Z7 (.bool (decide (a0.beacon = a1.beacon))) (congrArg Value.bool (decide_eq_decide.2 Vector.toList_inj)) (Z0 (Z108 rfl rfl rfl) rfl (Z0 (Z3 rfl) rfl ?_)))))))
            by_cases h55 : a0.beacon = a1.beacon
            ·replace hq44 := if_t hq44 h55
             refine Z7 (.bool true) (congrArg Value.bool (decide_eq_true h55)) (Z24 rfl (Z0 (Z30 rfl rfl rfl rfl) rfl (Z7 (ptr (some b15) 556) rfl (Z24 rfl (Z0 (Z122 rfl (List.Mem.tail _ Zh) rfl rfl rfl rfl (Z159 (⟨a0.parent, a0.uncles, a0.coinbase, a0.state, a0.txRoot, a0.receiptRoot, a0.bloom, a0.difficulty, a0.number, a0.limit, a0.used, a0.time, .slice A1 a0.extra.length c2, a0.mix, a0.nonce, a0.tail, a0.baseFee, a0.withdrawals, a0.blobUsed, a0.blobExcess, a0.beacon, a0.requests⟩ : HdrC)) ((Z100 _).trans Zv)) rfl (Z24 rfl (Z0 (Z30 rfl rfl rfl rfl) rfl ?_)))))))
             refine Z7 (ptr (some b16) 556) rfl (Z24 rfl (Z0 (Z122 rfl Zh rfl rfl rfl rfl (Z159 (⟨a1.parent, a1.uncles, a1.coinbase, a1.state, a1.txRoot, a1.receiptRoot, a1.bloom, a1.difficulty, a1.number, a1.limit, a1.used, a1.time, .slice A8 a1.extra.length c9, a1.mix, a1.nonce, a1.tail, a1.baseFee, a1.withdrawals, a1.blobUsed, a1.blobExcess, a1.beacon, a1.requests⟩ : HdrC)) ((Z100 _).trans Zv)) rfl (Z24 rfl (Z0 (RV.eqA8 rfl rfl rfl rfl rfl rfl (Zv) (Zv)) rfl (Z7 (.bool (decide (a0.requests = a1.requests))) (congrArg Value.bool (decide_eq_decide.2 Vector.toList_inj)) (Z0 (Z108 rfl rfl rfl) rfl (Z0 (Z5 rfl) rfl ?_)))))))
             refine Z6 ?_
             exact QW.join ⟨(decide (a0.requests = a1.requests)), (Zi hq44).symm, rfl, rfl⟩ ⟨rfl, trivial⟩ (fun w m => m.pick [] 2 rfl rfl)
            ·replace hq44 := if_f hq44 h55
             refine Z7 (.bool false) (congrArg Value.bool (decide_eq_false h55)) (Z23 rfl rfl rfl (Z23 rfl rfl rfl (Z23 rfl rfl rfl (Z23 rfl rfl rfl (Z23 rfl rfl rfl (Z0 (Z112 rfl rfl rfl) rfl (Z0 (Z5 rfl) rfl ?_)))))))
             refine Z6 ?_
             exact QW.join ⟨false, (Zi hq44).symm, rfl, rfl⟩ ⟨rfl, trivial⟩ (fun w m => m.pick [] 2 rfl rfl)
           ·replace hq44 := if_f hq44 h54
            refine Z7 (.bool false) (congrArg Value.bool (decide_eq_false h54)) (Z23 rfl rfl rfl (Z23 rfl rfl rfl (Z23 rfl rfl rfl (Z23 rfl rfl rfl (Z23 rfl rfl rfl (Z0 (Z112 rfl rfl rfl) rfl (Z0 (Z3 rfl) rfl ?_)))))))
            refine Z23 rfl rfl rfl (Z23 rfl rfl rfl (Z23 rfl rfl rfl (Z23 rfl rfl rfl (Z23 rfl rfl rfl (Z0 (Z112 rfl rfl rfl) rfl (Z0 (Z5 rfl) rfl (Z6 ?_)))))))
            exact QW.join ⟨false, (Zi hq44).symm, rfl, rfl⟩ ⟨rfl, trivial⟩ (fun w m => m.pick [] 2 rfl rfl)
          ·replace hq44 := if_f hq44 h53
           refine Z7 (.bool false) (congrArg Value.bool (decide_eq_false h53)) (Z23 rfl rfl rfl (Z23 rfl rfl rfl (Z23 rfl rfl rfl (Z23 rfl rfl rfl (Z23 rfl rfl rfl (Z0 (Z112 rfl rfl rfl) rfl (Z0 (Z3 rfl) rfl ?_)))))))
           refine Z23 rfl rfl rfl (Z23 rfl rfl rfl (Z23 rfl rfl rfl (Z23 rfl rfl rfl (Z23 rfl rfl rfl (Z0 (Z112 rfl rfl rfl) rfl (Z0 (Z3 rfl) rfl (Z23 rfl rfl rfl ?_)))))))
           refine Z23 rfl rfl rfl (Z23 rfl rfl rfl (Z23 rfl rfl rfl (Z23 rfl rfl rfl (Z0 (Z112 rfl rfl rfl) rfl (Z0 (Z5 rfl) rfl (Z6 ?_))))))
           exact QW.join ⟨false, (Zi hq44).symm, rfl, rfl⟩ ⟨rfl, trivial⟩ (fun w m => m.pick [] 2 rfl rfl)
         ·replace hq44 := if_f hq44 h52
          refine Z7 (.bool false) (congrArg Value.bool (decide_eq_false h52)) (Z23 rfl rfl rfl (Z23 rfl rfl rfl (Z23 rfl rfl rfl (Z23 rfl rfl rfl (Z23 rfl rfl rfl (Z0 (Z112 rfl rfl rfl) rfl (Z0 (Z3 rfl) rfl ?_)))))))
          refine Z23 rfl rfl rfl (Z23 rfl rfl rfl (Z23 rfl rfl rfl (Z23 rfl rfl rfl (Z23 rfl rfl rfl (Z0 (Z112 rfl rfl rfl) rfl (Z0 (Z3 rfl) rfl (Z23 rfl rfl rfl ?_)))))))
          refine Z23 rfl rfl rfl (Z23 rfl rfl rfl (Z23 rfl rfl rfl (Z23 rfl rfl rfl (Z0 (Z112 rfl rfl rfl) rfl (Z0 (Z3 rfl) rfl (Z23 rfl rfl rfl (Z23 rfl rfl rfl ?_)))))))
          refine Z23 rfl rfl rfl (Z23 rfl rfl rfl (Z23 rfl rfl rfl (Z0 (Z112 rfl rfl rfl) rfl (Z0 (Z5 rfl) rfl (Z6 ?_)))))
          exact QW.join ⟨false, (Zi hq44).symm, rfl, rfl⟩ ⟨rfl, trivial⟩ (fun w m => m.pick [] 2 rfl rfl)
        ·replace hq44 := if_f hq44 h51
         refine Z7 (.bool false) (congrArg Value.bool (decide_eq_false h51)) (Z23 rfl rfl rfl (Z23 rfl rfl rfl (Z23 rfl rfl rfl (Z23 rfl rfl rfl (Z23 rfl rfl rfl (Z0 (Z112 rfl rfl rfl) rfl (Z0 (Z3 rfl) rfl ?_)))))))
         refine Z23 rfl rfl rfl (Z23 rfl rfl rfl (Z23 rfl rfl rfl (Z23 rfl rfl rfl (Z23 rfl rfl rfl (Z0 (Z112 rfl rfl rfl) rfl (Z0 (Z3 rfl) rfl (Z23 rfl rfl rfl ?_)))))))
         refine Z23 rfl rfl rfl (Z23 rfl rfl rfl (Z23 rfl rfl rfl (Z23 rfl rfl rfl (Z0 (Z112 rfl rfl rfl) rfl (Z0 (Z3 rfl) rfl (Z23 rfl rfl rfl (Z23 rfl rfl rfl ?_)))))))
         refine Z23 rfl rfl rfl (Z23 rfl rfl rfl (Z23 rfl rfl rfl (Z0 (Z112 rfl rfl rfl) rfl (Z0 (Z3 rfl) rfl (Z23 rfl rfl rfl (Z23 rfl rfl rfl (Z23 rfl rfl rfl ?_)))))))
         refine Z23 rfl rfl rfl (Z23 rfl rfl rfl (Z0 (Z112 rfl rfl rfl) rfl (Z0 (Z5 rfl) rfl (Z6 ?_))))
         exact QW.join ⟨false, (Zi hq44).symm, rfl, rfl⟩ ⟨rfl, trivial⟩ (fun w m => m.pick [] 2 rfl rfl)
     ·skip
      refine Z2 (Z0 (Z30 rfl rfl rfl rfl) rfl (Z7 (ptr (some b15) 436) rfl (Z0 (Z122 rfl (List.Mem.tail _ Zh) rfl rfl rfl rfl (Z149 (⟨a0.parent, a0.uncles, a0.coinbase, a0.state, a0.txRoot, a0.receiptRoot, a0.bloom, a0.difficulty, a0.number, a0.limit, a0.used, a0.time, .slice A1 a0.extra.length c2, a0.mix, a0.nonce, a0.tail, a0.baseFee, a0.withdrawals, a0.blobUsed, a0.blobExcess, a0.beacon, a0.requests⟩ : HdrC)) ((Z102 _).trans Zv)) rfl (Z0 (Z30 rfl rfl rfl rfl) rfl (Z7 (ptr (some b16) 436) rfl (Z0 (Z122 rfl Zh rfl rfl rfl rfl (Z149 (⟨a1.parent, a1.uncles, a1.coinbase, a1.state, a1.txRoot, a1.receiptRoot, a1.bloom, a1.difficulty, a1.number, a1.limit, a1.used, a1.time, .slice A8 a1.extra.length c9, a1.mix, a1.nonce, a1.tail, a1.baseFee, a1.withdrawals, a1.blobUsed, a1.blobExcess, a1.beacon, a1.requests⟩ : HdrC)) ((Z102 _).trans Zv)) rfl (Z0 (RV.neA64 rfl rfl rfl rfl rfl rfl (Zv) (Zv)) rfl ?_)))))))
      refine Z7 (.bool (!decide (a0.difficulty = a1.difficulty))) (congrArg (fun b => Value.bool (!b)) (decide_eq_decide.2 Vector.toList_inj)) (Z0 (Z3 rfl) rfl ?_)
      by_cases h56 : a0.difficulty = a1.difficulty
      ·replace hq35 := if_t hq35 h56
       refine Z7 (.bool false) (congrArg Value.bool (congrArg (fun b => !b) (decide_eq_true h56))) (Z24 rfl (Z0 (Z30 rfl rfl rfl rfl) rfl (Z7 (ptr (some b15) 440) rfl (Z24 rfl (Z0 (Z29 rfl (List.Mem.tail _ Zh) rfl rfl rfl (HdrC.C_number (⟨a0.parent, a0.uncles, a0.coinbase, a0.state, a0.txRoot, a0.receiptRoot, a0.bloom, a0.difficulty, a0.number, a0.limit, a0.used, a0.time, .slice A1 a0.extra.length c2, a0.mix, a0.nonce, a0.tail, a0.baseFee, a0.withdrawals, a0.blobUsed, a0.blobExcess, a0.beacon, a0.requests⟩ : HdrC))) rfl (Z24 rfl (Z0 (Z30 rfl rfl rfl rfl) rfl ?_)))))))
       refine Z7 (ptr (some b16) 440) rfl (Z24 rfl (Z0 (Z29 rfl Zh rfl rfl rfl (HdrC.C_number (⟨a1.parent, a1.uncles, a1.coinbase, a1.state, a1.txRoot, a1.receiptRoot, a1.bloom, a1.difficulty, a1.number, a1.limit, a1.used, a1.time, .slice A8 a1.extra.length c9, a1.mix, a1.nonce, a1.tail, a1.baseFee, a1.withdrawals, a1.blobUsed, a1.blobExcess, a1.beacon, a1.requests⟩ : HdrC))) rfl (Z24 rfl (Z0 (RV.neq64 rfl (by first | rfl | exact lit64 _ rfl) rfl (by first | rfl | exact lit64 _ rfl)) rfl (Z0 (Z112 rfl rfl rfl) rfl (Z0 (Z3 rfl) rfl ?_))))))
       by_cases h57 : a0.number = a1.number
       ·replace hq35 := if_t hq35 h57
        refine Z7 (.bool false) (congrArg Value.bool (congrArg (fun b => !b) (decide_eq_true h57))) (Z24 rfl (Z0 (Z30 rfl rfl rfl rfl) rfl (Z7 (ptr (some b15) 441) rfl (Z24 rfl (Z0 (Z29 rfl (List.Mem.tail _ Zh) rfl rfl rfl (HdrC.C_limit (⟨a0.parent, a0.uncles, a0.coinbase, a0.state, a0.txRoot, a0.receiptRoot, a0.bloom, a0.difficulty, a0.number, a0.limit, a0.used, a0.time, .slice A1 a0.extra.length c2, a0.mix, a0.nonce, a0.tail, a0.baseFee, a0.withdrawals, a0.blobUsed, a0.blobExcess, a0.beacon, a0.requests⟩ : HdrC))) rfl (Z24 rfl (Z0 (Z30 rfl rfl rfl rfl) rfl ?_)))))))
        refine Z7 (ptr (some b16) 441) rfl (Z24 rfl (Z0 (Z29 rfl Zh rfl rfl rfl (HdrC.C_limit (⟨a1.parent, a1.uncles, a1.coinbase, a1.state, a1.txRoot, a1.receiptRoot, a1.bloom, a1.difficulty, a1.number, a1.limit, a1.used, a1.time, .slice A8 a1.extra.length c9, a1.mix, a1.nonce, a1.tail, a1.baseFee, a1.withdrawals, a1.blobUsed, a1.blobExcess, a1.beacon, a1.requests⟩ : HdrC))) rfl (Z24 rfl (Z0 (RV.neq64 rfl (by first | rfl | exact lit64 _ rfl) rfl (by first | rfl | exact lit64 _ rfl)) rfl (Z0 (Z112 rfl rfl rfl) rfl (Z0 (Z3 rfl) rfl ?_))))))
        by_cases h58 : a0.limit = a1.limit
        ·replace hq35 := if_t hq35 h58
         refine Z7 (.bool false) (congrArg Value.bool (congrArg (fun b => !b) (decide_eq_true h58))) (Z24 rfl (Z0 (Z30 rfl rfl rfl rfl) rfl (Z7 (ptr (some b15) 442) rfl (Z24 rfl (Z0 (Z29 rfl (List.Mem.tail _ Zh) rfl rfl rfl (HdrC.C_used (⟨a0.parent, a0.uncles, a0.coinbase, a0.state, a0.txRoot, a0.receiptRoot, a0.bloom, a0.difficulty, a0.number, a0.limit, a0.used, a0.time, .slice A1 a0.extra.length c2, a0.mix, a0.nonce, a0.tail, a0.baseFee, a0.withdrawals, a0.blobUsed, a0.blobExcess, a0.beacon, a0.requests⟩ : HdrC))) rfl (Z24 rfl (Z0 (Z30 rfl rfl rfl rfl) rfl ?_)))))))
         refine Z7 (ptr (some b16) 442) rfl (Z24 rfl (Z0 (Z29 rfl Zh rfl rfl rfl (HdrC.C_used (⟨a1.parent, a1.uncles, a1.coinbase, a1.state, a1.txRoot, a1.receiptRoot, a1.bloom, a1.difficulty, a1.number, a1.limit, a1.used, a1.time, .slice A8 a1.extra.length c9, a1.mix, a1.nonce, a1.tail, a1.baseFee, a1.withdrawals, a1.blobUsed, a1.blobExcess, a1.beacon, a1.requests⟩ : HdrC))) rfl (Z24 rfl (Z0 (RV.neq64 rfl (by first | rfl | exact lit64 _ rfl) rfl (by first | rfl | exact lit64 _ rfl)) rfl (Z0 (Z112 rfl rfl rfl) rfl (Z0 (Z3 rfl) rfl ?_))))))
         by_cases h59 : a0.used = a1.used
         ·replace hq35 := if_t hq35 h59
          refine Z7 (.bool false) (congrArg Value.bool (congrArg (fun b => !b) (decide_eq_true h59))) (Z24 rfl (Z0 (Z30 rfl rfl rfl rfl) rfl (Z7 (ptr (some b15) 443) rfl (Z24 rfl (Z0 (Z29 rfl (List.Mem.tail _ Zh) rfl rfl rfl (HdrC.C_time (⟨a0.parent, a0.uncles, a0.coinbase, a0.state, a0.txRoot, a0.receiptRoot, a0.bloom, a0.difficulty, a0.number, a0.limit, a0.used, a0.time, .slice A1 a0.extra.length c2, a0.mix, a0.nonce, a0.tail, a0.baseFee, a0.withdrawals, a0.blobUsed, a0.blobExcess, a0.beacon, a0.requests⟩ : HdrC))) rfl (Z24 rfl (Z0 (Z30 rfl rfl rfl rfl) rfl ?_)))))))
          refine Z7 (ptr (some b16) 443) rfl (Z24 rfl (Z0 (Z29 rfl Zh rfl rfl rfl (HdrC.C_time (⟨a1.parent, a1.uncles, a1.coinbase, a1.state, a1.txRoot, a1.receiptRoot, a1.bloom, a1.difficulty, a1.number, a1.limit, a1.used, a1.time, .slice A8 a1.extra.length c9, a1.mix, a1.nonce, a1.tail, a1.baseFee, a1.withdrawals, a1.blobUsed, a1.blobExcess, a1.beacon, a1.requests⟩ : HdrC))) rfl (Z24 rfl (Z0 (RV.neq64 rfl (by first | rfl | exact lit64 _ rfl) rfl (by first | rfl | exact lit64 _ rfl)) rfl (Z0 (Z112 rfl rfl rfl) rfl (Z0 (Z3 rfl) rfl ?_))))))
          by_cases h60 : a0.time = a1.time
          ·replace hq35 := if_t hq35 h60
           refine Z7 (.bool false) (congrArg Value.bool (congrArg (fun b => !b) (decide_eq_true h60))) (Z24 rfl (Z0 (Z30 rfl rfl rfl rfl) rfl (Z7 (ptr (some b15) 445) rfl (Z24 rfl (Z0 (Z122 rfl (List.Mem.tail _ Zh) rfl rfl rfl rfl (HdrC.C_mix_all (⟨a0.parent, a0.uncles, a0.coinbase, a0.state, a0.txRoot, a0.receiptRoot, a0.bloom, a0.difficulty, a0.number, a0.limit, a0.used, a0.time, .slice A1 a0.extra.length c2, a0.mix, a0.nonce, a0.tail, a0.baseFee, a0.withdrawals, a0.blobUsed, a0.blobExcess, a0.beacon, a0.requests⟩ : HdrC)) ((Z100 _).trans Zv)) rfl (Z24 rfl (Z0 (Z30 rfl rfl rfl rfl) rfl ?_)))))))
           refine Z7 (ptr (some b16) 445) rfl (Z24 rfl (Z0 (Z122 rfl Zh rfl rfl rfl rfl (HdrC.C_mix_all (⟨a1.parent, a1.uncles, a1.coinbase, a1.state, a1.txRoot, a1.receiptRoot, a1.bloom, a1.difficulty, a1.number, a1.limit, a1.used, a1.time, .slice A8 a1.extra.length c9, a1.mix, a1.nonce, a1.tail, a1.baseFee, a1.withdrawals, a1.blobUsed, a1.blobExcess, a1.beacon, a1.requests⟩ : HdrC)) ((Z100 _).trans Zv)) rfl (Z24 rfl (Z0 (RV.neA8 rfl rfl rfl rfl rfl rfl (Zv) (Zv)) rfl (Z7 (.bool (!decide (a0.mix = a1.mix))) (congrArg (fun b => Value.bool (!b)) (decide_eq_decide.2 Vector.toList_inj)) (Z0 (Z112 rfl rfl rfl) rfl (Z0 (Z3 rfl) rfl ?_)))))))
           by_cases h61 : a0.mix = a1.mix
           ·replace hq35 := if_t hq35 h61
            refine Z7 (.bool false) (congrArg Value.bool (congrArg (fun b => !b) (decide_eq_true h61))) (Z24 rfl (Z0 (Z30 rfl rfl rfl rfl) rfl (Z7 (ptr (some b15) 477) rfl (Z24 rfl (Z0 (Z122 rfl (List.Mem.tail _ Zh) rfl rfl rfl rfl (HdrC.C_nonce_all (⟨a0.parent, a0.uncles, a0.coinbase, a0.state, a0.txRoot, a0.receiptRoot, a0.bloom, a0.difficulty, a0.number, a0.limit, a0.used, a0.time, .slice A1 a0.extra.length c2, a0.mix, a0.nonce, a0.tail, a0.baseFee, a0.withdrawals, a0.blobUsed, a0.blobExcess, a0.beacon, a0.requests⟩ : HdrC)) ((Z100 _).trans Zv)) rfl (Z24 rfl (Z0 (Z30 rfl rfl rfl rfl) rfl ?_)))))))
            refine Z7 (ptr (some b16) 477) rfl (Z24 rfl (Z0 (Z122 rfl Zh rfl rfl rfl rfl (HdrC.C_nonce_all (⟨a1.parent, a1.uncles, a1.coinbase, a1.state, a1.txRoot, a1.receiptRoot, a1.bloom, a1.difficulty, a1.number, a1.limit, a1.used, a1.time, .slice A8 a1.extra.length c9, a1.mix, a1.nonce, a1.tail, a1.baseFee, a1.withdrawals, a1.blobUsed, a1.blobExcess, a1.beacon, a1.requests⟩ : HdrC)) ((Z100 _).trans Zv)) rfl (Z24 rfl (Z0 (RV.neA8 rfl rfl rfl rfl rfl rfl (Zv) (Zv)) rfl (Z7 (.bool (!decide (a0.nonce = a1.nonce))) (congrArg (fun b => Value.bool (!b)) (decide_eq_decide.2 Vector.toList_inj)) (Z0 (Z112 rfl rfl rfl) rfl (Z0 (Z3 rfl) rfl ?_)))))))
            by_cases h62 : a0.nonce = a1.nonce
            ·replace hq35 := if_t hq35 h62
             refine Z7 (.bool false) (congrArg Value.bool (congrArg (fun b => !b) (decide_eq_true h62))) (Z24 rfl (Z0 (Z30 rfl rfl rfl rfl) rfl (Z7 (ptr (some b15) 485) rfl (Z24 rfl (Z0 (Z29 rfl (List.Mem.tail _ Zh) rfl rfl rfl (HdrC.C_tail (⟨a0.parent, a0.uncles, a0.coinbase, a0.state, a0.txRoot, a0.receiptRoot, a0.bloom, a0.difficulty, a0.number, a0.limit, a0.used, a0.time, .slice A1 a0.extra.length c2, a0.mix, a0.nonce, a0.tail, a0.baseFee, a0.withdrawals, a0.blobUsed, a0.blobExcess, a0.beacon, a0.requests⟩ : HdrC))) rfl (Z24 rfl (Z0 (Z30 rfl rfl rfl rfl) rfl ?_)))))))
             refine Z7 (ptr (some b16) 485) rfl (Z24 rfl (Z0 (Z29 rfl Zh rfl rfl rfl (HdrC.C_tail (⟨a1.parent, a1.uncles, a1.coinbase, a1.state, a1.txRoot, a1.receiptRoot, a1.bloom, a1.difficulty, a1.number, a1.limit, a1.used, a1.time, .slice A8 a1.extra.length c9, a1.mix, a1.nonce, a1.tail, a1.baseFee, a1.withdrawals, a1.blobUsed, a1.blobExcess, a1.beacon, a1.requests⟩ : HdrC))) rfl (Z24 rfl (Z0 (RV.neq rfl rfl) rfl (Z0 (Z112 rfl rfl rfl) rfl (Z6 ?_))))))
             exact QW.join ⟨(!decide (a0.tail = a1.tail)), (Zi hq35).symm, rfl, rfl⟩ ⟨rfl, rfl, rfl, trivial⟩ (fun w m => m.pick [0, 1] 2 rfl rfl)
            ·replace hq35 := if_f hq35 h62
             refine Z7 (.bool true) (congrArg Value.bool (congrArg (fun b => !b) (decide_eq_false h62))) (Z23 rfl rfl rfl (Z23 rfl rfl rfl (Z23 rfl rfl rfl (Z23 rfl rfl rfl (Z23 rfl rfl rfl (Z0 (Z108 rfl rfl rfl) rfl (Z6 ?_)))))))
             exact QW.join ⟨true, (Zi hq35).symm, rfl, rfl⟩ ⟨rfl, rfl, rfl, trivial⟩ (fun w m => m.pick [0, 1] 2 rfl rfl)
           ·replace hq35 := if_f hq35 h61
            refine Z7 (.bool true) (congrArg Value.bool (congrArg (fun b => !b) (decide_eq_false h61))) (Z23 rfl rfl rfl (Z23 rfl rfl rfl (Z23 rfl rfl rfl (Z23 rfl rfl rfl (Z23 rfl rfl rfl (Z0 (Z108 rfl rfl rfl) rfl (Z0 (Z3 rfl) rfl ?_)))))))
            refine Z23 rfl rfl rfl (Z23 rfl rfl rfl (Z23 rfl rfl rfl (Z23 rfl rfl rfl (Z23 rfl rfl rfl (Z0 (Z108 rfl rfl rfl) rfl (Z6 ?_))))))
            exact QW.join ⟨true, (Zi hq35).symm, rfl, rfl⟩ ⟨rfl, rfl, rfl, trivial⟩ (fun w m => m.pick [0, 1] 2 rfl rfl)
          ·replace hq35 := if_f hq35 h60
           refine Z7 (.bool true) (congrArg Value.bool (congrArg (fun b => !b) (decide_eq_false h60))) (Z23 rfl rfl rfl (Z23 rfl rfl rfl (Z23 rfl rfl rfl (Z23 rfl rfl rfl (Z23 rfl rfl rfl (Z0 (Z108 rfl rfl rfl) rfl (Z0 (Z3 rfl) rfl ?_)))))))
           refine Z23 rfl rfl rfl (Z23 rfl rfl rfl (Z23 rfl rfl rfl (Z23 rfl rfl rfl (Z23 rfl rfl rfl (Z0 (Z108 rfl rfl rfl) rfl (Z0 (Z3 rfl) rfl (Z23 rfl rfl rfl ?_)))))))
           refine Z23 rfl rfl rfl (Z23 rfl rfl rfl (Z23 rfl rfl rfl (Z23 rfl rfl rfl (Z0 (Z108 rfl rfl rfl) rfl (Z6 ?_)))))
           exact QW.join ⟨true, (Zi hq35).symm, rfl, rfl⟩ ⟨rfl, rfl, rfl, trivial⟩ (fun w m => m.pick [0, 1] 2 rfl rfl)
         ·replace hq35 := if_f hq35 h59
          refine Z7 (.bool true) (congrArg Value.bool (congrArg (fun b => !b) (decide_eq_false h59))) (Z23 rfl rfl rfl (Z23 rfl rfl rfl (Z23 rfl rfl rfl (Z23 rfl rfl rfl (Z23 rfl rfl rfl (Z0 (Z108 rfl rfl rfl) rfl (Z0 (Z3 rfl) rfl ?_)))))))
          refine Z23 rfl rfl rfl (Z23 rfl rfl rfl (Z23 rfl rfl rfl (Z23 rfl rfl rfl (Z23 rfl rfl rfl (Z0 (Z108 rfl rfl rfl) rfl (Z0 (Z3 rfl) rfl (Z23 rfl rfl rfl ?_)))))))
          refine Z23 rfl rfl rfl (Z23 rfl rfl rfl (Z23 rfl rfl rfl (Z23 rfl rfl rfl (Z0 (Z108 rfl rfl rfl) rfl (Z0 (Z3 rfl) rfl (Z23 rfl rfl rfl (Z23 rfl rfl rfl ?_)))))))
          refine Z23 rfl rfl rfl (Z23 rfl rfl rfl (Z23 rfl rfl rfl (Z0 (Z108 rfl rfl rfl) rfl (Z6 ?_))))
          exact QW.join ⟨true, (Zi hq35).symm, rfl, rfl⟩ ⟨rfl, rfl, rfl, trivial⟩ (fun w m => m.pick [0, 1] 2 rfl rfl)
        ·replace hq35 := if_f hq35 h58
         refine Z7 (.bool true) (congrArg Value.bool (congrArg (fun b => !b) (decide_eq_false h58))) (Z23 rfl rfl rfl (Z23 rfl rfl rfl (Z23 rfl rfl rfl (Z23 rfl rfl rfl (Z23 rfl rfl rfl (Z0 (Z108 rfl rfl rfl) rfl (Z0 (Z3 rfl) rfl ?_)))))))
         refine Z23 rfl rfl rfl (Z23 rfl rfl rfl (Z23 rfl rfl rfl (Z23 rfl rfl rfl (Z23 rfl rfl rfl (Z0 (Z108 rfl rfl rfl) rfl (Z0 (Z3 rfl) rfl (Z23 rfl rfl rfl ?_)))))))
         refine Z23 rfl rfl rfl (Z23 rfl rfl rfl (Z23 rfl rfl rfl (Z23 rfl rfl rfl (Z0 (Z108 rfl rfl rfl) rfl (Z0 (Z3 rfl) rfl (Z23 rfl rfl rfl (Z23 rfl rfl rfl ?_)))))))
         refine Z23 rfl rfl rfl (Z23 rfl rfl rfl (Z23 rfl rfl rfl (Z0 (Z108 rfl rfl rfl) rfl (Z0 (Z3 rfl) rfl (Z23 rfl rfl rfl (Z23 rfl rfl rfl (Z23 rfl rfl rfl ?_)))))))
         refine Z23 rfl rfl rfl (Z23 rfl rfl rfl (Z0 (Z108 rfl rfl rfl) rfl (Z6 ?_)))
         exact QW.join ⟨true, (Zi hq35).symm, rfl, rfl⟩ ⟨rfl, rfl, rfl, trivial⟩ (fun w m => m.pick [0, 1] 2 rfl rfl)
       ·replace hq35 := if_f hq35 h57
        refine Z7 (.bool true) (congrArg Value.bool (congrArg (fun b => !b) (decide_eq_false h57))) (Z23 rfl rfl rfl (Z23 rfl rfl rfl (Z23 rfl rfl rfl (Z23 rfl rfl rfl (Z23 rfl rfl rfl (Z0 (Z108 rfl rfl rfl) rfl (Z0 (Z3 rfl) rfl ?_)))))))
        refine Z23 rfl rfl rfl (Z23 rfl rfl rfl (Z23 rfl rfl rfl (Z23 rfl rfl rfl (Z23 rfl rfl rfl (Z0 (Z108 rfl rfl rfl) rfl (Z0 (Z3 rfl) rfl (Z23 rfl rfl rfl ?_)))))))
        refine Z23 rfl rfl rfl (Z23 rfl rfl rfl (Z23 rfl rfl rfl (Z23 rfl rfl rfl (Z0 (Z108 rfl rfl rfl) rfl (Z0 (Z3 rfl) rfl (Z23 rfl rfl rfl (Z23 rfl rfl rfl ?_)))))))
        refine Z23 rfl rfl rfl (Z23 rfl rfl rfl (Z23 rfl rfl rfl (Z0 (Z108 rfl rfl rfl) rfl (Z0 (Z3 rfl) rfl (Z23 rfl rfl rfl (Z23 rfl rfl rfl (Z23 rfl rfl rfl ?_)))))))
        refine Z23 rfl rfl rfl (Z23 rfl rfl rfl (Z0 (Z108 rfl rfl rfl) rfl (Z0 (Z3 rfl) rfl (Z23 rfl rfl rfl (Z23 rfl rfl rfl (Z23 rfl rfl rfl (Z23 rfl rfl rfl ?_)))))))
        refine Z23 rfl rfl rfl (Z0 (Z108 rfl rfl rfl) rfl (Z6 ?_))
        exact QW.join ⟨true, (Zi hq35).symm, rfl, rfl⟩ ⟨rfl, rfl, rfl, trivial⟩ (fun w m => m.pick [0, 1] 2 rfl rfl)
      ·replace hq35 := if_f hq35 h56
       refine Z7 (.bool true) (congrArg Value.bool (congrArg (fun b => !b) (decide_eq_false h56))) (Z23 rfl rfl rfl (Z23 rfl rfl rfl (Z23 rfl rfl rfl (Z23 rfl rfl rfl (Z23 rfl rfl rfl (Z0 (Z108 rfl rfl rfl) rfl (Z0 (Z3 rfl) rfl ?_)))))))
       refine Z23 rfl rfl rfl (Z23 rfl rfl rfl (Z23 rfl rfl rfl (Z23 rfl rfl rfl (Z23 rfl rfl rfl (Z0 (Z108 rfl rfl rfl) rfl (Z0 (Z3 rfl) rfl (Z23 rfl rfl rfl ?_)))))))
       refine Z23 rfl rfl rfl (Z23 rfl rfl rfl (Z23 rfl rfl rfl (Z23 rfl rfl rfl (Z0 (Z108 rfl rfl rfl) rfl (Z0 (Z3 rfl) rfl (Z23 rfl rfl rfl (Z23 rfl rfl rfl ?_)))))))
       refine Z23 rfl rfl rfl (Z23 rfl rfl rfl (Z23 rfl rfl rfl (Z0 (Z108 rfl rfl rfl) rfl (Z0 (Z3 rfl) rfl (Z23 rfl rfl rfl (Z23 rfl rfl rfl (Z23 rfl rfl rfl ?_)))))))
       refine Z23 rfl rfl rfl (Z23 rfl rfl rfl (Z0 (Z108 rfl rfl rfl) rfl (Z0 (Z3 rfl) rfl (Z23 rfl rfl rfl (Z23 rfl rfl rfl (Z23 rfl rfl rfl (Z23 rfl rfl rfl ?_)))))))
       refine Z23 rfl rfl rfl (Z0 (Z108 rfl rfl rfl) rfl (Z0 (Z3 rfl) rfl (Z23 rfl rfl rfl (Z23 rfl rfl rfl (Z23 rfl rfl rfl (Z23 rfl rfl rfl (Z23 rfl rfl rfl ?_)))))))
       refine Z0 (Z108 rfl rfl rfl) rfl (Z6 ?_)
       exact QW.join ⟨true, (Zi hq35).symm, rfl, rfl⟩ ⟨rfl, rfl, rfl, trivial⟩ (fun w m => m.pick [0, 1] 2 rfl rfl)
   ·skip
    refine Z2 (Z0 (Z30 rfl rfl rfl rfl) rfl (Z7 (ptr (some b15) 0) rfl (Z0 (Z122 rfl (List.Mem.tail _ Zh) rfl rfl rfl rfl (HdrC.C_parent_all (⟨a0.parent, a0.uncles, a0.coinbase, a0.state, a0.txRoot, a0.receiptRoot, a0.bloom, a0.difficulty, a0.number, a0.limit, a0.used, a0.time, .slice A1 a0.extra.length c2, a0.mix, a0.nonce, a0.tail, a0.baseFee, a0.withdrawals, a0.blobUsed, a0.blobExcess, a0.beacon, a0.requests⟩ : HdrC)) ((Z100 _).trans Zv)) rfl (Z0 (Z30 rfl rfl rfl rfl) rfl (Z7 (ptr (some b16) 0) rfl (Z0 (Z122 rfl Zh rfl rfl rfl rfl (HdrC.C_parent_all (⟨a1.parent, a1.uncles, a1.coinbase, a1.state, a1.txRoot, a1.receiptRoot, a1.bloom, a1.difficulty, a1.number, a1.limit, a1.used, a1.time, .slice A8 a1.extra.length c9, a1.mix, a1.nonce, a1.tail, a1.baseFee, a1.withdrawals, a1.blobUsed, a1.blobExcess, a1.beacon, a1.requests⟩ : HdrC)) ((Z100 _).trans Zv)) rfl (Z0 (RV.neA8 rfl rfl rfl rfl rfl rfl (Zv) (Zv)) rfl ?_)))))))
    refine Z7 (.bool (!decide (a0.parent = a1.parent))) (congrArg (fun b => Value.bool (!b)) (decide_eq_decide.2 Vector.toList_inj)) (Z0 (Z3 rfl) rfl ?_)
    by_cases h63 : a0.parent = a1.parent
    ·replace hq26 := if_t hq26 h63
     refine Z7 (.bool false) (congrArg Value.bool (congrArg (fun b => !b) (decide_eq_true h63))) (Z24 rfl (Z0 (Z30 rfl rfl rfl rfl) rfl (Z7 (ptr (some b15) 32) rfl (Z24 rfl (Z0 (Z122 rfl (List.Mem.tail _ Zh) rfl rfl rfl rfl (HdrC.C_uncles_all (⟨a0.parent, a0.uncles, a0.coinbase, a0.state, a0.txRoot, a0.receiptRoot, a0.bloom, a0.difficulty, a0.number, a0.limit, a0.used, a0.time, .slice A1 a0.extra.length c2, a0.mix, a0.nonce, a0.tail, a0.baseFee, a0.withdrawals, a0.blobUsed, a0.blobExcess, a0.beacon, a0.requests⟩ : HdrC)) ((Z100 _).trans Zv)) rfl (Z24 rfl (Z0 (Z30 rfl rfl rfl rfl) rfl ?_)))))))
     refine Z7 (ptr (some b16) 32) rfl (Z24 rfl (Z0 (Z122 rfl Zh rfl rfl rfl rfl (HdrC.C_uncles_all (⟨a1.parent, a1.uncles, a1.coinbase, a1.state, a1.txRoot, a1.receiptRoot, a1.bloom, a1.difficulty, a1.number, a1.limit, a1.used, a1.time, .slice A8 a1.extra.length c9, a1.mix, a1.nonce, a1.tail, a1.baseFee, a1.withdrawals, a1.blobUsed, a1.blobExcess, a1.beacon, a1.requests⟩ : HdrC)) ((Z100 _).trans Zv)) rfl (Z24 rfl (Z0 (RV.neA8 rfl rfl rfl rfl rfl rfl (Zv) (Zv)) rfl (Z7 (.bool (!decide (a0.uncles = a1.uncles))) (congrArg (fun b => Value.bool (!b)) (decide_eq_decide.2 Vector.toList_inj)) (Z0 (Z112 rfl rfl rfl) rfl (Z0 (Z3 rfl) rfl ?_)))))))
     by_cases h64 : a0.uncles = a1.uncles
     ·replace hq26 := if_t hq26 h64
      refine Z7 (.bool false) (congrArg Value.bool (congrArg (fun b => !b) (decide_eq_true h64))) (Z24 rfl (Z0 (Z30 rfl rfl rfl rfl) rfl (Z7 (ptr (some b15) 64) rfl (Z24 rfl (Z0 (Z122 rfl (List.Mem.tail _ Zh) rfl rfl rfl rfl (Z160 (⟨a0.parent, a0.uncles, a0.coinbase, a0.state, a0.txRoot, a0.receiptRoot, a0.bloom, a0.difficulty, a0.number, a0.limit, a0.used, a0.time, .slice A1 a0.extra.length c2, a0.mix, a0.nonce, a0.tail, a0.baseFee, a0.withdrawals, a0.blobUsed, a0.blobExcess, a0.beacon, a0.requests⟩ : HdrC)) ((Z100 _).trans Zv)) rfl (Z24 rfl (Z0 (Z30 rfl rfl rfl rfl) rfl ?_)))))))
      refine Z7 (ptr (some b16) 64) rfl (Z24 rfl (Z0 (Z122 rfl Zh rfl rfl rfl rfl (Z160 (⟨a1.parent, a1.uncles, a1.coinbase, a1.state, a1.txRoot, a1.receiptRoot, a1.bloom, a1.difficulty, a1.number, a1.limit, a1.used, a1.time, .slice A8 a1.extra.length c9, a1.mix, a1.nonce, a1.tail, a1.baseFee, a1.withdrawals, a1.blobUsed, a1.blobExcess, a1.beacon, a1.requests⟩ : HdrC)) ((Z100 _).trans Zv)) rfl (Z24 rfl (Z0 (RV.neA8 rfl rfl rfl rfl rfl rfl (Zv) (Zv)) rfl (Z7 (.bool (!decide (a0.coinbase = a1.coinbase))) (congrArg (fun b => Value.bool (!b)) (decide_eq_decide.2 Vector.toList_inj)) (Z0 (Z112 rfl rfl rfl) rfl (Z0 (Z3 rfl) rfl ?_)))))))
      by_cases h65 : a0.coinbase = a1.coinbase
      ·replace hq26 := if_t hq26 h65
       refine Z7 (.bool false) (congrArg Value.bool (congrArg (fun b => !b) (decide_eq_true h65))) (Z24 rfl (Z0 (Z30 rfl rfl rfl rfl) rfl (Z7 (ptr (some b15) 84) rfl (Z24 rfl (Z0 (Z122 rfl (List.Mem.tail _ Zh) rfl rfl rfl rfl (HdrC.C_state_all (⟨a0.parent, a0.uncles, a0.coinbase, a0.state, a0.txRoot, a0.receiptRoot, a0.bloom, a0.difficulty, a0.number, a0.limit, a0.used, a0.time, .slice A1 a0.extra.length c2, a0.mix, a0.nonce, a0.tail, a0.baseFee, a0.withdrawals, a0.blobUsed, a0.blobExcess, a0.beacon, a0.requests⟩ : HdrC)) ((Z100 _).trans Zv)) rfl (Z24 rfl (Z0 (Z30 rfl rfl rfl rfl) rfl ?_)))))))
       refine Z7 (ptr (some b16) 84) rfl (Z24 rfl (Z0 (Z122 rfl Zh rfl rfl rfl rfl (HdrC.C_state_all (⟨a1.parent, a1.uncles, a1.coinbase, a1.state, a1.txRoot, a1.receiptRoot, a1.bloom, a1.difficulty, a1.number, a1.limit, a1.used, a1.time, .slice A8 a1.extra.length c9, a1.mix, a1.nonce, a1.tail, a1.baseFee, a1.withdrawals, a1.blobUsed, a1.blobExcess, a1.beacon, a1.requests⟩ : HdrC)) ((Z100 _).trans Zv)) rfl (Z24 rfl (Z0 (RV.neA8 rfl rfl rfl rfl rfl rfl (Zv) (Zv)) rfl (Z7 (.bool (!decide (a0.state = a1.state))) (congrArg (fun b => Value.bool (!b)) (decide_eq_decide.2 Vector.toList_inj)) (Z0 (Z112 rfl rfl rfl) rfl (Z0 (Z3 rfl) rfl ?_)))))))
       by_cases h66 : a0.state = a1.state
       ·replace hq26 := if_t hq26 h66
        refine Z7 (.bool false) (congrArg Value.bool (congrArg (fun b => !b) (decide_eq_true h66))) (Z24 rfl (Z0 (Z30 rfl rfl rfl rfl) rfl (Z7 (ptr (some b15) 116) rfl (Z24 rfl (Z0 (Z122 rfl (List.Mem.tail _ Zh) rfl rfl rfl rfl (HdrC.C_txRoot_all (⟨a0.parent, a0.uncles, a0.coinbase, a0.state, a0.txRoot, a0.receiptRoot, a0.bloom, a0.difficulty, a0.number, a0.limit, a0.used, a0.time, .slice A1 a0.extra.length c2, a0.mix, a0.nonce, a0.tail, a0.baseFee, a0.withdrawals, a0.blobUsed, a0.blobExcess, a0.beacon, a0.requests⟩ : HdrC)) ((Z100 _).trans Zv)) rfl (Z24 rfl (Z0 (Z30 rfl rfl rfl rfl) rfl ?_)))))))
        refine Z7 (ptr (some b16) 116) rfl (Z24 rfl (Z0 (Z122 rfl Zh rfl rfl rfl rfl (HdrC.C_txRoot_all (⟨a1.parent, a1.uncles, a1.coinbase, a1.state, a1.txRoot, a1.receiptRoot, a1.bloom, a1.difficulty, a1.number, a1.limit, a1.used, a1.time, .slice A8 a1.extra.length c9, a1.mix, a1.nonce, a1.tail, a1.baseFee, a1.withdrawals, a1.blobUsed, a1.blobExcess, a1.beacon, a1.requests⟩ : HdrC)) ((Z100 _).trans Zv)) rfl (Z24 rfl (Z0 (RV.neA8 rfl rfl rfl rfl rfl rfl (Zv) (Zv)) rfl (Z7 (.bool (!decide (a0.txRoot = a1.txRoot))) (congrArg (fun b => Value.bool (!b)) (decide_eq_decide.2 Vector.toList_inj)) (Z0 (Z112 rfl rfl rfl) rfl (Z0 (Z3 rfl) rfl ?_)))))))
        by_cases h67 : a0.txRoot = a1.txRoot
        ·replace hq26 := if_t hq26 h67
         refine Z7 (.bool false) (congrArg Value.bool (congrArg (fun b => !b) (decide_eq_true h67))) (Z24 rfl (Z0 (Z30 rfl rfl rfl rfl) rfl (Z7 (ptr (some b15) 148) rfl (Z24 rfl (Z0 (Z122 rfl (List.Mem.tail _ Zh) rfl rfl rfl rfl (Z147 (⟨a0.parent, a0.uncles, a0.coinbase, a0.state, a0.txRoot, a0.receiptRoot, a0.bloom, a0.difficulty, a0.number, a0.limit, a0.used, a0.time, .slice A1 a0.extra.length c2, a0.mix, a0.nonce, a0.tail, a0.baseFee, a0.withdrawals, a0.blobUsed, a0.blobExcess, a0.beacon, a0.requests⟩ : HdrC)) ((Z100 _).trans Zv)) rfl (Z24 rfl (Z0 (Z30 rfl rfl rfl rfl) rfl ?_)))))))
         refine Z7 (ptr (some b16) 148) rfl (Z24 rfl (Z0 (Z122 rfl Zh rfl rfl rfl rfl (Z147 (⟨a1.parent, a1.uncles, a1.coinbase, a1.state, a1.txRoot, a1.receiptRoot, a1.bloom, a1.difficulty, a1.number, a1.limit, a1.used, a1.time, .slice A8 a1.extra.length c9, a1.mix, a1.nonce, a1.tail, a1.baseFee, a1.withdrawals, a1.blobUsed, a1.blobExcess, a1.beacon, a1.requests⟩ : HdrC)) ((Z100 _).trans Zv)) rfl (Z24 rfl (Z0 (RV.neA8 rfl rfl rfl rfl rfl rfl (Zv) (Zv)) rfl (Z7 (.bool (!decide (a0.receiptRoot = a1.receiptRoot))) (congrArg (fun b => Value.bool (!b)) (decide_eq_decide.2 Vector.toList_inj)) (Z0 (Z112 rfl rfl rfl) rfl (Z0 (Z3 rfl) rfl ?_)))))))
         by_cases h68 : a0.receiptRoot = a1.receiptRoot
         ·replace hq26 := if_t hq26 h68
          refine Z7 (.bool false) (congrArg Value.bool (congrArg (fun b => !b) (decide_eq_true h68))) (Z24 rfl (Z0 (Z30 rfl rfl rfl rfl) rfl (Z7 (ptr (some b15) 180) rfl (Z24 rfl (Z0 (Z122 rfl (List.Mem.tail _ Zh) rfl rfl rfl rfl (HdrC.C_bloom_all (⟨a0.parent, a0.uncles, a0.coinbase, a0.state, a0.txRoot, a0.receiptRoot, a0.bloom, a0.difficulty, a0.number, a0.limit, a0.used, a0.time, .slice A1 a0.extra.length c2, a0.mix, a0.nonce, a0.tail, a0.baseFee, a0.withdrawals, a0.blobUsed, a0.blobExcess, a0.beacon, a0.requests⟩ : HdrC)) ((Z100 _).trans Zv)) rfl (Z24 rfl (Z0 (Z30 rfl rfl rfl rfl) rfl ?_)))))))
          refine Z7 (ptr (some b16) 180) rfl (Z24 rfl (Z0 (Z122 rfl Zh rfl rfl rfl rfl (HdrC.C_bloom_all (⟨a1.parent, a1.uncles, a1.coinbase, a1.state, a1.txRoot, a1.receiptRoot, a1.bloom, a1.difficulty, a1.number, a1.limit, a1.used, a1.time, .slice A8 a1.extra.length c9, a1.mix, a1.nonce, a1.tail, a1.baseFee, a1.withdrawals, a1.blobUsed, a1.blobExcess, a1.beacon, a1.requests⟩ : HdrC)) ((Z100 _).trans Zv)) rfl (Z24 rfl (Z0 (RV.neA8 rfl rfl rfl rfl rfl rfl (Zv) (Zv)) rfl (Z7 (.bool (!decide (a0.bloom = a1.bloom))) (congrArg (fun b => Value.bool (!b)) (decide_eq_decide.2 Vector.toList_inj)) (Z0 (Z112 rfl rfl rfl) rfl (Z6 ?_)))))))
          exact QW.join ⟨(!decide (a0.bloom = a1.bloom)), (Zi hq26).symm, rfl, rfl⟩ ⟨rfl, rfl, rfl, trivial⟩ (fun w m => m.pick [0, 1] 2 rfl rfl)
         ·replace hq26 := if_f hq26 h68
          refine Z7 (.bool true) (congrArg Value.bool (congrArg (fun b => !b) (decide_eq_false h68))) (Z23 rfl rfl rfl (Z23 rfl rfl rfl (Z23 rfl rfl rfl (Z23 rfl rfl rfl (Z23 rfl rfl rfl (Z0 (Z108 rfl rfl rfl) rfl (Z6 ?_)))))))
          exact QW.join ⟨true, (Zi hq26).symm, rfl, rfl⟩ ⟨rfl, rfl, rfl, trivial⟩ (fun w m => m.pick [0, 1] 2 rfl rfl)
        ·replace hq26 := if_f hq26 h67
         refine Z7 (.bool true) (congrArg Value.bool (congrArg (fun b => !b) (decide_eq_false h67))) (Z23 rfl rfl rfl (Z23 rfl rfl rfl (Z23 rfl rfl rfl (Z23 rfl rfl rfl (Z23 rfl rfl rfl (Z0 (Z108 rfl rfl rfl) rfl (Z0 (Z3 rfl) rfl ?_)))))))
         refine Z23 rfl rfl rfl (Z23 rfl rfl rfl (Z23 rfl rfl rfl (Z23 rfl rfl rfl (Z23 rfl rfl rfl (Z0 (Z108 rfl rfl rfl) rfl (Z6 ?_))))))
         exact QW.join ⟨true, (Zi hq26).symm, rfl, rfl⟩ ⟨rfl, rfl, rfl, trivial⟩ (fun w m => m.pick [0, 1] 2 rfl rfl)
       ·replace hq26 := if_f hq26 h66
        refine Z7 (.bool true) (congrArg Value.bool (congrArg (fun b => !b) (decide_eq_false h66))) (Z23 rfl rfl rfl (Z23 rfl rfl rfl (Z23 rfl rfl rfl (Z23 rfl rfl rfl (Z23 rfl rfl rfl (Z0 (Z108 rfl rfl rfl) rfl (Z0 (Z3 rfl) rfl ?_)))))))
        refine Z23 rfl rfl rfl (Z23 rfl rfl rfl (Z23 rfl rfl rfl (Z23 rfl rfl rfl (Z23 rfl rfl rfl (Z0 (Z108 rfl rfl rfl) rfl (Z0 (Z3 rfl) rfl (Z23 rfl rfl rfl ?_)))))))
        refine Z23 rfl rfl rfl (Z23 rfl rfl rfl (Z23 rfl rfl rfl (Z23 rfl rfl rfl (Z0 (Z108 rfl rfl rfl) rfl (Z6 ?_)))))
        exact QW.join ⟨true, (Zi hq26).symm, rfl, rfl⟩ ⟨rfl, rfl, rfl, trivial⟩ (fun w m => m.pick [0, 1] 2 rfl rfl)
      ·replace hq26 := if_f hq26 h65
       refine Z7 (.bool true) (congrArg Value.bool (congrArg (fun b => !b) (decide_eq_false h65))) (Z23 rfl rfl rfl (Z23 rfl rfl rfl (Z23 rfl rfl rfl (Z23 rfl rfl rfl (Z23 rfl rfl rfl (Z0 (Z108 rfl rfl rfl) rfl (Z0 (Z3 rfl) rfl ?_)))))))
       refine Z23 rfl rfl rfl (Z23 rfl rfl rfl (Z23 rfl rfl rfl (Z23 rfl rfl rfl (Z23 rfl rfl rfl (Z0 (Z108 rfl rfl rfl) rfl (Z0 (Z3 rfl) rfl (Z23 rfl rfl rfl ?_)))))))
       refine Z23 rfl rfl rfl (Z23 rfl rfl rfl (Z23 rfl rfl rfl (Z23 rfl rfl rfl (Z0 (Z108 rfl rfl rfl) rfl (Z0 (Z3 rfl) rfl (Z23 rfl rfl rfl (Z23 rfl rfl rfl ?_)))))))
       refine Z23 rfl rfl rfl (Z23 rfl rfl rfl (Z23 rfl rfl rfl (Z0 (Z108 rfl rfl rfl) rfl (Z6 ?_))))
       exact QW.join ⟨true, (Zi hq26).symm, rfl, rfl⟩ ⟨rfl, rfl, rfl, trivial⟩ (fun w m => m.pick [0, 1] 2 rfl rfl)
     ·replace hq26 := if_f hq26 h64
      refine Z7 (.bool true) (congrArg Value.bool (congrArg (fun b => !b) (decide_eq_false h64))) (Z23 rfl rfl rfl (Z23 rfl rfl rfl (Z23 rfl rfl rfl (Z23 rfl rfl rfl (Z23 rfl rfl rfl (Z0 (Z108 rfl rfl rfl) rfl (Z0 (Z3 rfl) rfl ?_)))))))
      refine Z23 rfl rfl rfl (Z23 rfl rfl rfl (Z23 rfl rfl rfl (Z23 rfl rfl rfl (Z23 rfl rfl rfl (Z0 (Z108 rfl rfl rfl) rfl (Z0 (Z3 rfl) rfl (Z23 rfl rfl rfl ?_)))))))
      refine Z23 rfl rfl rfl (Z23 rfl rfl rfl (Z23 rfl rfl rfl (Z23 rfl rfl rfl (Z0 (Z108 rfl rfl rfl) rfl (Z0 (Z3 rfl) rfl (Z23 rfl rfl rfl (Z23 rfl rfl rfl ?_)))))))
      refine Z23 rfl rfl rfl (Z23 rfl rfl rfl (Z23 rfl rfl rfl (Z0 (Z108 rfl rfl rfl) rfl (Z0 (Z3 rfl) rfl (Z23 rfl rfl rfl (Z23 rfl rfl rfl (Z23 rfl rfl rfl ?_)))))))
      refine Z23 rfl rfl rfl (Z23 rfl rfl rfl (Z0 (Z108 rfl rfl rfl) rfl (Z6 ?_)))
      exact QW.join ⟨true, (Zi hq26).symm, rfl, rfl⟩ ⟨rfl, rfl, rfl, trivial⟩ (fun w m => m.pick [0, 1] 2 rfl rfl)
    ·replace hq26 := if_f hq26 h63
     refine Z7 (.bool true) (congrArg Value.bool (congrArg (fun b => !b) (decide_eq_false h63))) (Z23 rfl rfl rfl (Z23 rfl rfl rfl (Z23 rfl rfl rfl (Z23 rfl rfl rfl (Z23 rfl rfl rfl (Z0 (Z108 rfl rfl rfl) rfl (Z0 (Z3 rfl) rfl ?_)))))))
     refine Z23 rfl rfl rfl (Z23 rfl rfl rfl (Z23 rfl rfl rfl (Z23 rfl rfl rfl (Z23 rfl rfl rfl (Z0 (Z108 rfl rfl rfl) rfl (Z0 (Z3 rfl) rfl (Z23 rfl rfl rfl ?_)))))))
     refine Z23 rfl rfl rfl (Z23 rfl rfl rfl (Z23 rfl rfl rfl (Z23 rfl rfl rfl (Z0 (Z108 rfl rfl rfl) rfl (Z0 (Z3 rfl) rfl (Z23 rfl rfl rfl (Z23 rfl rfl rfl ?_)))))))
     refine Z23 rfl rfl rfl (Z23 rfl rfl rfl (Z23 rfl rfl rfl (Z0 (Z108 rfl rfl rfl) rfl (Z0 (Z3 rfl) rfl (Z23 rfl rfl rfl (Z23 rfl rfl rfl (Z23 rfl rfl rfl ?_)))))))
     refine Z23 rfl rfl rfl (Z23 rfl rfl rfl (Z0 (Z108 rfl rfl rfl) rfl (Z0 (Z3 rfl) rfl (Z23 rfl rfl rfl (Z23 rfl rfl rfl (Z23 rfl rfl rfl (Z23 rfl rfl rfl ?_)))))))
     refine Z23 rfl rfl rfl (Z0 (Z108 rfl rfl rfl) rfl (Z6 ?_))
     exact QW.join ⟨true, (Zi hq26).symm, rfl, rfl⟩ ⟨rfl, rfl, rfl, trivial⟩ (fun w m => m.pick [0, 1] 2 rfl rfl)
  ·skip
   refine CW.block (Z139 (fun k L' M' => ∃ n69 : Nat, (waybillref19_Same.l1 a0 a1 k n69) = some q18 ∧ (n69 ≤ 9223372036854775807) ∧ L' = [(2, ptr (some b15) 0), (3, ptr (some b16) 0), (5, .int .i64 ((n69 : Nat) : Int))] ∧ M' = ((some b16, blk (⟨a1.parent, a1.uncles, a1.coinbase, a1.state, a1.txRoot, a1.receiptRoot, a1.bloom, a1.difficulty, a1.number, a1.limit, a1.used, a1.time, .slice A8 a1.extra.length c9, a1.mix, a1.nonce, a1.tail, a1.baseFee, a1.withdrawals, a1.blobUsed, a1.blobExcess, a1.beacon, a1.requests⟩ : HdrC).C 38) :: (some b15, blk (⟨a0.parent, a0.uncles, a0.coinbase, a0.state, a0.txRoot, a0.receiptRoot, a0.bloom, a0.difficulty, a0.number, a0.limit, a0.used, a0.time, .slice A1 a0.extra.length c2, a0.mix, a0.nonce, a0.tail, a0.baseFee, a0.withdrawals, a0.blobUsed, a0.blobExcess, a0.beacon, a0.requests⟩ : HdrC).C 38) :: ([] ++ N))) (k0 := (a0.extra.length - 0 + 2)) ⟨0, hq19, (by omega), rfl, rfl⟩ ⟨rfl, rfl, rfl, trivial⟩ (fun w m => m.pick [0, 1] 2 rfl rfl) ?_)
   clear hq19
   rintro k71 L74 M75 ⟨n69, hl72, b70, e76, e77⟩
   rw [e76, e77]
   clear e76 e77 L74 M75
   rcases k71 with _ | k71
   ·rw [waybillref19_Same.l1] at hl72; cases hl72
   rw [waybillref19_Same.l1] at hl72
   refine Z4 (Z4 (Z2 (Z0 (Z3 rfl) rfl (Z0 (Z30 rfl rfl rfl rfl) rfl (Z7 (ptr (some b15) 444) rfl (Z0 (Z29 rfl (List.Mem.tail _ Zh) rfl rfl rfl (Z148 (⟨a0.parent, a0.uncles, a0.coinbase, a0.state, a0.txRoot, a0.receiptRoot, a0.bloom, a0.difficulty, a0.number, a0.limit, a0.used, a0.time, .slice A1 a0.extra.length c2, a0.mix, a0.nonce, a0.tail, a0.baseFee, a0.withdrawals, a0.blobUsed, a0.blobExcess, a0.beacon, a0.requests⟩ : HdrC))) rfl (Z0 (RV.len rfl rfl) rfl (Z0 (RV.lss rfl rfl) rfl (Z7 (.bool (decide (n69 < a0.extra.length))) (congrArg Value.bool (decide_eq_decide.2 (by omega))) ?_)))))))))
   refine Z6 (Z1 ?_)
   by_cases h78 : n69 < a0.extra.length
   ·replace hl72 := if_t hl72 h78
    refine Z13 rfl (decide_eq_true h78) (CW.skip (Z1 (Z4 (CW.block (Z4 (Z151 11 mixed (by kernel_rfl) rfl (Z18 0 rfl (by kernel_rfl) rfl (Z30 rfl rfl rfl rfl) rfl (UW.slot (ptr (some b15) 444) rfl (Z18 1 rfl (by kernel_rfl) rfl (Z29 rfl (List.Mem.tail _ Zh) rfl rfl rfl (Z148 (⟨a0.parent, a0.uncles, a0.coinbase, a0.state, a0.txRoot, a0.receiptRoot, a0.bloom, a0.difficulty, a0.number, a0.limit, a0.used, a0.time, .slice A1 a0.extra.length c2, a0.mix, a0.nonce, a0.tail, a0.baseFee, a0.withdrawals, a0.blobUsed, a0.blobExcess, a0.beacon, a0.requests⟩ : HdrC))) rfl (Z18 2 rfl (by kernel_rfl) rfl (Z3 rfl) rfl ?_))))))))))
    obtain ⟨x79, hx80, hl72⟩ := Z105 hl72
    have hl81 := Z145 hx80
    refine Z18 3 rfl (by kernel_rfl) rfl (Z152 (n69) rfl rfl rfl rfl rfl (v3.isSome (by decide) hl81) (by omega)) rfl (Z18 4 rfl (by kernel_rfl) rfl (Z21 rfl rfl rfl (fun w m => v3.cell (More.of hΦ 2 m rfl) (u8s_at hx80))) rfl (Z18 5 rfl (by kernel_rfl) rfl (Z30 rfl rfl rfl rfl) rfl (UW.slot (ptr (some b16) 444) rfl (Z18 6 rfl (by kernel_rfl) rfl (Z29 rfl Zh rfl rfl rfl (Z148 (⟨a1.parent, a1.uncles, a1.coinbase, a1.state, a1.txRoot, a1.receiptRoot, a1.bloom, a1.difficulty, a1.number, a1.limit, a1.used, a1.time, .slice A8 a1.extra.length c9, a1.mix, a1.nonce, a1.tail, a1.baseFee, a1.withdrawals, a1.blobUsed, a1.blobExcess, a1.beacon, a1.requests⟩ : HdrC))) rfl (Z18 7 rfl (by kernel_rfl) rfl (Z3 rfl) rfl ?_)))))
    obtain ⟨x82, hx83, hl72⟩ := Z105 hl72
    have hl84 := Z145 hx83
    refine Z18 8 rfl (by kernel_rfl) rfl (Z152 (n69) rfl rfl rfl rfl rfl (v10.isSome (by decide) hl84) (by omega)) rfl (Z18 9 rfl (by kernel_rfl) rfl (Z21 rfl rfl rfl (fun w m => v10.cell (More.of hΦ 2 m rfl) (u8s_at hx83))) rfl (Z18 10 rfl (by kernel_rfl) rfl (RV.neq8 rfl (by first | rfl | exact lit8 _ rfl) rfl (by first | rfl | exact lit8 _ rfl)) rfl (UW.nil (by kernel_rfl) (Z6 (Z1 ?_)))))
    by_cases h85 : x79 = x82
    ·replace hl72 := if_t hl72 h85
     refine Z14 rfl (congrArg (fun b => !b) (decide_eq_true h85)) (CW.skip (Z27 (Z1 (Z2 (Z0 (Z3 rfl) rfl (Z0 (RV.add rfl rfl (by omega)) rfl (Z7 (.int .i64 (((n69 + 1) : Nat) : Int)) (by first | rfl | (congr 1) | (congr 1; omega)) (Z0 (Z5 rfl) rfl (Z6 ?_)))))))))
     exact Z132 (k' := k71) (Nat.lt_succ_self _) ⟨(n69 + 1), hl72, (by omega), rfl, rfl⟩ ⟨rfl, rfl, rfl, trivial⟩ (fun w m => m.pick [0, 1] 2 rfl rfl)
    ·replace hl72 := if_f hl72 h85
     refine Z13 rfl (congrArg (fun b => !b) (decide_eq_false h85)) (Z4 (Z2 (Z0 (Z5 rfl) rfl (Z6 (Z1 (CW.ret (Z16 (Z8 (Z8 (Z16 (Z8 ?_)))))))))))
     have hc := Zi hl72
     subst hc
     try dsimp only at hf
     refine Z8 ?_
     have e0 := Zi hf
     subst e0
     refine Z110 (rs := [.tmp 4]) ([.bool false]) ((some b16, blk (⟨a1.parent, a1.uncles, a1.coinbase, a1.state, a1.txRoot, a1.receiptRoot, a1.bloom, a1.difficulty, a1.number, a1.limit, a1.used, a1.time, .slice A8 a1.extra.length c9, a1.mix, a1.nonce, a1.tail, a1.baseFee, a1.withdrawals, a1.blobUsed, a1.blobExcess, a1.beacon, a1.requests⟩ : HdrC).C 38) :: (some b15, blk (⟨a0.parent, a0.uncles, a0.coinbase, a0.state, a0.txRoot, a0.receiptRoot, a0.bloom, a0.difficulty, a0.number, a0.limit, a0.used, a0.time, .slice A1 a0.extra.length c2, a0.mix, a0.nonce, a0.tail, a0.baseFee, a0.withdrawals, a0.blobUsed, a0.blobExcess, a0.beacon, a0.requests⟩ : HdrC).C 38) :: []) rfl ?_ rfl ?_ ?_ _ (.inl rfl)
     ·exact ⟨rfl, trivial⟩
     ·exact rfl
     ·exact (fun w m => m)
   ·replace hl72 := if_f hl72 h78
    refine Z14 rfl (decide_eq_false h78) (CW.exit (Z9 (Z9 (Z15 ?_))))
    exact QW.join ⟨(Zi hl72).symm, rfl, rfl⟩ ⟨rfl, rfl, trivial⟩ (fun w m => m.pick [0, 1] 2 rfl rfl)
 ·replace hf := if_f hf h17
  refine Z13 rfl (congrArg (fun b => !b) (decide_eq_false h17)) (Z4 (Z2 (Z0 (Z5 rfl) rfl (Z6 (Z1 (CW.ret (Z8 ?_)))))))
  have e0 := Zi hf
  subst e0
  refine Z110 (rs := [.tmp 4]) ([.bool false]) ((some b16, blk (⟨a1.parent, a1.uncles, a1.coinbase, a1.state, a1.txRoot, a1.receiptRoot, a1.bloom, a1.difficulty, a1.number, a1.limit, a1.used, a1.time, .slice A8 a1.extra.length c9, a1.mix, a1.nonce, a1.tail, a1.baseFee, a1.withdrawals, a1.blobUsed, a1.blobExcess, a1.beacon, a1.requests⟩ : HdrC).C 38) :: (some b15, blk (⟨a0.parent, a0.uncles, a0.coinbase, a0.state, a0.txRoot, a0.receiptRoot, a0.bloom, a0.difficulty, a0.number, a0.limit, a0.used, a0.time, .slice A1 a0.extra.length c2, a0.mix, a0.nonce, a0.tail, a0.baseFee, a0.withdrawals, a0.blobUsed, a0.blobExcess, a0.beacon, a0.requests⟩ : HdrC).C 38) :: []) rfl ?_ rfl ?_ ?_ _ (.inl rfl)
  ·exact ⟨rfl, trivial⟩
  ·exact rfl
  ·exact (fun w m => m)
abbrev Zc : List Value := [.bool false, .slice none 0 0, .slice none 0 0]
abbrev DecR (w0 : World) (Φ : Ctx) (res0 : It) (res1 : Nat) : Value → List Ent → Prop := fun v G => ∃ B : List Ent, ∃ cr0 : List Value, (ItRd (More w0 Φ B) cr0 res0) ∧ (res1 ≤ 9223372036854775807) ∧ v = .tuple #[.agg cr0.toArray, .int .i64 ((res1 : Nat) : Int)] ∧ G = B
abbrev DecQ (w0 : World) (Φ : Ctx) (N : List Ent) (res0 : It) (res1 : Nat) := bodyPost Tryd.prog Tryd.f39 (EndsJ w0 (fun v M' => ∃ G, DecR w0 Φ res0 res1 v G ∧ M' = G ++ N))
def JD (w0 : World) (Φ : Ctx) (N : List Ent) (res0 : It) (res1 : Nat) : Nat → Nat → Z128 → List Ent → Prop
 | 0, _, L, M => ∃ b2 : Nat, res0 = It.zero ∧ res1 ≤ 9223372036854775807 ∧ L = [(2, ptr (some b2) 0), (9, .int .i64 ((res1 : Nat) : Int))] ∧ M = (some b2, blk Zc 25) :: N
 | l + 1, k, L, M => ∃ (b : List (BitVec 8)) (A : Option Addr) (c : Nat) (F : List Frm) (B : List Ent) (ob4 : Option Nat) (c4 : Nat) (r4 : List Value) (b5 : Nat) (cs5 : List Value) (b2 : Nat) (it : It),
   dec k (l + 1) b it (F.map Frm.pure) = some (res0, res1) ∧ (l = 1 → ItRd (More w0 Φ B) cs5 it) ∧ View (More w0 Φ B) A b.length c 1 (u8s b) ∧ (∀ f ∈ F, f.Ok (More w0 Φ B)) ∧ OwnS ob4 F.length c4 2 (stC F) r4 ∧ cs5.length = 3 ∧
   L = [(0, .slice A b.length c), (2, ptr (some b2) 0), (4, sl ob4 0 F.length c4), (5, ptr (some b5) 0)] ∧
   M = (ob4, blk (stC F ++ r4) 136) :: (some b5, blk cs5 25) :: (some b2, blk Zc 25) :: (F.map (Frm.ent 25) ++ (B ++ N))
theorem toBroken {w0 w : World} {s c5 c2 : Ent} {X B N : List Ent} (m : Mem w0 w (s :: c5 :: c2 :: (X ++ (B ++ N)))) : Mem w0 w (c2 :: N) :=
 m.tail.tail.sublist (List.Sublist.cons_cons _ ((List.sublist_append_right _ _).trans (List.sublist_append_right _ _)))
theorem dec_w3 (w0 : World) (Φ : Ctx) (N : List Ent) (hΦ : ∀ w, Mem w0 w N → Φ w) (res0 : It) (res1 : Nat) (k m : Nat) (hkm : k ≤ m) (L : Z128) (M : List Ent) (h : JD w0 Φ N res0 res1 3 k L M) :
  CW Tryd.prog 105 (JumpJ 105 w0 (JD w0 Φ N res0 res1) m (DecQ w0 Φ N res0 res1)) w0 (afterL (scopeOf Tryd.f39.body) 3) L M := by
 obtain ⟨b, A, c, F, B, ob4, c4, r4, b5, cs5, b2, it, hf, -, vb, hF, o4, h5, rfl, rfl⟩ := h
 rcases k with _ | k
 ·rw [dec] at hf; cases hf
 replace hf : dec (k + 1) 3 b it _ = _ := hf
 rw [dec_3] at hf
 have m1 := vb.mx
 have m2 := o4.mx
 refine Z4 (Z4 (Z2 (Z0 (Z3 rfl) rfl (Z0 (RV.len rfl rfl) rfl (Z0 (RV.gtr rfl rfl) rfl (Z7 (.bool (decide (0 < b.length))) (congrArg Value.bool (decide_eq_decide.2 (by omega))) (Z6 (Z1 ?_))))))))
 by_cases h1 : 0 < b.length
 ·replace hf := if_t hf h1
  refine Z13 rfl (decide_eq_true h1) (CW.goto (QW.then_g ?_))
  exact QW.jump (k := k) (by omega) ⟨b, A, c, F, B, ob4, c4, r4, b5, cs5, b2, It.zero, hf, (fun e => absurd e (by decide)), vb, hF, o4, h5, rfl, rfl⟩ ⟨rfl, rfl, rfl, rfl, trivial⟩ (fun w m => m)
 ·replace hf := if_f hf h1
  refine Z14 rfl (decide_eq_false h1) (CW.skip (Z1 ?_))
  rcases F with _ | ⟨f, F⟩
  ·cases hf
  replace hf : dec k 2 f.behind (It.mk true [] f.items) (F.map Frm.pure) = some (res0, res1) := hf
  have o4' : OwnS ob4 (F.length + 1) c4 2 (stC (f :: F)) r4 := o4
  have h0 : ob4.isSome = true := o4'.isSome (i := F.length) (by decide) (by omega)
  have hf0 := hF f (List.mem_cons_self ..)
  refine Z4 (Z2 (Z0 (Z3 rfl) rfl (Z0 (Z3 rfl) rfl (Z0 (RV.len rfl rfl) rfl (Z0 (RV.sub rfl rfl (by simp only [List.length_cons] at *; omega)) rfl (Z0 (RV.idx_os (F.length) rfl rfl (by simp) rfl rfl h0 (by simp only [List.length_cons]; omega)) rfl (Z0 (Z30 rfl rfl rfl rfl) rfl (Z0 (Z29 rfl Zh h0 rfl rfl (stC_at0 F f r4)) rfl ?_))))))))
  refine Z0 (Z117 (l := Zc) (cs := [.bool true, .slice none 0 0, sl f.ob 0 f.items.length f.c]) [(0, [.bool true]), (2, [sl f.ob 0 f.items.length f.c])] rfl rfl rfl rfl rfl rfl rfl) rfl (OW.rot1 ?_)
  refine Z28 (Z107 rfl rfl rfl (by intro u hu; simp at hu; rcases hu with rfl | rfl | rfl <;> rfl) rfl h5 rfl) ?_
  refine Z6 (Z1 (Z4 (Z2 (Z0 (Z3 rfl) rfl (Z0 (Z3 rfl) rfl (Z0 (RV.len rfl rfl) rfl (Z0 (RV.sub rfl rfl (by simp only [List.length_cons] at *; omega)) rfl (Z0 (RV.idx_os (F.length) rfl rfl (by simp) rfl rfl h0 (by simp only [List.length_cons]; omega)) rfl (Z0 (Z30 rfl rfl rfl rfl) rfl (Z0 (Z29 rfl (List.Mem.tail _ Zh) h0 rfl rfl (stC_at1 F f r4)) rfl ?_))))))))))
  refine Z0 (Z5 rfl) rfl (Z6 (Z1 (Z4 (Z2 (Z0 (Z3 rfl) rfl (Z0 (Z3 rfl) rfl (Z0 (RV.len rfl rfl) rfl (Z0 (RV.sub rfl rfl (by simp only [List.length_cons] at *; omega)) rfl ?_))))))))
  refine Z0 (RV.cut_o (F.length) rfl rfl (by simp) rfl rfl (by have := o4'.le (by decide); simp only [List.length_cons]; omega)) rfl ?_
  refine Z0 (Z5 rfl) rfl (Z6 (Z1 (Z4 (CW.goto (QW.then_g ?_)))))
  have hm : ∀ w, More w0 Φ (f.ent 25 :: B) w → More w0 Φ B w := fun w q => More.mono (fun w m => m.tail) q
  have v1 : View (More w0 Φ (f.ent 25 :: B)) ((f.ob).map fun k => ⟨k, 0, none⟩) f.items.length f.c 3 f.cells := hf0.o.view (by decide) (fun w q => q.2.sublist (List.singleton_sublist.2 (List.mem_cons_self ..)))
  have hit : ItRd (More w0 Φ (f.ent 25 :: B)) [.bool true, .slice none 0 0, sl f.ob 0 f.items.length f.c] (It.mk true [] f.items) := by
   have v0 : View (More w0 Φ (f.ent 25 :: B)) none ([] : List (BitVec 8)).length 0 1 (u8s []) := View.nil
   exact ItRd.mk v0 v1 (hf0.h.mono (ItRd.mono hm))
  refine QW.jump (k := k) (by omega) (l := 2) ⟨f.behind, f.A, f.cb, F, f.ent 25 :: B, ob4, c4, f.cs ++ r4, b5, _, b2, It.mk true [] f.items, hf, (fun _ => hit), hf0.v.mono hm, (fun g hg => (hF g (List.mem_cons_of_mem _ hg)).mono hm), o4'.pop rfl, rfl, rfl, rfl⟩ ⟨rfl, rfl, rfl, rfl, trivial⟩ (fun w m => ?_)
  have m := m.pick [1, 0] 2 rfl rfl
  rw [stC_pop] at m
  exact m.underB [_, _, _] _
theorem dec_w2 (w0 : World) (Φ : Ctx) (N : List Ent) (hΦ : ∀ w, Mem w0 w N → Φ w) (res0 : It) (res1 : Nat) (k m : Nat) (hkm : k ≤ m) (L : Z128) (M : List Ent) (h : JD w0 Φ N res0 res1 2 k L M) :
  CW Tryd.prog 105 (JumpJ 105 w0 (JD w0 Φ N res0 res1) m (DecQ w0 Φ N res0 res1)) w0 (afterL (scopeOf Tryd.f39.body) 2) L M := by
 obtain ⟨b, A, c, F, B, ob4, c4, r4, b5, cs5, b2, it, hf, hit, vb, hF, o4, h5, rfl, rfl⟩ := h
 replace hit := hit rfl
 rcases k with _ | k
 ·rw [dec] at hf; cases hf
 replace hf : dec (k + 1) 2 b it _ = _ := hf
 have m1 := vb.mx
 have m2 := o4.mx
 obtain ⟨Ai, ci, Bi, ei, cells, hcs, vi, wi, ri⟩ := ItRd.opn hit
 subst hcs
 refine Z4 (Z4 (Z2 (Z0 (Z3 rfl) rfl (Z0 (RV.len rfl rfl) rfl (Z0 (RV.eql rfl rfl) rfl (Z7 (.bool (decide (F.length = 0))) (congrArg Value.bool (decide_eq_decide.2 (by omega))) (Z6 (Z1 ?_))))))))
 rcases F with _ | ⟨f, F⟩
 ·rw [List.map_nil, dec_2n] at hf
  refine Z13 rfl rfl (Z4 (Z4 (Z2 (Z0 (Z3 rfl) rfl (Z0 (RV.len rfl rfl) rfl (Z0 (RV.gtr rfl rfl) rfl (Z7 (.bool (decide (0 < b.length))) (congrArg Value.bool (decide_eq_decide.2 (by omega))) (Z6 (Z1 ?_)))))))))
  by_cases h1 : 0 < b.length
  ·replace hf := if_t hf h1
   refine Z13 rfl (decide_eq_true h1) (Z4 (Z2 (Z0 (Z5 rfl) rfl (Z6 (Z1 (CW.goto (QW.then_g (QW.then_g ?_))))))))
   obtain ⟨e0, e1⟩ := Prod.mk.inj (Zi hf)
   subst e1
   exact QW.jump (k := 0) (l := 0) (by omega) ⟨b2, e0.symm, (by omega), rfl, rfl⟩ ⟨rfl, rfl, trivial⟩ (fun w m => toBroken m)
  ·replace hf := if_f hf h1
   refine Z14 rfl (decide_eq_false h1) (CW.skip (Z1 (Z4 (Z2 (Z0 (Z22 rfl (List.Mem.tail _ Zh) rfl rfl rfl rfl rfl) rfl (OW.rot2 ?_))))))
   refine Z28 (Z107 rfl rfl rfl (by intro u hu; simp at hu; rcases hu with rfl | rfl | rfl <;> rfl) rfl rfl rfl) ?_
   refine Z0 (Z5 rfl) rfl (Z6 (Z1 (CW.ret (Z8 ?_))))
   obtain ⟨e0, e1⟩ := Prod.mk.inj (Zi hf)
   subst e0
   subst e1
   refine QW.jump_r ?_
   refine Z110 (rs := [.cell 2 25, .tmp 3]) ([.agg [.bool it.list, .slice Ai it.data.length ci, .slice Bi it.items.length ei].toArray, .int .i64 (0 : Int)]) B rfl ?_ rfl ?_ ?_ _ (.inl rfl)
   ·exact ⟨⟨_, _, _, _, rfl, Zh, rfl, rfl, rfl, rfl⟩, rfl, trivial⟩
   ·exact ⟨B, _, hit, (by omega), rfl, rfl⟩
   ·exact (fun w m => m.drop 3)
 ·replace hf : dec (k + 1) 2 b it ((f.items, f.behind) :: F.map Frm.pure) = some (res0, res1) := hf
  rw [dec_2c] at hf
  obtain ⟨hg, hf⟩ := Z124 hf
  refine Z14 rfl rfl (CW.skip (Z1 ?_))
  have o4' : OwnS ob4 (F.length + 1) c4 2 (stC (f :: F)) r4 := o4
  have h0 : ob4.isSome = true := o4'.isSome (i := F.length) (by decide) (by omega)
  have hf0 := hF f (List.mem_cons_self ..)
  have hl4 : 0 + F.length * 2 + 0 < (stC (f :: F) ++ r4).length := by rw [List.length_append, stC_len, List.length_cons]; omega
  have m3 : F.length + 1 ≤ 140737488355328 := m2
  refine Z4 ?_
  refine Z130 (fun L' M' => ∃ g : Frm, g.items = f.items ++ [it] ∧ g.behind = f.behind ∧ g.Ok (More w0 Φ B) ∧ L' = [(0, .slice A b.length c), (2, ptr (some b2) 0), (4, sl ob4 0 (F.length + 1) c4), (5, ptr (some b5) 0)] ∧
   M' = (ob4, blk (stC (g :: F) ++ r4) 136) :: (some b5, blk [.bool it.list, .slice Ai it.data.length ci, .slice Bi it.items.length ei] 25) :: (some b2, blk Zc 25) :: ((g :: F).map (Frm.ent 25) ++ (B ++ N))) ?_ ?_
  ·rintro L' M' ⟨g, gi, gb, gok, e1, e2⟩
   refine Z1 (Z4 (CW.label (Z1 ?_)))
   refine dec_w3 w0 Φ N hΦ res0 res1 k m (by omega) L' M' ⟨b, A, c, g :: F, B, ob4, c4, r4, b5, _, b2, It.zero, ?_, (fun e => absurd e (by decide)), vb, ?_, o4.swap, rfl, e1, e2⟩
   ·show dec k 3 b It.zero ((g.items, g.behind) :: F.map Frm.pure) = some (res0, res1)
    rw [gi, gb]; exact hf
   ·intro x hx
    rcases List.mem_cons.1 hx with rfl | hx
    ·exact gok
    ·exact hF x (List.mem_cons_of_mem _ hx)
  ·refine CW.seqJ (fun L' M' => ∃ v : Bool, L' = [(45, .bool v), (0, .slice A b.length c), (2, ptr (some b2) 0), (4, sl ob4 0 (F.length + 1) c4), (5, ptr (some b5) 0)] ∧ M' = (ob4, blk (stC (f :: F) ++ r4) 136) :: (some b5, blk [.bool it.list, .slice Ai it.data.length ci, .slice Bi it.items.length ei] 25) :: (some b2, blk Zc 25) :: (f.ent 25 :: (F.map (Frm.ent 25) ++ (B ++ N)))) ?_ ?_
   ·rintro L' M' ⟨v, rfl, rfl⟩
    cases v
    ·refine Z14 rfl rfl (CW.drawsX ((some b5, blk [.bool it.list, .slice Ai it.data.length ci, .slice Bi it.items.length ei] 25) :: (some b2, blk Zc 25) :: (F.map (Frm.ent 25) ++ (B ++ N))) [13, 16] (fun w m => m.pick [1, 2] 4 rfl rfl) mixed (by kernel_rfl) (Z10 0 rfl (by kernel_rfl) rfl (Z3 rfl) rfl (Z10 1 rfl (by kernel_rfl) rfl (Z3 rfl) rfl (Z10 2 rfl (by kernel_rfl) rfl (RV.len rfl rfl) rfl (Z10 3 rfl (by kernel_rfl) rfl (RV.sub rfl rfl (by omega)) rfl (Z10 4 rfl (by kernel_rfl) rfl (Z3 rfl) rfl (Z10 5 rfl (by kernel_rfl) rfl (Z3 rfl) rfl ?_)))))))
     refine Z10 6 rfl (by kernel_rfl) rfl (RV.len rfl rfl) rfl (Z10 7 rfl (by kernel_rfl) rfl (RV.sub rfl rfl (by omega)) rfl (Z10 8 rfl (by kernel_rfl) rfl (RV.idx_os (F.length) rfl rfl (by omega) rfl rfl h0 (by omega)) rfl (Z10 9 rfl (by kernel_rfl) rfl (Z30 rfl rfl rfl rfl) rfl (XW.rv 10 rfl (by kernel_rfl) rfl (by kernel_rfl) (Z29 rfl Zh h0 rfl rfl (stC_at0 F f r4)) rfl (Z10 11 rfl (by kernel_rfl) rfl (Z22 rfl Zh rfl rfl rfl rfl rfl) rfl ?_)))))
     refine XW.new 12 rfl (by kernel_rfl) rfl (NV.bsA rfl rfl (by intro x hx; simp at hx; subst hx; rfl) rfl rfl rfl (by decide) (by decide) rfl) rfl (fun b76 => ?_)
     refine Z19 (M' := ((f.ob, blk (f.cells ++ f.r) 25) :: (some b76, blk ([.bool it.list, .slice Ai it.data.length ci, .slice Bi it.items.length ei] ++ []) 25) :: (ob4, blk (stC (f :: F) ++ r4) 136) :: (some b5, blk [.bool it.list, .slice Ai it.data.length ci, .slice Bi it.items.length ei] 25) :: (some b2, blk Zc 25) :: (F.map (Frm.ent 25) ++ (B ++ N)))) (fun w m => m.pick [4, 0, 1, 2, 3] 5 rfl rfl) (fun w m => m.pick [3, 4] 5 rfl rfl) ?_
     refine XW.appendOwn 13 (s := 3) rfl (by kernel_rfl) rfl rfl rfl rfl rfl rfl hf0.o (fun w m => m.rd0 (List.Mem.tail _ Zh) (fun e => nomatch e)) rfl (by intro u hu; simp at hu; rcases hu with rfl | rfl | rfl <;> rfl) (fun e => nomatch e) (by decide) (by decide) hg rfl ((f.items ++ [it]).length) (f.cells ++ [.bool it.list, .slice Ai it.data.length ci, .slice Bi it.items.length ei]) (by simp) rfl (fun w m => m.pick [2, 3] 4 rfl rfl) rfl (fun ob77 r77 c77 o77 => ?_)
     refine Z10 14 rfl (by kernel_rfl) rfl (RV.idx_os (F.length) rfl rfl (by omega) rfl rfl h0 (by omega)) rfl (Z10 15 rfl (by kernel_rfl) rfl (Z30 rfl rfl rfl rfl) rfl (Z19 (M' := ((ob4, blk (stC (f :: F) ++ r4) 136) :: (ob77, blk ((f.cells ++ [.bool it.list, .slice Ai it.data.length ci, .slice Bi it.items.length ei]) ++ r77) 25) :: (some b5, blk [.bool it.list, .slice Ai it.data.length ci, .slice Bi it.items.length ei] 25) :: (some b2, blk Zc 25) :: (F.map (Frm.ent 25) ++ (B ++ N)))) (fun w m => m.pick [2, 0, 3, 4] 5 rfl rfl) (fun w m => m.pick [2, 3] 4 rfl rfl) (XW.sv 16 rfl (by kernel_rfl) (SV.store rfl h0 rfl rfl rfl hl4) (fun w m => m.pick [2, 3] 4 rfl rfl) (XW.cells (stC ((⟨ob77, c77, f.cells ++ [.bool it.list, .slice Ai it.data.length ci, .slice Bi it.items.length ei], r77, f.A, f.cb, f.items ++ [it], f.behind⟩ : Frm) :: F) ++ r4) (show (stC (f :: F) ++ r4).set (0 + F.length * 2 + 0) (sl ob77 0 (f.items ++ [it]).length c77) = stC ((⟨ob77, c77, f.cells ++ [.bool it.list, .slice Ai it.data.length ci, .slice Bi it.items.length ei], r77, f.A, f.cb, f.items ++ [it], f.behind⟩ : Frm) :: F) ++ r4 from stC_set0 F f ⟨ob77, c77, f.cells ++ [.bool it.list, .slice Ai it.data.length ci, .slice Bi it.items.length ei], r77, f.A, f.cb, f.items ++ [it], f.behind⟩ r4 rfl rfl rfl) (XW.nil (by kernel_rfl) (QW.join ⟨⟨ob77, c77, f.cells ++ [.bool it.list, .slice Ai it.data.length ci, .slice Bi it.items.length ei], r77, f.A, f.cb, f.items ++ [it], f.behind⟩, rfl, rfl, ⟨o77, hf0.h.app (Reps.one hit), hf0.v⟩, rfl, rfl⟩ ⟨rfl, rfl, rfl, rfl, trivial⟩ (fun w m => ?_)))))))
     exact m.pick [0, 2, 3, 1] 4 rfl rfl
    ·refine Z13 rfl rfl (Z4 (Z151 14 mixed (by kernel_rfl) rfl (Z18 0 rfl (by kernel_rfl) rfl (Z3 rfl) rfl (Z18 1 rfl (by kernel_rfl) rfl (Z3 rfl) rfl (Z18 2 rfl (by kernel_rfl) rfl (RV.len rfl rfl) rfl (Z18 3 rfl (by kernel_rfl) rfl (RV.sub rfl rfl (by omega)) rfl (Z18 4 rfl (by kernel_rfl) rfl (Z3 rfl) rfl ?_)))))))
     refine Z18 5 rfl (by kernel_rfl) rfl (Z3 rfl) rfl (Z18 6 rfl (by kernel_rfl) rfl (RV.len rfl rfl) rfl (Z18 7 rfl (by kernel_rfl) rfl (RV.sub rfl rfl (by omega)) rfl (Z18 8 rfl (by kernel_rfl) rfl (RV.idx_os (F.length) rfl rfl (by omega) rfl rfl h0 (by omega)) rfl (Z18 9 rfl (by kernel_rfl) rfl (Z30 rfl rfl rfl rfl) rfl (Z18 10 rfl (by kernel_rfl) rfl (Z29 rfl Zh h0 rfl rfl (stC_at0 F f r4)) rfl (Z18 11 rfl (by kernel_rfl) rfl (Z22 rfl (List.Mem.tail _ Zh) rfl rfl rfl rfl rfl) rfl (Z18 12 rfl (by kernel_rfl) rfl (RV.len rfl rfl) rfl ?_)))))))
     refine UW.new 13 rfl (by kernel_rfl) rfl (NV.bsA (cs := Zc) rfl rfl (by intro x hx; simp at hx; subst hx; rfl) rfl rfl rfl (by decide) (by decide) rfl) rfl (fun b59 => ?_)
     refine UW.nil (by kernel_rfl) (Z20 (M' := ((f.ob, blk (f.cells ++ f.r) 25) :: (some b59, blk (Zc ++ []) 25) :: (ob4, blk (stC (f :: F) ++ r4) 136) :: (some b5, blk [.bool it.list, .slice Ai it.data.length ci, .slice Bi it.items.length ei] 25) :: (some b2, blk Zc 25) :: (F.map (Frm.ent 25) ++ (B ++ N)))) (fun w m => m.pick [4, 0, 1, 2, 3] 5 rfl rfl) ?_)
     refine OW.appendOwn (s := 3) rfl rfl rfl rfl rfl rfl hf0.o (fun w m => m.rd0 (List.Mem.tail _ Zh) (fun e => nomatch e)) rfl (by intro u hu; simp at hu; rcases hu with rfl | rfl | rfl <;> rfl) (fun e => nomatch e) (by decide) (by decide) hg rfl rfl ((f.items ++ [it]).length) (f.cells ++ Zc) (by simp) rfl (fun ob60 r60 c60 o60 => ?_)
     refine Z0 (RV.idx_os (F.length) rfl rfl (by omega) rfl rfl h0 (by omega)) rfl (Z0 (Z30 rfl rfl rfl rfl) rfl (OW.rot2 (Z28 (SV.store rfl h0 rfl rfl rfl hl4) (OW.cells (stC ((⟨ob60, c60, f.cells ++ [.bool it.list, .slice Ai it.data.length ci, .slice Bi it.items.length ei], r60, f.A, f.cb, f.items ++ [it], f.behind⟩ : Frm) :: F) ++ r4) (show (stC (f :: F) ++ r4).set (0 + F.length * 2 + 0) (sl ob60 0 (f.items ++ [it]).length c60) = stC ((⟨ob60, c60, f.cells ++ [.bool it.list, .slice Ai it.data.length ci, .slice Bi it.items.length ei], r60, f.A, f.cb, f.items ++ [it], f.behind⟩ : Frm) :: F) ++ r4 from stC_set0 F f ⟨ob60, c60, f.cells ++ [.bool it.list, .slice Ai it.data.length ci, .slice Bi it.items.length ei], r60, f.A, f.cb, f.items ++ [it], f.behind⟩ r4 rfl rfl rfl) (Z6 (Z1 (Z2 ?_)))))))
     have hlen : (f.items ++ [it]).length = f.items.length + 1 := by simp
     have h60 : ob60.isSome = true := o60.isSome (i := f.items.length) (by decide) (by omega)
     refine Z0 (RV.idx_os (f.items.length) rfl rfl rfl rfl rfl h60 (by omega)) rfl (OW.rot1 ?_)
     have hc3 := hf0.o.n
     refine Z28 (Z116 rfl h60 rfl (by intro u hu; simp at hu; rcases hu with rfl | rfl | rfl <;> rfl) rfl rfl (show 0 + f.items.length * 3 + 3 ≤ _ by simp only [List.length_append, List.length_cons, List.length_nil]; omega)) ?_
     have esp : spl ((f.cells ++ Zc) ++ r60) (0 + f.items.length * 3) [.bool it.list, .slice Ai it.data.length ci, .slice Bi it.items.length ei] = (f.cells ++ [.bool it.list, .slice Ai it.data.length ci, .slice Bi it.items.length ei]) ++ r60 := spl_last f.cells Zc [.bool it.list, .slice Ai it.data.length ci, .slice Bi it.items.length ei] r60 (f.items.length * 3) (by omega) rfl
     refine OW.cells _ esp (Z6 (QW.join ⟨⟨ob60, c60, f.cells ++ [.bool it.list, .slice Ai it.data.length ci, .slice Bi it.items.length ei], r60, f.A, f.cb, f.items ++ [it], f.behind⟩, rfl, rfl, ⟨o60.same (by simp) rfl, hf0.h.app (Reps.one hit), hf0.v⟩, rfl, rfl⟩ ⟨rfl, rfl, rfl, rfl, trivial⟩ (fun w m => ?_)))
     exact m.pick [1, 3, 4, 0] 5 rfl rfl
   ·refine CW.drawsA mixed (AW.one 0 (by kernel_rfl) (AO.alloc (l := [.bool false]) rfl rfl rfl rfl (fun b44 => ?_)))
    refine AW.two 1 2 (by kernel_rfl) ?_ ?_
    ·refine AO.sv rfl (SV.store rfl rfl rfl rfl rfl (by simp)) (AW.one 2 (by kernel_rfl) (AO.sv rfl (SV.store rfl rfl rfl rfl rfl (by simp)) (AW.one 3 (by kernel_rfl) (AO.rv rfl (Z29 (v := .bool false) rfl Zh rfl rfl rfl rfl) rfl (AW.nil (by kernel_rfl) ?_)))))
     exact QW.join ⟨false, rfl, rfl⟩ ⟨rfl, rfl, rfl, rfl, rfl, trivial⟩ (fun w m => m.tail)
    ·refine AO.sv rfl (SV.store rfl rfl rfl rfl rfl (by simp)) (AW.one 1 (by kernel_rfl) (AO.sv rfl (SV.store rfl rfl rfl rfl rfl (by simp)) (AW.one 3 (by kernel_rfl) (AO.rv rfl (Z29 (v := .bool true) rfl Zh rfl rfl rfl rfl) rfl (AW.nil (by kernel_rfl) ?_)))))
     exact QW.join ⟨true, rfl, rfl⟩ ⟨rfl, rfl, rfl, rfl, rfl, trivial⟩ (fun w m => m.tail)
theorem dec_w1 (w0 : World) (Φ : Ctx) (N : List Ent) (hΦ : ∀ w, Mem w0 w N → Φ w) (res0 : It) (res1 : Nat) (k m : Nat) (hkm : k ≤ m) (L : Z128) (M : List Ent) (h : JD w0 Φ N res0 res1 1 k L M) :
  CW Tryd.prog 105 (JumpJ 105 w0 (JD w0 Φ N res0 res1) m (DecQ w0 Φ N res0 res1)) w0 (afterL (scopeOf Tryd.f39.body) 1) L M := by
 obtain ⟨b, A, c, F, B, ob4, c4, r4, b5, cs5, b2, it, hf, -, vb, hF, o4, h5, rfl, rfl⟩ := h
 rcases k with _ | k
 ·rw [dec] at hf; cases hf
 replace hf : dec (k + 1) 1 b it _ = _ := hf
 rw [dec_1] at hf
 have m1 := vb.mx
 have m2 := o4.mx
 obtain ⟨⟨x1, x2, x3, x4⟩, hx, hf⟩ := Z105 hf
 dsimp only at hf
 refine Z4 (Z4 (Z2 (Z0 (Z3 rfl) rfl (Z12 Tryd.call79 rfl (rlp_cut_does w0 (More w0 Φ B) _ (fun w m => More.low hΦ [_, _, _] _ m) A c b x1 x2 x3 x4 vb hx) rfl rfl ?_))))
 rintro L3 M3 ⟨B3, Ar1, kr1, Ar2, kr2, v1, v2, bx, e1, e2⟩
 rw [e1, e2]
 clear e1 e2 L3 M3
 refine Z20 (M' := ((ob4, blk (stC F ++ r4) 136) :: (some b5, blk cs5 25) :: (some b2, blk Zc 25) :: (F.map (Frm.ent 25) ++ ((B3 ++ B) ++ N)))) (fun w m => Mem.deep [_, _, _] _ m) ?_
 replace v1 := v1.mono (Ψ := More w0 Φ (B3 ++ B)) (fun w q => More.flat q)
 replace v2 := v2.mono (Ψ := More w0 Φ (B3 ++ B)) (fun w q => More.flat q)
 replace hF : ∀ f ∈ F, f.Ok (More w0 Φ (B3 ++ B)) := fun f hf => (hF f hf).mono (fun w q => More.mono (fun w m => m.appR) q)
 have m3 := v1.mx
 have m4 := v2.mx
 refine Z0 (Z3 rfl) rfl (Z0 (Z17 rfl rfl) rfl (Z0 (Z17 rfl rfl) rfl (Z0 (Z17 rfl rfl) rfl (Z0 (Z17 rfl rfl) rfl (Z0 (Z5 rfl) rfl (Z0 (Z5 rfl) rfl (Z0 (Z5 rfl) rfl ?_)))))))
 refine Z0 (Z5 rfl) rfl (Z6 (Z1 (Z4 (Z2 (Z0 (Z3 rfl) rfl (Z0 (RV.neq rfl rfl) rfl (Z7 (.bool (!decide (x4 = 0))) (congrArg (fun b => Value.bool (!b)) (decide_eq_decide.2 (by omega))) (Z6 (Z1 ?_)))))))))
 by_cases h4 : x4 = 0
 ·replace hf := if_t hf h4
  refine Z14 rfl (congrArg (fun b => !b) (decide_eq_true h4)) (CW.skip (Z1 (Z4 (Z4 (Z2 (Z0 (Z3 rfl) rfl (Z0 (RV.not rfl) rfl (Z6 (Z1 ?_)))))))))
  by_cases h1 : x1 = true
  ·replace hf := if_t hf h1
   refine Z14 rfl (congrArg (fun b => !b) h1) (CW.skip (Z1 (Z4 (Z4 (Z2 (Z0 (Z3 rfl) rfl (Z0 (RV.len rfl rfl) rfl (Z0 (RV.eql rfl rfl) rfl (Z7 (.bool (decide ((F.map Frm.pure).length = 1024))) (congrArg Value.bool (decide_eq_decide.2 (by rw [List.length_map]; omega))) (Z6 (Z1 ?_)))))))))))
   by_cases h2 : (F.map Frm.pure).length = 1024
   ·replace hf := if_t hf h2
    refine Z13 rfl (decide_eq_true h2) (Z4 (Z2 (Z0 (Z5 rfl) rfl (Z6 (Z1 (CW.goto (QW.then_g ?_)))))))
    obtain ⟨e0, e1⟩ := Prod.mk.inj (Zi hf)
    subst e1
    exact QW.jump (k := 0) (l := 0) (by omega) ⟨b2, e0.symm, (by omega), rfl, rfl⟩ ⟨rfl, rfl, trivial⟩ (fun w m => toBroken m)
   ·replace hf := if_f hf h2
    refine Z14 rfl (decide_eq_false h2) (CW.skip (Z1 ?_))
    obtain ⟨hg, hf⟩ := Z124 hf
    rw [List.length_map] at hg
    refine Z4 (Z2 (Z0 (Z3 rfl) rfl (Z0 (Z3 rfl) rfl (Z0 (Z117 (l := [.slice none 0 0, .slice none 0 0]) (cs := [.slice none 0 0, .slice Ar2 x3.length kr2]) [(1, [.slice Ar2 x3.length kr2])] rfl rfl rfl rfl rfl rfl rfl) rfl ?_))))
    refine OW.ofN (NV.bsA rfl rfl (by intro x hx; simp at hx; subst hx; rfl) rfl rfl rfl (by decide) (by decide) rfl) rfl (fun b33 => ?_)
    refine Z20 (M' := ((ob4, blk (stC F ++ r4) 136) :: (some b33, blk ([.slice none 0 0, .slice Ar2 x3.length kr2] ++ []) 136) :: (some b5, blk cs5 25) :: (some b2, blk Zc 25) :: (F.map (Frm.ent 25) ++ ((B3 ++ B) ++ N)))) (fun w m => m.pick [1, 0, 2, 3] 4 rfl rfl) ?_
    refine OW.appendOwn (s := 2) rfl rfl rfl rfl rfl rfl o4 (fun w m => m.rd0 (List.Mem.tail _ Zh) (fun e => nomatch e)) rfl (by intro u hu; simp at hu; rcases hu with rfl | rfl <;> rfl) (fun e => nomatch e) (by decide) (by decide) hg rfl rfl (((⟨none, 0, [], [], Ar2, kr2, [], x3⟩ : Frm) :: F).length) (stC ((⟨none, 0, [], [], Ar2, kr2, [], x3⟩ : Frm) :: F)) (by simp) rfl (fun ob34 r34 c34 o34 => ?_)
    refine Z0 (Z5 rfl) rfl (Z6 (Z1 (Z4 (Z2 (Z0 (Z3 rfl) rfl (Z0 (Z5 rfl) rfl (Z6 (Z1 (Z4 (Z2 (Z0 (Z117 (l := Zc) (cs := [.bool true, .slice none 0 0, .slice none 0 0]) [(0, [.bool true])] rfl rfl rfl rfl rfl rfl rfl) rfl (OW.rot2 ?_))))))))))))
    refine Z28 (Z107 rfl rfl rfl (by intro u hu; simp at hu; rcases hu with rfl | rfl | rfl <;> rfl) rfl h5 rfl) ?_
    refine Z6 (Z1 (Z4 (CW.goto (QW.then_g ?_))))
    refine QW.jump (k := k) (l := 3) (by omega) ⟨x2, Ar1, kr1, ⟨none, 0, [], [], Ar2, kr2, [], x3⟩ :: F, B3 ++ B, ob34, c34, r34, b5, [.bool true, .slice none 0 0, .slice none 0 0], b2, It.zero, hf, (fun e => absurd e (by decide)), v1, ?_, o34, rfl, rfl, rfl⟩ ⟨rfl, rfl, rfl, rfl, trivial⟩ (fun w m => ?_)
    ·intro x hx
     rcases List.mem_cons.1 hx with rfl | hx
     ·exact ⟨OwnS.nil, Reps.nil, v2⟩
     ·exact hF x hx
    ·have m := m.nil_ent (blk ([] ++ []) 25)
     exact m.pick [2, 1, 4, 0] 5 rfl rfl
  ·replace hf := if_f hf h1
   refine Z13 rfl (congrArg (fun b => !b) (Bool.eq_false_iff.2 h1)) ?_
   obtain ⟨x, hx5, hf⟩ := Z105 hf
   refine Z4 (Z2 (Z0 (Z3 rfl) rfl (Z12 Tryd.call80 rfl (rlp_Text_does w0 (More w0 Φ (B3 ++ B)) _ (fun w m => More.low hΦ [_, _, _] _ m) Ar1 kr1 x2 x v1 hx5) rfl rfl ?_)))
   rintro L3 M3 ⟨B4, cr, hr, e1, e2⟩
   rw [e1, e2]
   clear e1 e2 L3 M3
   refine Z20 (M' := ((ob4, blk (stC F ++ r4) 136) :: (some b5, blk cs5 25) :: (some b2, blk Zc 25) :: (F.map (Frm.ent 25) ++ ((B4 ++ (B3 ++ B)) ++ N)))) (fun w m => Mem.deep [_, _, _] _ m) ?_
   replace hr := ItRd.mono (Ψ := More w0 Φ (B4 ++ (B3 ++ B))) (fun w q => More.flat q) _ _ hr
   replace v2 := v2.mono (Ψ := More w0 Φ (B4 ++ (B3 ++ B))) (fun w q => More.mono (fun w m => m.appR) q)
   replace hF : ∀ f ∈ F, f.Ok (More w0 Φ (B4 ++ (B3 ++ B))) := fun f hf => (hF f hf).mono (fun w q => More.mono (fun w m => m.appR) q)
   have hl := ItRd.len _ _ hr
   have h1c := ItRd.one _ _ hr
   refine OW.rot1 (Z28 (Z107 rfl rfl rfl h1c rfl h5 hl) (Z6 (Z1 (Z4 (Z2 (Z0 (Z3 rfl) rfl (Z0 (Z5 rfl) rfl (Z6 (Z1 (CW.goto (QW.then_g ?_)))))))))))
   exact QW.jump (k := k) (l := 2) (by omega) ⟨x3, Ar2, kr2, F, B4 ++ (B3 ++ B), ob4, c4, r4, b5, cr, b2, x, hf, (fun _ => hr), v2, hF, o4, hl, rfl, rfl⟩ ⟨rfl, rfl, rfl, rfl, trivial⟩ (fun w m => m.pick [1, 0] 2 rfl rfl)
 ·replace hf := if_f hf h4
  refine Z13 rfl (congrArg (fun b => !b) (decide_eq_false h4)) (CW.goto (QW.then_g ?_))
  obtain ⟨e0, e1⟩ := Prod.mk.inj (Zi hf)
  subst e1
  exact QW.jump (k := 0) (l := 0) (by omega) ⟨b2, e0.symm, bx, rfl, rfl⟩ ⟨rfl, rfl, trivial⟩ (fun w m => toBroken m)
theorem rlp_Decode_does (w0 : World) (Φ : Ctx) (N : List Ent) (hΦ : ∀ w, Mem w0 w N → Φ w) (A0_ : Option Addr) (c0_ : Nat) (a0 : List (BitVec 8)) (res0 : It) (res1 : Nat) (va0 : View Φ A0_ a0.length c0_ 1 (u8s a0)) (hf : rlp_Decode a0 = some (res0, res1)) : DoesG Tryd.prog 39 [.slice A0_ a0.length c0_] w0 [] N (fun v G => ∃ B : List Ent, ∃ cr0 : List Value, (ItRd (More w0 Φ B) cr0 res0) ∧ (res1 ≤ 9223372036854775807) ∧ v = .tuple #[.agg cr0.toArray, .int .i64 ((res1 : Nat) : Int)] ∧ G = B) := by
 unfold rlp_Decode at hf
 have m1 := va0.mx
 refine DoesG.enter Tryd.func39 rfl Tryd.ntmps39 rfl (M := N) rfl (Z4 (Z2 (OW.alloc (l := Zc) rfl rfl rfl (fun b2 => (Z0 (Z5 rfl) rfl (Z6 (Z1 ?_)))))))
 refine CW.scopeJ (JD w0 Φ N res0 res1) (4 * a0.length + 9) ?_ ?_
 ·refine Z4 (Z2 (Z0 (Z5 rfl) rfl (Z6 (Z1 (Z4 (Z2 (OW.alloc (l := Zc) rfl rfl rfl (fun b5 => (Z6 (Z1 (Z4 (Z2 (Z0 (Z5 rfl) rfl (Z6 (Z1 (Z4 (Z2 (Z0 (Z5 rfl) rfl ?_))))))))))))))))))
  refine Z0 (Z5 rfl) rfl (Z6 (Z1 (Z4 (Z2 (Z0 (Z5 rfl) rfl (Z6 (Z1 (Z4 (Z4 (Z2 (Z0 (Z3 rfl) rfl (Z0 (RV.len rfl rfl) rfl (Z0 (RV.gtr rfl rfl) rfl (Z7 (.bool (decide (16777216 < a0.length))) (congrArg Value.bool (decide_eq_decide.2 (by omega))) ?_))))))))))))))
  refine Z6 (Z1 ?_)
  by_cases h1 : 16777216 < a0.length
  ·replace hf := if_t hf h1
   refine Z13 rfl (decide_eq_true h1) (CW.goto (QW.then_g ?_))
   obtain ⟨e0, e1⟩ := Prod.mk.inj (Zi hf)
   subst e1
   exact QW.jump (k := 0) (l := 0) (by omega) ⟨b2, e0.symm, (by omega), rfl, rfl⟩ ⟨rfl, rfl, trivial⟩ (fun w m => m.tail)
  ·replace hf := if_f hf h1
   refine Z14 rfl (decide_eq_false h1) (CW.skip (Z1 (Z4 (CW.label (Z1 (CW.mem (M' := ((none, blk ([] ++ []) 136) :: (some b5, blk Zc 25) :: (some b2, blk Zc 25) :: N)) (fun w m => m.nil_ent _) (CW.sub (L' := [(0, .slice A0_ a0.length c0_), (2, ptr (some b2) 0), (4, sl none 0 0 0), (5, ptr (some b5) 0)]) ⟨rfl, rfl, rfl, rfl, trivial⟩ ?_)))))))
   exact dec_w1 w0 Φ N hΦ res0 res1 (4 * a0.length + 8) _ (by omega) _ _ ⟨a0, A0_, c0_, [], [], none, 0, [], b5, Zc, b2, It.zero, hf, (fun e => absurd e (by decide)), va0.mono (fun w q => q.1), (fun f hf => nomatch hf), OwnS.nil, rfl, rfl, rfl⟩
 ·intro l k L M h
  match l, h with
  | 0, ⟨b2, e0, hb, e1, e2⟩ =>
   subst e0
   subst e1
   subst e2
   refine ⟨_, rfl, ?_⟩
   refine Z4 (CW.skip (Z1 (Z4 (Z2 (Z0 (Z117 (l := Zc) (cs := Zc) [] rfl rfl rfl rfl rfl rfl rfl) rfl (Z0 (Z3 rfl) rfl ?_))))))
   refine Z28 (Z107 rfl rfl rfl (by intro u hu; simp at hu; rcases hu with rfl | rfl | rfl <;> rfl) rfl rfl rfl) ?_
   refine Z0 (Z5 rfl) rfl (Z6 (Z1 (CW.ret (QW.jump_r ?_))))
   have v0 : View (More w0 Φ []) none ([] : List (BitVec 8)).length 0 1 (u8s []) := View.nil
   have v1 : View (More w0 Φ []) none ([] : List (It)).length 0 3 [] := View.nil
   refine Z110 (rs := [.cell 2 25, .tmp 3]) ([.agg Zc.toArray, .int .i64 ((res1 : Nat) : Int)]) [] rfl ?_ rfl ?_ ?_ _ (.inl rfl)
   ·exact ⟨⟨_, _, _, _, rfl, Zh, rfl, rfl, rfl, rfl⟩, rfl, trivial⟩
   ·exact ⟨[], Zc, (ItRd.mk v0 v1 (Reps.nil)), hb, rfl, rfl⟩
   ·exact (fun w m => m.tail)
  | 1, h =>
   refine ⟨_, rfl, ?_⟩
   refine Z4 (CW.skip (Z1 ?_))
   exact dec_w1 w0 Φ N hΦ res0 res1 k k (Nat.le_refl _) L M h
  | 2, h =>
   refine ⟨_, rfl, ?_⟩
   refine Z4 (CW.skip (Z1 ?_))
   exact dec_w2 w0 Φ N hΦ res0 res1 k k (Nat.le_refl _) L M h
  | 3, h =>
   refine ⟨_, rfl, ?_⟩
   refine Z4 (CW.skip (Z1 ?_))
   exact dec_w3 w0 Φ N hΦ res0 res1 k k (Nat.le_refl _) L M h
  | l + 4, ⟨b, A, c, F, B, ob4, c4, r4, b5, cs5, b2, it, hf, _⟩ =>
   rcases k with _ | k
   ·rw [dec] at hf; cases hf
   ·exact absurd hf (by simp [dec])
noncomputable def slOps : List Oper := fnOps Tryd.f44 1
theorem slx0 : (List.range' 0 14).all (fun i => XR slOps.toArray (doneTo i 98).toArray i) = true := by kernel_rfl
theorem slx1 : (List.range' 14 14).all (fun i => XR slOps.toArray (doneTo i 98).toArray i) = true := by kernel_rfl
theorem slx2 : (List.range' 28 14).all (fun i => XR slOps.toArray (doneTo i 98).toArray i) = true := by kernel_rfl
theorem slx3 : (List.range' 42 14).all (fun i => XR slOps.toArray (doneTo i 98).toArray i) = true := by kernel_rfl
theorem slx4 : (List.range' 56 14).all (fun i => XR slOps.toArray (doneTo i 98).toArray i) = true := by kernel_rfl
theorem slx5 : (List.range' 70 14).all (fun i => XR slOps.toArray (doneTo i 98).toArray i) = true := by kernel_rfl
theorem slx6 : (List.range' 84 14).all (fun i => XR slOps.toArray (doneTo i 98).toArray i) = true := by kernel_rfl
theorem slX : ∀ i, i < 98 → XR slOps.toArray (doneTo i 98).toArray i = true := by
 intro i hi
 by_cases h0 : i < 14
 ·exact List.all_eq_true.1 slx0 i (List.mem_range'_1.2 (by omega))
 by_cases h1 : i < 28
 ·exact List.all_eq_true.1 slx1 i (List.mem_range'_1.2 (by omega))
 by_cases h2 : i < 42
 ·exact List.all_eq_true.1 slx2 i (List.mem_range'_1.2 (by omega))
 by_cases h3 : i < 56
 ·exact List.all_eq_true.1 slx3 i (List.mem_range'_1.2 (by omega))
 by_cases h4 : i < 70
 ·exact List.all_eq_true.1 slx4 i (List.mem_range'_1.2 (by omega))
 by_cases h5 : i < 84
 ·exact List.all_eq_true.1 slx5 i (List.mem_range'_1.2 (by omega))
 by_cases h6 : i < 98
 ·exact List.all_eq_true.1 slx6 i (List.mem_range'_1.2 (by omega))
 omega
theorem slB : Region.noSelect slOps.toArray = true := by kernel_rfl
theorem slD : (List.replicate slOps.length false).toArray = (doneTo 0 98).toArray := by kernel_rfl
theorem slE : (Region.ready .any slOps.toArray (doneTo 97 98).toArray == [97] && [97].contains 97) = true := by kernel_rfl
theorem slF : Region.seqB .any slOps.toArray 0 slOps.toArray.size (doneTo 98 98).toArray = true := by kernel_rfl
theorem header_slots_does (w0 : World) (N : List Ent) (b : Nat) : DoesG Tryd.prog 44 [ptr (some b) 0] w0 [] N (fun u G => ∃ B, u = .agg (slotC b).toArray ∧ G = B) := by
 refine DoesG.enter Tryd.func44 rfl Tryd.ntmps44 rfl (M := N) rfl ?_
 (repeat (first | refine Z4 ?_ | refine Z1 ?_ | refine CW.block ?_ | refine CW.ret ?_ | refine CW.skip ?_ | refine CW.exit ?_ | refine Z9 ?_ | refine Z8 ?_ | refine Z27 ?_ | refine Z15 ?_ | refine Z101 rfl ?_ | refine Z16 ?_))
 refine Z2 (OW.alloc rfl rfl rfl (fun b2 => (Z6 ?_)))
 (repeat (first | refine Z4 ?_ | refine Z1 ?_ | refine CW.block ?_ | refine CW.ret ?_ | refine CW.skip ?_ | refine CW.exit ?_ | refine Z9 ?_ | refine Z8 ?_ | refine Z27 ?_ | refine Z15 ?_ | refine Z101 rfl ?_ | refine Z16 ?_))
 refine CW.drawsX (l := slOps) N [97] (fun w m => m.tail) mixed slB ?_
 refine XW.norm (done' := (doneTo 0 98).toArray) (by rw [← List.toArray_replicate]; exact slD) ?_
 refine Z120 0 slX (by decide) rfl rfl (Z3 rfl) rfl (Z120 1 slX (by decide) rfl rfl (RV.nilCheck rfl) rfl (Z120 2 slX (by decide) rfl rfl (Z30 rfl rfl rfl rfl) rfl (XW.slot (ptr (some b) 0) rfl (Z120 3 slX (by decide) rfl rfl (Z142 rfl rfl rfl) rfl (XW.slot (sl (some b) 0 32 32) rfl (Z120 4 slX (by decide) rfl rfl (Z117 (l := [nsl, npt, npt, npt]) (cs := Slk.cells b (.text 0 32)) [(0, [sl (some b) 0 32 32])] rfl rfl rfl rfl rfl rfl rfl) rfl (Z120 5 slX (by decide) rfl rfl (Z3 rfl) rfl ?_)))))))
 refine Z120 6 slX (by decide) rfl rfl (RV.nilCheck rfl) rfl (Z120 7 slX (by decide) rfl rfl (Z30 rfl rfl rfl rfl) rfl (XW.slot (ptr (some b) 32) rfl (Z120 8 slX (by decide) rfl rfl (Z142 rfl rfl rfl) rfl (XW.slot (sl (some b) 32 32 32) rfl (Z120 9 slX (by decide) rfl rfl (Z117 (l := [nsl, npt, npt, npt]) (cs := Slk.cells b (.text 32 32)) [(0, [sl (some b) 32 32 32])] rfl rfl rfl rfl rfl rfl rfl) rfl (Z120 10 slX (by decide) rfl rfl (Z3 rfl) rfl (Z120 11 slX (by decide) rfl rfl (RV.nilCheck rfl) rfl ?_)))))))
 refine Z120 12 slX (by decide) rfl rfl (Z30 rfl rfl rfl rfl) rfl (XW.slot (ptr (some b) 64) rfl (Z120 13 slX (by decide) rfl rfl (Z142 rfl rfl rfl) rfl (XW.slot (sl (some b) 64 20 20) rfl (Z120 14 slX (by decide) rfl rfl (Z117 (l := [nsl, npt, npt, npt]) (cs := Slk.cells b (.text 64 20)) [(0, [sl (some b) 64 20 20])] rfl rfl rfl rfl rfl rfl rfl) rfl (Z120 15 slX (by decide) rfl rfl (Z3 rfl) rfl (Z120 16 slX (by decide) rfl rfl (RV.nilCheck rfl) rfl (Z120 17 slX (by decide) rfl rfl (Z30 rfl rfl rfl rfl) rfl ?_)))))))
 refine XW.slot (ptr (some b) 84) rfl (Z120 18 slX (by decide) rfl rfl (Z142 rfl rfl rfl) rfl (XW.slot (sl (some b) 84 32 32) rfl (Z120 19 slX (by decide) rfl rfl (Z117 (l := [nsl, npt, npt, npt]) (cs := Slk.cells b (.text 84 32)) [(0, [sl (some b) 84 32 32])] rfl rfl rfl rfl rfl rfl rfl) rfl (Z120 20 slX (by decide) rfl rfl (Z3 rfl) rfl (Z120 21 slX (by decide) rfl rfl (RV.nilCheck rfl) rfl (Z120 22 slX (by decide) rfl rfl (Z30 rfl rfl rfl rfl) rfl (XW.slot (ptr (some b) 116) rfl ?_)))))))
 refine Z120 23 slX (by decide) rfl rfl (Z142 rfl rfl rfl) rfl (XW.slot (sl (some b) 116 32 32) rfl (Z120 24 slX (by decide) rfl rfl (Z117 (l := [nsl, npt, npt, npt]) (cs := Slk.cells b (.text 116 32)) [(0, [sl (some b) 116 32 32])] rfl rfl rfl rfl rfl rfl rfl) rfl (Z120 25 slX (by decide) rfl rfl (Z3 rfl) rfl (Z120 26 slX (by decide) rfl rfl (RV.nilCheck rfl) rfl (Z120 27 slX (by decide) rfl rfl (Z30 rfl rfl rfl rfl) rfl (XW.slot (ptr (some b) 148) rfl (Z120 28 slX (by decide) rfl rfl (Z142 rfl rfl rfl) rfl ?_)))))))
 refine XW.slot (sl (some b) 148 32 32) rfl (Z120 29 slX (by decide) rfl rfl (Z117 (l := [nsl, npt, npt, npt]) (cs := Slk.cells b (.text 148 32)) [(0, [sl (some b) 148 32 32])] rfl rfl rfl rfl rfl rfl rfl) rfl (Z120 30 slX (by decide) rfl rfl (Z3 rfl) rfl (Z120 31 slX (by decide) rfl rfl (RV.nilCheck rfl) rfl (Z120 32 slX (by decide) rfl rfl (Z30 rfl rfl rfl rfl) rfl (XW.slot (ptr (some b) 180) rfl (Z120 33 slX (by decide) rfl rfl (Z142 rfl rfl rfl) rfl (XW.slot (sl (some b) 180 256 256) rfl ?_)))))))
 refine Z120 34 slX (by decide) rfl rfl (Z117 (l := [nsl, npt, npt, npt]) (cs := Slk.cells b (.text 180 256)) [(0, [sl (some b) 180 256 256])] rfl rfl rfl rfl rfl rfl rfl) rfl (Z120 35 slX (by decide) rfl rfl (Z3 rfl) rfl (Z120 36 slX (by decide) rfl rfl (RV.nilCheck rfl) rfl (Z120 37 slX (by decide) rfl rfl (Z30 rfl rfl rfl rfl) rfl (XW.slot (ptr (some b) 436) rfl (Z120 38 slX (by decide) rfl rfl (Z117 (l := [nsl, npt, npt, npt]) (cs := Slk.cells b (.big 436)) [(1, [ptr (some b) 436])] rfl rfl rfl rfl rfl rfl rfl) rfl (Z120 39 slX (by decide) rfl rfl (Z3 rfl) rfl (Z120 40 slX (by decide) rfl rfl (RV.nilCheck rfl) rfl ?_)))))))
 refine Z120 41 slX (by decide) rfl rfl (Z30 rfl rfl rfl rfl) rfl (XW.slot (ptr (some b) 440) rfl (Z120 42 slX (by decide) rfl rfl (Z117 (l := [nsl, npt, npt, npt]) (cs := Slk.cells b (.word 440)) [(2, [ptr (some b) 440])] rfl rfl rfl rfl rfl rfl rfl) rfl (Z120 43 slX (by decide) rfl rfl (Z3 rfl) rfl (Z120 44 slX (by decide) rfl rfl (RV.nilCheck rfl) rfl (Z120 45 slX (by decide) rfl rfl (Z30 rfl rfl rfl rfl) rfl (XW.slot (ptr (some b) 441) rfl (Z120 46 slX (by decide) rfl rfl (Z117 (l := [nsl, npt, npt, npt]) (cs := Slk.cells b (.word 441)) [(2, [ptr (some b) 441])] rfl rfl rfl rfl rfl rfl rfl) rfl ?_)))))))
 refine Z120 47 slX (by decide) rfl rfl (Z3 rfl) rfl (Z120 48 slX (by decide) rfl rfl (RV.nilCheck rfl) rfl (Z120 49 slX (by decide) rfl rfl (Z30 rfl rfl rfl rfl) rfl (XW.slot (ptr (some b) 442) rfl (Z120 50 slX (by decide) rfl rfl (Z117 (l := [nsl, npt, npt, npt]) (cs := Slk.cells b (.word 442)) [(2, [ptr (some b) 442])] rfl rfl rfl rfl rfl rfl rfl) rfl (Z120 51 slX (by decide) rfl rfl (Z3 rfl) rfl (Z120 52 slX (by decide) rfl rfl (RV.nilCheck rfl) rfl (Z120 53 slX (by decide) rfl rfl (Z30 rfl rfl rfl rfl) rfl ?_)))))))
 refine XW.slot (ptr (some b) 443) rfl (Z120 54 slX (by decide) rfl rfl (Z117 (l := [nsl, npt, npt, npt]) (cs := Slk.cells b (.word 443)) [(2, [ptr (some b) 443])] rfl rfl rfl rfl rfl rfl rfl) rfl (Z120 55 slX (by decide) rfl rfl (Z3 rfl) rfl (Z120 56 slX (by decide) rfl rfl (RV.nilCheck rfl) rfl (Z120 57 slX (by decide) rfl rfl (Z30 rfl rfl rfl rfl) rfl (XW.slot (ptr (some b) 444) rfl (Z120 58 slX (by decide) rfl rfl (Z117 (l := [nsl, npt, npt, npt]) (cs := Slk.cells b (.ext 444)) [(3, [ptr (some b) 444])] rfl rfl rfl rfl rfl rfl rfl) rfl (Z120 59 slX (by decide) rfl rfl (Z3 rfl) rfl ?_)))))))
 refine Z120 60 slX (by decide) rfl rfl (RV.nilCheck rfl) rfl (Z120 61 slX (by decide) rfl rfl (Z30 rfl rfl rfl rfl) rfl (XW.slot (ptr (some b) 445) rfl (Z120 62 slX (by decide) rfl rfl (Z142 rfl rfl rfl) rfl (XW.slot (sl (some b) 445 32 32) rfl (Z120 63 slX (by decide) rfl rfl (Z117 (l := [nsl, npt, npt, npt]) (cs := Slk.cells b (.text 445 32)) [(0, [sl (some b) 445 32 32])] rfl rfl rfl rfl rfl rfl rfl) rfl (Z120 64 slX (by decide) rfl rfl (Z3 rfl) rfl (Z120 65 slX (by decide) rfl rfl (RV.nilCheck rfl) rfl ?_)))))))
 refine Z120 66 slX (by decide) rfl rfl (Z30 rfl rfl rfl rfl) rfl (XW.slot (ptr (some b) 477) rfl (Z120 67 slX (by decide) rfl rfl (Z142 rfl rfl rfl) rfl (XW.slot (sl (some b) 477 8 8) rfl (Z120 68 slX (by decide) rfl rfl (Z117 (l := [nsl, npt, npt, npt]) (cs := Slk.cells b (.text 477 8)) [(0, [sl (some b) 477 8 8])] rfl rfl rfl rfl rfl rfl rfl) rfl (Z120 69 slX (by decide) rfl rfl (Z3 rfl) rfl (Z120 70 slX (by decide) rfl rfl (RV.nilCheck rfl) rfl (Z120 71 slX (by decide) rfl rfl (Z30 rfl rfl rfl rfl) rfl ?_)))))))
 refine XW.slot (ptr (some b) 486) rfl (Z120 72 slX (by decide) rfl rfl (Z117 (l := [nsl, npt, npt, npt]) (cs := Slk.cells b (.big 486)) [(1, [ptr (some b) 486])] rfl rfl rfl rfl rfl rfl rfl) rfl (Z120 73 slX (by decide) rfl rfl (Z3 rfl) rfl (Z120 74 slX (by decide) rfl rfl (RV.nilCheck rfl) rfl (Z120 75 slX (by decide) rfl rfl (Z30 rfl rfl rfl rfl) rfl (XW.slot (ptr (some b) 490) rfl (Z120 76 slX (by decide) rfl rfl (Z142 rfl rfl rfl) rfl (XW.slot (sl (some b) 490 32 32) rfl ?_)))))))
 refine Z120 77 slX (by decide) rfl rfl (Z117 (l := [nsl, npt, npt, npt]) (cs := Slk.cells b (.text 490 32)) [(0, [sl (some b) 490 32 32])] rfl rfl rfl rfl rfl rfl rfl) rfl (Z120 78 slX (by decide) rfl rfl (Z3 rfl) rfl (Z120 79 slX (by decide) rfl rfl (RV.nilCheck rfl) rfl (Z120 80 slX (by decide) rfl rfl (Z30 rfl rfl rfl rfl) rfl (XW.slot (ptr (some b) 522) rfl (Z120 81 slX (by decide) rfl rfl (Z117 (l := [nsl, npt, npt, npt]) (cs := Slk.cells b (.word 522)) [(2, [ptr (some b) 522])] rfl rfl rfl rfl rfl rfl rfl) rfl (Z120 82 slX (by decide) rfl rfl (Z3 rfl) rfl (Z120 83 slX (by decide) rfl rfl (RV.nilCheck rfl) rfl ?_)))))))
 refine Z120 84 slX (by decide) rfl rfl (Z30 rfl rfl rfl rfl) rfl (XW.slot (ptr (some b) 523) rfl (Z120 85 slX (by decide) rfl rfl (Z117 (l := [nsl, npt, npt, npt]) (cs := Slk.cells b (.word 523)) [(2, [ptr (some b) 523])] rfl rfl rfl rfl rfl rfl rfl) rfl (Z120 86 slX (by decide) rfl rfl (Z3 rfl) rfl (Z120 87 slX (by decide) rfl rfl (RV.nilCheck rfl) rfl (Z120 88 slX (by decide) rfl rfl (Z30 rfl rfl rfl rfl) rfl (XW.slot (ptr (some b) 524) rfl (Z120 89 slX (by decide) rfl rfl (Z142 rfl rfl rfl) rfl ?_)))))))
 refine XW.slot (sl (some b) 524 32 32) rfl (Z120 90 slX (by decide) rfl rfl (Z117 (l := [nsl, npt, npt, npt]) (cs := Slk.cells b (.text 524 32)) [(0, [sl (some b) 524 32 32])] rfl rfl rfl rfl rfl rfl rfl) rfl (Z120 91 slX (by decide) rfl rfl (Z3 rfl) rfl (Z120 92 slX (by decide) rfl rfl (RV.nilCheck rfl) rfl (Z120 93 slX (by decide) rfl rfl (Z30 rfl rfl rfl rfl) rfl (XW.slot (ptr (some b) 556) rfl (Z120 94 slX (by decide) rfl rfl (Z142 rfl rfl rfl) rfl (XW.slot (sl (some b) 556 32 32) rfl ?_)))))))
 refine Z120 95 slX (by decide) rfl rfl (Z117 (l := [nsl, npt, npt, npt]) (cs := Slk.cells b (.text 556 32)) [(0, [sl (some b) 556 32 32])] rfl rfl rfl rfl rfl rfl rfl) rfl ?_
 refine Z120 96 slX (by decide) rfl rfl (RV.buildAs (l := List.flatten (List.replicate 21 [nsl, npt, npt, npt])) (s := 4) (vss := slotL.map (Slk.cells b)) (cs := slotC b) rfl rfl rfl rfl rfl (by intro x hx; obtain ⟨s, _, rfl⟩ := List.mem_map.1 hx; exact Z135 b s) slotC_hl (slotC_def b)) rfl ?_
 refine XW.sv 97 rfl slE (Z107 rfl rfl rfl (slotC_one b) rfl rfl rfl) (fun w m => m.tail) (XW.norm (done' := (doneTo 98 98).toArray) (doneTo_next (by decide)) (XW.nil slF (Z1 (CW.ret ?_))))
 refine Z110 (rs := [.cell 2 97]) [.agg (slotC b).toArray] ((some b2, blk (slotC b) 97) :: []) rfl ⟨⟨_, _, _, _, rfl, Zh, rfl, rfl, rfl, rfl⟩, trivial⟩ rfl ⟨_, rfl, rfl⟩ (fun w m => m) _ (.inl rfl)
theorem hslot_zero_does (w0 : World) (Φ : Ctx) (N : List Ent) (hΦ : ∀ w, Mem w0 w N → Φ w) (b : Nat) (s : Slk) (f : Fd) (hs : SlotAt Φ b s f) : DoesG Tryd.prog 54 [.agg (s.cells b).toArray] w0 [] N (fun u G => ∃ B, u = .bool f.isZero ∧ G = B) := by
 refine DoesG.enter Tryd.func54 rfl Tryd.ntmps54 rfl (M := N) rfl ?_
 (repeat (first | refine Z4 ?_ | refine Z1 ?_ | refine CW.block ?_ | refine CW.ret ?_ | refine CW.skip ?_ | refine CW.exit ?_ | refine Z9 ?_ | refine Z8 ?_ | refine Z27 ?_ | refine Z15 ?_ | refine Z101 rfl ?_ | refine Z16 ?_))
 refine Z2 (OW.boxA rfl rfl (fun b1 => (Z0 (Z5 rfl) rfl (Z6 ?_))))
 (repeat (first | refine Z4 ?_ | refine Z1 ?_ | refine CW.block ?_ | refine CW.ret ?_ | refine CW.skip ?_ | refine CW.exit ?_ | refine Z9 ?_ | refine Z8 ?_ | refine Z27 ?_ | refine Z15 ?_ | refine Z101 rfl ?_ | refine Z16 ?_))
 cases s <;> cases f <;> first | exact hs.elim | skip
 ·rename_i o n l
  obtain ⟨rfl, hv⟩ := hs
  have hmx := hv.mx
  (repeat (first | refine Z4 ?_ | refine Z1 ?_ | refine CW.block ?_ | refine CW.ret ?_ | refine CW.skip ?_ | refine CW.exit ?_ | refine Z9 ?_ | refine Z8 ?_ | refine Z27 ?_ | refine Z15 ?_ | refine Z101 rfl ?_ | refine Z16 ?_))
  refine Z2 (Z0 (Z30 rfl rfl rfl rfl) rfl ?_)
  (first | refine Z0 (Z29 rfl (by (repeat (first | exact List.Mem.head _ | assumption | refine List.Mem.tail _ ?_)); done) (by first | rfl | assumption) rfl rfl (by first | rfl | assumption)) rfl ?_ | refine Z0 (Z21 rfl rfl rfl (by (repeat (first | assumption | refine Mem.Says.cons ?_)); done)) rfl ?_)
  (first | refine Z0 (RV.neqN rfl rfl rfl) rfl ?_ | refine Z0 (RV.neqS rfl rfl rfl) rfl ?_)
  refine Z0 (Z5 rfl) rfl (Z6 ?_)
  (repeat (first | refine Z4 ?_ | refine Z1 ?_ | refine CW.block ?_ | refine CW.ret ?_ | refine CW.skip ?_ | refine CW.exit ?_ | refine Z9 ?_ | refine Z8 ?_ | refine Z27 ?_ | refine Z15 ?_ | refine Z101 rfl ?_ | refine Z16 ?_))
  (first | refine Z113 rfl ?_ | refine Z115 rfl ?_ | refine Z114 rfl (fun h0 => ?_) (fun h0 => ?_) | refine Z111 rfl (fun h0 => ?_) (fun h0 => ?_) | refine CW.cond rfl (fun h0 => ?_) (fun h0 => ?_))
  (repeat (first | refine Z4 ?_ | refine Z1 ?_ | refine CW.block ?_ | refine CW.ret ?_ | refine CW.skip ?_ | refine CW.exit ?_ | refine Z9 ?_ | refine Z8 ?_ | refine Z27 ?_ | refine Z15 ?_ | refine Z101 rfl ?_ | refine Z16 ?_))
  refine Z2 (Z0 (Z30 rfl rfl rfl rfl) rfl ?_)
  (first | refine Z0 (Z29 rfl (by (repeat (first | exact List.Mem.head _ | assumption | refine List.Mem.tail _ ?_)); done) (by first | rfl | assumption) rfl rfl (by first | rfl | assumption)) rfl ?_ | refine Z0 (Z21 rfl rfl rfl (by (repeat (first | assumption | refine Mem.Says.cons ?_)); done)) rfl ?_)
  (first | refine Z0 (RV.neqN rfl rfl rfl) rfl ?_ | refine Z0 (RV.neqS rfl rfl rfl) rfl ?_)
  refine Z0 (Z5 rfl) rfl (Z6 ?_)
  (repeat (first | refine Z4 ?_ | refine Z1 ?_ | refine CW.block ?_ | refine CW.ret ?_ | refine CW.skip ?_ | refine CW.exit ?_ | refine Z9 ?_ | refine Z8 ?_ | refine Z27 ?_ | refine Z15 ?_ | refine Z101 rfl ?_ | refine Z16 ?_))
  (first | refine Z113 rfl ?_ | refine Z115 rfl ?_ | refine Z114 rfl (fun h0 => ?_) (fun h0 => ?_) | refine Z111 rfl (fun h0 => ?_) (fun h0 => ?_) | refine CW.cond rfl (fun h0 => ?_) (fun h0 => ?_))
  (repeat (first | refine Z4 ?_ | refine Z1 ?_ | refine CW.block ?_ | refine CW.ret ?_ | refine CW.skip ?_ | refine CW.exit ?_ | refine Z9 ?_ | refine Z8 ?_ | refine Z27 ?_ | refine Z15 ?_ | refine Z101 rfl ?_ | refine Z16 ?_))
  refine Z2 (Z0 (Z30 rfl rfl rfl rfl) rfl ?_)
  (first | refine Z0 (Z29 rfl (by (repeat (first | exact List.Mem.head _ | assumption | refine List.Mem.tail _ ?_)); done) (by first | rfl | assumption) rfl rfl (by first | rfl | assumption)) rfl ?_ | refine Z0 (Z21 rfl rfl rfl (by (repeat (first | assumption | refine Mem.Says.cons ?_)); done)) rfl ?_)
  (first | refine Z0 (RV.neqN rfl rfl rfl) rfl ?_ | refine Z0 (RV.neqS rfl rfl rfl) rfl ?_)
  refine Z0 (Z5 rfl) rfl (Z6 ?_)
  (repeat (first | refine Z4 ?_ | refine Z1 ?_ | refine CW.block ?_ | refine CW.ret ?_ | refine CW.skip ?_ | refine CW.exit ?_ | refine Z9 ?_ | refine Z8 ?_ | refine Z27 ?_ | refine Z15 ?_ | refine Z101 rfl ?_ | refine Z16 ?_))
  (first | refine Z113 rfl ?_ | refine Z115 rfl ?_ | refine Z114 rfl (fun h0 => ?_) (fun h0 => ?_) | refine Z111 rfl (fun h0 => ?_) (fun h0 => ?_) | refine CW.cond rfl (fun h0 => ?_) (fun h0 => ?_))
  (repeat (first | refine Z4 ?_ | refine Z1 ?_ | refine CW.block ?_ | refine CW.ret ?_ | refine CW.skip ?_ | refine CW.exit ?_ | refine Z9 ?_ | refine Z8 ?_ | refine Z27 ?_ | refine Z15 ?_ | refine Z101 rfl ?_ | refine Z16 ?_))
  refine Z2 (Z0 (Z30 rfl rfl rfl rfl) rfl ?_)
  (first | refine Z0 (Z29 rfl (by (repeat (first | exact List.Mem.head _ | assumption | refine List.Mem.tail _ ?_)); done) (by first | rfl | assumption) rfl rfl (by first | rfl | assumption)) rfl ?_ | refine Z0 (Z21 rfl rfl rfl (by (repeat (first | assumption | refine Mem.Says.cons ?_)); done)) rfl ?_)
  refine Z0 (RV.len rfl rfl) rfl (Z0 (Z3 rfl) rfl (Z6 ?_))
  (repeat (first | refine Z4 ?_ | refine Z1 ?_ | refine CW.block ?_ | refine CW.ret ?_ | refine CW.skip ?_ | refine CW.exit ?_ | refine Z9 ?_ | refine Z8 ?_ | refine Z27 ?_ | refine Z15 ?_ | refine Z101 rfl ?_ | refine Z16 ?_))
  refine Z139 (fun k L' M' => ∃ (i : Nat), k = l.length - i ∧ i ≤ l.length ∧ (∀ x ∈ l.take i, x = 0#8) ∧ L' = [(35, sl (some b) o l.length l.length), (36, .int .i64 (l.length : Int)), (37, .int .i64 (i : Int))] ∧ M' = N) (k0 := l.length) ⟨0, rfl, by omega, by simp, rfl, rfl⟩ ⟨rfl, rfl, rfl, trivial⟩ (fun w m => m.tail) ?_
  rintro k L' M' ⟨i, rfl, hi, hz, rfl, rfl⟩
  (repeat (first | refine Z4 ?_ | refine Z1 ?_ | refine CW.block ?_ | refine CW.ret ?_ | refine CW.skip ?_ | refine CW.exit ?_ | refine Z9 ?_ | refine Z8 ?_ | refine Z27 ?_ | refine Z15 ?_ | refine Z101 rfl ?_ | refine Z16 ?_))
  refine Z2 (Z0 (RV.lss rfl rfl) rfl (Z6 ?_))
  (repeat (first | refine Z4 ?_ | refine Z1 ?_ | refine CW.block ?_ | refine CW.ret ?_ | refine CW.skip ?_ | refine CW.exit ?_ | refine Z9 ?_ | refine Z8 ?_ | refine Z27 ?_ | refine Z15 ?_ | refine Z101 rfl ?_ | refine Z16 ?_))
  (first | refine Z113 rfl ?_ | refine Z115 rfl ?_ | refine Z114 rfl (fun hlt => ?_) (fun hlt => ?_) | refine Z111 rfl (fun hlt => ?_) (fun hlt => ?_) | refine CW.cond rfl (fun hlt => ?_) (fun hlt => ?_))
  ·have h1 : i < l.length := by omega
   have hx : l[i]? = some l[i] := List.getElem?_eq_getElem h1
   (repeat (first | refine Z4 ?_ | refine Z1 ?_ | refine CW.block ?_ | refine CW.ret ?_ | refine CW.skip ?_ | refine CW.exit ?_ | refine Z9 ?_ | refine Z8 ?_ | refine Z27 ?_ | refine Z15 ?_ | refine Z101 rfl ?_ | refine Z16 ?_))
   refine Z2 (Z0 (Z152 (i) rfl rfl rfl rfl rfl (hv.isSome (by decide) h1) (by omega)) rfl (Z0 (Z21 rfl rfl rfl (fun w m => hv.cell (hΦ w m) (u8s_at hx))) rfl (Z0 (Z5 rfl) rfl (Z6 ?_))))
   (repeat (first | refine Z4 ?_ | refine Z1 ?_ | refine CW.block ?_ | refine CW.ret ?_ | refine CW.skip ?_ | refine CW.exit ?_ | refine Z9 ?_ | refine Z8 ?_ | refine Z27 ?_ | refine Z15 ?_ | refine Z101 rfl ?_ | refine Z16 ?_))
   refine Z2 (Z0 (Z3 rfl) rfl (Z0 (RV.neq8 rfl (by first | rfl | exact lit8 _ rfl) rfl (by first | rfl | exact lit8 _ rfl)) rfl (Z6 ?_)))
   (repeat (first | refine Z4 ?_ | refine Z1 ?_ | refine CW.block ?_ | refine CW.ret ?_ | refine CW.skip ?_ | refine CW.exit ?_ | refine Z9 ?_ | refine Z8 ?_ | refine Z27 ?_ | refine Z15 ?_ | refine Z101 rfl ?_ | refine Z16 ?_))
   by_cases hz2 : l[i] = 0#8
   ·refine Z14 rfl (by rw [hz2]; rfl) ?_
    (repeat (first | refine Z4 ?_ | refine Z1 ?_ | refine CW.block ?_ | refine CW.ret ?_ | refine CW.skip ?_ | refine CW.exit ?_ | refine Z9 ?_ | refine Z8 ?_ | refine Z27 ?_ | refine Z15 ?_ | refine Z101 rfl ?_ | refine Z16 ?_))
    refine Z2 (Z0 (RV.add rfl rfl (by omega)) rfl (Z0 (Z3 rfl) rfl (Z6 ?_)))
    (repeat (first | refine Z4 ?_ | refine Z1 ?_ | refine CW.block ?_ | refine CW.ret ?_ | refine CW.skip ?_ | refine CW.exit ?_ | refine Z9 ?_ | refine Z8 ?_ | refine Z27 ?_ | refine Z15 ?_ | refine Z101 rfl ?_ | refine Z16 ?_))
    refine Z132 (k' := l.length - (i + 1)) (by omega) ⟨i + 1, rfl, by omega, (by
     intro x hx2
     rw [List.take_add_one, hx] at hx2
     rcases List.mem_append.1 hx2 with h | h
     ·exact hz x h
     ·simp at h; rw [h, hz2]), rfl, rfl⟩ ⟨rfl, rfl, rfl, trivial⟩ (fun w m => m)
   ·refine Z13 rfl (by simpa using hz2) ?_
    (repeat (first | refine Z4 ?_ | refine Z1 ?_ | refine CW.block ?_ | refine CW.ret ?_ | refine CW.skip ?_ | refine CW.exit ?_ | refine Z9 ?_ | refine Z8 ?_ | refine Z27 ?_ | refine Z15 ?_ | refine Z101 rfl ?_ | refine Z16 ?_))
    refine Z2 (Z0 (Z5 rfl) rfl (Z6 ?_))
    (repeat (first | refine Z4 ?_ | refine Z1 ?_ | refine CW.block ?_ | refine CW.ret ?_ | refine CW.skip ?_ | refine CW.exit ?_ | refine Z9 ?_ | refine Z8 ?_ | refine Z27 ?_ | refine Z15 ?_ | refine Z101 rfl ?_ | refine Z16 ?_))
    have e : Fd.isZero (.text l) = false := by
     simp only [Fd.isZero, List.all_eq_false]
     exact ⟨l[i], List.getElem_mem h1, by simpa using hz2⟩
    rw [e]
    refine Z110 (rs := [.tmp 2]) [.bool false] [] rfl ⟨rfl, trivial⟩ rfl ⟨_, rfl, rfl⟩ (fun w m => m) _ (.inl rfl)
  ·have e : Fd.isZero (.text l) = true := by
    simp only [Fd.isZero, List.all_eq_true]
    intro x hx
    have := hz x (by rw [List.take_of_length_le (by omega)]; exact hx)
    simpa using this
   rw [e]
   (repeat (first | refine Z4 ?_ | refine Z1 ?_ | refine CW.block ?_ | refine CW.ret ?_ | refine CW.skip ?_ | refine CW.exit ?_ | refine Z9 ?_ | refine Z8 ?_ | refine Z27 ?_ | refine Z15 ?_ | refine Z101 rfl ?_ | refine Z16 ?_))
   refine Z2 (Z0 (Z5 rfl) rfl (Z6 ?_))
   (repeat (first | refine Z4 ?_ | refine Z1 ?_ | refine CW.block ?_ | refine CW.ret ?_ | refine CW.skip ?_ | refine CW.exit ?_ | refine Z9 ?_ | refine Z8 ?_ | refine Z27 ?_ | refine Z15 ?_ | refine Z101 rfl ?_ | refine Z16 ?_))
   refine Z110 (rs := [.tmp 2]) [.bool true] [] rfl ⟨rfl, trivial⟩ rfl ⟨_, rfl, rfl⟩ (fun w m => m) _ (.inl rfl)
 ·rename_i o v
  (repeat (first | refine Z4 ?_ | refine Z1 ?_ | refine CW.block ?_ | refine CW.ret ?_ | refine CW.skip ?_ | refine CW.exit ?_ | refine Z9 ?_ | refine Z8 ?_ | refine Z27 ?_ | refine Z15 ?_ | refine Z101 rfl ?_ | refine Z16 ?_))
  refine Z2 (Z0 (Z30 rfl rfl rfl rfl) rfl ?_)
  (first | refine Z0 (Z29 rfl (by (repeat (first | exact List.Mem.head _ | assumption | refine List.Mem.tail _ ?_)); done) (by first | rfl | assumption) rfl rfl (by first | rfl | assumption)) rfl ?_ | refine Z0 (Z21 rfl rfl rfl (by (repeat (first | assumption | refine Mem.Says.cons ?_)); done)) rfl ?_)
  (first | refine Z0 (RV.neqN rfl rfl rfl) rfl ?_ | refine Z0 (RV.neqS rfl rfl rfl) rfl ?_)
  refine Z0 (Z5 rfl) rfl (Z6 ?_)
  (repeat (first | refine Z4 ?_ | refine Z1 ?_ | refine CW.block ?_ | refine CW.ret ?_ | refine CW.skip ?_ | refine CW.exit ?_ | refine Z9 ?_ | refine Z8 ?_ | refine Z27 ?_ | refine Z15 ?_ | refine Z101 rfl ?_ | refine Z16 ?_))
  (first | refine Z113 rfl ?_ | refine Z115 rfl ?_ | refine Z114 rfl (fun h0 => ?_) (fun h0 => ?_) | refine Z111 rfl (fun h0 => ?_) (fun h0 => ?_) | refine CW.cond rfl (fun h0 => ?_) (fun h0 => ?_))
  (repeat (first | refine Z4 ?_ | refine Z1 ?_ | refine CW.block ?_ | refine CW.ret ?_ | refine CW.skip ?_ | refine CW.exit ?_ | refine Z9 ?_ | refine Z8 ?_ | refine Z27 ?_ | refine Z15 ?_ | refine Z101 rfl ?_ | refine Z16 ?_))
  refine Z2 (Z0 (Z30 rfl rfl rfl rfl) rfl ?_)
  (first | refine Z0 (Z29 rfl (by (repeat (first | exact List.Mem.head _ | assumption | refine List.Mem.tail _ ?_)); done) (by first | rfl | assumption) rfl rfl (by first | rfl | assumption)) rfl ?_ | refine Z0 (Z21 rfl rfl rfl (by (repeat (first | assumption | refine Mem.Says.cons ?_)); done)) rfl ?_)
  refine Z0 (RV.nilCheck rfl) rfl ?_
  refine Z0 (RV.loadAs (vs := u64s v.toList) rfl rfl rfl rfl (fun w m j u hj => by rw [Z123]; exact hs w (hΦ w m.tail) j u hj) ((Z102 _).trans Zv)) rfl ?_
  refine Z0 (RV.build0 (l := u64s (Vector.replicate 4 0#64).toList) rfl rfl rfl rfl) rfl (Z0 (RV.eqA64 rfl rfl rfl rfl rfl rfl (Zv) (Zv)) rfl (Z0 (Z5 rfl) rfl (Z6 ?_)))
  (repeat (first | refine Z4 ?_ | refine Z1 ?_ | refine CW.block ?_ | refine CW.ret ?_ | refine CW.skip ?_ | refine CW.exit ?_ | refine Z9 ?_ | refine Z8 ?_ | refine Z27 ?_ | refine Z15 ?_ | refine Z101 rfl ?_ | refine Z16 ?_))
  refine Z110 (rs := [.tmp 2]) [.bool (Fd.isZero (.big v))] [] rfl ⟨?_, trivial⟩ rfl ⟨_, rfl, rfl⟩ (fun w m => m.tail) _ (.inl rfl)
  exact congrArg some (congrArg Value.bool (decide_eq_decide.2 Vector.toList_inj))
 ·rename_i o x
  (repeat (first | refine Z4 ?_ | refine Z1 ?_ | refine CW.block ?_ | refine CW.ret ?_ | refine CW.skip ?_ | refine CW.exit ?_ | refine Z9 ?_ | refine Z8 ?_ | refine Z27 ?_ | refine Z15 ?_ | refine Z101 rfl ?_ | refine Z16 ?_))
  refine Z2 (Z0 (Z30 rfl rfl rfl rfl) rfl ?_)
  (first | refine Z0 (Z29 rfl (by (repeat (first | exact List.Mem.head _ | assumption | refine List.Mem.tail _ ?_)); done) (by first | rfl | assumption) rfl rfl (by first | rfl | assumption)) rfl ?_ | refine Z0 (Z21 rfl rfl rfl (by (repeat (first | assumption | refine Mem.Says.cons ?_)); done)) rfl ?_)
  (first | refine Z0 (RV.neqN rfl rfl rfl) rfl ?_ | refine Z0 (RV.neqS rfl rfl rfl) rfl ?_)
  refine Z0 (Z5 rfl) rfl (Z6 ?_)
  (repeat (first | refine Z4 ?_ | refine Z1 ?_ | refine CW.block ?_ | refine CW.ret ?_ | refine CW.skip ?_ | refine CW.exit ?_ | refine Z9 ?_ | refine Z8 ?_ | refine Z27 ?_ | refine Z15 ?_ | refine Z101 rfl ?_ | refine Z16 ?_))
  (first | refine Z113 rfl ?_ | refine Z115 rfl ?_ | refine Z114 rfl (fun h0 => ?_) (fun h0 => ?_) | refine Z111 rfl (fun h0 => ?_) (fun h0 => ?_) | refine CW.cond rfl (fun h0 => ?_) (fun h0 => ?_))
  (repeat (first | refine Z4 ?_ | refine Z1 ?_ | refine CW.block ?_ | refine CW.ret ?_ | refine CW.skip ?_ | refine CW.exit ?_ | refine Z9 ?_ | refine Z8 ?_ | refine Z27 ?_ | refine Z15 ?_ | refine Z101 rfl ?_ | refine Z16 ?_))
  refine Z2 (Z0 (Z30 rfl rfl rfl rfl) rfl ?_)
  (first | refine Z0 (Z29 rfl (by (repeat (first | exact List.Mem.head _ | assumption | refine List.Mem.tail _ ?_)); done) (by first | rfl | assumption) rfl rfl (by first | rfl | assumption)) rfl ?_ | refine Z0 (Z21 rfl rfl rfl (by (repeat (first | assumption | refine Mem.Says.cons ?_)); done)) rfl ?_)
  (first | refine Z0 (RV.neqN rfl rfl rfl) rfl ?_ | refine Z0 (RV.neqS rfl rfl rfl) rfl ?_)
  refine Z0 (Z5 rfl) rfl (Z6 ?_)
  (repeat (first | refine Z4 ?_ | refine Z1 ?_ | refine CW.block ?_ | refine CW.ret ?_ | refine CW.skip ?_ | refine CW.exit ?_ | refine Z9 ?_ | refine Z8 ?_ | refine Z27 ?_ | refine Z15 ?_ | refine Z101 rfl ?_ | refine Z16 ?_))
  (first | refine Z113 rfl ?_ | refine Z115 rfl ?_ | refine Z114 rfl (fun h0 => ?_) (fun h0 => ?_) | refine Z111 rfl (fun h0 => ?_) (fun h0 => ?_) | refine CW.cond rfl (fun h0 => ?_) (fun h0 => ?_))
  (repeat (first | refine Z4 ?_ | refine Z1 ?_ | refine CW.block ?_ | refine CW.ret ?_ | refine CW.skip ?_ | refine CW.exit ?_ | refine Z9 ?_ | refine Z8 ?_ | refine Z27 ?_ | refine Z15 ?_ | refine Z101 rfl ?_ | refine Z16 ?_))
  refine Z2 (Z0 (Z30 rfl rfl rfl rfl) rfl ?_)
  (first | refine Z0 (Z29 rfl (by (repeat (first | exact List.Mem.head _ | assumption | refine List.Mem.tail _ ?_)); done) (by first | rfl | assumption) rfl rfl (by first | rfl | assumption)) rfl ?_ | refine Z0 (Z21 rfl rfl rfl (by (repeat (first | assumption | refine Mem.Says.cons ?_)); done)) rfl ?_)
  refine Z0 (RV.nilCheck rfl) rfl (Z0 (Z21 rfl rfl rfl (fun w m => hs w (hΦ w m.tail))) rfl (Z0 (RV.eql64 rfl (by first | rfl | exact lit64 _ rfl) rfl (by first | rfl | exact lit64 _ rfl)) rfl (Z0 (Z5 rfl) rfl (Z6 ?_))))
  (repeat (first | refine Z4 ?_ | refine Z1 ?_ | refine CW.block ?_ | refine CW.ret ?_ | refine CW.skip ?_ | refine CW.exit ?_ | refine Z9 ?_ | refine Z8 ?_ | refine Z27 ?_ | refine Z15 ?_ | refine Z101 rfl ?_ | refine Z16 ?_))
  refine Z110 (rs := [.tmp 2]) [.bool (Fd.isZero (.word x))] [] rfl ⟨?_, trivial⟩ rfl ⟨_, rfl, rfl⟩ (fun w m => m.tail) _ (.inl rfl)
  exact rfl
 ·rename_i o l
  obtain ⟨A, c, hc, hv⟩ := hs
  (repeat (first | refine Z4 ?_ | refine Z1 ?_ | refine CW.block ?_ | refine CW.ret ?_ | refine CW.skip ?_ | refine CW.exit ?_ | refine Z9 ?_ | refine Z8 ?_ | refine Z27 ?_ | refine Z15 ?_ | refine Z101 rfl ?_ | refine Z16 ?_))
  refine Z2 (Z0 (Z30 rfl rfl rfl rfl) rfl ?_)
  (first | refine Z0 (Z29 rfl (by (repeat (first | exact List.Mem.head _ | assumption | refine List.Mem.tail _ ?_)); done) (by first | rfl | assumption) rfl rfl (by first | rfl | assumption)) rfl ?_ | refine Z0 (Z21 rfl rfl rfl (by (repeat (first | assumption | refine Mem.Says.cons ?_)); done)) rfl ?_)
  (first | refine Z0 (RV.neqN rfl rfl rfl) rfl ?_ | refine Z0 (RV.neqS rfl rfl rfl) rfl ?_)
  refine Z0 (Z5 rfl) rfl (Z6 ?_)
  (repeat (first | refine Z4 ?_ | refine Z1 ?_ | refine CW.block ?_ | refine CW.ret ?_ | refine CW.skip ?_ | refine CW.exit ?_ | refine Z9 ?_ | refine Z8 ?_ | refine Z27 ?_ | refine Z15 ?_ | refine Z101 rfl ?_ | refine Z16 ?_))
  (first | refine Z113 rfl ?_ | refine Z115 rfl ?_ | refine Z114 rfl (fun h0 => ?_) (fun h0 => ?_) | refine Z111 rfl (fun h0 => ?_) (fun h0 => ?_) | refine CW.cond rfl (fun h0 => ?_) (fun h0 => ?_))
  (repeat (first | refine Z4 ?_ | refine Z1 ?_ | refine CW.block ?_ | refine CW.ret ?_ | refine CW.skip ?_ | refine CW.exit ?_ | refine Z9 ?_ | refine Z8 ?_ | refine Z27 ?_ | refine Z15 ?_ | refine Z101 rfl ?_ | refine Z16 ?_))
  refine Z2 (Z0 (Z30 rfl rfl rfl rfl) rfl ?_)
  (first | refine Z0 (Z29 rfl (by (repeat (first | exact List.Mem.head _ | assumption | refine List.Mem.tail _ ?_)); done) (by first | rfl | assumption) rfl rfl (by first | rfl | assumption)) rfl ?_ | refine Z0 (Z21 rfl rfl rfl (by (repeat (first | assumption | refine Mem.Says.cons ?_)); done)) rfl ?_)
  (first | refine Z0 (RV.neqN rfl rfl rfl) rfl ?_ | refine Z0 (RV.neqS rfl rfl rfl) rfl ?_)
  refine Z0 (Z5 rfl) rfl (Z6 ?_)
  (repeat (first | refine Z4 ?_ | refine Z1 ?_ | refine CW.block ?_ | refine CW.ret ?_ | refine CW.skip ?_ | refine CW.exit ?_ | refine Z9 ?_ | refine Z8 ?_ | refine Z27 ?_ | refine Z15 ?_ | refine Z101 rfl ?_ | refine Z16 ?_))
  (first | refine Z113 rfl ?_ | refine Z115 rfl ?_ | refine Z114 rfl (fun h0 => ?_) (fun h0 => ?_) | refine Z111 rfl (fun h0 => ?_) (fun h0 => ?_) | refine CW.cond rfl (fun h0 => ?_) (fun h0 => ?_))
  (repeat (first | refine Z4 ?_ | refine Z1 ?_ | refine CW.block ?_ | refine CW.ret ?_ | refine CW.skip ?_ | refine CW.exit ?_ | refine Z9 ?_ | refine Z8 ?_ | refine Z27 ?_ | refine Z15 ?_ | refine Z101 rfl ?_ | refine Z16 ?_))
  refine Z2 (Z0 (Z30 rfl rfl rfl rfl) rfl ?_)
  (first | refine Z0 (Z29 rfl (by (repeat (first | exact List.Mem.head _ | assumption | refine List.Mem.tail _ ?_)); done) (by first | rfl | assumption) rfl rfl (by first | rfl | assumption)) rfl ?_ | refine Z0 (Z21 rfl rfl rfl (by (repeat (first | assumption | refine Mem.Says.cons ?_)); done)) rfl ?_)
  (first | refine Z0 (RV.neqN rfl rfl rfl) rfl ?_ | refine Z0 (RV.neqS rfl rfl rfl) rfl ?_)
  refine Z0 (Z5 rfl) rfl (Z6 ?_)
  (repeat (first | refine Z4 ?_ | refine Z1 ?_ | refine CW.block ?_ | refine CW.ret ?_ | refine CW.skip ?_ | refine CW.exit ?_ | refine Z9 ?_ | refine Z8 ?_ | refine Z27 ?_ | refine Z15 ?_ | refine Z101 rfl ?_ | refine Z16 ?_))
  (first | refine Z113 rfl ?_ | refine Z115 rfl ?_ | refine Z114 rfl (fun h0 => ?_) (fun h0 => ?_) | refine Z111 rfl (fun h0 => ?_) (fun h0 => ?_) | refine CW.cond rfl (fun h0 => ?_) (fun h0 => ?_))
  (repeat (first | refine Z4 ?_ | refine Z1 ?_ | refine CW.block ?_ | refine CW.ret ?_ | refine CW.skip ?_ | refine CW.exit ?_ | refine Z9 ?_ | refine Z8 ?_ | refine Z27 ?_ | refine Z15 ?_ | refine Z101 rfl ?_ | refine Z16 ?_))
  refine Z2 (Z0 (Z30 rfl rfl rfl rfl) rfl ?_)
  (first | refine Z0 (Z29 rfl (by (repeat (first | exact List.Mem.head _ | assumption | refine List.Mem.tail _ ?_)); done) (by first | rfl | assumption) rfl rfl (by first | rfl | assumption)) rfl ?_ | refine Z0 (Z21 rfl rfl rfl (by (repeat (first | assumption | refine Mem.Says.cons ?_)); done)) rfl ?_)
  refine Z0 (RV.nilCheck rfl) rfl (Z0 (Z21 rfl rfl rfl (fun w m => hc w (hΦ w m.tail))) rfl (Z0 (RV.len rfl rfl) rfl (Z0 (RV.eql rfl rfl) rfl (Z0 (Z5 rfl) rfl (Z6 ?_)))))
  (repeat (first | refine Z4 ?_ | refine Z1 ?_ | refine CW.block ?_ | refine CW.ret ?_ | refine CW.skip ?_ | refine CW.exit ?_ | refine Z9 ?_ | refine Z8 ?_ | refine Z27 ?_ | refine Z15 ?_ | refine Z101 rfl ?_ | refine Z16 ?_))
  refine Z110 (rs := [.tmp 2]) [.bool (Fd.isZero (.ext l))] [] rfl ⟨?_, trivial⟩ rfl ⟨_, rfl, rfl⟩ (fun w m => m.tail) _ (.inl rfl)
  exact congrArg some (congrArg Value.bool (decide_eq_decide.2 (by omega)))
end Go.Fw.Tryd
