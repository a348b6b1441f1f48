/- Part of a proof: rules that its law uses. -/
import Derived.ChangeArms
import Derived.Test.YtdpbljnedobmeaaDoorT2
set_option linter.unusedVariables false
set_option linter.unusedSimpArgs false
set_option linter.unusedSectionVars false
set_option maxRecDepth 100000
set_option maxHeartbeats 1000000
namespace Go.Fw.Tryd
open Go Go.Proofs Go.Fw
theorem Z121 (w0 : World) (Φ : Ctx) (N : List Ent) (hΦ : ∀ w, Mem w0 w N → Φ w) (b0_ : Nat) (a0 : Sponge) (new0 : Sponge) (hf : keccak_Sponge_absorb a0 = some new0) : DoesG Tryd.prog 59 [ptr (some b0_) 0] w0 [(some b0_, blk a0.C 91)] N (fun v G => ∃ B : List Ent, v = .tuple #[] ∧ G = (some b0_, blk new0.C 91) :: B) := by
 unfold keccak_Sponge_absorb at hf
 refine DoesG.enter Tryd.func59 rfl Tryd.ntmps59 rfl (M := ((some b0_, blk a0.C 91) :: ([] ++ N))) rfl (Z4 (Z4 (Z2 (Z0 (Z3 rfl) rfl (Z0 (RV.nilCheck rfl) rfl (Z0 (Z30 rfl rfl rfl rfl) rfl (Z7 (ptr (some b0_) 26) rfl (Z0 (RV.loadAo rfl Zh rfl rfl rfl rfl (Sponge.C_part_all _) ((Z101 _).trans Zv)) rfl (Z0 (Z3 rfl) rfl ?_)))))))))
 refine Z6 (Z1 ?_)
 obtain ⟨q1, hq2, hf⟩ := Z105 hf
 refine CW.cutJ (fun L' M' => ∃ w3 : Sponge, q1 = w3 ∧ L' = [(0, ptr (some b0_) 0)] ∧ M' = ((some b0_, blk w3.C 91) :: ([] ++ N))) ?_ ?_
 ·rintro L5 M6 ⟨w3, e4, e7, e8⟩
  rw [e7, e8]
  clear e7 e8 L5 M6
  clear hq2
  rw [e4] at hf
  clear e4
  try dsimp only at hf
  refine Z1 (Z4 (Z2 (Z0 (Z3 rfl) rfl (Z0 (Z3 rfl) rfl (Z0 (RV.nilCheck rfl) rfl (Z0 (Z30 rfl rfl rfl rfl) rfl (Z7 (ptr (some b0_) 1) rfl (Z0 (RV.loadAo rfl Zh rfl rfl rfl rfl (Sponge.C_lanes_all _) ((Z100 _).trans Zv)) rfl ?_))))))))
  obtain ⟨x10, hx9, hf⟩ := Z105 hf
  refine Z12 Tryd.call79 rfl (keccak_Permute_does w0 (More w0 Φ []) ((some b0_, blk w3.C 91) :: ([] ++ N)) (fun w m => More.of hΦ 1 m rfl) w3.lanes x10 hx9) rfl rfl ?_
  rintro _ G11 rfl
  refine Z20 (M' := ((some b0_, blk w3.C 91) :: ([] ++ N))) (fun w m => m.appR) (Z0 (RV.nilCheck rfl) rfl (Z0 (Z30 rfl rfl rfl rfl) rfl (Z7 (ptr (some b0_) 1) rfl ?_)))
  refine Z28 (SV.storeAs rfl rfl rfl (Z124 _) rfl ((Z100 _).trans Zv) (by rw [Sponge.C_length]; first | omega | decide)) ?_
  refine OW.cells ({ w3 with lanes := x10 } : Sponge).C (Sponge.C_lanes_spl _ _) (Z6 (Z1 (Z2 (Z0 (Z3 rfl) rfl (Z0 (RV.nilCheck rfl) rfl (Z0 (Z30 rfl rfl rfl rfl) rfl (Z7 (ptr (some b0_) 162) rfl (Z28 (SV.store rfl rfl rfl rfl rfl (by rw [Sponge.C_length]; omega)) (OW.cells ({ ({ w3 with lanes := x10 } : Sponge) with held := (0 : Int) } : Sponge).C (Sponge.C_held_set _ _) ?_)))))))))
  refine Z6 ?_
  have e0 := Zi hf
  subst e0
  refine Z107 (rs := []) ([]) ((some b0_, blk ({ ({ w3 with lanes := x10 } : Sponge) with held := (0 : Int) } : Sponge).C 91) :: []) rfl ?_ rfl ?_ ?_ _ (.inr rfl)
  ·exact trivial
  ·exact ⟨[], rfl, rfl⟩
  ·exact (fun w m => m.pick [0] 1 rfl rfl)
 ·skip
  refine CW.block (CW.loopJ (fun k L' M' => ∃ n13 : Nat, ∃ w15 : Sponge, (keccak_Sponge_absorb.l1 a0 k n13 w15) = some q1 ∧ (n13 ≤ 9223372036854775807) ∧ L' = [(0, ptr (some b0_) 0), (7, .agg (u8s a0.part.toList).toArray), (8, .int .i64 ((n13 : Nat) : Int))] ∧ M' = ((some b0_, blk w15.C 91) :: ([] ++ N))) (k0 := (136 - 0 + 2)) ⟨0, a0, hq2, (by omega), rfl, rfl⟩ ⟨rfl, rfl, rfl, trivial⟩ (fun w m => m.pick [0] 1 rfl rfl) ?_)
  clear hq2
  rintro k16 L19 M20 ⟨n13, w15, hl17, b14, e21, e22⟩
  rw [e21, e22]
  clear e21 e22 L19 M20
  rcases k16 with _ | k16
  ·rw [keccak_Sponge_absorb.l1] at hl17; cases hl17
  rw [keccak_Sponge_absorb.l1] at hl17
  refine Z4 (Z2 (Z0 (RV.lss rfl rfl) rfl (Z7 (.bool (decide (n13 < 136))) (congrArg Value.bool (decide_eq_decide.2 (by omega))) (Z6 (Z1 (Z4 ?_))))))
  by_cases h23 : n13 < 136
  ·replace hl17 := if_t hl17 h23
   refine Z13 rfl (decide_eq_true h23) (CW.skip (Z1 (Z4 (CW.block (Z4 (Z2 (Z0 (Z3 rfl) rfl ?_)))))))
   obtain ⟨x24, hx25, hl17⟩ := Z105 hl17
   have hl26 := (Vector.getElem?_eq_some_iff.1 hx25).1
   refine Z0 (RV.indexV (n13) rfl rfl rfl rfl rfl rfl rfl (by omega) (u8s_at (vat hx25))) rfl (Z0 (Z5 rfl) rfl (Z0 (Z5 rfl) rfl (Z6 (Z1 (CW.drawsX (([] ++ N)) [17] (fun w m => m.pick [] 1 rfl rfl) mixed (by kernel_rfl) (Z10 0 rfl (by kernel_rfl) rfl (Z3 rfl) rfl (Z10 1 rfl (by kernel_rfl) rfl (Z3 rfl) rfl (Z10 2 rfl (by kernel_rfl) rfl (RV.quo rfl rfl (by omega) (by omega) (by omega)) rfl ?_))))))))
   refine XW.slot (.int .i64 ((n13 / 8 : Nat) : Int)) (by first | rfl | (congr 1; omega)) (Z10 3 rfl (by kernel_rfl) rfl (RV.nilCheck rfl) rfl (Z10 4 rfl (by kernel_rfl) rfl (Z30 rfl rfl rfl rfl) rfl (XW.slot (ptr (some b0_) 1) rfl ?_)))
   obtain ⟨g27, hl17⟩ := Z118 hl17
   refine Z10 5 rfl (by kernel_rfl) rfl (Z102 ((n13 / 8)) rfl rfl rfl rfl rfl (by omega)) rfl ?_
   obtain ⟨x28, hx29, hl17⟩ := Z105 hl17
   refine XW.rv 6 rfl (by kernel_rfl) rfl (by kernel_rfl) (Z29 rfl Zh rfl rfl rfl (Sponge.C_lanes _ hx29)) rfl (Z10 7 rfl (by kernel_rfl) rfl (Z3 rfl) rfl (Z10 8 rfl (by kernel_rfl) rfl (RV.conv8_64 rfl (by first | rfl | exact lit8 _ rfl) rfl rfl) rfl (Z10 9 rfl (by kernel_rfl) rfl (Z3 rfl) rfl (Z10 10 rfl (by kernel_rfl) rfl (RV.rem rfl rfl (by omega) (by omega)) rfl (XW.slot (.int .i64 ((n13 % 8 : Nat) : Int)) (by first | rfl | (congr 1; omega)) (Z10 11 rfl (by kernel_rfl) rfl (RV.mul rfl rfl (by omega)) rfl (XW.slot (.int .i64 (((8 * (n13 % 8)) : Nat) : Int)) (by first | rfl | (congr 1) | (congr 1; omega)) ?_)))))))
   refine Z10 12 rfl (by kernel_rfl) rfl (RV.shl64 (s := (8 * (n13 % 8))) rfl (by first | rfl | exact lit64 _ rfl) rfl (by first | rfl | (congr 1))) rfl (Z10 13 rfl (by kernel_rfl) rfl (Z120 rfl (by first | rfl | exact lit64 _ rfl) rfl (by first | rfl | exact lit64 _ rfl)) rfl (Z10 14 rfl (by kernel_rfl) rfl (RV.nilCheck rfl) rfl (Z10 15 rfl (by kernel_rfl) rfl (Z30 rfl rfl rfl rfl) rfl (XW.slot (ptr (some b0_) 1) rfl (Z10 16 rfl (by kernel_rfl) rfl (Z102 ((n13 / 8)) rfl rfl rfl rfl rfl (by omega)) rfl (XW.sv 17 rfl (by kernel_rfl) (SV.store rfl rfl rfl rfl rfl (by rw [Sponge.C_length]; omega)) (fun w m => m.pick [] 1 rfl rfl) (XW.cells ({ w15 with lanes := w15.lanes.setIfInBounds (n13 / 8) (x28 ^^^ ((x24.setWidth 64) <<< (8 * (n13 % 8)))) } : Sponge).C (Sponge.C_lanes_set _ (by omega) _) ?_)))))))
   refine XW.nil (by kernel_rfl) (Z27 (Z1 (Z2 (Z0 (RV.add rfl rfl (by omega)) rfl (Z7 (.int .i64 (((n13 + 1) : Nat) : Int)) (by first | rfl | (congr 1) | (congr 1; omega)) (Z0 (Z3 rfl) rfl (Z6 ?_)))))))
   exact Z129 (k' := k16) (Nat.lt_succ_self _) ⟨(n13 + 1), ({ w15 with lanes := w15.lanes.setIfInBounds (n13 / 8) (x28 ^^^ ((x24.setWidth 64) <<< (8 * (n13 % 8)))) } : Sponge), hl17, (by omega), rfl, rfl⟩ ⟨rfl, rfl, rfl, trivial⟩ (fun w m => m.pick [0] 1 rfl rfl)
  ·replace hl17 := if_f hl17 h23
   refine Z14 rfl (decide_eq_false h23) (CW.exit (Z9 (Z9 (Z15 ?_))))
   exact QW.join ⟨w15, (Zi hl17).symm, rfl, rfl⟩ ⟨rfl, trivial⟩ (fun w m => m.pick [0] 1 rfl rfl)
theorem keccak_Sponge_Write_does (w0 : World) (Φ : Ctx) (N : List Ent) (hΦ : ∀ w, Mem w0 w N → Φ w) (b0_ : Nat) (a0 : Sponge) (A1_ : Option Addr) (c1_ : Nat) (a1 : List (BitVec 8)) (new0 : Sponge) (va1 : View Φ A1_ a1.length c1_ 1 (u8s a1)) (hf : keccak_Sponge_Write a0 a1 = some new0) : DoesG Tryd.prog 28 [ptr (some b0_) 0, .slice A1_ a1.length c1_] w0 [(some b0_, blk a0.C 91)] N (fun v G => ∃ B : List Ent, v = .tuple #[] ∧ G = (some b0_, blk new0.C 91) :: B) := by
 unfold keccak_Sponge_Write at hf
 replace va1 := va1.mono (Ψ := More w0 Φ []) (fun w q => q.1)
 have m1 := va1.mx
 refine DoesG.enter Tryd.func28 rfl Tryd.ntmps28 rfl (M := ((some b0_, blk a0.C 91) :: ([] ++ N))) rfl (Z4 (Z4 (Z2 (Z0 (Z3 rfl) rfl (Z0 (RV.eqlS rfl rfl rfl) rfl (Z6 (Z1 (Z14 rfl rfl (CW.skip (Z1 (Z4 (Z2 (Z0 (Z3 rfl) rfl ?_)))))))))))))
 refine Z0 (RV.nilCheck rfl) rfl (Z0 (Z30 rfl rfl rfl rfl) rfl (Z7 (ptr (some b0_) 163) rfl (Z0 (Z29 rfl Zh rfl rfl rfl (Sponge.C_long _)) rfl (Z0 (Z3 rfl) rfl (Z0 (RV.len rfl rfl) rfl ?_)))))
 obtain ⟨g2, hf⟩ := Z118 hf
 refine Z0 (RV.add rfl rfl (by omega)) rfl (Z0 (RV.nilCheck rfl) rfl (Z0 (Z30 rfl rfl rfl rfl) rfl (Z7 (ptr (some b0_) 163) rfl (Z28 (SV.store rfl rfl rfl rfl rfl (by rw [Sponge.C_length]; omega)) (OW.cells ({ a0 with long := (a0.long + ((a1.length : Nat) : Int)) } : Sponge).C (Sponge.C_long_set _ _) (Z6 (Z1 ?_)))))))
 obtain ⟨q3, hq4, hf⟩ := Z105 hf
 refine CW.cutJ (fun L' M' => ∃ w7 : Sponge, ∃ B5 : List Ent, q3 = w7 ∧ (∀ w, Mem w0 w B5 → Mem w0 w []) ∧ L' = [] ∧ M' = ((some b0_, blk w7.C 91) :: (B5 ++ N))) ?_ ?_
 ·rintro L9 M10 ⟨w7, B5, e8, hB6, e11, e12⟩
  rw [e11, e12]
  clear e11 e12 L9 M10
  clear hq4
  rw [e8] at hf
  clear e8
  try dsimp only at hf
  have e0 := Zi hf
  subst e0
  refine Z107 (rs := []) ([]) ((some b0_, blk w7.C 91) :: B5) rfl ?_ rfl ?_ ?_ _ (.inr rfl)
  ·exact trivial
  ·exact ⟨B5, rfl, rfl⟩
  ·exact (fun w m => m.pick [0] 1 rfl rfl)
 ·skip
  refine CW.block (CW.loopJ (fun k L' M' => ∃ l15 : List (BitVec 8), ∃ w19 : Sponge, ∃ B13 : List Ent, ∃ A16 : Option Addr, ∃ c17 : Nat, (keccak_Sponge_Write.l1 k l15 w19) = some q3 ∧ (∀ w, Mem w0 w B13 → Mem w0 w []) ∧ (View (More w0 Φ B13) A16 l15.length c17 1 (u8s l15)) ∧ L' = [(0, ptr (some b0_) 0), (1, .slice A16 l15.length c17)] ∧ M' = ((some b0_, blk w19.C 91) :: (B13 ++ N))) (k0 := (a1.length - 0 + 2)) ⟨a1, ({ a0 with long := (a0.long + ((a1.length : Nat) : Int)) } : Sponge), [], A1_, c1_, hq4, (fun w m => m), va1, rfl, rfl⟩ ⟨rfl, rfl, trivial⟩ (fun w m => m.pick [0] 1 rfl rfl) ?_)
  clear hq4
  rintro k20 L23 M24 ⟨l15, w19, B13, A16, c17, hl21, hB14, v18, e25, e26⟩
  rw [e25, e26]
  clear e25 e26 L23 M24
  rcases k20 with _ | k20
  ·rw [keccak_Sponge_Write.l1] at hl21; cases hl21
  rw [keccak_Sponge_Write.l1] at hl21
  have m27 := v18.mx
  refine Z4 (Z4 (Z2 (Z0 (Z3 rfl) rfl (Z0 (RV.len rfl rfl) rfl (Z0 (RV.gtr rfl rfl) rfl (Z7 (.bool (decide (0 < l15.length))) (congrArg Value.bool (decide_eq_decide.2 (by omega))) (Z6 (Z1 ?_))))))))
  by_cases h28 : 0 < l15.length
  ·replace hl21 := if_t hl21 h28
   refine Z13 rfl (decide_eq_true h28) (CW.skip (Z1 (CW.block (Z4 (CW.drawsU 9 mixed (by kernel_rfl) rfl (Z18 0 rfl (by kernel_rfl) rfl (Z3 rfl) rfl (Z18 1 rfl (by kernel_rfl) rfl (RV.nilCheck rfl) rfl (Z18 2 rfl (by kernel_rfl) rfl (Z30 rfl rfl rfl rfl) rfl (UW.slot (ptr (some b0_) 26) rfl (Z18 3 rfl (by kernel_rfl) rfl (Z3 rfl) rfl ?_))))))))))
   refine Z18 4 rfl (by kernel_rfl) rfl (RV.nilCheck rfl) rfl (Z18 5 rfl (by kernel_rfl) rfl (Z30 rfl rfl rfl rfl) rfl (UW.slot (ptr (some b0_) 162) rfl (Z18 6 rfl (by kernel_rfl) rfl (Z29 rfl Zh rfl rfl rfl (Sponge.C_held _)) rfl ?_)))
   obtain ⟨g29, hl21⟩ := Z118 hl21
   obtain ⟨g30, hl21⟩ := Z118 hl21
   refine Z18 7 rfl (by kernel_rfl) rfl (RV.arr_loS ((w19.held).toNat) rfl rfl (by omega) rfl rfl (by omega)) rfl (Z18 8 rfl (by kernel_rfl) rfl (Z3 rfl) rfl (UW.nil (by kernel_rfl) (OW.copy (ob := some b0_) (off := 26 + ((w19.held).toNat)) rfl rfl rfl rfl (fun h => nomatch h) (by rw [Sponge.C_length]; omega) (fun w m => v18.rd w (More.of hΦ 1 m rfl)) (Z101 _) (Z117 _) (v18.zero (by decide)) rfl ?_)))
   refine OW.cells ({ w19 with part := cpV w19.part ((w19.held).toNat) (l15.take (min l15.length (136 - ((w19.held).toNat)))) } : Sponge).C (by rw [u8s_take]; exact Sponge.C_part_cpy _ (by rw [List.length_take]; omega)) ?_
   refine Z0 (Z5 rfl) rfl (Z6 (Z1 (Z4 (Z2 (Z0 (Z3 rfl) rfl (Z0 (Z3 rfl) rfl ?_))))))
   obtain ⟨g32, hl21⟩ := Z118 hl21
   refine Z0 (RV.cut_lo (s := 1) ((min l15.length (136 - ((w19.held).toNat)))) rfl rfl (by omega) rfl rfl (by omega)) rfl (Z7 (.slice (subA A16 c17 (min l15.length (136 - ((w19.held).toNat))) 1) (l15.drop (min l15.length (136 - ((w19.held).toNat)))).length (c17 - (min l15.length (136 - ((w19.held).toNat))))) (by rw [show ((l15.drop (min l15.length (136 - ((w19.held).toNat))))).length = (l15).length - ((min l15.length (136 - ((w19.held).toNat)))) from List.length_drop]) ?_)
   have v31 : View (More w0 Φ B13) (subA A16 c17 (min l15.length (136 - ((w19.held).toNat))) 1) (l15.drop (min l15.length (136 - ((w19.held).toNat)))).length (c17 - (min l15.length (136 - ((w19.held).toNat)))) 1 (u8s (l15.drop (min l15.length (136 - ((w19.held).toNat))))) := v18.lo8 (by omega)
   have m33 := v31.mx
   refine Z0 (Z5 rfl) rfl (Z6 (Z1 (Z4 (Z2 (Z0 (Z3 rfl) rfl (Z0 (RV.nilCheck rfl) rfl (Z0 (Z30 rfl rfl rfl rfl) rfl (Z7 (ptr (some b0_) 162) rfl (Z0 (Z29 rfl Zh rfl rfl rfl (Sponge.C_held _)) rfl (Z0 (Z3 rfl) rfl ?_))))))))))
   obtain ⟨g34, hl21⟩ := Z118 hl21
   refine Z0 (RV.add rfl rfl (by omega)) rfl (Z0 (RV.nilCheck rfl) rfl (Z0 (Z30 rfl rfl rfl rfl) rfl (Z7 (ptr (some b0_) 162) rfl (Z28 (SV.store rfl rfl rfl rfl rfl (by rw [Sponge.C_length]; omega)) (OW.cells ({ ({ w19 with part := cpV w19.part ((w19.held).toNat) (l15.take (min l15.length (136 - ((w19.held).toNat)))) } : Sponge) with held := (({ w19 with part := cpV w19.part ((w19.held).toNat) (l15.take (min l15.length (136 - ((w19.held).toNat)))) } : Sponge).held + (((min l15.length (136 - ((w19.held).toNat))) : Nat) : Int)) } : Sponge).C (Sponge.C_held_set _ _) (Z6 (Z1 (Z4 (Z2 (Z0 (Z3 rfl) rfl ?_))))))))))
   refine Z0 (RV.nilCheck rfl) rfl (Z0 (Z30 rfl rfl rfl rfl) rfl (Z7 (ptr (some b0_) 162) rfl (Z0 (Z29 rfl Zh rfl rfl rfl (Sponge.C_held _)) rfl (Z0 (RV.eql rfl rfl) rfl (Z6 (Z1 ?_))))))
   obtain ⟨q35, hq36, hl21⟩ := Z105 hl21
   refine CW.cutJ (fun L' M' => ∃ w39 : Sponge, ∃ B37 : List Ent, q35 = w39 ∧ (∀ w, Mem w0 w B37 → Mem w0 w B13) ∧ L' = [(0, ptr (some b0_) 0), (1, .slice (subA A16 c17 (min l15.length (136 - ((w19.held).toNat))) 1) (l15.drop (min l15.length (136 - ((w19.held).toNat)))).length (c17 - (min l15.length (136 - ((w19.held).toNat)))))] ∧ M' = ((some b0_, blk w39.C 91) :: (B37 ++ N))) ?_ ?_
   ·rintro L41 M42 ⟨w39, B37, e40, hB38, e43, e44⟩
    rw [e43, e44]
    clear e43 e44 L41 M42
    clear hq36
    rw [e40] at hl21
    clear e40
    try dsimp only at hl21
    have gq3 : ∀ w, More w0 Φ B37 w → More w0 Φ B13 w := fun w q => More.mono (fun w m => hB38 w (m)) q
    replace v31 := v31.mono gq3
    refine Z27 ?_
    exact Z129 (k' := k20) (Nat.lt_succ_self _) ⟨(l15.drop (min l15.length (136 - ((w19.held).toNat)))), w39, B37, (subA A16 c17 (min l15.length (136 - ((w19.held).toNat))) 1), (c17 - (min l15.length (136 - ((w19.held).toNat)))), hl21, (fun w m => hB14 w (hB38 w (m))), v31, rfl, rfl⟩ ⟨rfl, rfl, trivial⟩ (fun w m => m.pick [0] 1 rfl rfl)
   ·skip
    by_cases h45 : ({ ({ w19 with part := cpV w19.part ((w19.held).toNat) (l15.take (min l15.length (136 - ((w19.held).toNat)))) } : Sponge) with held := (({ w19 with part := cpV w19.part ((w19.held).toNat) (l15.take (min l15.length (136 - ((w19.held).toNat)))) } : Sponge).held + (((min l15.length (136 - ((w19.held).toNat))) : Nat) : Int)) } : Sponge).held = (136 : Int)
    ·replace hq36 := if_t hq36 h45
     refine Z13 rfl (decide_eq_true h45) (Z2 (Z0 (Z3 rfl) rfl ?_))
     obtain ⟨x47, hx46, hq36⟩ := Z105 hq36
     refine Z12 Tryd.call59 rfl (Z121 w0 (More w0 Φ B13) ((B13 ++ N)) (fun w m => More.of hΦ 0 m rfl) b0_ ({ ({ w19 with part := cpV w19.part ((w19.held).toNat) (l15.take (min l15.length (136 - ((w19.held).toNat)))) } : Sponge) with held := (({ w19 with part := cpV w19.part ((w19.held).toNat) (l15.take (min l15.length (136 - ((w19.held).toNat)))) } : Sponge).held + (((min l15.length (136 - ((w19.held).toNat))) : Nat) : Int)) } : Sponge) x47 hx46) rfl rfl ?_
     rintro L49 M50 ⟨B48, e51, e52⟩
     rw [e51, e52]
     clear e51 e52 L49 M50
     refine Z20 (M' := ((some b0_, blk x47.C 91) :: ((B48 ++ B13) ++ N))) (fun w m => by have h := Mem.sinkAt (A := B48) m 1 0 rfl rfl; exact h) ?_
     have gq4 : ∀ w, More w0 Φ (B48 ++ B13) w → More w0 Φ B13 w := fun w q => More.mono (fun w m => (m).appR) q
     replace v31 := v31.mono gq4
     replace v18 := v18.mono gq4
     refine Z6 ?_
     exact QW.join ⟨x47, (B48 ++ B13), (Zi hq36).symm, (fun w m => (m).appR), rfl, rfl⟩ ⟨rfl, rfl, trivial⟩ (fun w m => m.pick [0] 1 rfl rfl)
    ·replace hq36 := if_f hq36 h45
     refine Z14 rfl (decide_eq_false h45) (CW.skip ?_)
     exact QW.join ⟨({ ({ w19 with part := cpV w19.part ((w19.held).toNat) (l15.take (min l15.length (136 - ((w19.held).toNat)))) } : Sponge) with held := (({ w19 with part := cpV w19.part ((w19.held).toNat) (l15.take (min l15.length (136 - ((w19.held).toNat)))) } : Sponge).held + (((min l15.length (136 - ((w19.held).toNat))) : Nat) : Int)) } : Sponge), B13, (Zi hq36).symm, (fun w m => m), rfl, rfl⟩ ⟨rfl, rfl, trivial⟩ (fun w m => m.pick [0] 1 rfl rfl)
  ·replace hl21 := if_f hl21 h28
   refine Z14 rfl (decide_eq_false h28) (CW.exit (Z9 (Z9 (Z15 ?_))))
   exact QW.join ⟨w19, B13, (Zi hl21).symm, (fun w m => hB14 w (m)), rfl, rfl⟩ trivial (fun w m => m.pick [0] 1 rfl rfl)
theorem keccak_Sponge_Sum_does (w0 : World) (Φ : Ctx) (N : List Ent) (hΦ : ∀ w, Mem w0 w N → Φ w) (b0_ : Nat) (a0 : Sponge) (res0 : Vector (BitVec 8) 32) (new0 : Sponge) (hg0 : View Φ (some ⟨0, 0, none⟩) 2 2 1 (u8s firstL)) (hf : keccak_Sponge_Sum a0 = some (res0, new0)) : DoesG Tryd.prog 19 [ptr (some b0_) 0] w0 [(some b0_, blk a0.C 91)] N (fun v G => ∃ B : List Ent, v = .agg (u8s res0.toList).toArray ∧ G = (some b0_, blk new0.C 91) :: B) := by
 unfold keccak_Sponge_Sum at hf
 replace hg0 := hg0.mono (Ψ := More w0 Φ []) (fun w q => q.1)
 refine DoesG.enter Tryd.func19 rfl Tryd.ntmps19 rfl (M := ((some b0_, blk a0.C 91) :: ([] ++ N))) rfl (Z4 (Z2 (OW.alloc (l := (u8s (Vector.replicate 32 0#8).toList)) rfl (by rw [Vector.toList_replicate, ← u8s_rep']; rfl) rfl (fun b1 => (Z6 (Z1 (Z4 (Z4 (Z2 (Z0 (Z3 rfl) rfl (Z0 (RV.eqlS rfl rfl rfl) rfl (Z6 (Z1 (Z14 rfl rfl ?_))))))))))))))
 refine CW.skip (Z1 (Z4 (Z2 (Z0 (Z3 rfl) rfl (Z0 (RV.nilCheck rfl) rfl (Z0 (Z22 rfl (List.Mem.tail _ Zh) rfl rfl rfl rfl (Sponge.C_length _)) rfl (OW.alloc (l := (⟨0, (Vector.replicate 25 0#64), (Vector.replicate 136 0#8), 0, 0⟩ : Sponge).C) rfl (by kernel_rfl) rfl (fun b2 => (Z28 (Z104 rfl rfl rfl (Sponge.C_one _) rfl (Sponge.C_length _) (Sponge.C_length _)) (Z6 (Z1 (Z4 (Z2 (Z0 (Z30 rfl rfl rfl rfl) rfl ?_))))))))))))))
 refine Z7 (ptr (some b2) 26) rfl (Z0 (Z30 rfl rfl rfl rfl) rfl (Z7 (ptr (some b2) 162) rfl (Z0 (Z29 rfl Zh rfl rfl rfl (Sponge.C_held _)) rfl ?_)))
 obtain ⟨g3, hf⟩ := Z118 hf
 obtain ⟨g4, hf⟩ := Z118 hf
 refine Z0 (RV.arr_loS ((a0.held).toNat) rfl rfl (by omega) rfl rfl (by omega)) rfl (OW.clear (z := .int .u8 0) (b := b2) (off := 26 + ((a0.held).toNat)) rfl rfl rfl rfl rfl (by omega) (by rw [Sponge.C_length]; omega) ?_)
 refine OW.cells ({ a0 with part := cpV a0.part ((a0.held).toNat) (List.replicate (136 - ((a0.held).toNat)) 0#8) } : Sponge).C (by rw [u8s_rep0]; exact Sponge.C_part_cpy _ (by rw [List.length_replicate]; omega)) ?_
 refine Z6 (Z1 (Z4 (CW.drawsX ((some b1, blk (u8s (Vector.replicate 32 0#8).toList) 39) :: (some b0_, blk a0.C 91) :: ([] ++ N)) [12] (fun w m => m.pick [1, 2] 3 rfl rfl) mixed (by kernel_rfl) (Z10 0 rfl (by kernel_rfl) rfl (Z30 rfl rfl rfl rfl) rfl (XW.slot (ptr (some b2) 162) rfl (XW.rv 1 rfl (by kernel_rfl) rfl (by kernel_rfl) (Z29 rfl Zh rfl rfl rfl (Sponge.C_held _)) rfl (Z10 2 rfl (by kernel_rfl) rfl (Z30 rfl rfl rfl rfl) rfl (XW.slot (ptr (some b2) 26) rfl ?_))))))))
 obtain ⟨g5, hf⟩ := Z118 hf
 obtain ⟨g6, hf⟩ := Z118 hf
 refine Z10 3 rfl (by kernel_rfl) rfl (Z102 ((({ a0 with part := cpV a0.part ((a0.held).toNat) (List.replicate (136 - ((a0.held).toNat)) 0#8) } : Sponge).held).toNat) rfl rfl (by omega) rfl rfl (by omega)) rfl ?_
 obtain ⟨x7, hx8, hf⟩ := Z105 hf
 refine XW.rv 4 rfl (by kernel_rfl) rfl (by kernel_rfl) (Z29 rfl Zh rfl rfl rfl (Sponge.C_part _ hx8)) rfl (Z10 5 rfl (by kernel_rfl) rfl (Z30 rfl rfl rfl rfl) rfl (XW.slot (ptr (some b2) 0) rfl (XW.rv 6 rfl (by kernel_rfl) rfl (by kernel_rfl) (Z29 rfl Zh rfl rfl rfl (Sponge.C_kind _)) rfl ?_)))
 obtain ⟨g9, hf⟩ := Z118 hf
 obtain ⟨x10, hx11, hf⟩ := Z105 hf
 have hl12 : (({ a0 with part := cpV a0.part ((a0.held).toNat) (List.replicate (136 - ((a0.held).toNat)) 0#8) } : Sponge).kind).toNat < 2 := lt_of_at hx11
 refine Z10 7 rfl (by kernel_rfl) rfl (RV.idx_arr_at (a := ⟨0, 0, none⟩) rfl rfl rfl rfl (by omega) (by omega)) rfl (XW.slot (rptr (some ⟨0, 0, none⟩) ((({ a0 with part := cpV a0.part ((a0.held).toNat) (List.replicate (136 - ((a0.held).toNat)) 0#8) } : Sponge).kind).toNat)) (congrArg (fun k => Value.pointer (some (Addr.add ⟨0, 0, none⟩ k))) (Nat.mul_one _)) (Z10 8 rfl (by kernel_rfl) rfl (Z21 rfl rfl rfl (fun w m => hg0.cell (More.of hΦ 2 m rfl) (u8s_at hx11))) rfl (Z10 9 rfl (by kernel_rfl) rfl (RV.xor8 rfl (by first | rfl | exact lit8 _ rfl) rfl (by first | rfl | exact lit8 _ rfl)) rfl (Z10 10 rfl (by kernel_rfl) rfl (Z30 rfl rfl rfl rfl) rfl (XW.slot (ptr (some b2) 26) rfl (Z10 11 rfl (by kernel_rfl) rfl (Z102 ((({ a0 with part := cpV a0.part ((a0.held).toNat) (List.replicate (136 - ((a0.held).toNat)) 0#8) } : Sponge).held).toNat) rfl rfl (by omega) rfl rfl (by omega)) rfl (XW.sv 12 rfl (by kernel_rfl) (SV.store rfl rfl rfl rfl rfl (by rw [Sponge.C_length]; omega)) (fun w m => m.pick [1, 2] 3 rfl rfl) ?_)))))))
 refine XW.cells ({ ({ a0 with part := cpV a0.part ((a0.held).toNat) (List.replicate (136 - ((a0.held).toNat)) 0#8) } : Sponge) with part := ({ a0 with part := cpV a0.part ((a0.held).toNat) (List.replicate (136 - ((a0.held).toNat)) 0#8) } : Sponge).part.setIfInBounds ((({ a0 with part := cpV a0.part ((a0.held).toNat) (List.replicate (136 - ((a0.held).toNat)) 0#8) } : Sponge).held).toNat) (x7 ^^^ x10) } : Sponge).C (Sponge.C_part_set _ (by omega) _) (XW.nil (by kernel_rfl) (Z1 (Z4 (Z2 (Z0 (Z30 rfl rfl rfl rfl) rfl (Z7 (ptr (some b2) 26) rfl (Z0 (Z102 (135) rfl rfl rfl rfl rfl (by omega)) rfl ?_)))))))
 refine Z0 (Z29 rfl Zh rfl rfl rfl (Sponge.C_part _ (Vector.getElem?_eq_getElem (by decide)))) rfl ?_
 refine Z0 (RV.xor8 rfl (by first | rfl | exact lit8 _ rfl) rfl (by first | rfl | exact lit8 _ rfl)) rfl (Z0 (Z30 rfl rfl rfl rfl) rfl (Z7 (ptr (some b2) 26) rfl (Z0 (Z102 (135) rfl rfl rfl rfl rfl (by omega)) rfl (Z28 (SV.store rfl rfl rfl rfl rfl (by rw [Sponge.C_length]; omega)) (OW.cells ({ ({ ({ a0 with part := cpV a0.part ((a0.held).toNat) (List.replicate (136 - ((a0.held).toNat)) 0#8) } : Sponge) with part := ({ a0 with part := cpV a0.part ((a0.held).toNat) (List.replicate (136 - ((a0.held).toNat)) 0#8) } : Sponge).part.setIfInBounds ((({ a0 with part := cpV a0.part ((a0.held).toNat) (List.replicate (136 - ((a0.held).toNat)) 0#8) } : Sponge).held).toNat) (x7 ^^^ x10) } : Sponge) with part := ({ ({ a0 with part := cpV a0.part ((a0.held).toNat) (List.replicate (136 - ((a0.held).toNat)) 0#8) } : Sponge) with part := ({ a0 with part := cpV a0.part ((a0.held).toNat) (List.replicate (136 - ((a0.held).toNat)) 0#8) } : Sponge).part.setIfInBounds ((({ a0 with part := cpV a0.part ((a0.held).toNat) (List.replicate (136 - ((a0.held).toNat)) 0#8) } : Sponge).held).toNat) (x7 ^^^ x10) } : Sponge).part.setIfInBounds 135 (({ ({ a0 with part := cpV a0.part ((a0.held).toNat) (List.replicate (136 - ((a0.held).toNat)) 0#8) } : Sponge) with part := ({ a0 with part := cpV a0.part ((a0.held).toNat) (List.replicate (136 - ((a0.held).toNat)) 0#8) } : Sponge).part.setIfInBounds ((({ a0 with part := cpV a0.part ((a0.held).toNat) (List.replicate (136 - ((a0.held).toNat)) 0#8) } : Sponge).held).toNat) (x7 ^^^ x10) } : Sponge).part[135] ^^^ 128#8) } : Sponge).C (Sponge.C_part_set _ (by omega) _) (Z6 (Z1 (Z4 (Z2 ?_)))))))))
 obtain ⟨x14, hx13, hf⟩ := Z105 hf
 refine Z12 Tryd.call59 rfl (Z121 w0 (More w0 Φ []) ((some b1, blk (u8s (Vector.replicate 32 0#8).toList) 39) :: (some b0_, blk a0.C 91) :: ([] ++ N)) (fun w m => More.of hΦ 2 m rfl) b2 ({ ({ ({ a0 with part := cpV a0.part ((a0.held).toNat) (List.replicate (136 - ((a0.held).toNat)) 0#8) } : Sponge) with part := ({ a0 with part := cpV a0.part ((a0.held).toNat) (List.replicate (136 - ((a0.held).toNat)) 0#8) } : Sponge).part.setIfInBounds ((({ a0 with part := cpV a0.part ((a0.held).toNat) (List.replicate (136 - ((a0.held).toNat)) 0#8) } : Sponge).held).toNat) (x7 ^^^ x10) } : Sponge) with part := ({ ({ a0 with part := cpV a0.part ((a0.held).toNat) (List.replicate (136 - ((a0.held).toNat)) 0#8) } : Sponge) with part := ({ a0 with part := cpV a0.part ((a0.held).toNat) (List.replicate (136 - ((a0.held).toNat)) 0#8) } : Sponge).part.setIfInBounds ((({ a0 with part := cpV a0.part ((a0.held).toNat) (List.replicate (136 - ((a0.held).toNat)) 0#8) } : Sponge).held).toNat) (x7 ^^^ x10) } : Sponge).part.setIfInBounds 135 (({ ({ a0 with part := cpV a0.part ((a0.held).toNat) (List.replicate (136 - ((a0.held).toNat)) 0#8) } : Sponge) with part := ({ a0 with part := cpV a0.part ((a0.held).toNat) (List.replicate (136 - ((a0.held).toNat)) 0#8) } : Sponge).part.setIfInBounds ((({ a0 with part := cpV a0.part ((a0.held).toNat) (List.replicate (136 - ((a0.held).toNat)) 0#8) } : Sponge).held).toNat) (x7 ^^^ x10) } : Sponge).part[135] ^^^ 128#8) } : Sponge) x14 hx13) rfl rfl ?_
 rintro L16 M17 ⟨B15, e18, e19⟩
 rw [e18, e19]
 clear e18 e19 L16 M17
 refine Z20 (M' := ((some b2, blk x14.C 91) :: (some b1, blk (u8s (Vector.replicate 32 0#8).toList) 39) :: (some b0_, blk a0.C 91) :: ((B15 ++ []) ++ N))) (fun w m => by have h := Mem.sinkAt (A := B15) m 1 2 rfl rfl; exact h) ?_
 have gq1 : ∀ w, More w0 Φ (B15 ++ []) w → More w0 Φ [] w := fun w q => More.mono (fun w m => (m).appR) q
 replace hg0 := hg0.mono gq1
 refine Z6 (Z1 (Z4 (Z2 (OW.alloc (l := (u8s (Vector.replicate 32 0#8).toList)) rfl (by rw [Vector.toList_replicate, ← u8s_rep']; rfl) rfl (fun b20 => (Z6 (Z1 (Z4 (Z4 (Z2 (Z0 (Z3 rfl) rfl (Z6 (Z1 ?_)))))))))))))
 obtain ⟨q21, hq22, hf⟩ := Z105 hf
 refine CW.cutJ (fun L' M' => ∃ w23 : Vector (BitVec 8) 32, q21 = w23 ∧ L' = [(2, ptr (some b1) 0), (4, ptr (some b20) 0)] ∧ M' = ((some b20, blk (u8s w23.toList) 39) :: (some b1, blk (u8s (Vector.replicate 32 0#8).toList) 39) :: (some b0_, blk a0.C 91) :: ((B15 ++ []) ++ N))) ?_ ?_
 ·rintro L25 M26 ⟨w23, e24, e27, e28⟩
  rw [e27, e28]
  clear e27 e28 L25 M26
  clear hq22
  rw [e24] at hf
  clear e24
  try dsimp only at hf
  refine Z1 (Z4 (Z2 (Z0 (Z22 rfl Zh rfl rfl rfl rfl ((Z101 _).trans Zv)) rfl (OW.rot1 (Z28 (Z104 rfl rfl rfl (Z117 _) rfl ((Z101 _).trans Zv) ((Z101 _).trans Zv)) (Z6 (Z1 (CW.ret ?_))))))))
  have er0 := Zi hf
  obtain ⟨e0, er1⟩ := Prod.mk.inj er0
  clear er0
  subst e0
  subst er1
  refine Z107 (rs := [.cell 2 39]) ([.agg (u8s w23.toList).toArray]) ((some b0_, blk a0.C 91) :: (B15 ++ [])) rfl ?_ rfl ?_ ?_ _ (.inl rfl)
  ·exact ⟨⟨_, _, _, _, rfl, Zh, rfl, rfl, (congrArg some ((Z101 _).trans Zv).symm), rfl⟩, trivial⟩
  ·exact ⟨(B15 ++ []), rfl, rfl⟩
  ·exact (fun w m => m.pick [2] 3 rfl rfl)
 ·skip
  refine CW.block (CW.loopJ (fun k L' M' => ∃ n29 : Nat, ∃ w31 : Vector (BitVec 8) 32, (keccak_Sponge_Sum.l1 x14 k n29 w31) = some q21 ∧ (n29 ≤ 9223372036854775807) ∧ L' = [(2, ptr (some b1) 0), (3, ptr (some b2) 0), (4, ptr (some b20) 0), (35, .int .i64 ((n29 : Nat) : Int))] ∧ M' = ((some b20, blk (u8s w31.toList) 39) :: (some b2, blk x14.C 91) :: (some b1, blk (u8s (Vector.replicate 32 0#8).toList) 39) :: (some b0_, blk a0.C 91) :: ((B15 ++ []) ++ N))) (k0 := (32 - 0 + 2)) ⟨0, (Vector.replicate 32 0#8), hq22, (by omega), rfl, rfl⟩ ⟨rfl, rfl, rfl, rfl, trivial⟩ (fun w m => m.pick [0, 1, 2, 3] 4 rfl rfl) ?_)
  clear hq22
  rintro k32 L35 M36 ⟨n29, w31, hl33, b30, e37, e38⟩
  rw [e37, e38]
  clear e37 e38 L35 M36
  rcases k32 with _ | k32
  ·rw [keccak_Sponge_Sum.l1] at hl33; cases hl33
  rw [keccak_Sponge_Sum.l1] at hl33
  refine Z4 (Z2 (Z0 (RV.lss rfl rfl) rfl (Z7 (.bool (decide (n29 < 32))) (congrArg Value.bool (decide_eq_decide.2 (by omega))) (Z6 (Z1 (Z4 ?_))))))
  by_cases h39 : n29 < 32
  ·replace hl33 := if_t hl33 h39
   refine Z13 rfl (decide_eq_true h39) (CW.skip (Z1 (Z4 (CW.block (Z4 (Z2 (Z0 (Z3 rfl) rfl (Z0 (Z5 rfl) rfl (Z6 (Z1 (Z2 (Z0 (Z3 rfl) rfl (Z0 (Z3 rfl) rfl (Z0 (RV.quo rfl rfl (by omega) (by omega) (by omega)) rfl ?_))))))))))))))
   refine Z7 (.int .i64 ((n29 / 8 : Nat) : Int)) (by first | rfl | (congr 1; omega)) (Z0 (Z30 rfl rfl rfl rfl) rfl (Z7 (ptr (some b2) 1) rfl ?_))
   obtain ⟨g40, hl33⟩ := Z118 hl33
   refine Z0 (Z102 ((n29 / 8)) rfl rfl rfl rfl rfl (by omega)) rfl ?_
   obtain ⟨x41, hx42, hl33⟩ := Z105 hl33
   refine Z0 (Z29 rfl (List.Mem.tail _ Zh) rfl rfl rfl (Sponge.C_lanes _ hx42)) rfl (Z0 (Z3 rfl) rfl (Z0 (RV.rem rfl rfl (by omega) (by omega)) rfl (Z7 (.int .i64 ((n29 % 8 : Nat) : Int)) (by first | rfl | (congr 1; omega)) (Z0 (RV.mul rfl rfl (by omega)) rfl (Z7 (.int .i64 (((8 * (n29 % 8)) : Nat) : Int)) (by first | rfl | (congr 1) | (congr 1; omega)) (Z0 (RV.shr64 (s := (8 * (n29 % 8))) rfl (by first | rfl | exact lit64 _ rfl) rfl (by first | rfl | (congr 1))) rfl (Z0 (RV.conv64_8 rfl (by first | rfl | exact lit64 _ rfl) rfl rfl) rfl ?_)))))))
   refine Z0 (Z102 (n29) rfl rfl rfl rfl rfl (by omega)) rfl (Z28 (SV.store rfl rfl rfl rfl rfl (by rw [Z101, Zv]; omega)) (OW.cells (u8s (w31.setIfInBounds n29 ((x41 >>> (8 * (n29 % 8))).setWidth 8)).toList) (by rw [Nat.zero_add, u8s_set', vset]) (Z6 (Z27 (Z1 (Z2 (Z0 (RV.add rfl rfl (by omega)) rfl (Z7 (.int .i64 (((n29 + 1) : Nat) : Int)) (by first | rfl | (congr 1) | (congr 1; omega)) (Z0 (Z3 rfl) rfl (Z6 ?_))))))))))
   exact Z129 (k' := k32) (Nat.lt_succ_self _) ⟨(n29 + 1), (w31.setIfInBounds n29 ((x41 >>> (8 * (n29 % 8))).setWidth 8)), hl33, (by omega), rfl, rfl⟩ ⟨rfl, rfl, rfl, rfl, trivial⟩ (fun w m => m.pick [0, 1, 2, 3] 4 rfl rfl)
  ·replace hl33 := if_f hl33 h39
   refine Z14 rfl (decide_eq_false h39) (CW.exit (Z9 (Z9 (Z15 ?_))))
   exact QW.join ⟨w31, (Zi hl33).symm, rfl, rfl⟩ ⟨rfl, rfl, trivial⟩ (fun w m => m.pick [0, 2, 3] 4 rfl rfl)
theorem waybillref02_filled_does (w0 : World) (Φ : Ctx) (N : List Ent) (hΦ : ∀ w, Mem w0 w N → Φ w) (A0_ : Option Addr) (c0_ : Nat) (a0 : List (BitVec 8)) (a1 : BitVec 8) (res0 : List (BitVec 8)) (va0 : View Φ A0_ a0.length c0_ 1 (u8s a0)) (hf : waybillref02_filled a0 a1 = some res0) : DoesG Tryd.prog 80 [.slice A0_ a0.length c0_, U8 a1] w0 [] N (fun v G => ∃ B : List Ent, ∃ or0 : Option Nat, ∃ kr0 : Nat, ∃ rr0 : List Value, (OwnS or0 res0.length kr0 1 (u8s res0) rr0) ∧ v = sl or0 0 res0.length kr0 ∧ G = (or0, blk ((u8s res0) ++ rr0) 5) :: B) := by
 unfold waybillref02_filled at hf
 replace va0 := va0.mono (Ψ := More w0 Φ []) (fun w q => q.1)
 have m1 := va0.mx
 refine DoesG.enter Tryd.func80 rfl Tryd.ntmps80 rfl (M := (([] ++ N))) rfl (Z4 (Z2 (Z0 (Z5 rfl) rfl (Z6 (Z1 (Z4 (Z2 (Z0 (Z5 rfl) rfl (Z6 (Z1 (Z4 (Z2 (Z0 (Z3 rfl) rfl (Z0 (Z3 rfl) rfl ?_))))))))))))))
 refine Z20 (M' := ((none, blk ((u8s ([] : List (BitVec 8))) ++ []) 5) :: ([] ++ N))) (fun w m => m.nil_ent _) (OW.appendOwn (s := 1) rfl rfl rfl rfl rfl rfl OwnS.nil (fun w m => va0.rd w (More.of hΦ 1 m rfl)) va0.n (Z117 _) (va0.zero (by decide)) (by decide) (by decide) (by first | omega | (simp only [i5, List.length_nil]; omega)) rfl rfl (a0.length) (u8s a0) (Nat.zero_add _) rfl (fun ob2 r3 c4 o5 => ?_))
 have m6 := o5.mx
 refine Z0 (Z5 rfl) rfl (Z6 (Z1 (Z4 (Z2 (Z0 (Z3 rfl) rfl (Z0 (Z3 rfl) rfl (OW.ofN (NV.bs1 rfl rfl rfl rfl rfl rfl) rfl (fun b7 => (Z20 (M' := (((some b7), blk ((u8s ([a1] : List (BitVec 8))) ++ []) 5) :: (ob2, blk ((u8s a0) ++ r3) 5) :: ([] ++ N))) (fun w m => by first | exact m | simpa [u8s] using m) ?_)))))))))
 have o8 : OwnS (some b7) ([a1] : List (BitVec 8)).length 1 1 (u8s ([a1] : List (BitVec 8))) [] := ⟨by simp [u8s], by simp [u8s], (fun h => nomatch h), by simp⟩
 have mx_o8 := o8.mx
 refine Z7 (sl (some b7) 0 ([a1] : List (BitVec 8)).length 1) (rfl) (OW.rot1 ?_)
 obtain ⟨g9, hf⟩ := Z118 hf
 refine OW.appendOwn (s := 1) rfl rfl rfl rfl rfl rfl o5 (fun w m => m.rd0 (List.Mem.tail _ Zh) (fun e => o8.nilc (by decide) e)) o8.n (Z117 _) (o8.zeroO (by decide)) (by decide) (by decide) (by first | omega | (simp only [i5, List.length_nil]; omega)) rfl rfl ((a0 ++ ([a1] : List (BitVec 8))).length) (u8s (a0 ++ ([a1] : List (BitVec 8)))) (List.length_append ..).symm (u8s_app _ _) (fun ob10 r11 c12 o13 => ?_)
 have m14 := o13.mx
 refine Z0 (Z5 rfl) rfl (Z6 (Z1 (Z4 ?_)))
 obtain ⟨q15, hq16, hf⟩ := Z105 hf
 refine CW.cutJ (fun L' M' => ∃ l17 : List (BitVec 8), ∃ ob18 : Option Nat, ∃ c19 : Nat, ∃ r20 : List Value, q15 = l17 ∧ (OwnS ob18 l17.length c19 1 (u8s l17) r20) ∧ L' = [(5, sl ob18 0 l17.length c19)] ∧ M' = ((ob18, blk ((u8s l17) ++ r20) 5) :: ([] ++ N))) ?_ ?_
 ·rintro L23 M24 ⟨l17, ob18, c19, r20, e22, o21, e25, e26⟩
  rw [e25, e26]
  clear e25 e26 L23 M24
  clear hq16
  rw [e22] at hf
  clear e22
  try dsimp only at hf
  have m27 := o21.mx
  refine Z1 (Z4 (Z2 (Z0 (Z3 rfl) rfl (Z0 (Z3 rfl) rfl (Z0 (RV.len rfl rfl) rfl (Z0 (RV.sub rfl rfl (by omega)) rfl (Z0 (Z3 rfl) rfl (Z0 (Z3 rfl) rfl (Z0 (RV.len rfl rfl) rfl ?_)))))))))
  refine Z0 (RV.sub rfl rfl (by omega)) rfl ?_
  obtain ⟨g28, hf⟩ := Z118 hf
  obtain ⟨x29, hx30, hf⟩ := Z105 hf
  have hl31 := lt_of_at hx30
  refine Z0 (RV.idx_o (((((l17.length : Nat) : Int) - (1 : Int))).toNat) rfl rfl (by omega) rfl rfl (o21.isSome (by decide) hl31) (by omega)) rfl (Z0 (Z29 rfl Zh (o21.isSome (by decide) hl31) rfl rfl (own_at0 (u8s_at hx30))) rfl (Z0 (RV.or8 rfl (by first | rfl | exact lit8 _ rfl) rfl (by first | rfl | exact lit8 _ rfl)) rfl ?_))
  obtain ⟨x32, hx33, hf⟩ := Z105 hf
  have hl34 := lt_of_at hx33
  refine Z0 (RV.idx_o (((((l17.length : Nat) : Int) - (1 : Int))).toNat) rfl rfl (by omega) rfl rfl (o21.isSome (by decide) hl34) (by omega)) rfl (Z28 (SV.store rfl (o21.isSome (by decide) hl34) rfl rfl rfl (by rw [List.length_append, Z101]; omega)) ?_)
  refine OW.cells ((u8s (l17.set (((((l17.length : Nat) : Int) - (1 : Int))).toNat) (x29 ||| 128#8))) ++ r20) (by rw [Nat.zero_add, List.set_append_left _ _ (by rw [Z101]; omega)]; first | rw [u8s_set'] | (rw [← u8s_set']; rfl)) ?_
  have o35 : OwnS ob18 (l17.set (((((l17.length : Nat) : Int) - (1 : Int))).toNat) (x29 ||| 128#8)).length c19 1 (u8s (l17.set (((((l17.length : Nat) : Int) - (1 : Int))).toNat) (x29 ||| 128#8))) r20 := OwnS.same o21 (by simp) (by simp)
  refine OW.frame (L' := [(5, sl ob18 0 (l17.set (((((l17.length : Nat) : Int) - (1 : Int))).toNat) (x29 ||| 128#8)).length c19), (20, sl ob18 0 (l17.set (((((l17.length : Nat) : Int) - (1 : Int))).toNat) (x29 ||| 128#8)).length c19), (21, sl ob18 0 (l17.set (((((l17.length : Nat) : Int) - (1 : Int))).toNat) (x29 ||| 128#8)).length c19), (22, .int .i64 ((l17.length : Nat) : Int)), (23, .int .i64 (((l17.length : Nat) : Int) - (1 : Int))), (24, sl ob18 0 (l17.set (((((l17.length : Nat) : Int) - (1 : Int))).toNat) (x29 ||| 128#8)).length c19), (25, sl ob18 0 (l17.set (((((l17.length : Nat) : Int) - (1 : Int))).toNat) (x29 ||| 128#8)).length c19), (26, .int .i64 ((l17.length : Nat) : Int)), (27, .int .i64 (((l17.length : Nat) : Int) - (1 : Int))), (29, U8 x29), (30, U8 (x29 ||| 128#8))]) (fun k v h => Sub.get (L' := [(5, sl ob18 0 (l17.set (((((l17.length : Nat) : Int) - (1 : Int))).toNat) (x29 ||| 128#8)).length c19), (20, sl ob18 0 (l17.set (((((l17.length : Nat) : Int) - (1 : Int))).toNat) (x29 ||| 128#8)).length c19), (21, sl ob18 0 (l17.set (((((l17.length : Nat) : Int) - (1 : Int))).toNat) (x29 ||| 128#8)).length c19), (22, .int .i64 ((l17.length : Nat) : Int)), (23, .int .i64 (((l17.length : Nat) : Int) - (1 : Int))), (24, sl ob18 0 (l17.set (((((l17.length : Nat) : Int) - (1 : Int))).toNat) (x29 ||| 128#8)).length c19), (25, sl ob18 0 (l17.set (((((l17.length : Nat) : Int) - (1 : Int))).toNat) (x29 ||| 128#8)).length c19), (26, .int .i64 ((l17.length : Nat) : Int)), (27, .int .i64 (((l17.length : Nat) : Int) - (1 : Int))), (29, U8 x29), (30, U8 (x29 ||| 128#8))]) ?_ k v h) ?_
  ·exact ⟨(congrArg (fun k => some (sl ob18 0 k c19)) (List.length_set ..).symm), (congrArg (fun k => some (sl ob18 0 k c19)) (List.length_set ..).symm), (congrArg (fun k => some (sl ob18 0 k c19)) (List.length_set ..).symm), rfl, rfl, (congrArg (fun k => some (sl ob18 0 k c19)) (List.length_set ..).symm), (congrArg (fun k => some (sl ob18 0 k c19)) (List.length_set ..).symm), rfl, rfl, rfl, rfl, trivial⟩
  refine Z6 (Z1 (Z4 (Z2 (Z0 (Z3 rfl) rfl (Z0 (Z5 rfl) rfl (Z6 (Z1 (CW.ret ?_))))))))
  have e0 := Zi hf
  subst e0
  refine Z107 (rs := [.tmp 4]) ([sl ob18 0 (l17.set (((((l17.length : Nat) : Int) - (1 : Int))).toNat) (x29 ||| 128#8)).length c19]) ((ob18, blk ((u8s (l17.set (((((l17.length : Nat) : Int) - (1 : Int))).toNat) (x29 ||| 128#8))) ++ r20) 5) :: []) rfl ?_ rfl ?_ ?_ _ (.inl rfl)
  ·exact ⟨rfl, trivial⟩
  ·exact ⟨[], ob18, c19, r20, o35, rfl, rfl⟩
  ·exact (fun w m => m.pick [0] 1 rfl rfl)
 ·skip
  refine CW.block (CW.loopJ (fun k L' M' => ∃ l36 : List (BitVec 8), ∃ ob37 : Option Nat, ∃ c38 : Nat, ∃ r39 : List Value, (waybillref02_filled.l1 k l36) = some q15 ∧ (OwnS ob37 l36.length c38 1 (u8s l36) r39) ∧ L' = [(5, sl ob37 0 l36.length c38)] ∧ M' = ((ob37, blk ((u8s l36) ++ r39) 5) :: ([] ++ N))) (k0 := 140) ⟨(a0 ++ ([a1] : List (BitVec 8))), ob10, c12, r11, hq16, o13, rfl, rfl⟩ ⟨rfl, trivial⟩ (fun w m => m.pick [0] 2 rfl rfl) ?_)
  clear hq16
  rintro k41 L44 M45 ⟨l36, ob37, c38, r39, hl42, o40, e46, e47⟩
  rw [e46, e47]
  clear e46 e47 L44 M45
  rcases k41 with _ | k41
  ·rw [waybillref02_filled.l1] at hl42; cases hl42
  rw [waybillref02_filled.l1] at hl42
  have m48 := o40.mx
  refine Z4 (Z4 (Z2 (Z0 (Z3 rfl) rfl (Z0 (RV.len rfl rfl) rfl (Z0 (RV.rem rfl rfl (by omega) (by omega)) rfl (Z7 (.int .i64 ((l36.length % 136 : Nat) : Int)) (by first | rfl | (congr 1; omega)) (Z0 (RV.neq rfl rfl) rfl (Z7 (.bool (!decide ((l36.length % 136) = 0))) (congrArg (fun b => Value.bool (!b)) (decide_eq_decide.2 (by omega))) (Z6 (Z1 ?_))))))))))
  by_cases h49 : (l36.length % 136) = 0
  ·replace hl42 := if_t hl42 h49
   refine Z14 rfl (congrArg (fun b => !b) (decide_eq_true h49)) (CW.exit (Z9 (Z9 (Z15 ?_))))
   exact QW.join ⟨l36, ob37, c38, r39, (Zi hl42).symm, o40, rfl, rfl⟩ ⟨rfl, trivial⟩ (fun w m => m.pick [0] 1 rfl rfl)
  ·replace hl42 := if_f hl42 h49
   refine Z13 rfl (congrArg (fun b => !b) (decide_eq_false h49)) (CW.skip (Z1 (CW.block (Z2 (Z0 (Z3 rfl) rfl (OW.ofN (NV.bs1 rfl rfl rfl rfl rfl rfl) rfl (fun b50 => (Z20 (M' := (((some b50), blk ((u8s ([0#8] : List (BitVec 8))) ++ []) 5) :: (ob37, blk ((u8s l36) ++ r39) 5) :: ([] ++ N))) (fun w m => by first | exact m | simpa [u8s] using m) ?_))))))))
   have o51 : OwnS (some b50) ([0#8] : List (BitVec 8)).length 1 1 (u8s ([0#8] : List (BitVec 8))) [] := ⟨by simp [u8s], by simp [u8s], (fun h => nomatch h), by simp⟩
   have mx_o51 := o51.mx
   refine Z7 (sl (some b50) 0 ([0#8] : List (BitVec 8)).length 1) (rfl) (OW.rot1 ?_)
   obtain ⟨g52, hl42⟩ := Z118 hl42
   refine OW.appendOwn (s := 1) rfl rfl rfl rfl rfl rfl o40 (fun w m => m.rd0 (List.Mem.tail _ Zh) (fun e => o51.nilc (by decide) e)) o51.n (Z117 _) (o51.zeroO (by decide)) (by decide) (by decide) (by first | omega | (simp only [i5, List.length_nil]; omega)) rfl rfl ((l36 ++ ([0#8] : List (BitVec 8))).length) (u8s (l36 ++ ([0#8] : List (BitVec 8)))) (List.length_append ..).symm (u8s_app _ _) (fun ob53 r54 c55 o56 => ?_)
   have m57 := o56.mx
   refine Z0 (Z5 rfl) rfl (Z6 (Z27 ?_))
   exact Z129 (k' := k41) (Nat.lt_succ_self _) ⟨(l36 ++ ([0#8] : List (BitVec 8))), ob53, c55, r54, hl42, o56, rfl, rfl⟩ ⟨rfl, trivial⟩ (fun w m => m.pick [0] 2 rfl rfl)
theorem Z123 (w0 : World) (Φ : Ctx) (N : List Ent) (hΦ : ∀ w, Mem w0 w N → Φ w) (A0_ : Option Addr) (c0_ : Nat) (a0 : List (BitVec 8)) (a1 : BitVec 8) (res0 : Vector (BitVec 8) 32) (va0 : View Φ A0_ a0.length c0_ 1 (u8s a0)) (hTn : ∀ i, i < 25 → w0.cell? ⟨4, i, none⟩ = some (.int .i64 (turnsL.getD i 0))) (hRn : ∀ i, i < 24 → w0.cell? ⟨3, i, none⟩ = some (U64 (g64 roundsL i))) (hf : waybillref02_Digest a0 a1 = some res0) : DoesG Tryd.prog 60 [.slice A0_ a0.length c0_, U8 a1] w0 [] N (fun v G => v = .agg (u8s res0.toList).toArray) := by
 unfold waybillref02_Digest at hf
 replace va0 := va0.mono (Ψ := More w0 Φ []) (fun w q => q.1)
 have m1 := va0.mx
 refine DoesG.enter Tryd.func60 rfl Tryd.ntmps60 rfl (M := (([] ++ N))) rfl (Z4 (Z2 (OW.alloc (l := (u8s (Vector.replicate 32 0#8).toList)) rfl (by rw [Vector.toList_replicate, ← u8s_rep']; rfl) rfl (fun b2 => (Z6 (Z1 (Z4 (Z2 (Z0 (Z3 rfl) rfl (Z0 (Z3 rfl) rfl ?_))))))))))
 obtain ⟨x4, hx3, hf⟩ := Z105 hf
 refine Z12 Tryd.call80 rfl (waybillref02_filled_does w0 (More w0 Φ []) ((some b2, blk (u8s (Vector.replicate 32 0#8).toList) 39) :: ([] ++ N)) (fun w m => More.of hΦ 1 m rfl) A0_ c0_ a0 a1 x4 va0 hx3) rfl rfl ?_
 rintro L10 M11 ⟨B5, ob6, c7, r8, o9, e12, e13⟩
 rw [e12, e13]
 clear e12 e13 L10 M11
 refine Z20 (M' := ((ob6, blk ((u8s x4) ++ r8) 5) :: (some b2, blk (u8s (Vector.replicate 32 0#8).toList) 39) :: ((B5 ++ []) ++ N))) (fun w m => by have h := Mem.sinkAt (A := B5) m 1 1 rfl rfl; exact h) ?_
 have gq1 : ∀ w, More w0 Φ (B5 ++ []) w → More w0 Φ [] w := fun w q => More.mono (fun w m => (m).appR) q
 replace va0 := va0.mono gq1
 have m14 := o9.mx
 refine Z0 (Z5 rfl) rfl (Z6 (Z1 (Z4 (Z2 (OW.alloc (l := (u64s (Vector.replicate 25 0#64).toList)) rfl (by rw [Vector.toList_replicate, ← Z119]; rfl) rfl (fun b15 => (Z6 (Z1 (Z4 (Z4 (Z2 (Z0 (Z5 rfl) rfl (Z6 (Z1 ?_))))))))))))))
 obtain ⟨q16, hq17, hf⟩ := Z105 hf
 refine CW.cutJ (fun L' M' => ∃ w18 : Vector (BitVec 64) 25, q16 = w18 ∧ L' = [(4, ptr (some b2) 0), (6, ptr (some b15) 0)] ∧ M' = ((some b15, blk (u64s w18.toList) 88) :: (some b2, blk (u8s (Vector.replicate 32 0#8).toList) 39) :: ((B5 ++ []) ++ N))) ?_ ?_
 ·rintro L20 M21 ⟨w18, e19, e22, e23⟩
  rw [e22, e23]
  clear e22 e23 L20 M21
  clear hq17
  rw [e19] at hf
  clear e19
  try dsimp only at hf
  refine Z1 (Z4 (Z2 (OW.alloc (l := (u8s (Vector.replicate 32 0#8).toList)) rfl (by rw [Vector.toList_replicate, ← u8s_rep']; rfl) rfl (fun b24 => (Z6 (Z1 (Z4 (Z4 (Z2 (Z0 (Z5 rfl) rfl (Z6 (Z1 ?_))))))))))))
  obtain ⟨q25, hq26, hf⟩ := Z105 hf
  refine CW.cutJ (fun L' M' => ∃ w27 : Vector (BitVec 8) 32, q25 = w27 ∧ L' = [(4, ptr (some b2) 0), (9, ptr (some b24) 0)] ∧ M' = ((some b24, blk (u8s w27.toList) 39) :: (some b2, blk (u8s (Vector.replicate 32 0#8).toList) 39) :: ((B5 ++ []) ++ N))) ?_ ?_
  ·rintro L29 M30 ⟨w27, e28, e31, e32⟩
   rw [e31, e32]
   clear e31 e32 L29 M30
   clear hq26
   rw [e28] at hf
   clear e28
   try dsimp only at hf
   refine Z1 (Z4 (Z2 (Z0 (Z22 rfl Zh rfl rfl rfl rfl ((Z101 _).trans Zv)) rfl (OW.rot1 (Z28 (Z104 rfl rfl rfl (Z117 _) rfl ((Z101 _).trans Zv) ((Z101 _).trans Zv)) (Z6 (Z1 (CW.ret ?_))))))))
   have e0 := Zi hf
   subst e0
   refine Z107 (rs := [.cell 4 39]) ([.agg (u8s w27.toList).toArray]) ((some b2, blk (u8s w27.toList) 39) :: (some b24, blk (u8s w27.toList) 39) :: (B5 ++ [])) rfl ?_ rfl ?_ ?_ _ (.inl rfl)
   ·exact ⟨⟨_, _, _, _, rfl, Zh, rfl, rfl, (congrArg some ((Z101 _).trans Zv).symm), rfl⟩, trivial⟩
   ·exact rfl
   ·exact (fun w m => m)
  ·skip
   refine CW.block (CW.loopJ (fun k L' M' => ∃ n33 : Nat, ∃ w35 : Vector (BitVec 8) 32, (waybillref02_Digest.l1 w18 k n33 w35) = some q25 ∧ (n33 ≤ 9223372036854775807) ∧ L' = [(4, ptr (some b2) 0), (6, ptr (some b15) 0), (9, ptr (some b24) 0), (10, .int .i64 ((n33 : Nat) : Int))] ∧ M' = ((some b24, blk (u8s w35.toList) 39) :: (some b15, blk (u64s w18.toList) 88) :: (some b2, blk (u8s (Vector.replicate 32 0#8).toList) 39) :: ((B5 ++ []) ++ N))) (k0 := (32 - 0 + 2)) ⟨0, (Vector.replicate 32 0#8), hq26, (by omega), rfl, rfl⟩ ⟨rfl, rfl, rfl, rfl, trivial⟩ (fun w m => m.pick [0, 1, 2] 3 rfl rfl) ?_)
   clear hq26
   rintro k36 L39 M40 ⟨n33, w35, hl37, b34, e41, e42⟩
   rw [e41, e42]
   clear e41 e42 L39 M40
   rcases k36 with _ | k36
   ·rw [waybillref02_Digest.l1] at hl37; cases hl37
   rw [waybillref02_Digest.l1] at hl37
   refine Z4 (Z4 (Z2 (Z0 (Z3 rfl) rfl (Z0 (RV.lss rfl rfl) rfl (Z7 (.bool (decide (n33 < 32))) (congrArg Value.bool (decide_eq_decide.2 (by omega))) (Z6 (Z1 ?_)))))))
   by_cases h43 : n33 < 32
   ·replace hl37 := if_t hl37 h43
    refine Z13 rfl (decide_eq_true h43) (CW.skip (Z1 (Z4 (CW.block (Z2 (Z0 (Z3 rfl) rfl (Z0 (Z3 rfl) rfl (Z0 (RV.quo rfl rfl (by omega) (by omega) (by omega)) rfl (Z7 (.int .i64 ((n33 / 8 : Nat) : Int)) (by first | rfl | (congr 1; omega)) ?_)))))))))
    obtain ⟨g44, hl37⟩ := Z118 hl37
    refine Z0 (Z102 ((n33 / 8)) rfl rfl rfl rfl rfl (by omega)) rfl ?_
    obtain ⟨x45, hx46, hl37⟩ := Z105 hl37
    refine Z0 (Z29 rfl (List.Mem.tail _ Zh) rfl rfl rfl (by rw [Nat.zero_add]; exact u64s_at (vat hx46))) rfl ?_
    refine Z0 (Z3 rfl) rfl (Z0 (RV.rem rfl rfl (by omega) (by omega)) rfl (Z7 (.int .i64 ((n33 % 8 : Nat) : Int)) (by first | rfl | (congr 1; omega)) (Z0 (RV.mul rfl rfl (by omega)) rfl (Z7 (.int .i64 (((8 * (n33 % 8)) : Nat) : Int)) (by first | rfl | (congr 1) | (congr 1; omega)) (Z0 (RV.conv_i64 rfl rfl rfl) rfl (Z7 (U64 (BitVec.ofNat 64 (8 * (n33 % 8)))) (congrArg U64 (BitVec.ofInt_natCast ..)) ?_))))))
    refine Z0 (RV.shr64 (s := (BitVec.ofNat 64 (8 * (n33 % 8))).toNat) rfl (by first | rfl | exact lit64 _ rfl) rfl (by first | rfl | (simp [U64]; done))) rfl ?_
    refine Z0 (RV.conv64_8 rfl (by first | rfl | exact lit64 _ rfl) rfl rfl) rfl (Z0 (Z102 (n33) rfl rfl rfl rfl rfl (by omega)) rfl (Z28 (SV.store rfl rfl rfl rfl rfl (by rw [Z101, Zv]; omega)) (OW.cells (u8s (w35.setIfInBounds n33 ((x45 >>> (BitVec.ofNat 64 (8 * (n33 % 8))).toNat).setWidth 8)).toList) (by rw [Nat.zero_add, u8s_set', vset]) (Z6 (Z27 (Z1 (Z2 (Z0 (Z3 rfl) rfl (Z0 (RV.add rfl rfl (by omega)) rfl (Z7 (.int .i64 (((n33 + 1) : Nat) : Int)) (by first | rfl | (congr 1) | (congr 1; omega)) ?_))))))))))
    refine Z0 (Z5 rfl) rfl (Z6 ?_)
    exact Z129 (k' := k36) (Nat.lt_succ_self _) ⟨(n33 + 1), (w35.setIfInBounds n33 ((x45 >>> (BitVec.ofNat 64 (8 * (n33 % 8))).toNat).setWidth 8)), hl37, (by omega), rfl, rfl⟩ ⟨rfl, rfl, rfl, rfl, trivial⟩ (fun w m => m.pick [0, 1, 2] 3 rfl rfl)
   ·replace hl37 := if_f hl37 h43
    refine Z14 rfl (decide_eq_false h43) (CW.exit (Z9 (Z9 (Z15 ?_))))
    exact QW.join ⟨w35, (Zi hl37).symm, rfl, rfl⟩ ⟨rfl, rfl, trivial⟩ (fun w m => m.pick [0, 2] 3 rfl rfl)
 ·skip
  refine CW.block (CW.loopJ (fun k L' M' => ∃ n47 : Nat, ∃ w49 : Vector (BitVec 64) 25, (waybillref02_Digest.l2 x4 k n47 w49) = some q16 ∧ (n47 ≤ 9223372036854775807) ∧ L' = [(4, ptr (some b2) 0), (5, sl ob6 0 x4.length c7), (6, ptr (some b15) 0), (7, .int .i64 ((n47 : Nat) : Int))] ∧ M' = ((some b15, blk (u64s w49.toList) 88) :: (ob6, blk ((u8s x4) ++ r8) 5) :: (some b2, blk (u8s (Vector.replicate 32 0#8).toList) 39) :: ((B5 ++ []) ++ N))) (k0 := (x4.length - 0 + 2)) ⟨0, (Vector.replicate 25 0#64), hq17, (by omega), rfl, rfl⟩ ⟨rfl, rfl, rfl, rfl, trivial⟩ (fun w m => m.pick [0, 1, 2] 3 rfl rfl) ?_)
  clear hq17
  rintro k50 L53 M54 ⟨n47, w49, hl51, b48, e55, e56⟩
  rw [e55, e56]
  clear e55 e56 L53 M54
  rcases k50 with _ | k50
  ·rw [waybillref02_Digest.l2] at hl51; cases hl51
  rw [waybillref02_Digest.l2] at hl51
  have m57 := o9.mx
  refine Z4 (Z4 (Z2 (Z0 (Z3 rfl) rfl (Z0 (Z3 rfl) rfl (Z0 (RV.len rfl rfl) rfl (Z0 (RV.lss rfl rfl) rfl (Z7 (.bool (decide (n47 < x4.length))) (congrArg Value.bool (decide_eq_decide.2 (by omega))) (Z6 (Z1 ?_)))))))))
  by_cases h58 : n47 < x4.length
  ·replace hl51 := if_t hl51 h58
   refine Z13 rfl (decide_eq_true h58) (CW.skip (Z1 (Z4 (CW.block (Z4 (Z4 (Z2 (Z0 (Z5 rfl) rfl (Z6 (Z1 ?_))))))))))
   obtain ⟨q59, hq60, hl51⟩ := Z105 hl51
   refine CW.cutJ (fun L' M' => ∃ w61 : Vector (BitVec 64) 25, q59 = w61 ∧ L' = [(4, ptr (some b2) 0), (5, sl ob6 0 x4.length c7), (6, ptr (some b15) 0), (7, .int .i64 ((n47 : Nat) : Int))] ∧ M' = ((some b15, blk (u64s w61.toList) 88) :: (ob6, blk ((u8s x4) ++ r8) 5) :: (some b2, blk (u8s (Vector.replicate 32 0#8).toList) 39) :: ((B5 ++ []) ++ N))) ?_ ?_
   ·rintro L63 M64 ⟨w61, e62, e65, e66⟩
    rw [e65, e66]
    clear e65 e66 L63 M64
    clear hq60
    rw [e62] at hl51
    clear e62
    try dsimp only at hl51
    have m67 := o9.mx
    refine Z1 (Z2 (Z0 (Z22 rfl Zh rfl rfl rfl rfl ((Z100 _).trans Zv)) rfl ?_))
    obtain ⟨x69, hx68, hl51⟩ := Z105 hl51
    refine Z12 Tryd.call81 rfl (waybillref02_Permute_does w0 (More w0 Φ (B5 ++ [])) ((some b15, blk (u64s w61.toList) 88) :: (ob6, blk ((u8s x4) ++ r8) 5) :: (some b2, blk (u8s (Vector.replicate 32 0#8).toList) 39) :: ((B5 ++ []) ++ N)) (fun w m => More.of hΦ 3 m rfl) w61 x69 hTn hRn hx68) rfl rfl ?_
    rintro _ G70 rfl
    refine Z20 (M' := ((some b15, blk (u64s w61.toList) 88) :: (ob6, blk ((u8s x4) ++ r8) 5) :: (some b2, blk (u8s (Vector.replicate 32 0#8).toList) 39) :: ((B5 ++ []) ++ N))) (fun w m => m.appR) (Z28 (Z104 rfl rfl rfl (Z124 _) rfl ((Z100 _).trans Zv) ((Z100 _).trans Zv)) (Z6 (Z27 (Z1 (Z2 (Z0 (Z3 rfl) rfl (Z0 (RV.add rfl rfl (by omega)) rfl (Z7 (.int .i64 (((n47 + 136) : Nat) : Int)) (by first | rfl | (congr 1) | (congr 1; omega)) (Z0 (Z5 rfl) rfl (Z6 ?_))))))))))
    exact Z129 (k' := k50) (Nat.lt_succ_self _) ⟨(n47 + 136), x69, hl51, (by omega), rfl, rfl⟩ ⟨rfl, rfl, rfl, rfl, trivial⟩ (fun w m => m.pick [0, 1, 2] 3 rfl rfl)
   ·skip
    refine CW.block (CW.loopJ (fun k L' M' => ∃ n72 : Nat, ∃ w74 : Vector (BitVec 64) 25, (waybillref02_Digest.l3 x4 n47 k n72 w74) = some q59 ∧ (n72 ≤ 9223372036854775807) ∧ L' = [(4, ptr (some b2) 0), (5, sl ob6 0 x4.length c7), (6, ptr (some b15) 0), (7, .int .i64 ((n47 : Nat) : Int)), (8, .int .i64 ((n72 : Nat) : Int))] ∧ M' = ((some b15, blk (u64s w74.toList) 88) :: (ob6, blk ((u8s x4) ++ r8) 5) :: (some b2, blk (u8s (Vector.replicate 32 0#8).toList) 39) :: ((B5 ++ []) ++ N))) (k0 := (136 - 0 + 2)) ⟨0, w49, hq60, (by omega), rfl, rfl⟩ ⟨rfl, rfl, rfl, rfl, rfl, trivial⟩ (fun w m => m.pick [0, 1, 2] 3 rfl rfl) ?_)
    clear hq60
    rintro k75 L78 M79 ⟨n72, w74, hl76, b73, e80, e81⟩
    rw [e80, e81]
    clear e80 e81 L78 M79
    rcases k75 with _ | k75
    ·rw [waybillref02_Digest.l3] at hl76; cases hl76
    rw [waybillref02_Digest.l3] at hl76
    have m82 := o9.mx
    refine Z4 (Z4 (Z2 (Z0 (Z3 rfl) rfl (Z0 (RV.lss rfl rfl) rfl (Z7 (.bool (decide (n72 < 136))) (congrArg Value.bool (decide_eq_decide.2 (by omega))) (Z6 (Z1 ?_)))))))
    by_cases h83 : n72 < 136
    ·replace hl76 := if_t hl76 h83
     refine Z13 rfl (decide_eq_true h83) (CW.skip (Z1 (Z4 (CW.block (CW.drawsX ((ob6, blk ((u8s x4) ++ r8) 5) :: (some b2, blk (u8s (Vector.replicate 32 0#8).toList) 39) :: ((B5 ++ []) ++ N)) [20] (fun w m => m.pick [1, 2] 3 rfl rfl) mixed (by kernel_rfl) (Z10 0 rfl (by kernel_rfl) rfl (Z3 rfl) rfl (Z10 1 rfl (by kernel_rfl) rfl (RV.quo rfl rfl (by omega) (by omega) (by omega)) rfl (XW.slot (.int .i64 ((n72 / 8 : Nat) : Int)) (by first | rfl | (congr 1; omega)) (Z10 2 rfl (by kernel_rfl) rfl (Z3 rfl) rfl (Z10 3 rfl (by kernel_rfl) rfl (RV.quo rfl rfl (by omega) (by omega) (by omega)) rfl ?_))))))))))
     refine XW.slot (.int .i64 ((n72 / 8 : Nat) : Int)) (by first | rfl | (congr 1; omega)) ?_
     obtain ⟨g84, hl76⟩ := Z118 hl76
     refine Z10 4 rfl (by kernel_rfl) rfl (Z102 ((n72 / 8)) rfl rfl rfl rfl rfl (by omega)) rfl ?_
     obtain ⟨x85, hx86, hl76⟩ := Z105 hl76
     refine XW.rv 5 rfl (by kernel_rfl) rfl (by kernel_rfl) (Z29 rfl Zh rfl rfl rfl (by rw [Nat.zero_add]; exact u64s_at (vat hx86))) rfl ?_
     refine Z10 6 rfl (by kernel_rfl) rfl (Z3 rfl) rfl (Z10 7 rfl (by kernel_rfl) rfl (Z3 rfl) rfl (Z10 8 rfl (by kernel_rfl) rfl (Z3 rfl) rfl (Z10 9 rfl (by kernel_rfl) rfl (RV.add rfl rfl (by omega)) rfl (XW.slot (.int .i64 (((n47 + n72) : Nat) : Int)) (by first | rfl | (congr 1) | (congr 1; omega)) ?_))))
     obtain ⟨x87, hx88, hl76⟩ := Z105 hl76
     have hl89 := lt_of_at hx88
     refine Z10 10 rfl (by kernel_rfl) rfl (RV.idx_o ((n47 + n72)) rfl rfl rfl rfl rfl (o9.isSome (by decide) hl89) (by omega)) rfl (Z10 11 rfl (by kernel_rfl) rfl (Z29 rfl Zh (o9.isSome (by decide) hl89) rfl rfl (own_at0 (u8s_at hx88))) rfl (Z10 12 rfl (by kernel_rfl) rfl (RV.conv8_64 rfl (by first | rfl | exact lit8 _ rfl) rfl rfl) rfl (Z10 13 rfl (by kernel_rfl) rfl (Z3 rfl) rfl (Z10 14 rfl (by kernel_rfl) rfl (RV.rem rfl rfl (by omega) (by omega)) rfl (XW.slot (.int .i64 ((n72 % 8 : Nat) : Int)) (by first | rfl | (congr 1; omega)) (Z10 15 rfl (by kernel_rfl) rfl (RV.mul rfl rfl (by omega)) rfl (XW.slot (.int .i64 (((8 * (n72 % 8)) : Nat) : Int)) (by first | rfl | (congr 1) | (congr 1; omega)) ?_)))))))
     refine Z10 16 rfl (by kernel_rfl) rfl (RV.conv_i64 rfl rfl rfl) rfl (XW.slot (U64 (BitVec.ofNat 64 (8 * (n72 % 8)))) (congrArg U64 (BitVec.ofInt_natCast ..)) ?_)
     refine Z10 17 rfl (by kernel_rfl) rfl (RV.shl64 (s := (BitVec.ofNat 64 (8 * (n72 % 8))).toNat) rfl (by first | rfl | exact lit64 _ rfl) rfl (by first | rfl | (simp [U64]; done))) rfl ?_
     refine Z10 18 rfl (by kernel_rfl) rfl (Z120 rfl (by first | rfl | exact lit64 _ rfl) rfl (by first | rfl | exact lit64 _ rfl)) rfl (Z10 19 rfl (by kernel_rfl) rfl (Z102 ((n72 / 8)) rfl rfl rfl rfl rfl (by omega)) rfl (XW.sv 20 rfl (by kernel_rfl) (SV.store rfl rfl rfl rfl rfl (by rw [Z100, Zv]; omega)) (fun w m => m.pick [1, 2] 3 rfl rfl) (XW.cells (u64s (w74.setIfInBounds (n72 / 8) (x85 ^^^ ((x87.setWidth 64) <<< (BitVec.ofNat 64 (8 * (n72 % 8))).toNat))).toList) (by rw [Nat.zero_add, Z113, vset]) (XW.nil (by kernel_rfl) (Z27 (Z1 (Z2 (Z0 (Z3 rfl) rfl (Z0 (RV.add rfl rfl (by omega)) rfl ?_)))))))))
     refine Z7 (.int .i64 (((n72 + 1) : Nat) : Int)) (by first | rfl | (congr 1) | (congr 1; omega)) (Z0 (Z5 rfl) rfl (Z6 ?_))
     exact Z129 (k' := k75) (Nat.lt_succ_self _) ⟨(n72 + 1), (w74.setIfInBounds (n72 / 8) (x85 ^^^ ((x87.setWidth 64) <<< (BitVec.ofNat 64 (8 * (n72 % 8))).toNat))), hl76, (by omega), rfl, rfl⟩ ⟨rfl, rfl, rfl, rfl, rfl, trivial⟩ (fun w m => m.pick [0, 1, 2] 3 rfl rfl)
    ·replace hl76 := if_f hl76 h83
     refine Z14 rfl (decide_eq_false h83) (CW.exit (Z9 (Z9 (Z15 ?_))))
     exact QW.join ⟨w74, (Zi hl76).symm, rfl, rfl⟩ ⟨rfl, rfl, rfl, rfl, trivial⟩ (fun w m => m.pick [0, 1, 2] 3 rfl rfl)
  ·replace hl51 := if_f hl51 h58
   refine Z14 rfl (decide_eq_false h58) (CW.exit (Z9 (Z9 (Z15 ?_))))
   exact QW.join ⟨w49, (Zi hl51).symm, rfl, rfl⟩ ⟨rfl, rfl, trivial⟩ (fun w m => m.pick [0, 2] 3 rfl rfl)
theorem keccak_Sponge_Len_does (w0 : World) (Φ : Ctx) (N : List Ent) (hΦ : ∀ w, Mem w0 w N → Φ w) (b0_ : Nat) (a0 : Sponge) (res0 : Int) (new0 : Sponge) (hf : keccak_Sponge_Len a0 = some (res0, new0)) : DoesG Tryd.prog 21 [ptr (some b0_) 0] w0 [(some b0_, blk a0.C 91)] N (fun v G => ∃ B : List Ent, (-9223372036854775808 ≤ res0 ∧ res0 ≤ 9223372036854775807) ∧ v = .int .i64 res0 ∧ G = (some b0_, blk new0.C 91) :: B) := by
 unfold keccak_Sponge_Len at hf
 refine DoesG.enter Tryd.func21 rfl Tryd.ntmps21 rfl (M := ((some b0_, blk a0.C 91) :: ([] ++ N))) rfl (Z4 (Z2 (Z0 (Z5 rfl) rfl (Z6 (Z1 (Z4 (Z4 (Z2 (Z0 (Z3 rfl) rfl (Z0 (RV.eqlS rfl rfl rfl) rfl (Z6 (Z1 (Z14 rfl rfl ?_)))))))))))))
 refine CW.skip (Z1 (Z4 (Z2 (Z0 (Z3 rfl) rfl (Z0 (RV.nilCheck rfl) rfl (Z0 (Z30 rfl rfl rfl rfl) rfl (Z7 (ptr (some b0_) 163) rfl (Z0 (Z29 rfl Zh rfl rfl rfl (Sponge.C_long _)) rfl ?_))))))))
 obtain ⟨g1, hf⟩ := Z118 hf
 refine Z0 (Z5 rfl) rfl (Z6 (Z1 (CW.ret ?_)))
 have er0 := Zi hf
 obtain ⟨e0, er1⟩ := Prod.mk.inj er0
 clear er0
 subst e0
 subst er1
 refine Z107 (rs := [.tmp 2]) ([.int .i64 a0.long]) ((some b0_, blk a0.C 91) :: []) rfl ?_ rfl ?_ ?_ _ (.inl rfl)
 ·exact ⟨rfl, trivial⟩
 ·exact ⟨[], (by omega), rfl, rfl⟩
 ·exact (fun w m => m.pick [0] 1 rfl rfl)
theorem keccak_Sponge_Reset_does (w0 : World) (Φ : Ctx) (N : List Ent) (hΦ : ∀ w, Mem w0 w N → Φ w) (b0_ : Nat) (a0 : Sponge) (new0 : Sponge) (hf : keccak_Sponge_Reset a0 = some new0) : DoesG Tryd.prog 29 [ptr (some b0_) 0] w0 [(some b0_, blk a0.C 91)] N (fun v G => ∃ B : List Ent, v = .tuple #[] ∧ G = (some b0_, blk new0.C 91) :: B) := by
 unfold keccak_Sponge_Reset at hf
 refine DoesG.enter Tryd.func29 rfl Tryd.ntmps29 rfl (M := ((some b0_, blk a0.C 91) :: ([] ++ N))) rfl (Z4 (Z2 (Z0 (Z3 rfl) rfl (Z0 (RV.neqS rfl rfl rfl) rfl (Z6 (Z1 (Z13 rfl rfl (Z2 (Z0 (Z3 rfl) rfl ?_)))))))))
 refine Z0 (Z3 rfl) rfl (Z0 (RV.nilCheck rfl) rfl (Z0 (Z30 rfl rfl rfl rfl) rfl (Z7 (ptr (some b0_) 0) rfl (Z0 (Z29 rfl Zh rfl rfl rfl (Sponge.C_kind _)) rfl (Z0 (Z112 (l := (⟨0, (Vector.replicate 25 0#64), (Vector.replicate 136 0#8), 0, 0⟩ : Sponge).C) (cs := ({ (⟨0, (Vector.replicate 25 0#64), (Vector.replicate 136 0#8), 0, 0⟩ : Sponge) with kind := a0.kind } : Sponge).C) [(0, [.int .i64 a0.kind])] rfl rfl rfl rfl rfl rfl rfl) rfl (Z0 (RV.nilCheck rfl) rfl (Z28 (Z104 rfl rfl rfl (Sponge.C_one _) rfl (Sponge.C_length _) (Sponge.C_length _)) ?_)))))))
 refine Z6 ?_
 have e0 := Zi hf
 subst e0
 refine Z107 (rs := []) ([]) ((some b0_, blk ({ (⟨0, (Vector.replicate 25 0#64), (Vector.replicate 136 0#8), 0, 0⟩ : Sponge) with kind := a0.kind } : Sponge).C 91) :: []) rfl ?_ rfl ?_ ?_ _ (.inr rfl)
 ·exact trivial
 ·exact ⟨[], rfl, rfl⟩
 ·exact (fun w m => m.pick [0] 1 rfl rfl)
theorem waybilllaw02_num_does (w0 : World) (Φ : Ctx) (N : List Ent) (hΦ : ∀ w, Mem w0 w N → Φ w) (a0 : Int) (res0 : Int) (ba0 : -9223372036854775808 ≤ a0 ∧ a0 ≤ 9223372036854775807) (hf : waybilllaw02_num a0 = some res0) : DoesG Tryd.prog 32 [.int .i64 a0] w0 [] N (fun v G => (-9223372036854775808 ≤ res0 ∧ res0 ≤ 9223372036854775807) ∧ v = .int .i64 res0) := by
 unfold waybilllaw02_num at hf
 refine DoesG.enter Tryd.func32 rfl Tryd.ntmps32 rfl (M := (([] ++ N))) rfl (Z4 (Z2 (Z0 (Z5 rfl) rfl (Z6 (Z1 (Z4 (Z2 (Z0 (Z3 rfl) rfl (Z0 (Z5 rfl) rfl (Z6 (Z1 (CW.ret ?_))))))))))))
 have e0 := Zi hf
 subst e0
 refine Z107 (rs := [.tmp 2]) ([.int .i64 a0]) ([]) rfl ?_ rfl ?_ ?_ _ (.inl rfl)
 ·exact ⟨rfl, trivial⟩
 ·exact ⟨(by omega), rfl⟩
 ·exact (fun w m => m)
theorem waybilllaw02_still_does (w0 : World) (Φ : Ctx) (N : List Ent) (hΦ : ∀ w, Mem w0 w N → Φ w) (A0_ : Option Addr) (c0_ : Nat) (a0 : List (BitVec 8)) (A1_ : Option Addr) (c1_ : Nat) (a1 : List (BitVec 8)) (res0 : Bool) (va0 : View Φ A0_ (a0 ++ List.replicate 200 195#8).length c0_ 1 (u8s (a0 ++ List.replicate 200 195#8))) (va1 : View Φ A1_ a1.length c1_ 1 (u8s a1)) (hf : waybilllaw02_still a0 a1 = some res0) : DoesG Tryd.prog 56 [.slice A0_ a0.length c0_, .slice A1_ a1.length c1_] w0 [] N (fun v G => v = .bool res0) := by
 unfold waybilllaw02_still at hf
 replace va0 := va0.mono (Ψ := More w0 Φ []) (fun w q => q.1)
 replace va1 := va1.mono (Ψ := More w0 Φ []) (fun w q => q.1)
 have hle := va0.mx
 have hle2 : (a0 ++ List.replicate 200 195#8).length = a0.length + 200 := by rw [List.length_append, List.length_replicate]
 have v1 : View (More w0 Φ []) A0_ a0.length c0_ 1 (u8s a0) := MRoom.view va0
 have m2 := v1.mx
 have m3 := va1.mx
 refine DoesG.enter Tryd.func56 rfl Tryd.ntmps56 rfl (M := (([] ++ N))) rfl (Z4 (Z2 (Z0 (Z5 rfl) rfl (Z6 (Z1 (Z4 (Z4 (Z2 (Z0 (Z3 rfl) rfl (Z0 (RV.len rfl rfl) rfl (Z0 (Z3 rfl) rfl (Z0 (RV.len rfl rfl) rfl ?_))))))))))))
 refine Z0 (RV.neq rfl rfl) rfl (Z7 (.bool (!decide (a0.length = a1.length))) (congrArg (fun b => Value.bool (!b)) (decide_eq_decide.2 (by omega))) (Z6 (Z1 ?_)))
 by_cases h4 : a0.length = a1.length
 ·replace hf := if_t hf h4
  refine Z14 rfl (congrArg (fun b => !b) (decide_eq_true h4)) (CW.skip (Z1 (Z4 (Z2 (Z0 (Z3 rfl) rfl (Z0 (Z3 rfl) rfl (Z0 (RV.len rfl rfl) rfl (Z0 (RV.add rfl rfl (by omega)) rfl (Z7 (.int .i64 (((a1.length + 200) : Nat) : Int)) (by first | rfl | (congr 1) | (congr 1; omega)) ?_)))))))))
  obtain ⟨g6, hf⟩ := Z118 hf
  have hle := va0.le
  have hlen_ : (a0 ++ List.replicate 200 195#8).length = (a0 ++ List.replicate 200 195#8).length := rfl
  refine Z0 (RV.cut_hi ((a1.length + 200)) rfl rfl (by omega) rfl rfl (by omega)) rfl (Z7 (.slice A0_ ((a0 ++ List.replicate 200 195#8).take (a1.length + 200)).length c0_) (by rw [show (((a0 ++ List.replicate 200 195#8).take (a1.length + 200))).length = (a1.length + 200) from List.length_take.trans (Nat.min_eq_left (by omega))]) ?_)
  have v5 : View (More w0 Φ []) A0_ ((a0 ++ List.replicate 200 195#8).take (a1.length + 200)).length c0_ 1 (u8s ((a0 ++ List.replicate 200 195#8).take (a1.length + 200))) := va0.hi8 (by omega)
  have m7 := v5.mx
  refine Z0 (Z5 rfl) rfl (Z6 (Z1 (Z4 (Z4 (Z2 (Z0 (Z5 rfl) rfl (Z6 (Z1 ?_))))))))
  obtain ⟨q8, hq9, hf⟩ := Z105 hf
  refine CW.cutJ (fun L' M' => q8 = Lp.go () ∧ L' = [] ∧ M' = (([] ++ N))) ?_ ?_
  ·rintro L11 M12 ⟨e10, e13, e14⟩
   rw [e13, e14]
   clear e13 e14 L11 M12
   clear hq9
   rw [e10] at hf
   clear e10
   try dsimp only at hf
   refine Z1 (Z4 (Z2 (Z0 (Z5 rfl) rfl (Z6 (Z1 (CW.ret ?_))))))
   have e0 := Zi hf
   subst e0
   refine Z107 (rs := [.tmp 4]) ([.bool true]) ([]) rfl ?_ rfl ?_ ?_ _ (.inl rfl)
   ·exact ⟨rfl, trivial⟩
   ·exact rfl
   ·exact (fun w m => m)
  ·skip
   refine CW.block (CW.loopJ (fun k L' M' => ∃ n15 : Nat, (waybilllaw02_still.l1 a0 a1 k n15) = some q8 ∧ (n15 ≤ 9223372036854775807) ∧ L' = [(1, .slice A1_ a1.length c1_), (5, .slice A0_ ((a0 ++ List.replicate 200 195#8).take (a1.length + 200)).length c0_), (6, .int .i64 ((n15 : Nat) : Int))] ∧ M' = (([] ++ N))) (k0 := ((((a0 ++ List.replicate 200 195#8).take (a1.length + 200)).length) - 0 + 2)) ⟨0, hq9, (by omega), rfl, rfl⟩ ⟨rfl, rfl, rfl, trivial⟩ (fun w m => m.pick [] 0 rfl rfl) ?_)
   clear hq9
   rintro k17 L20 M21 ⟨n15, hl18, b16, e22, e23⟩
   rw [e22, e23]
   clear e22 e23 L20 M21
   rcases k17 with _ | k17
   ·rw [waybilllaw02_still.l1] at hl18; cases hl18
   rw [waybilllaw02_still.l1] at hl18
   refine Z4 (Z4 (Z2 (Z0 (Z3 rfl) rfl (Z0 (Z3 rfl) rfl (Z0 (RV.len rfl rfl) rfl (Z0 (RV.lss rfl rfl) rfl (Z7 (.bool (decide (n15 < ((a0 ++ List.replicate 200 195#8).take (a1.length + 200)).length))) (congrArg Value.bool (decide_eq_decide.2 (by omega))) (Z6 (Z1 ?_)))))))))
   by_cases h24 : n15 < ((a0 ++ List.replicate 200 195#8).take (a1.length + 200)).length
   ·replace hl18 := if_t hl18 h24
    refine Z13 rfl (decide_eq_true h24) (CW.skip (Z1 (Z4 (CW.block (Z4 ?_)))))
    obtain ⟨q25, hq26, hl18⟩ := Z105 hl18
    refine CW.cutJ (fun L' M' => ∃ p27 : Bool, q25 = p27 ∧ L' = [(1, .slice A1_ a1.length c1_), (5, .slice A0_ ((a0 ++ List.replicate 200 195#8).take (a1.length + 200)).length c0_), (6, .int .i64 ((n15 : Nat) : Int)), (50, .bool (p27))] ∧ M' = (([] ++ N))) ?_ ?_
    ·rintro L29 M30 ⟨p27, e28, e31, e32⟩
     rw [e31, e32]
     clear e31 e32 L29 M30
     clear hq26
     rw [e28] at hl18
     clear e28
     try dsimp only at hl18
     refine Z1 ?_
     by_cases h33 : p27 = true
     ·replace hl18 := if_t hl18 h33
      refine Z13 rfl (h33) (Z4 (Z2 (Z0 (Z5 rfl) rfl (Z6 (Z1 (CW.ret (Z16 (Z8 (Z8 (Z16 (Z8 ?_)))))))))))
      have hc := Zi hl18
      subst hc
      try dsimp only at hf
      refine Z8 ?_
      have e0 := Zi hf
      subst e0
      refine Z107 (rs := [.tmp 4]) ([.bool false]) ([]) rfl ?_ rfl ?_ ?_ _ (.inl rfl)
      ·exact ⟨rfl, trivial⟩
      ·exact rfl
      ·exact (fun w m => m)
     ·replace hl18 := if_f hl18 h33
      refine Z14 rfl (Bool.eq_false_iff.2 h33) (CW.skip (Z27 (Z1 (Z2 (Z0 (Z3 rfl) rfl (Z0 (RV.add rfl rfl (by omega)) rfl (Z7 (.int .i64 (((n15 + 1) : Nat) : Int)) (by first | rfl | (congr 1) | (congr 1; omega)) (Z0 (Z5 rfl) rfl (Z6 ?_)))))))))
      exact Z129 (k' := k17) (Nat.lt_succ_self _) ⟨(n15 + 1), hl18, (by omega), rfl, rfl⟩ ⟨rfl, rfl, rfl, trivial⟩ (fun w m => m.pick [] 0 rfl rfl)
    ·skip
     refine CW.drawsU 28 mixed (by kernel_rfl) rfl (Z18 0 rfl (by kernel_rfl) rfl (Z3 rfl) rfl (Z18 1 rfl (by kernel_rfl) rfl (Z3 rfl) rfl (Z18 2 rfl (by kernel_rfl) rfl (RV.len rfl rfl) rfl (Z18 3 rfl (by kernel_rfl) rfl (RV.lss rfl rfl) rfl (UW.slot (.bool (decide (n15 < a1.length))) (congrArg Value.bool (decide_eq_decide.2 (by omega))) (Z18 4 rfl (by kernel_rfl) rfl (Z3 rfl) rfl ?_))))))
     by_cases h34 : n15 < a1.length
     ·replace hq26 := if_t hq26 h34
      refine UW.slot (.bool true) (congrArg Value.bool (decide_eq_true h34)) (Z18 5 rfl (by kernel_rfl) rfl (Z3 rfl) rfl (Z18 6 rfl (by kernel_rfl) rfl (Z3 rfl) rfl ?_))
      obtain ⟨x35, hx36, hq26⟩ := Z105 hq26
      have hl37 := lt_of_at hx36
      refine Z18 7 rfl (by kernel_rfl) rfl (RV.idx_r (n15) rfl rfl rfl rfl rfl (v5.isSome (by decide) hl37) (by omega)) rfl (Z18 8 rfl (by kernel_rfl) rfl (Z21 rfl rfl rfl (fun w m => v5.cell (More.of hΦ 0 m rfl) (u8s_at hx36))) rfl (Z18 9 rfl (by kernel_rfl) rfl (Z3 rfl) rfl (Z18 10 rfl (by kernel_rfl) rfl (Z3 rfl) rfl ?_)))
      obtain ⟨x38, hx39, hq26⟩ := Z105 hq26
      have hl40 := lt_of_at hx39
      refine Z18 11 rfl (by kernel_rfl) rfl (RV.idx_r (n15) rfl rfl rfl rfl rfl (va1.isSome (by decide) hl40) (by omega)) rfl (Z18 12 rfl (by kernel_rfl) rfl (Z21 rfl rfl rfl (fun w m => va1.cell (More.of hΦ 0 m rfl) (u8s_at hx39))) rfl (Z18 13 rfl (by kernel_rfl) rfl (RV.neq8 rfl (by first | rfl | exact lit8 _ rfl) rfl (by first | rfl | exact lit8 _ rfl)) rfl (Z18 14 rfl (by kernel_rfl) rfl (RV.pick_t rfl rfl rfl) rfl (Z18 15 rfl (by kernel_rfl) rfl (Z3 rfl) rfl ?_))))
      by_cases h41 : x35 = x38
      ·replace hq26 := if_t hq26 h41
       refine UW.slot (.bool false) (congrArg Value.bool (congrArg (fun b => !b) (decide_eq_true h41))) (Z18 16 rfl (by kernel_rfl) rfl (Z3 rfl) rfl (Z18 17 rfl (by kernel_rfl) rfl (Z3 rfl) rfl (Z18 18 rfl (by kernel_rfl) rfl (RV.len rfl rfl) rfl (Z18 19 rfl (by kernel_rfl) rfl (RV.geq rfl rfl) rfl (UW.slot (.bool (decide (a1.length ≤ n15))) (congrArg Value.bool (decide_eq_decide.2 (by omega))) (Z18 20 rfl (by kernel_rfl) rfl (Z3 rfl) rfl ?_))))))
       by_cases h42 : a1.length ≤ n15
       ·replace hq26 := if_t hq26 h42
        refine UW.slot (.bool true) (congrArg Value.bool (decide_eq_true h42)) (Z18 21 rfl (by kernel_rfl) rfl (Z3 rfl) rfl (Z18 22 rfl (by kernel_rfl) rfl (Z3 rfl) rfl ?_))
        obtain ⟨x43, hx44, hq26⟩ := Z105 hq26
        have hl45 := lt_of_at hx44
        refine Z18 23 rfl (by kernel_rfl) rfl (RV.idx_r (n15) rfl rfl rfl rfl rfl (v5.isSome (by decide) hl45) (by omega)) rfl (Z18 24 rfl (by kernel_rfl) rfl (Z21 rfl rfl rfl (fun w m => v5.cell (More.of hΦ 0 m rfl) (u8s_at hx44))) rfl (Z18 25 rfl (by kernel_rfl) rfl (RV.neq8 rfl (by first | rfl | exact lit8 _ rfl) rfl (by first | rfl | exact lit8 _ rfl)) rfl (Z18 26 rfl (by kernel_rfl) rfl (RV.pick_t rfl rfl rfl) rfl (Z18 27 rfl (by kernel_rfl) rfl (Z115 rfl rfl rfl) rfl (UW.nil (by kernel_rfl) (Z6 ?_))))))
        exact QW.join ⟨(!decide (x43 = 195#8)), (Zi hq26).symm, rfl, rfl⟩ ⟨rfl, rfl, rfl, rfl, trivial⟩ (fun w m => m.pick [] 0 rfl rfl)
       ·replace hq26 := if_f hq26 h42
        refine UW.slot (.bool false) (congrArg Value.bool (decide_eq_false h42)) (UW.skip 21 rfl (by kernel_rfl) rfl rfl (UW.skip 22 rfl (by kernel_rfl) rfl rfl (UW.skip 23 rfl (by kernel_rfl) rfl rfl (UW.skip 24 rfl (by kernel_rfl) rfl rfl (UW.skip 25 rfl (by kernel_rfl) rfl rfl (Z18 26 rfl (by kernel_rfl) rfl (Z115 rfl rfl rfl) rfl (Z18 27 rfl (by kernel_rfl) rfl (Z115 rfl rfl rfl) rfl ?_)))))))
        refine UW.nil (by kernel_rfl) (Z6 ?_)
        exact QW.join ⟨false, (Zi hq26).symm, rfl, rfl⟩ ⟨rfl, rfl, rfl, rfl, trivial⟩ (fun w m => m.pick [] 0 rfl rfl)
      ·replace hq26 := if_f hq26 h41
       refine UW.slot (.bool true) (congrArg Value.bool (congrArg (fun b => !b) (decide_eq_false h41))) (UW.skip 16 rfl (by kernel_rfl) rfl rfl (UW.skip 17 rfl (by kernel_rfl) rfl rfl (UW.skip 18 rfl (by kernel_rfl) rfl rfl (UW.skip 19 rfl (by kernel_rfl) rfl rfl (UW.skip 20 rfl (by kernel_rfl) rfl rfl (UW.skip 21 rfl (by kernel_rfl) rfl rfl (UW.skip 22 rfl (by kernel_rfl) rfl rfl ?_)))))))
       refine UW.skip 23 rfl (by kernel_rfl) rfl rfl (UW.skip 24 rfl (by kernel_rfl) rfl rfl (UW.skip 25 rfl (by kernel_rfl) rfl rfl (UW.skip 26 rfl (by kernel_rfl) rfl rfl (Z18 27 rfl (by kernel_rfl) rfl (RV.pick_t rfl rfl rfl) rfl (UW.nil (by kernel_rfl) (Z6 ?_))))))
       exact QW.join ⟨true, (Zi hq26).symm, rfl, rfl⟩ ⟨rfl, rfl, rfl, rfl, trivial⟩ (fun w m => m.pick [] 0 rfl rfl)
     ·replace hq26 := if_f hq26 h34
      refine UW.slot (.bool false) (congrArg Value.bool (decide_eq_false h34)) (UW.skip 5 rfl (by kernel_rfl) rfl rfl (UW.skip 6 rfl (by kernel_rfl) rfl rfl (UW.skip 7 rfl (by kernel_rfl) rfl rfl (UW.skip 8 rfl (by kernel_rfl) rfl rfl (UW.skip 9 rfl (by kernel_rfl) rfl rfl (UW.skip 10 rfl (by kernel_rfl) rfl rfl (UW.skip 11 rfl (by kernel_rfl) rfl rfl ?_)))))))
      refine UW.skip 12 rfl (by kernel_rfl) rfl rfl (UW.skip 13 rfl (by kernel_rfl) rfl rfl (Z18 14 rfl (by kernel_rfl) rfl (Z115 rfl rfl rfl) rfl (Z18 15 rfl (by kernel_rfl) rfl (Z3 rfl) rfl (Z18 16 rfl (by kernel_rfl) rfl (Z3 rfl) rfl (Z18 17 rfl (by kernel_rfl) rfl (Z3 rfl) rfl (Z18 18 rfl (by kernel_rfl) rfl (RV.len rfl rfl) rfl (Z18 19 rfl (by kernel_rfl) rfl (RV.geq rfl rfl) rfl ?_)))))))
      refine UW.slot (.bool (decide (a1.length ≤ n15))) (congrArg Value.bool (decide_eq_decide.2 (by omega))) (Z18 20 rfl (by kernel_rfl) rfl (Z3 rfl) rfl ?_)
      by_cases h46 : a1.length ≤ n15
      ·replace hq26 := if_t hq26 h46
       refine UW.slot (.bool true) (congrArg Value.bool (decide_eq_true h46)) (Z18 21 rfl (by kernel_rfl) rfl (Z3 rfl) rfl (Z18 22 rfl (by kernel_rfl) rfl (Z3 rfl) rfl ?_))
       obtain ⟨x47, hx48, hq26⟩ := Z105 hq26
       have hl49 := lt_of_at hx48
       refine Z18 23 rfl (by kernel_rfl) rfl (RV.idx_r (n15) rfl rfl rfl rfl rfl (v5.isSome (by decide) hl49) (by omega)) rfl (Z18 24 rfl (by kernel_rfl) rfl (Z21 rfl rfl rfl (fun w m => v5.cell (More.of hΦ 0 m rfl) (u8s_at hx48))) rfl (Z18 25 rfl (by kernel_rfl) rfl (RV.neq8 rfl (by first | rfl | exact lit8 _ rfl) rfl (by first | rfl | exact lit8 _ rfl)) rfl (Z18 26 rfl (by kernel_rfl) rfl (RV.pick_t rfl rfl rfl) rfl (Z18 27 rfl (by kernel_rfl) rfl (Z115 rfl rfl rfl) rfl (UW.nil (by kernel_rfl) (Z6 ?_))))))
       exact QW.join ⟨(!decide (x47 = 195#8)), (Zi hq26).symm, rfl, rfl⟩ ⟨rfl, rfl, rfl, rfl, trivial⟩ (fun w m => m.pick [] 0 rfl rfl)
      ·replace hq26 := if_f hq26 h46
       refine UW.slot (.bool false) (congrArg Value.bool (decide_eq_false h46)) (UW.skip 21 rfl (by kernel_rfl) rfl rfl (UW.skip 22 rfl (by kernel_rfl) rfl rfl (UW.skip 23 rfl (by kernel_rfl) rfl rfl (UW.skip 24 rfl (by kernel_rfl) rfl rfl (UW.skip 25 rfl (by kernel_rfl) rfl rfl (Z18 26 rfl (by kernel_rfl) rfl (Z115 rfl rfl rfl) rfl (Z18 27 rfl (by kernel_rfl) rfl (Z115 rfl rfl rfl) rfl ?_)))))))
       refine UW.nil (by kernel_rfl) (Z6 ?_)
       exact QW.join ⟨false, (Zi hq26).symm, rfl, rfl⟩ ⟨rfl, rfl, rfl, rfl, trivial⟩ (fun w m => m.pick [] 0 rfl rfl)
   ·replace hl18 := if_f hl18 h24
    refine Z14 rfl (decide_eq_false h24) (CW.exit (Z9 (Z9 (Z15 ?_))))
    exact QW.join ⟨(Zi hl18).symm, rfl, rfl⟩ trivial (fun w m => m.pick [] 0 rfl rfl)
 ·replace hf := if_f hf h4
  refine Z13 rfl (congrArg (fun b => !b) (decide_eq_false h4)) (Z4 (Z2 (Z0 (Z5 rfl) rfl (Z6 (Z1 (CW.ret (Z8 ?_)))))))
  have e0 := Zi hf
  subst e0
  refine Z107 (rs := [.tmp 4]) ([.bool false]) ([]) rfl ?_ rfl ?_ ?_ _ (.inl rfl)
  ·exact ⟨rfl, trivial⟩
  ·exact rfl
  ·exact (fun w m => m)
theorem waybilllaw02_which_does (w0 : World) (Φ : Ctx) (N : List Ent) (hΦ : ∀ w, Mem w0 w N → Φ w) (a0 : Int) (res0 : Int) (ba0 : -9223372036854775808 ≤ a0 ∧ a0 ≤ 9223372036854775807) (hf : waybilllaw02_which a0 = some res0) : DoesG Tryd.prog 52 [.int .i64 a0] w0 [] N (fun v G => (-9223372036854775808 ≤ res0 ∧ res0 ≤ 9223372036854775807) ∧ v = .int .i64 res0) := by
 unfold waybilllaw02_which at hf
 refine DoesG.enter Tryd.func52 rfl Tryd.ntmps52 rfl (M := (([] ++ N))) rfl (Z4 (Z2 (Z0 (Z5 rfl) rfl (Z6 (Z1 (Z4 (Z2 (Z0 (Z3 rfl) rfl (Z0 (RV.trem rfl rfl (by omega)) rfl ?_)))))))))
 have b1 := And.intro (Int.lt_tmod_of_pos (a0) (show (0 : Int) < 3 by omega)) (Int.tmod_lt_of_pos (a0) (show (0 : Int) < 3 by omega))
 refine Z7 (.int .i64 ((a0).tmod 3)) (rfl) (Z0 (Z5 rfl) rfl (Z6 (Z1 (Z4 (Z4 (Z2 (Z0 (Z3 rfl) rfl (Z0 (RV.lss rfl rfl) rfl (Z6 (Z1 ?_))))))))))
 obtain ⟨q2, hq3, hf⟩ := Z105 hf
 refine CW.cutJ (fun L' M' => ∃ z4 : Int, q2 = z4 ∧ (-9223372036854775808 ≤ z4 ∧ z4 ≤ 9223372036854775807) ∧ L' = [(3, .int .i64 z4)] ∧ M' = (([] ++ N))) ?_ ?_
 ·rintro L7 M8 ⟨z4, e6, b5, e9, e10⟩
  rw [e9, e10]
  clear e9 e10 L7 M8
  clear hq3
  rw [e6] at hf
  clear e6
  try dsimp only at hf
  refine Z1 (Z4 (Z2 (Z0 (Z3 rfl) rfl (Z0 (Z5 rfl) rfl (Z6 (Z1 (CW.ret ?_)))))))
  have e0 := Zi hf
  subst e0
  refine Z107 (rs := [.tmp 2]) ([.int .i64 z4]) ([]) rfl ?_ rfl ?_ ?_ _ (.inl rfl)
  ·exact ⟨rfl, trivial⟩
  ·exact ⟨(by omega), rfl⟩
  ·exact (fun w m => m)
 ·skip
  by_cases h11 : ((a0).tmod 3) < (0 : Int)
  ·replace hq3 := if_t hq3 h11
   refine Z13 rfl (decide_eq_true h11) (Z2 (Z0 (Z3 rfl) rfl ?_))
   obtain ⟨g12, hq3⟩ := Z118 hq3
   refine Z0 (RV.add rfl rfl (by omega)) rfl (Z0 (Z5 rfl) rfl (Z6 ?_))
   exact QW.join ⟨(((a0).tmod 3) + (3 : Int)), (Zi hq3).symm, (by omega), rfl, rfl⟩ ⟨rfl, trivial⟩ (fun w m => m.pick [] 0 rfl rfl)
  ·replace hq3 := if_f hq3 h11
   refine Z14 rfl (decide_eq_false h11) (CW.skip ?_)
   exact QW.join ⟨((a0).tmod 3), (Zi hq3).symm, (by omega), rfl, rfl⟩ ⟨rfl, trivial⟩ (fun w m => m.pick [] 0 rfl rfl)
theorem PWrite_does (w0 : World) (Φ : Ctx) (N : List Ent) (hΦ : ∀ w, Mem w0 w N → Φ w) (x : KS) (ok : x.Ok) (A : Option Addr) (cA : Nat) (data : List (BitVec 8)) (va : View Φ A data.length cA 1 (u8s data)) (hb : x.len + data.length ≤ 1099511627776) :
  DoesG Tryd.prog 28 [Kp.v x.p, .slice A data.length cA] w0 (Kp.E 91 x.p) N
   (fun u G => ∃ (p' : Option Kp) (B : List Ent), u = .tuple #[] ∧ G = Kp.E 91 p' ++ B ∧ Kp.v p' = Kp.v x.p ∧ ((p' = none ∧ x.d = none) ∨ ∃ k m, p' = some k ∧ x.d = some m ∧ KTook k m.kind (m.t ++ data))) := by
 cases ok with
 | nil =>
  refine DoesG.enter Tryd.func28 rfl Tryd.ntmps28 rfl (M := N) rfl ?_
  (refine Z4 ?_; refine Z4 ?_)
  refine Z2 (Z0 (Z3 rfl) rfl (Z0 (RV.eqlN rfl rfl rfl) rfl (Z6 (Z1 (Z130 rfl ?_)))))
  (refine CW.ret ?_; refine Z8 ?_)
  refine Z107 (rs := []) [] [] rfl trivial rfl ⟨none, [], rfl, rfl, rfl, .inl ⟨rfl, rfl⟩⟩ (fun w m => m) _ (.inl rfl)
 | some tk own =>
  rename_i k m
  obtain ⟨h1, h2, h3⟩ := tk
  have hb' : m.t.length + data.length ≤ 1099511627776 := hb
  obtain ⟨s', e1, e2, e3, e4⟩ := write_took k.sp m.t data h1 (by omega)
  refine (keccak_Sponge_Write_does w0 Φ N hΦ k.b k.sp A cA data s' va e1).mono ?_
  rintro v G ⟨B, rfl, rfl⟩
  exact ⟨some ⟨k.b, s'⟩, B, rfl, rfl, rfl, .inr ⟨_, m, rfl, rfl, ⟨e2, by rw [List.length_append, e4, h2]; omega, e3.trans h3⟩⟩⟩
theorem PSum_does (w0 : World) (Φ : Ctx) (N : List Ent) (hΦ : ∀ w, Mem w0 w N → Φ w) (hg : View Φ (some ⟨0, 0, none⟩) 2 2 1 (u8s firstL)) (x : KS) (ok : x.Ok) :
  DoesG Tryd.prog 19 [Kp.v x.p] w0 (Kp.E 91 x.p) N (fun u G => u = .agg (u8s x.dig.toList).toArray ∧ ∃ B, G = Kp.E 91 x.p ++ B) := by
 cases ok with
 | nil =>
  refine DoesG.enter Tryd.func19 rfl Tryd.ntmps19 rfl (M := N) rfl (Z4 (Z2 (OW.alloc (l := u8s (List.replicate 32 0#8)) rfl (by rw [← u8s_rep]; rfl) rfl (fun b2 => (Z6 ?_)))))
  (refine Z1 ?_; refine Z4 ?_; refine Z4 ?_)
  refine Z2 (Z0 (Z3 rfl) rfl (Z0 (RV.eqlN rfl rfl rfl) rfl (Z6 (Z1 (Z130 rfl (Z4 (Z2 (Z0 (RV.build0 (l := u8s (List.replicate 32 0#8)) rfl rfl rfl (by rw [← u8s_rep']; rfl)) rfl (Z28 (Z104 (s := 32) rfl rfl rfl (Z117 _) rfl ((Z101 _).trans (List.length_replicate ..)) ((Z101 _).trans (List.length_replicate ..))) ?_)))))))))
  refine Z6 ?_
  (refine Z1 ?_; refine CW.ret ?_; refine Z8 ?_)
  refine Z107 (rs := [.cell 2 39]) [.agg (u8s (List.replicate 32 0#8)).toArray] [] rfl ?_ rfl ⟨by show _ = Value.agg (u8s (Vector.replicate 32 0#8).toList).toArray; rw [Vector.toList_replicate]; rfl, [], rfl⟩ (fun w m => m.tail) _ (.inl rfl)
  exact ⟨⟨_, _, _, _, rfl, Zh, rfl, rfl, (congrArg some ((Z101 _).trans (List.length_replicate ..))).symm, rfl⟩, trivial⟩
 | some tk own =>
  rename_i k m
  obtain ⟨h1, h2, h3⟩ := tk
  have hs : keccak_Sponge_Sum k.sp = some (digestR m.t (if m.kind = 1 then 6#8 else 1#8), k.sp) := by
   refine ssum_eq k.sp m.t h1 _ ?_
   rcases own.kd with h | h
   ·exact .inl ⟨h3.trans h, by rw [if_neg (by omega)]⟩
   ·exact .inr ⟨h3.trans h, by rw [if_pos h]⟩
  refine (keccak_Sponge_Sum_does w0 Φ N hΦ k.b k.sp _ k.sp hg hs).mono ?_
  rintro v G ⟨B, rfl, rfl⟩
  exact ⟨rfl, B, rfl⟩
theorem PLen_does (w0 : World) (N : List Ent) (x : KS) (ok : x.Ok) (hb : x.len ≤ 1099511627776) :
  DoesG Tryd.prog 21 [Kp.v x.p] w0 (Kp.E 91 x.p) N (fun u G => u = .int .i64 (x.len : Int) ∧ ∃ B, G = Kp.E 91 x.p ++ B) := by
 cases ok with
 | nil =>
  refine DoesG.enter Tryd.func21 rfl Tryd.ntmps21 rfl (M := N) rfl (Z4 (Z2 (Z0 (Z5 rfl) rfl (Z6 ?_))))
  (refine Z1 ?_; refine Z4 ?_; refine Z4 ?_)
  refine Z2 (Z0 (Z3 rfl) rfl (Z0 (RV.eqlN rfl rfl rfl) rfl (Z6 (Z1 (Z130 rfl (Z4 (Z2 (Z0 (Z5 rfl) rfl (Z6 ?_)))))))))
  (refine Z1 ?_; refine CW.ret ?_; refine Z8 ?_)
  refine Z107 (rs := [.tmp 2]) [.int .i64 0] [] rfl ⟨rfl, trivial⟩ rfl ⟨rfl, [], rfl⟩ (fun w m => m) _ (.inl rfl)
 | some tk own =>
  rename_i k m
  obtain ⟨h1, h2, h3⟩ := tk
  have hb' : m.t.length ≤ 1099511627776 := hb
  refine (keccak_Sponge_Len_does w0 (fun w => Mem w0 w N) N (fun w m => m) k.b k.sp k.sp.long k.sp (by unfold keccak_Sponge_Len; rw [if_pos (by omega)])).mono ?_
  rintro v G ⟨B, _, rfl, rfl⟩
  exact ⟨congrArg (Value.int .i64) h2, B, rfl⟩
theorem PReset_does (w0 : World) (N : List Ent) (x : KS) (ok : x.Ok) :
  DoesG Tryd.prog 29 [Kp.v x.p] w0 (Kp.E 91 x.p) N
   (fun u G => ∃ (p' : Option Kp) (B : List Ent), u = .tuple #[] ∧ G = Kp.E 91 p' ++ B ∧ Kp.v p' = Kp.v x.p ∧ ((p' = none ∧ x.d = none) ∨ ∃ k m, p' = some k ∧ x.d = some m ∧ KTook k m.kind [])) := by
 cases ok with
 | nil =>
  refine DoesG.enter Tryd.func29 rfl Tryd.ntmps29 rfl (M := N) rfl (Z4 (Z2 (Z0 (Z3 rfl) rfl (Z0 (RV.neqN rfl rfl rfl) rfl (Z6 (Z1 (Z109 rfl (CW.skip ?_))))))))
  refine Z107 (rs := []) [] [] rfl trivial rfl ⟨none, [], rfl, rfl, rfl, .inl ⟨rfl, rfl⟩⟩ (fun w m => m) _ (.inr rfl)
 | some tk own =>
  rename_i k m
  obtain ⟨h1, h2, h3⟩ := tk
  refine (keccak_Sponge_Reset_does w0 (fun w => Mem w0 w N) N (fun w m => m) k.b k.sp _ rfl).mono ?_
  rintro v G ⟨B, rfl, rfl⟩
  exact ⟨some ⟨k.b, spZ k.sp.kind⟩, B, rfl, rfl, rfl, .inr ⟨_, m, rfl, rfl, ⟨took_zero _, rfl, h3⟩⟩⟩
theorem PCopy_does (w0 : World) (N : List Ent) (x : KS) (ok : x.Ok) :
  DoesG Tryd.prog 30 [Kp.v x.p] w0 (Kp.E 91 x.p) N
   (fun u G => ∃ (p' : Option Kp), u = Kp.v p' ∧ G = Kp.E 91 p' ++ Kp.E 91 x.p ∧ ((p' = none ∧ x.d = none) ∨ ∃ k m, p' = some k ∧ x.d = some m ∧ KTook k m.kind m.t)) := by
 cases ok with
 | nil =>
  refine DoesG.enter Tryd.func30 rfl Tryd.ntmps30 rfl (M := N) rfl (Z4 (Z2 (Z0 (Z5 rfl) rfl (Z6 ?_))))
  (refine Z1 ?_; refine Z4 ?_; refine Z4 ?_)
  refine Z2 (Z0 (Z3 rfl) rfl (Z0 (RV.eqlN rfl rfl rfl) rfl (Z6 (Z1 (Z130 rfl (Z4 (Z2 (Z0 (Z5 rfl) rfl (Z6 ?_)))))))))
  (refine Z1 ?_; refine CW.ret ?_; refine Z8 ?_)
  refine Z107 (rs := [.tmp 2]) [.pointer none] [] rfl ⟨rfl, trivial⟩ rfl ⟨none, rfl, rfl, .inl ⟨rfl, rfl⟩⟩ (fun w m => m) _ (.inl rfl)
 | some tk own =>
  rename_i k m
  refine DoesG.enter Tryd.func30 rfl Tryd.ntmps30 rfl (M := (some k.b, blk k.sp.C 91) :: N) rfl (Z4 (Z2 (Z0 (Z5 rfl) rfl (Z6 ?_))))
  (refine Z1 ?_; refine Z4 ?_; refine Z4 ?_)
  refine Z2 (Z0 (Z3 rfl) rfl (Z0 (RV.eqlS rfl rfl rfl) rfl (Z6 (Z1 (Z109 rfl ?_)))))
  (refine CW.skip ?_; refine Z1 ?_; refine Z4 ?_)
  refine Z2 (Z0 (Z3 rfl) rfl (Z0 (RV.nilCheck rfl) rfl (Z0 (Z22 rfl Zh rfl rfl rfl rfl (Sponge.C_length _)) rfl (OW.alloc (l := (spZ 0).C) rfl (by kernel_rfl) rfl (fun b3 => (Z28 (Z104 rfl rfl rfl (Sponge.C_one _) rfl (Sponge.C_length _) (Sponge.C_length _)) (Z6 ?_)))))))
  (refine Z1 ?_; refine Z4 ?_)
  refine Z2 (Z0 (Z5 rfl) rfl (Z6 ?_))
  (refine Z1 ?_; refine CW.ret ?_)
  refine Z107 (rs := [.tmp 2]) [ptr (some b3) 0] [(some b3, blk k.sp.C 91), (some k.b, blk k.sp.C 91)] rfl ⟨rfl, trivial⟩ rfl ⟨some ⟨b3, k.sp⟩, rfl, rfl, .inr ⟨_, m, rfl, rfl, ⟨tk.tk, tk.lg, tk.kd⟩⟩⟩ (fun w m => m) _ (.inl rfl)
theorem KNew_does (w0 : World) (N : List Ent) (kind : Int) :
  DoesG Tryd.prog 31 [.int .i64 kind] w0 [] N
   (fun u G => (¬ (kind = 0 ∨ kind = 1) ∧ u = .tuple #[.pointer none, .int .i64 1] ∧ G = []) ∨ ((kind = 0 ∨ kind = 1) ∧ ∃ b, u = .tuple #[ptr (some b) 0, .int .i64 0] ∧ G = [(some b, blk (spZ kind).C 91)])) := by
 refine DoesG.enter Tryd.func31 rfl Tryd.ntmps31 rfl (M := N) rfl (Z4 (Z2 (Z0 (Z5 rfl) rfl (Z0 (Z5 rfl) rfl (Z6 ?_)))))
 (refine Z1 ?_; refine Z4 ?_; refine Z4 ?_)
 by_cases hk : kind = 0 ∨ kind = 1
 ·have hne : (kind ≠ 0 && kind ≠ 1) = false := by rcases hk with h | h <;> simp [h]
  refine Z2 (Z0 (Z3 rfl) rfl (Z0 (RV.neq rfl rfl) rfl (Z0 (Z3 rfl) rfl ?_)))
  by_cases h0 : kind = 0
  ·refine Z23 (y := .bool (!decide (kind = 0))) rfl (by simp [h0]) rfl (Z23 (y := .bool (!decide (kind = 0))) rfl (by simp [h0]) rfl (Z0 (Z115 (by simp [lk, ev, h0]) rfl rfl) rfl (Z6 (Z1 (Z109 rfl ?_)))))
   (refine CW.skip ?_; refine Z1 ?_; refine Z4 ?_)
   refine Z2 (Z0 (Z3 rfl) rfl ?_)
   refine Z0 (Z112 (l := (spZ 0).C) (cs := (spZ kind).C) [(0, [.int .i64 kind])] rfl rfl rfl (by kernel_rfl) rfl rfl (by refine (fillL_cons rfl rfl (by rw [Sponge.C_length]; exact Nat.le_of_ble_eq_true rfl)).trans ?_; rw [spl_one (by rw [Sponge.C_length]; exact Nat.le_of_ble_eq_true rfl), Sponge.C_kind_set]; rfl)) rfl ?_
   refine OW.boxA rfl rfl (fun b => (Z0 (Z5 rfl) rfl (Z0 (Z5 rfl) rfl (Z6 ?_))))
   (refine Z1 ?_; refine CW.ret ?_)
   refine Z107 (rs := [.tmp 2, .tmp 3]) [ptr (some b) 0, .int .i64 0] [(some b, blk (spZ kind).C 91)] rfl ⟨rfl, rfl, trivial⟩ rfl (.inr ⟨hk, b, rfl, rfl⟩) (fun w m => m) _ (.inl rfl)
  ·have h1 : kind = 1 := by omega
   refine Z7 (.bool true) (by simp [h0]) (Z24 rfl (Z0 (Z3 rfl) rfl (Z24 rfl (Z0 (RV.neq_f rfl rfl h1) rfl (Z0 (RV.pick_t rfl rfl rfl) rfl (Z6 (Z1 (Z109 rfl ?_))))))))
   (refine CW.skip ?_; refine Z1 ?_; refine Z4 ?_)
   refine Z2 (Z0 (Z3 rfl) rfl ?_)
   refine Z0 (Z112 (l := (spZ 0).C) (cs := (spZ kind).C) [(0, [.int .i64 kind])] rfl rfl rfl (by kernel_rfl) rfl rfl (by refine (fillL_cons rfl rfl (by rw [Sponge.C_length]; exact Nat.le_of_ble_eq_true rfl)).trans ?_; rw [spl_one (by rw [Sponge.C_length]; exact Nat.le_of_ble_eq_true rfl), Sponge.C_kind_set]; rfl)) rfl ?_
   refine OW.boxA rfl rfl (fun b => (Z0 (Z5 rfl) rfl (Z0 (Z5 rfl) rfl (Z6 ?_))))
   (refine Z1 ?_; refine CW.ret ?_)
   refine Z107 (rs := [.tmp 2, .tmp 3]) [ptr (some b) 0, .int .i64 0] [(some b, blk (spZ kind).C 91)] rfl ⟨rfl, rfl, trivial⟩ rfl (.inr ⟨hk, b, rfl, rfl⟩) (fun w m => m) _ (.inl rfl)
 ·skip
  refine Z2 (Z0 (Z3 rfl) rfl (Z0 (RV.neq_t rfl rfl (by omega)) rfl (Z0 (Z3 rfl) rfl (Z24 rfl (Z0 (Z3 rfl) rfl (Z24 rfl (Z0 (RV.neq_t rfl rfl (by omega)) rfl ?_)))))))
  refine Z0 (RV.pick_t rfl rfl rfl) rfl (Z6 (Z1 (Z130 rfl (Z4 (Z2 (Z0 (Z5 rfl) rfl (Z0 (Z5 rfl) rfl (Z6 ?_))))))))
  (refine Z1 ?_; refine CW.ret ?_; refine Z8 ?_)
  refine Z107 (rs := [.tmp 2, .tmp 3]) [.pointer none, .int .i64 1] [] rfl ⟨rfl, rfl, trivial⟩ rfl (.inl ⟨hk, rfl, rfl⟩) (fun w m => m) _ (.inl rfl)
theorem DWrite_does (w0 : World) (Φ : Ctx) (N : List Ent) (hΦ : ∀ w, Mem w0 w N → Φ w) (x : KS) (ok : x.Ok) (A : Option Addr) (cA : Nat) (data : List (BitVec 8)) (va : View Φ A data.length cA 1 (u8s data)) (hb : x.len + data.length ≤ 1099511627776) :
  DoesG Tryd.prog 55 [Kd.v x.d, .slice A data.length cA] w0 (Kd.E 93 x.d) N
   (fun u G => ∃ (d' : Option Kd) (B : List Ent), u = .tuple #[] ∧ G = Kd.E 93 d' ++ B ∧ Kd.v d' = Kd.v x.d ∧ ((x.d = none ∧ d' = none) ∨ ∃ m m', x.d = some m ∧ d' = some m' ∧ m'.t = m.t ++ data ∧ m'.kind = m.kind ∧ KOwn m')) := by
 cases ok with
 | nil =>
  refine DoesG.enter Tryd.func55 rfl Tryd.ntmps55 rfl (M := N) rfl (Z4 (Z2 (Z0 (Z3 rfl) rfl (Z0 (RV.neqN rfl rfl rfl) rfl (Z6 (Z1 (Z109 rfl (CW.skip ?_))))))))
  refine Z107 (rs := []) [] [] rfl trivial rfl ⟨none, [], rfl, rfl, rfl, .inl ⟨rfl, rfl⟩⟩ (fun w m => m) _ (.inr rfl)
 | some tk own =>
  rename_i k m
  obtain ⟨d, kind, t, oe, ce, re⟩ := m
  obtain ⟨hkd, ho⟩ := own
  dsimp only at hkd ho
  have hb' : t.length + data.length ≤ 1099511627776 := hb
  refine DoesG.enter Tryd.func55 rfl Tryd.ntmps55 rfl (M := (some d, blk [.int .i64 kind, sl oe 0 t.length ce] 93) :: (oe, blk (u8s t ++ re) 5) :: N) rfl (Z4 (Z2 (Z0 (Z3 rfl) rfl (Z0 (RV.neqS rfl rfl rfl) rfl (Z6 (Z1 (Z130 rfl (Z2 (Z0 (Z3 rfl) rfl ?_)))))))))
  refine Z0 (Z3 rfl) rfl (Z0 (RV.nilCheck rfl) rfl (Z0 (Z30 rfl rfl rfl rfl) rfl (Z0 (Z29 rfl Zh rfl rfl rfl (v := sl oe 0 t.length ce) rfl) rfl (Z0 (Z3 rfl) rfl ?_))))
  refine Z20 (M' := (oe, blk (u8s t ++ re) 5) :: (some d, blk [.int .i64 kind, sl oe 0 t.length ce] 93) :: N) (fun w m => m.pick [1, 0] 2 rfl rfl) ?_; refine OW.appendOwn (s := 1) rfl rfl rfl rfl rfl rfl ho (fun w m => va.rd w (hΦ w (m.drop 2))) ((Z101 _).trans (Nat.mul_one _).symm) (Z117 _) (va.zero (by decide)) (by decide) (by decide) (by simp only [i5]; omega) rfl rfl (t ++ data).length (u8s (t ++ data)) List.length_append.symm (u8s_app ..) (fun o2 r2 c2 ow2 => ?_); refine Z20 (M' := (some d, blk [.int .i64 kind, sl oe 0 t.length ce] 93) :: (o2, blk (u8s (t ++ data) ++ r2) 5) :: N) (fun w m => m.pick [1, 0] 2 rfl rfl) ?_
  refine Z0 (RV.nilCheck rfl) rfl (Z0 (Z30 rfl rfl rfl rfl) rfl (Z28 (SV.store (v := sl o2 0 (t ++ data).length c2) rfl rfl rfl rfl rfl (by exact Nat.le_of_ble_eq_true rfl)) (Z6 ?_)))
  refine Z107 (rs := []) [] [(some d, blk [.int .i64 kind, sl o2 0 (t ++ data).length c2] 93), (o2, blk (u8s (t ++ data) ++ r2) 5)] rfl trivial rfl ⟨some ⟨d, kind, t ++ data, o2, c2, r2⟩, [], rfl, rfl, rfl, .inr ⟨_, _, rfl, rfl, rfl, rfl, ⟨hkd, ow2⟩⟩⟩ (fun w m => m) _ (.inr rfl)
theorem DSum_does (w0 : World) (N : List Ent) (hTn : ∀ i, i < 25 → w0.cell? ⟨4, i, none⟩ = some (.int .i64 (turnsL.getD i 0))) (hRn : ∀ i, i < 24 → w0.cell? ⟨3, i, none⟩ = some (U64 (g64 roundsL i))) (x : KS) (ok : x.Ok) (hb : x.len ≤ 1099511627776) :
  DoesG Tryd.prog 20 [Kd.v x.d] w0 (Kd.E 93 x.d) N (fun u G => u = .agg (u8s x.dig.toList).toArray ∧ ∃ B, G = Kd.E 93 x.d ++ B) := by
 cases ok with
 | nil =>
  refine DoesG.enter Tryd.func20 rfl Tryd.ntmps20 rfl (M := N) rfl (Z4 (Z2 (OW.alloc (l := u8s (List.replicate 32 0#8)) rfl (by rw [← u8s_rep]; rfl) rfl (fun b2 => (Z6 ?_)))))
  (refine Z1 ?_; refine Z4 ?_; refine Z4 ?_)
  refine Z2 (Z0 (Z3 rfl) rfl (Z0 (RV.eqlN rfl rfl rfl) rfl (Z6 (Z1 (Z130 rfl (Z4 (Z2 (Z0 (RV.build0 (l := u8s (List.replicate 32 0#8)) rfl rfl rfl (by rw [← u8s_rep']; rfl)) rfl (Z28 (Z104 (s := 32) rfl rfl rfl (Z117 _) rfl ((Z101 _).trans (List.length_replicate ..)) ((Z101 _).trans (List.length_replicate ..))) ?_)))))))))
  refine Z6 ?_
  (refine Z1 ?_; refine CW.ret ?_; refine Z8 ?_)
  refine Z107 (rs := [.cell 2 39]) [.agg (u8s (List.replicate 32 0#8)).toArray] [] rfl ?_ rfl ⟨by show _ = Value.agg (u8s (Vector.replicate 32 0#8).toList).toArray; rw [Vector.toList_replicate]; rfl, [], rfl⟩ (fun w m => m.tail) _ (.inl rfl)
  exact ⟨⟨_, _, _, _, rfl, Zh, rfl, rfl, (congrArg some ((Z101 _).trans (List.length_replicate ..))).symm, rfl⟩, trivial⟩
 | some tk own =>
  rename_i k m
  obtain ⟨d, kind, t, oe, ce, re⟩ := m
  obtain ⟨hkd, ho⟩ := own
  dsimp only at hkd ho
  have hb' : t.length ≤ 1099511627776 := hb
  refine DoesG.enter Tryd.func20 rfl Tryd.ntmps20 rfl (M := (some d, blk [.int .i64 kind, sl oe 0 t.length ce] 93) :: (oe, blk (u8s t ++ re) 5) :: N) rfl (Z4 (Z2 (OW.alloc (l := u8s (List.replicate 32 0#8)) rfl (by rw [← u8s_rep]; rfl) rfl (fun b2 => (Z6 ?_)))))
  (refine Z1 ?_; refine Z4 ?_; refine Z4 ?_)
  refine Z2 (Z0 (Z3 rfl) rfl (Z0 (RV.eqlS rfl rfl rfl) rfl (Z6 (Z1 (Z109 rfl ?_)))))
  (refine CW.skip ?_; refine Z1 ?_; refine Z4 ?_)
  refine Z2 (Z0 (Z5 rfl) rfl (Z6 ?_))
  (refine Z1 ?_; refine Z4 ?_; refine Z4 ?_)
  refine Z2 (Z0 (Z3 rfl) rfl (Z0 (RV.nilCheck rfl) rfl (Z0 (Z30 rfl rfl rfl rfl) rfl (Z0 (Z29 rfl (List.Mem.tail _ Zh) rfl rfl rfl (v := .int .i64 kind) rfl) rfl (Z0 (RV.eql rfl rfl) rfl (Z6 (Z1 ?_)))))))
  refine Z106 rfl (fun hk1 => ?_) (fun hk1 => ?_)
  ·skip
   refine Z2 (Z0 (Z5 rfl) rfl (Z6 ?_))
   (refine Z1 ?_; refine Z4 ?_)
   refine Z2 (Z0 (Z3 rfl) rfl (Z0 (RV.nilCheck rfl) rfl (Z0 (Z30 rfl rfl rfl rfl) rfl (Z0 (Z29 rfl (List.Mem.tail _ Zh) rfl rfl rfl (v := sl oe 0 t.length ce) rfl) rfl (Z0 (Z3 rfl) rfl ?_)))))
   refine Z12 Tryd.call60 rfl (Z123 w0 (fun w => Mem w0 w [(oe, blk (u8s t ++ re) 5)]) ((some b2, blk (u8s (List.replicate 32 0#8)) 39) :: (some d, blk [.int .i64 kind, sl oe 0 t.length ce] 93) :: (oe, blk (u8s t ++ re) 5) :: N) (fun w m => m.tail.tail.sublist (List.singleton_sublist.2 (List.mem_cons_self ..))) (oe.map fun k => ⟨k, 0, none⟩) ce t 6#8 (digestR t 6#8) (ho.view (te := 5) (w0 := w0) (by decide) (fun w q => q)) hTn hRn (rdigest_eq t 6#8 (by omega))) rfl rfl ?_; rintro _ G3 rfl; refine Z20 (M' := (some b2, blk (u8s (List.replicate 32 0#8)) 39) :: (some d, blk [.int .i64 kind, sl oe 0 t.length ce] 93) :: (oe, blk (u8s t ++ re) 5) :: N) (fun w m => m.appR) ?_
   refine OW.alloc (l := u8s (List.replicate 32 0#8)) rfl (by rw [← u8s_rep]; rfl) rfl (fun b4 => (Z28 (Z104 (s := 32) rfl rfl rfl (Z117 _) rfl ((Z101 _).trans (List.length_replicate ..)) ((Z101 _).trans Zv)) (Z6 ?_)))
   (refine Z1 ?_; refine Z4 ?_)
   refine CW.mem (M' := (some b2, blk (u8s (List.replicate 32 0#8)) 39) :: (some b4, blk (u8s (digestR t 6#8).toList) 39) :: (some d, blk [.int .i64 kind, sl oe 0 t.length ce] 93) :: (oe, blk (u8s t ++ re) 5) :: N) (fun w m => m.pick [1, 0] 2 rfl rfl) (Z2 (Z0 (Z22 rfl (List.Mem.tail _ Zh) rfl rfl rfl rfl ((Z101 _).trans Zv)) rfl (Z28 (Z104 (s := 32) rfl rfl rfl (Z117 _) rfl ((Z101 _).trans (List.length_replicate ..)) ((Z101 _).trans Zv)) (Z6 ?_))))
   (refine Z1 ?_; refine CW.ret ?_)
   refine Z107 (rs := [.cell 2 39]) [.agg (u8s (digestR t 6#8).toList).toArray] [(some d, blk [.int .i64 kind, sl oe 0 t.length ce] 93), (oe, blk (u8s t ++ re) 5)] rfl ?_ rfl ⟨by unfold KS.dig; dsimp only; rw [if_pos hk1]; rfl, [], rfl⟩ (fun w m => m.tail.tail) _ (.inl rfl)
   exact ⟨⟨_, _, _, _, rfl, Zh, rfl, rfl, (congrArg some ((Z101 _).trans Zv)).symm, rfl⟩, trivial⟩
  ·(refine CW.skip ?_; refine Z1 ?_; refine Z4 ?_)
   refine Z2 (Z0 (Z3 rfl) rfl (Z0 (RV.nilCheck rfl) rfl (Z0 (Z30 rfl rfl rfl rfl) rfl (Z0 (Z29 rfl (List.Mem.tail _ Zh) rfl rfl rfl (v := sl oe 0 t.length ce) rfl) rfl (Z0 (Z3 rfl) rfl ?_)))))
   refine Z12 Tryd.call60 rfl (Z123 w0 (fun w => Mem w0 w [(oe, blk (u8s t ++ re) 5)]) ((some b2, blk (u8s (List.replicate 32 0#8)) 39) :: (some d, blk [.int .i64 kind, sl oe 0 t.length ce] 93) :: (oe, blk (u8s t ++ re) 5) :: N) (fun w m => m.tail.tail.sublist (List.singleton_sublist.2 (List.mem_cons_self ..))) (oe.map fun k => ⟨k, 0, none⟩) ce t 1#8 (digestR t 1#8) (ho.view (te := 5) (w0 := w0) (by decide) (fun w q => q)) hTn hRn (rdigest_eq t 1#8 (by omega))) rfl rfl ?_; rintro _ G3 rfl; refine Z20 (M' := (some b2, blk (u8s (List.replicate 32 0#8)) 39) :: (some d, blk [.int .i64 kind, sl oe 0 t.length ce] 93) :: (oe, blk (u8s t ++ re) 5) :: N) (fun w m => m.appR) ?_
   refine OW.alloc (l := u8s (List.replicate 32 0#8)) rfl (by rw [← u8s_rep]; rfl) rfl (fun b4 => (Z28 (Z104 (s := 32) rfl rfl rfl (Z117 _) rfl ((Z101 _).trans (List.length_replicate ..)) ((Z101 _).trans Zv)) (Z6 ?_)))
   (refine Z1 ?_; refine Z4 ?_)
   refine CW.mem (M' := (some b2, blk (u8s (List.replicate 32 0#8)) 39) :: (some b4, blk (u8s (digestR t 1#8).toList) 39) :: (some d, blk [.int .i64 kind, sl oe 0 t.length ce] 93) :: (oe, blk (u8s t ++ re) 5) :: N) (fun w m => m.pick [1, 0] 2 rfl rfl) (Z2 (Z0 (Z22 rfl (List.Mem.tail _ Zh) rfl rfl rfl rfl ((Z101 _).trans Zv)) rfl (Z28 (Z104 (s := 32) rfl rfl rfl (Z117 _) rfl ((Z101 _).trans (List.length_replicate ..)) ((Z101 _).trans Zv)) (Z6 ?_))))
   (refine Z1 ?_; refine CW.ret ?_)
   refine Z107 (rs := [.cell 2 39]) [.agg (u8s (digestR t 1#8).toList).toArray] [(some d, blk [.int .i64 kind, sl oe 0 t.length ce] 93), (oe, blk (u8s t ++ re) 5)] rfl ?_ rfl ⟨by unfold KS.dig; dsimp only; rw [if_neg hk1]; rfl, [], rfl⟩ (fun w m => m.tail.tail) _ (.inl rfl)
   exact ⟨⟨_, _, _, _, rfl, Zh, rfl, rfl, (congrArg some ((Z101 _).trans Zv)).symm, rfl⟩, trivial⟩
theorem DLen_does (w0 : World) (N : List Ent) (x : KS) (ok : x.Ok) :
  DoesG Tryd.prog 22 [Kd.v x.d] w0 (Kd.E 93 x.d) N (fun u G => u = .int .i64 (x.len : Int) ∧ ∃ B, G = Kd.E 93 x.d ++ B) := by
 cases ok with
 | nil =>
  refine DoesG.enter Tryd.func22 rfl Tryd.ntmps22 rfl (M := N) rfl (Z4 (Z2 (Z0 (Z5 rfl) rfl (Z6 ?_))))
  (refine Z1 ?_; refine Z4 ?_; refine Z4 ?_)
  refine Z2 (Z0 (Z3 rfl) rfl (Z0 (RV.eqlN rfl rfl rfl) rfl (Z6 (Z1 (Z130 rfl (Z4 (Z2 (Z0 (Z5 rfl) rfl (Z6 ?_)))))))))
  (refine Z1 ?_; refine CW.ret ?_; refine Z8 ?_)
  refine Z107 (rs := [.tmp 2]) [.int .i64 0] [] rfl ⟨rfl, trivial⟩ rfl ⟨rfl, [], rfl⟩ (fun w m => m) _ (.inl rfl)
 | some tk own =>
  rename_i k m
  obtain ⟨d, kind, t, oe, ce, re⟩ := m
  refine DoesG.enter Tryd.func22 rfl Tryd.ntmps22 rfl (M := (some d, blk [.int .i64 kind, sl oe 0 t.length ce] 93) :: (oe, blk (u8s t ++ re) 5) :: N) rfl (Z4 (Z2 (Z0 (Z5 rfl) rfl (Z6 ?_))))
  (refine Z1 ?_; refine Z4 ?_; refine Z4 ?_)
  refine Z2 (Z0 (Z3 rfl) rfl (Z0 (RV.eqlS rfl rfl rfl) rfl (Z6 (Z1 (Z109 rfl ?_)))))
  (refine CW.skip ?_; refine Z1 ?_; refine Z4 ?_)
  refine Z2 (Z0 (Z3 rfl) rfl (Z0 (RV.nilCheck rfl) rfl (Z0 (Z30 rfl rfl rfl rfl) rfl (Z0 (Z29 rfl Zh rfl rfl rfl (v := sl oe 0 t.length ce) rfl) rfl (Z0 (RV.len rfl rfl) rfl (Z0 (Z5 rfl) rfl (Z6 ?_)))))))
  (refine Z1 ?_; refine CW.ret ?_)
  refine Z107 (rs := [.tmp 2]) [.int .i64 (t.length : Int)] [(some d, blk [.int .i64 kind, sl oe 0 t.length ce] 93), (oe, blk (u8s t ++ re) 5)] rfl ⟨rfl, trivial⟩ rfl ⟨rfl, [], rfl⟩ (fun w m => m) _ (.inl rfl)
theorem DReset_does (w0 : World) (N : List Ent) (x : KS) (ok : x.Ok) :
  DoesG Tryd.prog 57 [Kd.v x.d] w0 (Kd.E 93 x.d) N
   (fun u G => ∃ (d' : Option Kd), u = .tuple #[] ∧ G = Kd.E 93 d' ∧ Kd.v d' = Kd.v x.d ∧ ((x.d = none ∧ d' = none) ∨ ∃ m m', x.d = some m ∧ d' = some m' ∧ m'.t = [] ∧ m'.kind = m.kind ∧ KOwn m')) := by
 cases ok with
 | nil =>
  refine DoesG.enter Tryd.func57 rfl Tryd.ntmps57 rfl (M := N) rfl (Z4 (Z2 (Z0 (Z3 rfl) rfl (Z0 (RV.neqN rfl rfl rfl) rfl (Z6 (Z1 (Z109 rfl (CW.skip ?_))))))))
  refine Z107 (rs := []) [] [] rfl trivial rfl ⟨none, rfl, rfl, rfl, .inl ⟨rfl, rfl⟩⟩ (fun w m => m) _ (.inr rfl)
 | some tk own =>
  rename_i k m
  obtain ⟨d, kind, t, oe, ce, re⟩ := m
  obtain ⟨hkd, ho⟩ := own
  refine DoesG.enter Tryd.func57 rfl Tryd.ntmps57 rfl (M := (some d, blk [.int .i64 kind, sl oe 0 t.length ce] 93) :: (oe, blk (u8s t ++ re) 5) :: N) rfl (Z4 (Z2 (Z0 (Z3 rfl) rfl (Z0 (RV.neqS rfl rfl rfl) rfl (Z6 (Z1 (Z130 rfl (Z2 (Z0 (Z3 rfl) rfl ?_)))))))))
  refine Z0 (RV.nilCheck rfl) rfl (Z0 (Z30 rfl rfl rfl rfl) rfl (Z28 (SV.store (v := sl none 0 0 0) rfl rfl rfl rfl rfl (by exact Nat.le_of_ble_eq_true rfl)) (Z6 ?_)))
  refine Z107 (rs := []) [] [(some d, blk [.int .i64 kind, sl none 0 0 0] 93), (none, blk ([] ++ []) 5)] rfl trivial rfl ⟨some ⟨d, kind, [], none, 0, []⟩, rfl, rfl, rfl, .inr ⟨_, _, rfl, rfl, rfl, rfl, ⟨hkd, OwnS.nil⟩⟩⟩ (fun w m => (m.nil_ent _).pick [1, 0] 3 rfl rfl) _ (.inr rfl)
theorem DCopy_does (w0 : World) (N : List Ent) (x : KS) (ok : x.Ok) :
  DoesG Tryd.prog 58 [Kd.v x.d] w0 (Kd.E 93 x.d) N
   (fun u G => ∃ (d' : Option Kd), u = Kd.v d' ∧ G = Kd.E 93 d' ++ Kd.E 93 x.d ∧ ((x.d = none ∧ d' = none) ∨ ∃ m m', x.d = some m ∧ d' = some m' ∧ m'.t = m.t ∧ m'.kind = m.kind ∧ KOwn m')) := by
 cases ok with
 | nil =>
  refine DoesG.enter Tryd.func58 rfl Tryd.ntmps58 rfl (M := N) rfl (Z4 (Z2 (Z0 (Z5 rfl) rfl (Z6 ?_))))
  (refine Z1 ?_; refine Z4 ?_; refine Z4 ?_)
  refine Z2 (Z0 (Z3 rfl) rfl (Z0 (RV.eqlN rfl rfl rfl) rfl (Z6 (Z1 (Z130 rfl (Z4 (Z2 (Z0 (Z5 rfl) rfl (Z6 ?_)))))))))
  (refine Z1 ?_; refine CW.ret ?_; refine Z8 ?_)
  refine Z107 (rs := [.tmp 2]) [.pointer none] [] rfl ⟨rfl, trivial⟩ rfl ⟨none, rfl, rfl, .inl ⟨rfl, rfl⟩⟩ (fun w m => m) _ (.inl rfl)
 | some tk own =>
  rename_i k m
  obtain ⟨d, kind, t, oe, ce, re⟩ := m
  obtain ⟨hkd, ho⟩ := own
  dsimp only at hkd ho
  have hm := ho.mx
  refine DoesG.enter Tryd.func58 rfl Tryd.ntmps58 rfl (M := (some d, blk [.int .i64 kind, sl oe 0 t.length ce] 93) :: (oe, blk (u8s t ++ re) 5) :: N) rfl (Z4 (Z2 (Z0 (Z5 rfl) rfl (Z6 ?_))))
  (refine Z1 ?_; refine Z4 ?_; refine Z4 ?_)
  refine Z2 (Z0 (Z3 rfl) rfl (Z0 (RV.eqlS rfl rfl rfl) rfl (Z6 (Z1 (Z109 rfl ?_)))))
  (refine CW.skip ?_; refine Z1 ?_; refine Z4 ?_)
  refine Z2 (Z0 (Z5 rfl) rfl (Z6 ?_))
  (refine Z1 ?_; refine Z4 ?_)
  refine Z2 (Z0 (Z3 rfl) rfl (Z0 (Z3 rfl) rfl (Z0 (RV.nilCheck rfl) rfl (Z0 (Z30 rfl rfl rfl rfl) rfl (Z0 (Z29 rfl Zh rfl rfl rfl (v := sl oe 0 t.length ce) rfl) rfl ?_)))))
  refine Z20 (M' := (none, blk ([] ++ []) 5) :: (some d, blk [.int .i64 kind, sl oe 0 t.length ce] 93) :: (oe, blk (u8s t ++ re) 5) :: N) (fun w m => m.nil_ent _) ?_; refine OW.appendOwn (s := 1) (vs := u8s t) rfl rfl rfl rfl rfl rfl OwnS.nil (fun w m => m.rd0 (List.Mem.tail _ (List.Mem.tail _ Zh)) (fun e => by have h1 := ho.hn e; have h2 := ho.le (by decide); exact List.length_eq_zero_iff.1 (by rw [Z101]; omega))) ((Z101 _).trans (Nat.mul_one _).symm) (Z117 _) (fun e => by have h2 := ho.le (by decide); cases oe with
   | none => have h1 := ho.hn rfl; omega
   | some _ => cases e) (by decide) (by decide) (by simp only [i5]; omega) rfl rfl t.length (u8s t) (Nat.zero_add _) rfl (fun o2 r2 c2 ow2 => ?_)
  refine Z0 (Z5 rfl) rfl (Z6 ?_)
  (refine Z1 ?_; refine Z4 ?_)
  refine Z2 (Z0 (Z3 rfl) rfl (Z0 (RV.nilCheck rfl) rfl (Z0 (Z30 rfl rfl rfl rfl) rfl (Z0 (Z29 rfl (List.Mem.tail _ Zh) rfl rfl rfl (v := .int .i64 kind) rfl) rfl (Z0 (Z3 rfl) rfl (Z0 (Z112 (l := [.int .i64 0, sl none 0 0 0]) (cs := [.int .i64 kind, sl o2 0 t.length c2]) [(0, [.int .i64 kind]), (1, [sl o2 0 t.length c2])] rfl rfl rfl rfl rfl rfl rfl) rfl (OW.boxA rfl rfl (fun b2 => ?_))))))))
  refine Z0 (Z5 rfl) rfl (Z6 ?_)
  (refine Z1 ?_; refine CW.ret ?_)
  refine Z107 (rs := [.tmp 2]) [ptr (some b2) 0] [(some b2, blk [.int .i64 kind, sl o2 0 t.length c2] 93), (o2, blk (u8s t ++ r2) 5), (some d, blk [.int .i64 kind, sl oe 0 t.length ce] 93), (oe, blk (u8s t ++ re) 5)] rfl ⟨rfl, trivial⟩ rfl ⟨some ⟨b2, kind, t, o2, c2, r2⟩, rfl, rfl, .inr ⟨_, _, rfl, rfl, rfl, rfl, ⟨hkd, ow2⟩⟩⟩ (fun w m => m) _ (.inl rfl)
theorem DNew_does (w0 : World) (N : List Ent) (kind : Int) :
  DoesG Tryd.prog 53 [.int .i64 kind] w0 [] N
   (fun u G => (¬ (kind = 0 ∨ kind = 1) ∧ u = .tuple #[.pointer none, .int .i64 1] ∧ G = []) ∨ ((kind = 0 ∨ kind = 1) ∧ ∃ b, u = .tuple #[ptr (some b) 0, .int .i64 0] ∧ G = [(some b, blk [.int .i64 kind, sl none 0 0 0] 93)])) := by
 refine DoesG.enter Tryd.func53 rfl Tryd.ntmps53 rfl (M := N) rfl (Z4 (Z2 (Z0 (Z5 rfl) rfl (Z0 (Z5 rfl) rfl (Z6 ?_)))))
 (refine Z1 ?_; refine Z4 ?_; refine Z4 ?_)
 by_cases hk : kind = 0 ∨ kind = 1
 ·skip
  refine Z2 (Z0 (Z3 rfl) rfl ?_)
  by_cases h0 : kind = 0
  ·refine Z0 (RV.neq_f rfl rfl h0) rfl (Z0 (Z3 rfl) rfl (Z23 rfl rfl rfl (Z23 rfl rfl rfl (Z0 (Z115 rfl rfl rfl) rfl (Z6 (Z1 (Z109 rfl ?_)))))))
   (refine CW.skip ?_; refine Z1 ?_; refine Z4 ?_)
   refine Z2 (Z0 (Z3 rfl) rfl (Z0 (Z112 (l := [.int .i64 0, sl none 0 0 0]) (cs := [.int .i64 kind, sl none 0 0 0]) [(0, [.int .i64 kind])] rfl rfl rfl rfl rfl rfl rfl) rfl (OW.boxA rfl rfl (fun b => (Z0 (Z5 rfl) rfl (Z0 (Z5 rfl) rfl (Z6 ?_)))))))
   (refine Z1 ?_; refine CW.ret ?_)
   refine Z107 (rs := [.tmp 2, .tmp 3]) [ptr (some b) 0, .int .i64 0] [(some b, blk [.int .i64 kind, sl none 0 0 0] 93)] rfl ⟨rfl, rfl, trivial⟩ rfl (.inr ⟨hk, b, rfl, rfl⟩) (fun w m => m) _ (.inl rfl)
  ·have h1 : kind = 1 := by omega
   refine Z0 (RV.neq_t rfl rfl h0) rfl (Z0 (Z3 rfl) rfl (Z24 rfl (Z0 (Z3 rfl) rfl (Z24 rfl (Z0 (RV.neq_f rfl rfl h1) rfl (Z0 (RV.pick_t rfl rfl rfl) rfl (Z6 (Z1 ?_))))))))
   refine Z109 rfl ?_
   (refine CW.skip ?_; refine Z1 ?_; refine Z4 ?_)
   refine Z2 (Z0 (Z3 rfl) rfl (Z0 (Z112 (l := [.int .i64 0, sl none 0 0 0]) (cs := [.int .i64 kind, sl none 0 0 0]) [(0, [.int .i64 kind])] rfl rfl rfl rfl rfl rfl rfl) rfl (OW.boxA rfl rfl (fun b => (Z0 (Z5 rfl) rfl (Z0 (Z5 rfl) rfl (Z6 ?_)))))))
   (refine Z1 ?_; refine CW.ret ?_)
   refine Z107 (rs := [.tmp 2, .tmp 3]) [ptr (some b) 0, .int .i64 0] [(some b, blk [.int .i64 kind, sl none 0 0 0] 93)] rfl ⟨rfl, rfl, trivial⟩ rfl (.inr ⟨hk, b, rfl, rfl⟩) (fun w m => m) _ (.inl rfl)
 ·skip
  refine Z2 (Z0 (Z3 rfl) rfl (Z0 (RV.neq_t rfl rfl (by omega)) rfl (Z0 (Z3 rfl) rfl (Z24 rfl (Z0 (Z3 rfl) rfl (Z24 rfl (Z0 (RV.neq_t rfl rfl (by omega)) rfl ?_)))))))
  refine Z0 (RV.pick_t rfl rfl rfl) rfl (Z6 (Z1 (Z130 rfl (Z4 (Z2 (Z0 (Z5 rfl) rfl (Z0 (Z5 rfl) rfl (Z6 ?_))))))))
  (refine Z1 ?_; refine CW.ret ?_; refine Z8 ?_)
  refine Z107 (rs := [.tmp 2, .tmp 3]) [.pointer none, .int .i64 1] [] rfl ⟨rfl, rfl, trivial⟩ rfl (.inl ⟨hk, rfl, rfl⟩) (fun w m => m) _ (.inl rfl)
theorem waybilllaw02_play_does (w0 : World) (Φ : Ctx) (N : List Ent) (hΦ : ∀ w, Mem w0 w N → Φ w) (hg : View Φ (some ⟨0, 0, none⟩) 2 2 1 (u8s firstL)) (hTn : ∀ i, i < 25 → w0.cell? ⟨4, i, none⟩ = some (.int .i64 (turnsL.getD i 0))) (hRn : ∀ i, i < 24 → w0.cell? ⟨3, i, none⟩ = some (U64 (g64 roundsL i)))
  (ba : Nat) (l : List KS) (hl3 : l.length = 3) (T : Nat) (hok : ∀ x ∈ l, x.Ok ∧ x.len ≤ T) (kind on other : Int) (hon : -9223372036854775808 ≤ on ∧ on ≤ 9223372036854775807) (hoth : -9223372036854775808 ≤ other ∧ other ≤ 9223372036854775807) (A : Option Addr) (cA : Nat) (data : List (BitVec 8)) (va : View Φ A data.length cA 1 (u8s data)) (hb : T + data.length + 200 ≤ 1099511627776) :
  DoesG Tryd.prog 18 [ptr (some ba) 0, .agg [.int .i64 kind, .int .i64 on, .int .i64 other, .slice A data.length cA].toArray] w0 ((some ba, blk (kyC l) 48) :: kyE 91 93 l) N
   (fun u G => ∃ (l' : List KS) (B : List Ent), u = .bool true ∧ G = (some ba, blk (kyC l') 48) :: (kyE 91 93 l' ++ B) ∧ l'.length = 3 ∧ ∀ x ∈ l', x.Ok ∧ x.len ≤ T + data.length) := by
 obtain ⟨ki, hki, hk3⟩ := which02_eq on hon
 obtain ⟨ko, hko, hko3⟩ := which02_eq other hoth
 have hkl : ki < l.length := by omega
 have hkol : ko < l.length := by omega
 have hlx : l[ki]? = some l[ki] := List.getElem?_eq_getElem hkl
 obtain ⟨okx, hxt⟩ := hok _ (List.getElem_mem hkl)
 have hcx := kyC_at hlx
 generalize hxx : l[ki] = x at *
 have hset : ∀ (kk : Nat) (y : KS), y.Ok → y.len ≤ T + data.length → (l.set kk y).length = 3 ∧ ∀ z ∈ l.set kk y, z.Ok ∧ z.len ≤ T + data.length := fun kk y h1 h2 => ⟨by rw [List.length_set]; exact hl3, fun z hz => by
  rcases List.mem_or_eq_of_mem_set hz with hz | rfl
  ·exact ⟨(hok z hz).1, by have := (hok z hz).2; omega⟩
  ·exact ⟨h1, h2⟩⟩
 refine DoesG.enter Tryd.func18 rfl Tryd.ntmps18 rfl (M := (some ba, blk (kyC l) 48) :: (kyE 91 93 l ++ N)) rfl (Z4 (Z2 (OW.boxA rfl rfl (fun b3 => (Z0 (Z5 rfl) rfl (Z6 ?_))))))
 (refine Z1 ?_; refine Z4 ?_)
 refine Z2 (Z0 (Z30 rfl rfl rfl rfl) rfl (Z0 (Z29 rfl Zh rfl rfl rfl (v := .int .i64 on) rfl) rfl ?_))
 refine Z12 Tryd.call52 rfl (waybilllaw02_which_does w0 (fun w => Mem w0 w ((some b3, blk [.int .i64 kind, .int .i64 on, .int .i64 other, .slice A data.length cA] 52) :: (some ba, blk (kyC l) 48) :: (kyE 91 93 l ++ N))) ((some b3, blk [.int .i64 kind, .int .i64 on, .int .i64 other, .slice A data.length cA] 52) :: (some ba, blk (kyC l) 48) :: (kyE 91 93 l ++ N)) (fun w m => m) on (ki : Int) hon hki) rfl rfl ?_; rintro _ G3 ⟨_, rfl⟩; refine Z20 (M' := (some b3, blk [.int .i64 kind, .int .i64 on, .int .i64 other, .slice A data.length cA] 52) :: (some ba, blk (kyC l) 48) :: (kyE 91 93 l ++ N)) (fun w m => m.appR) ?_
 refine Z0 (Z5 rfl) rfl (Z6 ?_)
 (refine Z1 ?_; refine Z4 ?_)
 refine Z2 (Z0 (Z3 rfl) rfl (Z0 (Z3 rfl) rfl (Z0 (RV.nilCheck rfl) rfl (Z0 (RV.idx_as (ki) rfl rfl rfl rfl rfl (by omega)) rfl ?_))))
 refine Z0 (RV.loadAo (vs := x.cells) rfl (List.Mem.tail _ Zh) rfl rfl rfl rfl (fun j u hj => by rw [Nat.zero_add]; exact hcx j u hj) rfl) rfl ?_
 refine OW.alloc (l := [.pointer none, .pointer none]) rfl rfl rfl (fun b6 => ?_)
 refine Z28 (Z104 (s := 2) rfl rfl rfl (by intro u hu; simp only [KS.cells, List.mem_cons, List.not_mem_nil, or_false] at hu; rcases hu with rfl | rfl <;> (first | (cases x.p <;> rfl) | (cases x.d <;> rfl))) rfl rfl rfl) ?_
 refine Z6 ?_
 (refine Z1 ?_; refine Z4 ?_; refine Z4 ?_)
 refine CW.mem (M' := [(some b6, blk x.cells 47), (some b3, blk [.int .i64 kind, .int .i64 on, .int .i64 other, .slice A data.length cA] 52), (some ba, blk (kyC l) 48)] ++ (Kp.E 91 x.p ++ (Kd.E 93 x.d ++ (kyE 91 93 (l.eraseIdx ki) ++ N)))) (fun w m => kp5 (ky_front (F := [_, _, _]) hlx m)) ?_
 have hN : ∀ w, Mem w0 w ([(some b6, blk x.cells 47), (some b3, blk [.int .i64 kind, .int .i64 on, .int .i64 other, .slice A data.length cA] 52), (some ba, blk (kyC l) 48)] ++ (Kp.E 91 x.p ++ (Kd.E 93 x.d ++ (kyE 91 93 (l.eraseIdx ki) ++ N)))) → Mem w0 w N := fun w m => m.appR.appR.appR.appR
 have fin : ∀ (kk : Nat) (y : KS) (B : List Ent) w, kk < l.length → Mem w0 w (y.ents 91 93 ++ ([(some ba, blk (kyC (l.set kk y)) 48)] ++ (kyE 91 93 l ++ (B ++ N)))) → Mem w0 w (((some ba, blk (kyC (l.set kk y)) 48) :: (kyE 91 93 (l.set kk y) ++ B)) ++ N) := fun kk y B w h m => by
  have := ky_take (F := [(some ba, blk (kyC (l.set kk y)) 48)]) h m
  rw [List.cons_append, List.append_assoc]
  exact this
 have done : ∀ (p' : Option Kp) (d' : Option Kd) (B : List Ent) w, (⟨p', d'⟩ : KS).cells = x.cells → Mem w0 w ([(some ba, blk (kyC l) 48)] ++ (Kp.E 91 p' ++ (Kd.E 93 d' ++ (B ++ (kyE 91 93 (l.eraseIdx ki) ++ N))))) → Mem w0 w (((some ba, blk (kyC (l.set ki ⟨p', d'⟩)) 48) :: (kyE 91 93 (l.set ki ⟨p', d'⟩) ++ B)) ++ N) := fun p' d' B w he m => by
  rw [kyC_same hlx he, List.cons_append, List.append_assoc]
  exact ky_back (F := [(some ba, blk (kyC l) 48)]) (y := ⟨p', d'⟩) hkl (kp4 m)
 refine Z2 (Z0 (Z30 rfl rfl rfl rfl) rfl (Z0 (Z29 rfl (List.Mem.tail _ Zh) rfl rfl rfl (v := .int .i64 kind) rfl) rfl (Z6 ?_)))
 (refine Z1 ?_; refine CW.block ?_; refine Z4 ?_)
 refine Z2 (Z0 (RV.eql rfl rfl) rfl (Z0 (Z5 rfl) rfl (Z6 (Z1 ?_))))
 have bk : ∀ {Y : List Ent} {e : Ent} (w : World), Mem w0 w (Y ++ (e :: (Kp.E 91 x.p ++ (Kd.E 93 x.d ++ (kyE 91 93 (l.eraseIdx ki) ++ N))))) → Mem w0 w (Y ++ ([e] ++ (kyE 91 93 l ++ ([] ++ N)))) := fun {Y e} w m => by
  refine m.perm (List.Perm.append_left Y (List.Perm.cons e ?_))
  rw [← List.append_assoc, ← List.append_assoc]
  exact List.Perm.append_right N (kyE_out hlx).symm
 refine Z106 rfl (fun h1 => ?_) (fun h1 => ?_)
 ·by_cases hk : other = 0 ∨ other = 1
  ·have cN : ∀ N, DoesG Tryd.prog 31 [.int .i64 other] w0 [] N (fun u G => ∃ b, u = .tuple #[ptr (some b) 0, .int .i64 0] ∧ G = [(some b, blk (spZ other).C 91)]) := fun N => (KNew_does w0 N other).mono (fun v G h => by
    rcases h with ⟨h1, _⟩ | ⟨_, h2⟩
    ·exact absurd hk h1
    ·exact h2)
   have cD : ∀ N, DoesG Tryd.prog 53 [.int .i64 other] w0 [] N (fun u G => ∃ b, u = .tuple #[ptr (some b) 0, .int .i64 0] ∧ G = [(some b, blk [.int .i64 other, sl none 0 0 0] 93)]) := fun N => (DNew_does w0 N other).mono (fun v G h => by
    rcases h with ⟨h1, _⟩ | ⟨_, h2⟩
    ·exact absurd hk h1
    ·exact h2)
   refine Z4 (Z2 (Z0 (Z30 rfl rfl rfl rfl) rfl (Z0 (Z29 rfl (List.Mem.tail _ Zh) rfl rfl rfl (v := .int .i64 other) rfl) rfl ?_)))
   refine Z12 Tryd.call31 rfl (cN _) rfl rfl ?_; rintro _ _ ⟨bn, rfl, rfl⟩
   refine Z0 (Z3 rfl) rfl (Z0 (Z17 rfl rfl) rfl (Z0 (Z17 rfl rfl) rfl (Z0 (Z5 rfl) rfl (Z0 (Z5 rfl) rfl (Z6 ?_)))))
   (refine Z1 ?_; refine Z4 ?_)
   refine Z2 (Z0 (Z30 rfl rfl rfl rfl) rfl (Z0 (Z29 rfl (List.Mem.tail _ (List.Mem.tail _ Zh)) rfl rfl rfl (v := .int .i64 other) rfl) rfl ?_))
   refine Z12 Tryd.call53 rfl (cD _) rfl rfl ?_; rintro _ _ ⟨dn, rfl, rfl⟩
   refine Z0 (Z3 rfl) rfl (Z0 (Z17 rfl rfl) rfl (Z0 (Z17 rfl rfl) rfl (Z0 (Z5 rfl) rfl (Z0 (Z5 rfl) rfl (Z6 ?_)))))
   (refine Z1 ?_; refine Z4 ?_; refine Z4 ?_)
   refine Z2 (Z0 (Z3 rfl) rfl (Z12 Tryd.call32 rfl (waybilllaw02_num_does w0 (fun w => Mem w0 w ((some dn, blk [.int .i64 other, sl none 0 0 0] 93) :: (some bn, blk (spZ other).C 91) :: ([(some b6, blk x.cells 47), (some b3, blk [.int .i64 kind, .int .i64 on, .int .i64 other, .slice A data.length cA] 52), (some ba, blk (kyC l) 48)] ++ (Kp.E 91 x.p ++ (Kd.E 93 x.d ++ (kyE 91 93 (l.eraseIdx ki) ++ N)))))) ((some dn, blk [.int .i64 other, sl none 0 0 0] 93) :: (some bn, blk (spZ other).C 91) :: ([(some b6, blk x.cells 47), (some b3, blk [.int .i64 kind, .int .i64 on, .int .i64 other, .slice A data.length cA] 52), (some ba, blk (kyC l) 48)] ++ (Kp.E 91 x.p ++ (Kd.E 93 x.d ++ (kyE 91 93 (l.eraseIdx ki) ++ N))))) (fun w m => m) 0 0 (by omega) rfl) rfl rfl ?_))
   rintro _ G3 ⟨_, rfl⟩
   refine Z20 (M' := (some dn, blk [.int .i64 other, sl none 0 0 0] 93) :: (some bn, blk (spZ other).C 91) :: ([(some b6, blk x.cells 47), (some b3, blk [.int .i64 kind, .int .i64 on, .int .i64 other, .slice A data.length cA] 52), (some ba, blk (kyC l) 48)] ++ (Kp.E 91 x.p ++ (Kd.E 93 x.d ++ (kyE 91 93 (l.eraseIdx ki) ++ N))))) (fun w m => m.appR) (Z0 (Z3 rfl) rfl (Z0 (RV.neq_f rfl rfl rfl) rfl (Z0 (Z3 rfl) rfl (Z24 rfl (Z0 (Z3 rfl) rfl (Z24 rfl (Z0 (RV.eqlS rfl rfl rfl) rfl ?_)))))))
   refine Z24 rfl (Z0 (Z3 rfl) rfl (Z24 rfl (Z0 (RV.eqlS rfl rfl rfl) rfl (Z24 rfl (Z0 (RV.neqB_f rfl rfl rfl rfl) rfl (Z0 (Z115 rfl rfl rfl) rfl (Z6 (Z1 ?_))))))))
   refine Z109 rfl (CW.mem (M' := (some ba, blk (kyC l) 48) :: (some bn, blk (spZ other).C 91) :: (some dn, blk [.int .i64 other, sl none 0 0 0] 93) :: (Kp.E 91 x.p ++ (Kd.E 93 x.d ++ (kyE 91 93 (l.eraseIdx ki) ++ N)))) (fun w m => m.pick [4, 1, 0] 5 rfl rfl) ?_)
   (refine CW.skip ?_; refine Z1 ?_)
   refine Z2 (Z0 (Z3 rfl) rfl (Z0 (Z3 rfl) rfl (Z0 (Z3 rfl) rfl (Z0 (Z3 rfl) rfl (Z0 (Z112 (l := [.pointer none, .pointer none]) (cs := [ptr (some bn) 0, ptr (some dn) 0]) [(0, [ptr (some bn) 0]), (1, [ptr (some dn) 0])] rfl rfl rfl rfl rfl rfl rfl) rfl (Z0 (RV.nilCheck rfl) rfl (Z0 (RV.idx_as (ki) rfl rfl rfl rfl rfl (by omega)) rfl ?_)))))))
   refine Z28 (SV.storeAs (s := 2) rfl rfl rfl (by intro u hu; simp only [List.mem_cons, List.not_mem_nil, or_false] at hu; rcases hu with rfl | rfl <;> rfl) rfl rfl (by rw [kyC_length]; show 0 + ki * 2 + 2 ≤ _; omega)) ?_; refine OW.cells (kyC (l.set ki ⟨some ⟨bn, spZ other⟩, some ⟨dn, other, [], none, 0, []⟩⟩)) (kyC_spl (y := ⟨some ⟨bn, spZ other⟩, some ⟨dn, other, [], none, 0, []⟩⟩) hkl (Nat.zero_add _)) ?_
   refine Z6 ?_
   (refine Z27 ?_; refine Z1 ?_; refine Z4 ?_)
   refine Z2 (Z0 (Z5 rfl) rfl (Z6 ?_))
   (refine Z1 ?_; refine CW.ret ?_)
   obtain ⟨q1, q2⟩ := hset ki ⟨some ⟨bn, spZ other⟩, some ⟨dn, other, [], none, 0, []⟩⟩ (.some ⟨took_zero _, rfl, rfl⟩ ⟨hk, OwnS.nil⟩) (Nat.zero_le _)
   refine Z107 (rs := [.tmp 4]) [.bool true] _ rfl ⟨rfl, trivial⟩ rfl ⟨l.set ki ⟨some ⟨bn, spZ other⟩, some ⟨dn, other, [], none, 0, []⟩⟩, [], rfl, rfl, q1, q2⟩ (fun w m => fin ki _ [] w hkl ?_) _ (.inl rfl)
   exact bk w (((m.nil_ent (blk ([] ++ []) 5)).pick [2, 3, 0, 1] 4 rfl rfl))
  ·have cN : ∀ N, DoesG Tryd.prog 31 [.int .i64 other] w0 [] N (fun u G => u = .tuple #[.pointer none, .int .i64 1] ∧ G = []) := fun N => (KNew_does w0 N other).mono (fun v G h => by
    rcases h with ⟨_, h2⟩ | ⟨h1, _⟩
    ·exact h2
    ·exact absurd h1 hk)
   have cD : ∀ N, DoesG Tryd.prog 53 [.int .i64 other] w0 [] N (fun u G => u = .tuple #[.pointer none, .int .i64 1] ∧ G = []) := fun N => (DNew_does w0 N other).mono (fun v G h => by
    rcases h with ⟨_, h2⟩ | ⟨h1, _⟩
    ·exact h2
    ·exact absurd h1 hk)
   refine Z4 (Z2 (Z0 (Z30 rfl rfl rfl rfl) rfl (Z0 (Z29 rfl (List.Mem.tail _ Zh) rfl rfl rfl (v := .int .i64 other) rfl) rfl ?_)))
   refine Z12 Tryd.call31 rfl (cN _) rfl rfl ?_; rintro _ _ ⟨rfl, rfl⟩
   refine Z0 (Z3 rfl) rfl (Z0 (Z17 rfl rfl) rfl (Z0 (Z17 rfl rfl) rfl (Z0 (Z5 rfl) rfl (Z0 (Z5 rfl) rfl (Z6 ?_)))))
   (refine Z1 ?_; refine Z4 ?_)
   refine Z2 (Z0 (Z30 rfl rfl rfl rfl) rfl (Z0 (Z29 rfl (List.Mem.tail _ Zh) rfl rfl rfl (v := .int .i64 other) rfl) rfl ?_))
   refine Z12 Tryd.call53 rfl (cD _) rfl rfl ?_; rintro _ _ ⟨rfl, rfl⟩
   refine Z0 (Z3 rfl) rfl (Z0 (Z17 rfl rfl) rfl (Z0 (Z17 rfl rfl) rfl (Z0 (Z5 rfl) rfl (Z0 (Z5 rfl) rfl (Z6 ?_)))))
   (refine Z1 ?_; refine Z4 ?_; refine Z4 ?_)
   refine Z2 (Z0 (Z3 rfl) rfl (Z12 Tryd.call32 rfl (waybilllaw02_num_does w0 (fun w => Mem w0 w ([(some b6, blk x.cells 47), (some b3, blk [.int .i64 kind, .int .i64 on, .int .i64 other, .slice A data.length cA] 52), (some ba, blk (kyC l) 48)] ++ (Kp.E 91 x.p ++ (Kd.E 93 x.d ++ (kyE 91 93 (l.eraseIdx ki) ++ N))))) ([(some b6, blk x.cells 47), (some b3, blk [.int .i64 kind, .int .i64 on, .int .i64 other, .slice A data.length cA] 52), (some ba, blk (kyC l) 48)] ++ (Kp.E 91 x.p ++ (Kd.E 93 x.d ++ (kyE 91 93 (l.eraseIdx ki) ++ N)))) (fun w m => m) 1 1 (by omega) rfl) rfl rfl ?_))
   rintro _ G3 ⟨_, rfl⟩
   refine Z20 (M' := ([(some b6, blk x.cells 47), (some b3, blk [.int .i64 kind, .int .i64 on, .int .i64 other, .slice A data.length cA] 52), (some ba, blk (kyC l) 48)] ++ (Kp.E 91 x.p ++ (Kd.E 93 x.d ++ (kyE 91 93 (l.eraseIdx ki) ++ N))))) (fun w m => m.appR) (Z0 (Z3 rfl) rfl (Z0 (RV.neq_f rfl rfl rfl) rfl (Z0 (Z3 rfl) rfl (Z24 rfl (Z0 (Z3 rfl) rfl (Z24 rfl (Z0 (RV.eqlN rfl rfl rfl) rfl ?_)))))))
   refine Z24 rfl (Z0 (Z3 rfl) rfl (Z24 rfl (Z0 (RV.eqlN rfl rfl rfl) rfl (Z24 rfl (Z0 (RV.neqB_f rfl rfl rfl rfl) rfl (Z0 (Z115 rfl rfl rfl) rfl (Z6 (Z1 ?_))))))))
   refine Z109 rfl (CW.mem (M' := (some ba, blk (kyC l) 48) :: (Kp.E 91 x.p ++ (Kd.E 93 x.d ++ (kyE 91 93 (l.eraseIdx ki) ++ N)))) (fun w m => m.pick [2] 3 rfl rfl) ?_)
   (refine CW.skip ?_; refine Z1 ?_)
   refine Z2 (Z0 (Z3 rfl) rfl (Z0 (Z3 rfl) rfl (Z0 (Z3 rfl) rfl (Z0 (Z3 rfl) rfl (Z0 (Z112 (l := [.pointer none, .pointer none]) (cs := [.pointer none, .pointer none]) [(0, [.pointer none]), (1, [.pointer none])] rfl rfl rfl rfl rfl rfl rfl) rfl (Z0 (RV.nilCheck rfl) rfl (Z0 (RV.idx_as (ki) rfl rfl rfl rfl rfl (by omega)) rfl ?_)))))))
   refine Z28 (SV.storeAs (s := 2) rfl rfl rfl (by intro u hu; simp only [List.mem_cons, List.not_mem_nil, or_false, or_self] at hu; subst hu; rfl) rfl rfl (by rw [kyC_length]; show 0 + ki * 2 + 2 ≤ _; omega)) ?_; refine OW.cells (kyC (l.set ki ⟨none, none⟩)) (kyC_spl (y := ⟨none, none⟩) hkl (Nat.zero_add _)) ?_
   refine Z6 ?_
   (refine Z27 ?_; refine Z1 ?_; refine Z4 ?_)
   refine Z2 (Z0 (Z5 rfl) rfl (Z6 ?_))
   (refine Z1 ?_; refine CW.ret ?_)
   obtain ⟨q1, q2⟩ := hset ki ⟨none, none⟩ .nil (Nat.zero_le _)
   refine Z107 (rs := [.tmp 4]) [.bool true] _ rfl ⟨rfl, trivial⟩ rfl ⟨l.set ki ⟨none, none⟩, [], rfl, rfl, q1, q2⟩ (fun w m => fin ki _ [] w hkl ?_) _ (.inl rfl)
   exact bk w m
 ·refine Z4 (Z2 (Z0 (RV.eql rfl rfl) rfl (Z0 (Z5 rfl) rfl (Z6 (Z1 ?_)))))
  refine Z106 rfl (fun h7 => ?_) (fun h7 => ?_)
  ·refine CW.mem (M' := (some ba, blk (kyC l) 48) :: (some b6, blk x.cells 47) :: (some b3, blk [.int .i64 kind, .int .i64 on, .int .i64 other, .slice A data.length cA] 52) :: (Kp.E 91 x.p ++ (Kd.E 93 x.d ++ (kyE 91 93 (l.eraseIdx ki) ++ N)))) (fun w m => m.pick [2, 0, 1] 3 rfl rfl) (Z2 (Z0 (Z3 rfl) rfl (Z0 (Z3 rfl) rfl (Z0 (Z112 (l := (spZ 0).C) (cs := (spZ 0).C) [] rfl rfl rfl (by kernel_rfl) rfl rfl rfl) rfl (OW.boxA rfl rfl (fun bn => (Z0 (Z112 (l := [.int .i64 0, sl none 0 0 0]) (cs := [.int .i64 0, sl none 0 0 0]) [] rfl rfl rfl rfl rfl rfl rfl) rfl (OW.boxA rfl rfl (fun dn => ?_)))))))))
   refine Z0 (Z112 (l := [.pointer none, .pointer none]) (cs := [ptr (some bn) 0, ptr (some dn) 0]) [(0, [ptr (some bn) 0]), (1, [ptr (some dn) 0])] rfl rfl rfl rfl rfl rfl rfl) rfl (Z0 (RV.nilCheck rfl) rfl (Z0 (RV.idx_as (ki) rfl rfl rfl rfl rfl (by omega)) rfl ?_))
   refine Z20 (M' := (some ba, blk (kyC l) 48) :: (some bn, blk (spZ 0).C 91) :: (some dn, blk [.int .i64 0, sl none 0 0 0] 93) :: (Kp.E 91 x.p ++ (Kd.E 93 x.d ++ (kyE 91 93 (l.eraseIdx ki) ++ N)))) (fun w m => m.pick [2, 1, 0] 5 rfl rfl) ?_; refine Z28 (SV.storeAs (s := 2) rfl rfl rfl (by intro u hu; simp only [List.mem_cons, List.not_mem_nil, or_false] at hu; rcases hu with rfl | rfl <;> rfl) rfl rfl (by rw [kyC_length]; show 0 + ki * 2 + 2 ≤ _; omega)) ?_; refine OW.cells (kyC (l.set ki ⟨some ⟨bn, spZ 0⟩, some ⟨dn, 0, [], none, 0, []⟩⟩)) (kyC_spl (y := ⟨some ⟨bn, spZ 0⟩, some ⟨dn, 0, [], none, 0, []⟩⟩) hkl (Nat.zero_add _)) ?_
   refine Z6 ?_
   (refine Z27 ?_; refine Z1 ?_; refine Z4 ?_)
   refine Z2 (Z0 (Z5 rfl) rfl (Z6 ?_))
   (refine Z1 ?_; refine CW.ret ?_)
   obtain ⟨q1, q2⟩ := hset ki ⟨some ⟨bn, spZ 0⟩, some ⟨dn, 0, [], none, 0, []⟩⟩ (.some ⟨took_zero _, rfl, rfl⟩ ⟨.inl rfl, OwnS.nil⟩) (Nat.zero_le _)
   refine Z107 (rs := [.tmp 4]) [.bool true] _ rfl ⟨rfl, trivial⟩ rfl ⟨l.set ki ⟨some ⟨bn, spZ 0⟩, some ⟨dn, 0, [], none, 0, []⟩⟩, [], rfl, rfl, q1, q2⟩ (fun w m => fin ki _ [] w hkl ?_) _ (.inl rfl)
   exact bk w (((m.nil_ent (blk ([] ++ []) 5)).pick [2, 3, 0, 1] 4 rfl rfl))
  ·refine Z4 (Z2 (Z0 (RV.eql rfl rfl) rfl (Z0 (Z5 rfl) rfl (Z6 (Z1 ?_)))))
   refine Z106 rfl (fun h2 => ?_) (fun h2 => ?_)
   ·have hlent : waybilllaw02_lent data = some data := k02lent data (by omega)
    refine Z4 (Z2 (Z0 (Z30 rfl rfl rfl rfl) rfl (Z0 (Z29 rfl (List.Mem.tail _ Zh) rfl rfl rfl (v := .slice A data.length cA) rfl) rfl ?_)))
    refine Z12 Tryd.call54 rfl (waybilllaw02_lent_raw w0 Φ ([(some b6, blk x.cells 47), (some b3, blk [.int .i64 kind, .int .i64 on, .int .i64 other, .slice A data.length cA] 52), (some ba, blk (kyC l) 48)] ++ (Kp.E 91 x.p ++ (Kd.E 93 x.d ++ (kyE 91 93 (l.eraseIdx ki) ++ N)))) (fun w m => hΦ w (hN w m)) A cA data data va hlent) rfl rfl ?_; rintro _ _ ⟨og, owg, hbg, rfl, rfl⟩
    refine Z0 (Z5 rfl) rfl (Z6 ?_)
    (refine Z1 ?_; refine Z4 ?_)
    have hN1 : ∀ w, Mem w0 w ([(some og, blk (u8s data ++ (u8s (List.replicate 200 195#8) ++ [])) 5), (some b6, blk x.cells 47), (some b3, blk [.int .i64 kind, .int .i64 on, .int .i64 other, .slice A data.length cA] 52), (some ba, blk (kyC l) 48)] ++ (Kd.E 93 x.d ++ (kyE 91 93 (l.eraseIdx ki) ++ N))) → Mem w0 w N := fun w m => m.appR.appR.appR
    refine Z2 (Z0 (Z30 rfl rfl rfl rfl) rfl (Z0 (Z29 rfl (List.Mem.tail _ Zh) rfl rfl rfl (v := Kp.v x.p) rfl) rfl (Z0 (Z3 rfl) rfl ?_)))
    refine Z20 (M' := Kp.E 91 x.p ++ ([(some og, blk (u8s data ++ (u8s (List.replicate 200 195#8) ++ [])) 5), (some b6, blk x.cells 47), (some b3, blk [.int .i64 kind, .int .i64 on, .int .i64 other, .slice A data.length cA] 52), (some ba, blk (kyC l) 48)] ++ (Kd.E 93 x.d ++ (kyE 91 93 (l.eraseIdx ki) ++ N)))) (fun w m => kp6 (F := [(some og, blk (u8s data ++ (u8s (List.replicate 200 195#8) ++ [])) 5), (some b6, blk x.cells 47), (some b3, blk [.int .i64 kind, .int .i64 on, .int .i64 other, .slice A data.length cA] 52), (some ba, blk (kyC l) 48)]) m) ?_; refine Z12 Tryd.call28 rfl (PWrite_does w0 (fun w => Mem w0 w ([(some og, blk (u8s data ++ (u8s (List.replicate 200 195#8) ++ [])) 5), (some b6, blk x.cells 47), (some b3, blk [.int .i64 kind, .int .i64 on, .int .i64 other, .slice A data.length cA] 52), (some ba, blk (kyC l) 48)] ++ (Kd.E 93 x.d ++ (kyE 91 93 (l.eraseIdx ki) ++ N)))) ([(some og, blk (u8s data ++ (u8s (List.replicate 200 195#8) ++ [])) 5), (some b6, blk x.cells 47), (some b3, blk [.int .i64 kind, .int .i64 on, .int .i64 other, .slice A data.length cA] 52), (some ba, blk (kyC l) 48)] ++ (Kd.E 93 x.d ++ (kyE 91 93 (l.eraseIdx ki) ++ N))) (fun w m => m) x okx (some ⟨og, 0, none⟩) (data.length + 200) data (owg.view (te := 5) (w0 := w0) (by decide) (fun w q => q.sublist (List.singleton_sublist.2 (List.mem_cons_self ..)))) (by omega)) rfl rfl ?_; rintro _ _ ⟨p', B, rfl, rfl, hpv, hpt⟩; refine Z20 (M' := [(some og, blk (u8s data ++ (u8s (List.replicate 200 195#8) ++ [])) 5), (some b6, blk x.cells 47), (some b3, blk [.int .i64 kind, .int .i64 on, .int .i64 other, .slice A data.length cA] 52), (some ba, blk (kyC l) 48)] ++ (Kp.E 91 p' ++ (Kd.E 93 x.d ++ (B ++ (kyE 91 93 (l.eraseIdx ki) ++ N))))) (fun w m => kp1 m) ?_
    refine Z6 ?_
    (refine Z1 ?_; refine Z4 ?_)
    refine Z2 (Z0 (Z30 rfl rfl rfl rfl) rfl (Z0 (Z29 rfl (List.Mem.tail _ Zh) rfl rfl rfl (v := Kd.v x.d) rfl) rfl (Z0 (Z30 rfl rfl rfl rfl) rfl (Z0 (Z29 rfl (List.Mem.tail _ (List.Mem.tail _ Zh)) rfl rfl rfl (v := .slice A data.length cA) rfl) rfl ?_))))
    refine Z20 (M' := Kd.E 93 x.d ++ ([(some og, blk (u8s data ++ (u8s (List.replicate 200 195#8) ++ [])) 5), (some b6, blk x.cells 47), (some b3, blk [.int .i64 kind, .int .i64 on, .int .i64 other, .slice A data.length cA] 52), (some ba, blk (kyC l) 48)] ++ (Kp.E 91 p' ++ (B ++ (kyE 91 93 (l.eraseIdx ki) ++ N))))) (fun w m => kp2 (F := [(some og, blk (u8s data ++ (u8s (List.replicate 200 195#8) ++ [])) 5), (some b6, blk x.cells 47), (some b3, blk [.int .i64 kind, .int .i64 on, .int .i64 other, .slice A data.length cA] 52), (some ba, blk (kyC l) 48)]) m) ?_; refine Z12 Tryd.call55 rfl (DWrite_does w0 Φ ([(some og, blk (u8s data ++ (u8s (List.replicate 200 195#8) ++ [])) 5), (some b6, blk x.cells 47), (some b3, blk [.int .i64 kind, .int .i64 on, .int .i64 other, .slice A data.length cA] 52), (some ba, blk (kyC l) 48)] ++ (Kp.E 91 p' ++ (B ++ (kyE 91 93 (l.eraseIdx ki) ++ N)))) (fun w m => hΦ w m.appR.appR.appR.appR) x okx A cA data va (by omega)) rfl rfl ?_; rintro _ _ ⟨d', B2, rfl, rfl, hdv, hdt⟩; refine Z20 (M' := [(some og, blk (u8s data ++ (u8s (List.replicate 200 195#8) ++ [])) 5), (some b6, blk x.cells 47), (some b3, blk [.int .i64 kind, .int .i64 on, .int .i64 other, .slice A data.length cA] 52), (some ba, blk (kyC l) 48)] ++ (Kp.E 91 p' ++ (Kd.E 93 d' ++ (B2 ++ (B ++ (kyE 91 93 (l.eraseIdx ki) ++ N)))))) (fun w m => kp3 m) ?_
    refine Z6 ?_
    (refine Z1 ?_; refine Z4 ?_)
    refine Z2 (Z0 (Z3 rfl) rfl (Z0 (Z30 rfl rfl rfl rfl) rfl (Z0 (Z29 rfl (List.Mem.tail _ (List.Mem.tail _ Zh)) rfl rfl rfl (v := .slice A data.length cA) rfl) rfl ?_)))
    refine Z12 Tryd.call56 rfl (waybilllaw02_still_does w0 (fun w => Mem w0 w ([(some og, blk (u8s data ++ (u8s (List.replicate 200 195#8) ++ [])) 5), (some b6, blk x.cells 47), (some b3, blk [.int .i64 kind, .int .i64 on, .int .i64 other, .slice A data.length cA] 52), (some ba, blk (kyC l) 48)] ++ (Kp.E 91 p' ++ (Kd.E 93 d' ++ (B2 ++ (B ++ (kyE 91 93 (l.eraseIdx ki) ++ N))))))) ([(some og, blk (u8s data ++ (u8s (List.replicate 200 195#8) ++ [])) 5), (some b6, blk x.cells 47), (some b3, blk [.int .i64 kind, .int .i64 on, .int .i64 other, .slice A data.length cA] 52), (some ba, blk (kyC l) 48)] ++ (Kp.E 91 p' ++ (Kd.E 93 d' ++ (B2 ++ (B ++ (kyE 91 93 (l.eraseIdx ki) ++ N)))))) (fun w m => m) (some ⟨og, 0, none⟩) (data.length + 200) data A cA data true (OwnS.mroom (te := 5) (w0 := w0) owg (fun w q => q.sublist (List.singleton_sublist.2 (List.mem_cons_self ..))) (by rw [List.length_replicate]; omega)) (va.mono (fun w m => hΦ w m.appR.appR.appR.appR.appR.appR)) (still02_eq data)) rfl rfl ?_; rintro _ G3 rfl; refine Z20 (M' := [(some og, blk (u8s data ++ (u8s (List.replicate 200 195#8) ++ [])) 5), (some b6, blk x.cells 47), (some b3, blk [.int .i64 kind, .int .i64 on, .int .i64 other, .slice A data.length cA] 52), (some ba, blk (kyC l) 48)] ++ (Kp.E 91 p' ++ (Kd.E 93 d' ++ (B2 ++ (B ++ (kyE 91 93 (l.eraseIdx ki) ++ N)))))) (fun w m => m.appR) ?_
    refine Z0 (Z5 rfl) rfl (Z6 ?_)
    (refine Z1 ?_; refine Z4 ?_; refine Z4 ?_)
    refine Z2 (Z0 (Z5 rfl) rfl (Z6 ?_))
    (refine Z1 ?_; refine CW.block ?_)
    refine CW.loopJ (fun k L' M' => ∃ (i : Nat), k = data.length - i ∧ i ≤ data.length ∧ L' = [(11, sl (some og) 0 data.length (data.length + 200)), (12, .bool true), (13, .int .i64 (i : Int))] ∧
     M' = (some og, blk (u8s (List.replicate i 119#8 ++ data.drop i) ++ (u8s (List.replicate 200 195#8) ++ [])) 5) :: ([(some b6, blk x.cells 47), (some b3, blk [.int .i64 kind, .int .i64 on, .int .i64 other, .slice A data.length cA] 52), (some ba, blk (kyC l) 48)] ++ (Kp.E 91 p' ++ (Kd.E 93 d' ++ (B2 ++ (B ++ (kyE 91 93 (l.eraseIdx ki) ++ N))))))) (k0 := data.length) ⟨0, rfl, by omega, rfl, rfl⟩ ⟨rfl, rfl, rfl, trivial⟩ (fun w m => m) ?_
    rintro k L' M' ⟨i, rfl, hi, rfl, hM⟩
    rw [hM]
    clear hM M'
    (refine Z4 ?_; refine Z4 ?_)
    refine Z2 (Z0 (Z3 rfl) rfl (Z0 (Z3 rfl) rfl (Z0 (RV.len rfl rfl) rfl (Z0 (RV.lss rfl rfl) rfl (Z6 (Z1 ?_))))))
    refine Z106 rfl (fun hlt2 => ?_) (fun hlt2 => ?_)
    ·have h1 : i < data.length := by omega
     (refine CW.skip ?_; refine Z1 ?_; refine Z4 ?_; refine CW.block ?_)
     refine Z2 (Z0 (Z3 rfl) rfl (Z0 (Z3 rfl) rfl (Z0 (RV.idx_o (i) rfl rfl rfl rfl rfl rfl (by omega)) rfl ?_)))
     refine Z28 (SV.store (v := U8 119#8) rfl rfl rfl rfl rfl (by rw [List.length_append, Z101, List.length_append, List.length_replicate, List.length_drop]; omega)) ?_; refine OW.cells (u8s (List.replicate (i + 1) 119#8 ++ data.drop (i + 1)) ++ (u8s (List.replicate 200 195#8) ++ [])) (by rw [Nat.zero_add, List.set_append_left _ _ (by rw [Z101, List.length_append, List.length_replicate, List.length_drop]; omega), u8s_set', List.set_append_right _ _ (by rw [List.length_replicate]; omega), List.length_replicate, Nat.sub_self, List.drop_eq_getElem_cons h1, List.set_cons_zero, show List.replicate (i + 1) 119#8 = List.replicate i 119#8 ++ [119#8] from List.replicate_succ' .., List.append_assoc (List.replicate i 119#8)]; rfl) ?_
     refine Z6 ?_
     (refine Z27 ?_; refine Z1 ?_)
     refine Z2 (Z0 (Z3 rfl) rfl (Z0 (RV.add rfl rfl (by omega)) rfl (Z0 (Z5 rfl) rfl (Z6 ?_))))
     refine Z129 (k' := data.length - (i + 1)) (by omega) ⟨i + 1, rfl, by omega, rfl, rfl⟩ ⟨rfl, rfl, rfl, trivial⟩ (fun w m => m)
    ·(refine CW.exit ?_; refine Z9 ?_; refine Z9 ?_; refine Z15 ?_; refine Z1 ?_; refine Z4 ?_)
     refine Z2 (Z0 (Z3 rfl) rfl (Z0 (Z5 rfl) rfl (Z6 ?_)))
     (refine Z1 ?_; refine CW.ret ?_; refine Z16 ?_; refine Z8 ?_)
     have hy : KS.Ok ⟨p', d'⟩ ∧ (⟨p', d'⟩ : KS).len ≤ T + data.length := by
      rcases hpt with ⟨e1, e2⟩ | ⟨k, m, e1, e2, e3⟩
      ·rcases hdt with ⟨_, e4⟩ | ⟨m, m', e4, _⟩
       ·rw [e1, e4]; exact ⟨.nil, Nat.zero_le _⟩
       ·rw [e2] at e4; cases e4
      ·rcases hdt with ⟨e4, _⟩ | ⟨m1, m', e4, e5, e6, e7, e8⟩
       ·rw [e2] at e4; cases e4
       ·rw [e2] at e4
        obtain rfl := Zi e4
        rw [e1, e5]
        refine ⟨.some (by rw [e6, e7]; exact e3) e8, ?_⟩
        have h9 : x.len = m.t.length := by unfold KS.len; rw [e2]
        show m'.t.length ≤ _
        rw [e6, List.length_append]; omega
     obtain ⟨q1, q2⟩ := hset ki ⟨p', d'⟩ hy.1 hy.2
     refine Z107 (rs := [.tmp 4]) [.bool true] _ rfl ⟨rfl, trivial⟩ rfl ⟨l.set ki ⟨p', d'⟩, B2 ++ B, rfl, rfl, q1, q2⟩ (fun w m => done p' d' (B2 ++ B) w (by unfold KS.cells; rw [hpv, hdv]) (by rw [List.append_assoc]; exact m.tail.tail.tail)) _ (.inl rfl)
   ·refine Z4 (Z2 (Z0 (RV.eql rfl rfl) rfl (Z0 (Z5 rfl) rfl (Z6 (Z1 ?_)))))
    refine Z106 rfl (fun h3 => ?_) (fun h3 => ?_)
    ·refine Z4 (CW.drawsX ([(some b6, blk x.cells 47), (some b3, blk [.int .i64 kind, .int .i64 on, .int .i64 other, .slice A data.length cA] 52), (some ba, blk (kyC l) 48)] ++ (Kp.E 91 x.p ++ (Kd.E 93 x.d ++ (kyE 91 93 (l.eraseIdx ki) ++ N)))) [2, 5] (fun w m => m) mixed (by kernel_rfl) (Z10 0 rfl (by kernel_rfl) rfl (Z30 rfl rfl rfl rfl) rfl (Z10 1 rfl (by kernel_rfl) rfl (Z29 rfl Zh rfl rfl rfl (v := Kp.v x.p) rfl) rfl (Z10 3 rfl (by kernel_rfl) rfl (Z30 rfl rfl rfl rfl) rfl (Z10 4 rfl (by kernel_rfl) rfl (Z29 rfl Zh rfl rfl rfl (v := Kd.v x.d) rfl) rfl (Z19 (M' := Kp.E 91 x.p ++ ([(some b6, blk x.cells 47), (some b3, blk [.int .i64 kind, .int .i64 on, .int .i64 other, .slice A data.length cA] 52), (some ba, blk (kyC l) 48)] ++ (Kd.E 93 x.d ++ (kyE 91 93 (l.eraseIdx ki) ++ N)))) (fun w m => kp6 (F := [(some b6, blk x.cells 47), (some b3, blk [.int .i64 kind, .int .i64 on, .int .i64 other, .slice A data.length cA] 52), (some ba, blk (kyC l) 48)]) m) (fun w m => m.perm (List.perm_append_comm_assoc _ [(some b6, blk x.cells 47), (some b3, blk [.int .i64 kind, .int .i64 on, .int .i64 other, .slice A data.length cA] 52), (some ba, blk (kyC l) 48)] _)) ?_))))))
     refine XW.callEs 2 rfl (by kernel_rfl) rfl Tryd.call19 rfl (fun N' hN' => PSum_does w0 Φ N' (fun w m => hΦ w ((hN' w m).appR (B := [(some b6, blk x.cells 47), (some b3, blk [.int .i64 kind, .int .i64 on, .int .i64 other, .slice A data.length cA] 52), (some ba, blk (kyC l) 48)])).appR.appR) hg x okx) rfl (fun v G hG w m => by obtain ⟨_, B, rfl⟩ := hG; exact kp7 m) ?_
     rintro _ _ ⟨rfl, B, rfl⟩
     refine Z19 (M' := Kd.E 93 x.d ++ ([(some b6, blk x.cells 47), (some b3, blk [.int .i64 kind, .int .i64 on, .int .i64 other, .slice A data.length cA] 52), (some ba, blk (kyC l) 48)] ++ (Kp.E 91 x.p ++ (kyE 91 93 (l.eraseIdx ki) ++ N)))) (fun w m => kp2 (kp7 m)) (fun w m => kp8 (B := []) (by rw [List.append_nil]; exact m)) ?_
     refine XW.callEs 5 rfl (by kernel_rfl) rfl Tryd.call20 rfl (fun N' hN' => DSum_does w0 N' hTn hRn x okx (show x.len ≤ _ by omega)) rfl (fun v G hG w m => by obtain ⟨_, B, rfl⟩ := hG; exact kp8 m) ?_
     rintro _ _ ⟨rfl, B2, rfl⟩
     refine Z19 (M' := [(some b6, blk x.cells 47), (some b3, blk [.int .i64 kind, .int .i64 on, .int .i64 other, .slice A data.length cA] 52), (some ba, blk (kyC l) 48)] ++ (Kp.E 91 x.p ++ (Kd.E 93 x.d ++ (kyE 91 93 (l.eraseIdx ki) ++ N)))) (fun w m => kp8 m) (fun w m => m) (Z10 6 rfl (by kernel_rfl) rfl (RV.eqA8_t rfl rfl rfl rfl rfl rfl (Zv) rfl) rfl (Z10 7 rfl (by kernel_rfl) rfl (Z5 rfl) rfl (XW.nil (by kernel_rfl) ?_)))
     (refine Z1 ?_; refine CW.ret ?_; refine Z16 ?_; refine Z8 ?_)
     obtain ⟨q1, q2⟩ := hset ki ⟨x.p, x.d⟩ okx (show x.len ≤ _ by omega)
     refine Z107 (rs := [.tmp 4]) [.bool true] _ rfl ⟨rfl, trivial⟩ rfl ⟨l.set ki ⟨x.p, x.d⟩, [], rfl, rfl, q1, q2⟩ (fun w m => done x.p x.d [] w rfl m.tail.tail) _ (.inl rfl)
    ·refine Z4 (Z2 (Z0 (RV.eql rfl rfl) rfl (Z0 (Z5 rfl) rfl (Z6 (Z1 ?_)))))
     refine Z106 rfl (fun h4 => ?_) (fun h4 => ?_)
     ·refine Z4 (CW.drawsX ([(some b6, blk x.cells 47), (some b3, blk [.int .i64 kind, .int .i64 on, .int .i64 other, .slice A data.length cA] 52), (some ba, blk (kyC l) 48)] ++ (Kp.E 91 x.p ++ (Kd.E 93 x.d ++ (kyE 91 93 (l.eraseIdx ki) ++ N)))) [2, 5] (fun w m => m) mixed (by kernel_rfl) (Z10 0 rfl (by kernel_rfl) rfl (Z30 rfl rfl rfl rfl) rfl (Z10 1 rfl (by kernel_rfl) rfl (Z29 rfl Zh rfl rfl rfl (v := Kp.v x.p) rfl) rfl (Z10 3 rfl (by kernel_rfl) rfl (Z30 rfl rfl rfl rfl) rfl (Z10 4 rfl (by kernel_rfl) rfl (Z29 rfl Zh rfl rfl rfl (v := Kd.v x.d) rfl) rfl (Z19 (M' := Kp.E 91 x.p ++ ([(some b6, blk x.cells 47), (some b3, blk [.int .i64 kind, .int .i64 on, .int .i64 other, .slice A data.length cA] 52), (some ba, blk (kyC l) 48)] ++ (Kd.E 93 x.d ++ (kyE 91 93 (l.eraseIdx ki) ++ N)))) (fun w m => kp6 (F := [(some b6, blk x.cells 47), (some b3, blk [.int .i64 kind, .int .i64 on, .int .i64 other, .slice A data.length cA] 52), (some ba, blk (kyC l) 48)]) m) (fun w m => m.perm (List.perm_append_comm_assoc _ [(some b6, blk x.cells 47), (some b3, blk [.int .i64 kind, .int .i64 on, .int .i64 other, .slice A data.length cA] 52), (some ba, blk (kyC l) 48)] _)) ?_))))))
      refine XW.callEs 2 rfl (by kernel_rfl) rfl Tryd.call21 rfl (fun N' hN' => PLen_does w0 N' x okx (show x.len ≤ _ by omega)) rfl (fun v G hG w m => by obtain ⟨_, B, rfl⟩ := hG; exact kp7 m) ?_
      rintro _ _ ⟨rfl, B, rfl⟩
      refine Z19 (M' := Kd.E 93 x.d ++ ([(some b6, blk x.cells 47), (some b3, blk [.int .i64 kind, .int .i64 on, .int .i64 other, .slice A data.length cA] 52), (some ba, blk (kyC l) 48)] ++ (Kp.E 91 x.p ++ (kyE 91 93 (l.eraseIdx ki) ++ N)))) (fun w m => kp2 (kp7 m)) (fun w m => kp8 (B := []) (by rw [List.append_nil]; exact m)) ?_
      refine XW.callEs 5 rfl (by kernel_rfl) rfl Tryd.call22 rfl (fun N' hN' => DLen_does w0 N' x okx) rfl (fun v G hG w m => by obtain ⟨_, B, rfl⟩ := hG; exact kp8 m) ?_
      rintro _ _ ⟨rfl, B2, rfl⟩
      refine Z19 (M' := [(some b6, blk x.cells 47), (some b3, blk [.int .i64 kind, .int .i64 on, .int .i64 other, .slice A data.length cA] 52), (some ba, blk (kyC l) 48)] ++ (Kp.E 91 x.p ++ (Kd.E 93 x.d ++ (kyE 91 93 (l.eraseIdx ki) ++ N)))) (fun w m => kp8 m) (fun w m => m) (Z10 6 rfl (by kernel_rfl) rfl (RV.eql_t rfl rfl rfl) rfl (Z10 7 rfl (by kernel_rfl) rfl (Z5 rfl) rfl (XW.nil (by kernel_rfl) ?_)))
      (refine Z1 ?_; refine CW.ret ?_; refine Z16 ?_; refine Z8 ?_)
      obtain ⟨q1, q2⟩ := hset ki ⟨x.p, x.d⟩ okx (show x.len ≤ _ by omega)
      refine Z107 (rs := [.tmp 4]) [.bool true] _ rfl ⟨rfl, trivial⟩ rfl ⟨l.set ki ⟨x.p, x.d⟩, [], rfl, rfl, q1, q2⟩ (fun w m => done x.p x.d [] w rfl m.tail.tail) _ (.inl rfl)
     ·refine Z4 (Z2 (Z0 (RV.eql rfl rfl) rfl (Z0 (Z5 rfl) rfl (Z6 (Z1 ?_)))))
      refine Z106 rfl (fun h5 => ?_) (fun h5 => ?_)
      ·refine Z4 (Z2 (Z0 (Z30 rfl rfl rfl rfl) rfl (Z0 (Z29 rfl Zh rfl rfl rfl (v := Kp.v x.p) rfl) rfl ?_)))
       refine Z20 (M' := Kp.E 91 x.p ++ ([(some b6, blk x.cells 47), (some b3, blk [.int .i64 kind, .int .i64 on, .int .i64 other, .slice A data.length cA] 52), (some ba, blk (kyC l) 48)] ++ (Kd.E 93 x.d ++ (kyE 91 93 (l.eraseIdx ki) ++ N)))) (fun w m => kp6 (F := [(some b6, blk x.cells 47), (some b3, blk [.int .i64 kind, .int .i64 on, .int .i64 other, .slice A data.length cA] 52), (some ba, blk (kyC l) 48)]) m) ?_; refine Z12 Tryd.call29 rfl (PReset_does w0 ([(some b6, blk x.cells 47), (some b3, blk [.int .i64 kind, .int .i64 on, .int .i64 other, .slice A data.length cA] 52), (some ba, blk (kyC l) 48)] ++ (Kd.E 93 x.d ++ (kyE 91 93 (l.eraseIdx ki) ++ N))) x okx) rfl rfl ?_; rintro _ _ ⟨p', B, rfl, rfl, hpv, hpt⟩; refine Z20 (M' := [(some b6, blk x.cells 47), (some b3, blk [.int .i64 kind, .int .i64 on, .int .i64 other, .slice A data.length cA] 52), (some ba, blk (kyC l) 48)] ++ (Kp.E 91 p' ++ (Kd.E 93 x.d ++ (kyE 91 93 (l.eraseIdx ki) ++ N)))) (fun w m => kp7 m) ?_
       refine Z6 (Z1 (Z2 (Z0 (Z30 rfl rfl rfl rfl) rfl (Z0 (Z29 rfl Zh rfl rfl rfl (v := Kd.v x.d) rfl) rfl ?_))))
       refine Z20 (M' := Kd.E 93 x.d ++ ([(some b6, blk x.cells 47), (some b3, blk [.int .i64 kind, .int .i64 on, .int .i64 other, .slice A data.length cA] 52), (some ba, blk (kyC l) 48)] ++ (Kp.E 91 p' ++ (kyE 91 93 (l.eraseIdx ki) ++ N)))) (fun w m => kp2 (F := [(some b6, blk x.cells 47), (some b3, blk [.int .i64 kind, .int .i64 on, .int .i64 other, .slice A data.length cA] 52), (some ba, blk (kyC l) 48)]) m) ?_; refine Z12 Tryd.call57 rfl (DReset_does w0 ([(some b6, blk x.cells 47), (some b3, blk [.int .i64 kind, .int .i64 on, .int .i64 other, .slice A data.length cA] 52), (some ba, blk (kyC l) 48)] ++ (Kp.E 91 p' ++ (kyE 91 93 (l.eraseIdx ki) ++ N))) x okx) rfl rfl ?_; rintro _ _ ⟨d', rfl, rfl, hdv, hdt⟩; refine Z20 (M' := [(some b6, blk x.cells 47), (some b3, blk [.int .i64 kind, .int .i64 on, .int .i64 other, .slice A data.length cA] 52), (some ba, blk (kyC l) 48)] ++ (Kp.E 91 p' ++ (Kd.E 93 d' ++ (kyE 91 93 (l.eraseIdx ki) ++ N)))) (fun w m => kp8 (B := []) (by rw [List.append_nil]; exact m)) ?_
       refine Z6 ?_
       (refine Z27 ?_; refine Z1 ?_; refine Z4 ?_)
       refine Z2 (Z0 (Z5 rfl) rfl (Z6 ?_))
       (refine Z1 ?_; refine CW.ret ?_)
       have hy : KS.Ok ⟨p', d'⟩ ∧ (⟨p', d'⟩ : KS).len ≤ T + data.length := by
        rcases hpt with ⟨e1, e2⟩ | ⟨k, m, e1, e2, e3⟩
        ·rcases hdt with ⟨_, e4⟩ | ⟨m, m', e4, _⟩
         ·rw [e1, e4]; exact ⟨.nil, Nat.zero_le _⟩
         ·rw [e2] at e4; cases e4
        ·rcases hdt with ⟨e4, _⟩ | ⟨m1, m', e4, e5, e6, e7, e8⟩
         ·rw [e2] at e4; cases e4
         ·rw [e2] at e4
          obtain rfl := Zi e4
          rw [e1, e5]
          refine ⟨.some (by rw [e6, e7]; exact e3) e8, ?_⟩
          show m'.t.length ≤ _
          rw [e6]; exact Nat.zero_le _
       obtain ⟨q1, q2⟩ := hset ki ⟨p', d'⟩ hy.1 hy.2
       refine Z107 (rs := [.tmp 4]) [.bool true] _ rfl ⟨rfl, trivial⟩ rfl ⟨l.set ki ⟨p', d'⟩, [], rfl, rfl, q1, q2⟩ (fun w m => done p' d' [] w (by unfold KS.cells; rw [hpv, hdv]) m.tail.tail) _ (.inl rfl)
      ·refine Z4 (Z2 (Z0 (RV.eql rfl rfl) rfl (Z0 (Z5 rfl) rfl (Z6 (Z1 ?_)))))
       refine Z106 rfl (fun h6 => ?_) (fun h6 => ?_)
       ·refine Z4 (Z2 (Z0 (Z30 rfl rfl rfl rfl) rfl (Z0 (Z29 rfl Zh rfl rfl rfl (v := Kp.v x.p) rfl) rfl ?_)))
        refine Z20 (M' := Kp.E 91 x.p ++ ([(some b6, blk x.cells 47), (some b3, blk [.int .i64 kind, .int .i64 on, .int .i64 other, .slice A data.length cA] 52), (some ba, blk (kyC l) 48)] ++ (Kd.E 93 x.d ++ (kyE 91 93 (l.eraseIdx ki) ++ N)))) (fun w m => kp6 (F := [(some b6, blk x.cells 47), (some b3, blk [.int .i64 kind, .int .i64 on, .int .i64 other, .slice A data.length cA] 52), (some ba, blk (kyC l) 48)]) m) ?_; refine Z12 Tryd.call30 rfl (PCopy_does w0 ([(some b6, blk x.cells 47), (some b3, blk [.int .i64 kind, .int .i64 on, .int .i64 other, .slice A data.length cA] 52), (some ba, blk (kyC l) 48)] ++ (Kd.E 93 x.d ++ (kyE 91 93 (l.eraseIdx ki) ++ N))) x okx) rfl rfl ?_; rintro _ _ ⟨p', rfl, rfl, hpt⟩; refine Z20 (M' := [(some b6, blk x.cells 47), (some b3, blk [.int .i64 kind, .int .i64 on, .int .i64 other, .slice A data.length cA] 52), (some ba, blk (kyC l) 48)] ++ (Kp.E 91 p' ++ (Kd.E 93 x.d ++ (Kp.E 91 x.p ++ (kyE 91 93 (l.eraseIdx ki) ++ N))))) (fun w m => kp1 m) ?_
        refine Z0 (Z5 rfl) rfl (Z6 ?_)
        (refine Z1 ?_; refine Z4 ?_)
        refine Z2 (Z0 (Z30 rfl rfl rfl rfl) rfl (Z0 (Z29 rfl Zh rfl rfl rfl (v := Kd.v x.d) rfl) rfl ?_))
        refine Z20 (M' := Kd.E 93 x.d ++ ([(some b6, blk x.cells 47), (some b3, blk [.int .i64 kind, .int .i64 on, .int .i64 other, .slice A data.length cA] 52), (some ba, blk (kyC l) 48)] ++ (Kp.E 91 p' ++ (Kp.E 91 x.p ++ (kyE 91 93 (l.eraseIdx ki) ++ N))))) (fun w m => kp2 (F := [(some b6, blk x.cells 47), (some b3, blk [.int .i64 kind, .int .i64 on, .int .i64 other, .slice A data.length cA] 52), (some ba, blk (kyC l) 48)]) m) ?_; refine Z12 Tryd.call58 rfl (DCopy_does w0 ([(some b6, blk x.cells 47), (some b3, blk [.int .i64 kind, .int .i64 on, .int .i64 other, .slice A data.length cA] 52), (some ba, blk (kyC l) 48)] ++ (Kp.E 91 p' ++ (Kp.E 91 x.p ++ (kyE 91 93 (l.eraseIdx ki) ++ N)))) x okx) rfl rfl ?_; rintro _ _ ⟨d', rfl, rfl, hdt⟩; refine Z20 (M' := [(some b6, blk x.cells 47), (some b3, blk [.int .i64 kind, .int .i64 on, .int .i64 other, .slice A data.length cA] 52), (some ba, blk (kyC l) 48)] ++ (Kp.E 91 p' ++ (Kd.E 93 d' ++ (Kd.E 93 x.d ++ (Kp.E 91 x.p ++ (kyE 91 93 (l.eraseIdx ki) ++ N)))))) (fun w m => kp3 m) ?_
        refine Z0 (Z5 rfl) rfl (Z6 ?_)
        (refine Z1 ?_; refine Z4 ?_; refine Z4 ?_)
        have hy : KS.Ok ⟨p', d'⟩ ∧ (⟨p', d'⟩ : KS).len ≤ T + data.length := by
         rcases hpt with ⟨e1, e2⟩ | ⟨k, m, e1, e2, e3⟩
         ·rcases hdt with ⟨_, e4⟩ | ⟨m, m', e4, _⟩
          ·rw [e1, e4]; exact ⟨.nil, Nat.zero_le _⟩
          ·rw [e2] at e4; cases e4
         ·rcases hdt with ⟨e4, _⟩ | ⟨m1, m', e4, e5, e6, e7, e8⟩
          ·rw [e2] at e4; cases e4
          ·rw [e2] at e4
           obtain rfl := Zi e4
           rw [e1, e5]
           refine ⟨.some (by rw [e6, e7]; exact e3) e8, ?_⟩
           have h9 : x.len = m.t.length := by unfold KS.len; rw [e2]
           show m'.t.length ≤ _
           rw [e6]; omega
        have hnil : (p' = none ∧ d' = none) ∨ ∃ k m, p' = some k ∧ d' = some m := by
         generalize hz : (⟨p', d'⟩ : KS) = z at hy
         cases hy.1 with
         | nil => cases hz; exact .inl ⟨rfl, rfl⟩
         | some _ _ => cases hz; exact .inr ⟨_, _, rfl, rfl⟩
        have hpo : (Kp.v p').oneCell' = true := by cases p' <;> rfl
        have hdo : (Kd.v d').oneCell' = true := by cases d' <;> rfl
        have hcells : (Kp.v p').cells = #[Kp.v p'] := by cases p' <;> rfl
        have hcelld : (Kd.v d').cells = #[Kd.v d'] := by cases d' <;> rfl
        refine Z2 (Z0 (Z3 rfl) rfl ?_)
        refine Z0 (v := .bool (decide (p' = none))) (by rcases hnil with ⟨rfl, rfl⟩ | ⟨k, m, rfl, rfl⟩; exact RV.eqlN rfl rfl rfl; exact RV.eqlS rfl rfl rfl) rfl ?_
        refine Z0 (Z3 rfl) rfl ?_
        refine Z0 (v := .bool (decide (p' = none))) (by rcases hnil with ⟨rfl, rfl⟩ | ⟨k, m, rfl, rfl⟩; exact RV.eqlN rfl rfl rfl; exact RV.eqlS rfl rfl rfl) rfl ?_
        refine Z0 (RV.neqB_f rfl rfl rfl rfl) rfl (Z6 (Z1 (Z109 rfl (CW.mem (M' := (some ba, blk (kyC l) 48) :: (some b6, blk x.cells 47) :: (some b3, blk [.int .i64 kind, .int .i64 on, .int .i64 other, .slice A data.length cA] 52) :: (Kp.E 91 p' ++ (Kd.E 93 d' ++ (Kd.E 93 x.d ++ (Kp.E 91 x.p ++ (kyE 91 93 (l.eraseIdx ki) ++ N)))))) (fun w m => m.pick [2, 0, 1] 3 rfl rfl) ?_))))
        (refine CW.skip ?_; refine Z1 ?_)
        refine CW.drawsX ((some b6, blk x.cells 47) :: (some b3, blk [.int .i64 kind, .int .i64 on, .int .i64 other, .slice A data.length cA] 52) :: (Kp.E 91 p' ++ (Kd.E 93 d' ++ (Kd.E 93 x.d ++ (Kp.E 91 x.p ++ (kyE 91 93 (l.eraseIdx ki) ++ N)))))) [9] (fun w m => m.tail) mixed (by kernel_rfl) (Z10 0 rfl (by kernel_rfl) rfl (Z3 rfl) rfl (Z10 1 rfl (by kernel_rfl) rfl (Z30 rfl rfl rfl rfl) rfl (Z10 2 rfl (by kernel_rfl) rfl (Z29 rfl (List.Mem.tail _ Zh) rfl rfl rfl (v := .int .i64 other) rfl) rfl (Z10 4 rfl (by kernel_rfl) rfl (Z3 rfl) rfl (Z10 5 rfl (by kernel_rfl) rfl (Z3 rfl) rfl (Z10 6 rfl (by kernel_rfl) rfl (Z112 (l := [.pointer none, .pointer none]) (cs := [Kp.v p', Kd.v d']) [(0, [Kp.v p']), (1, [Kd.v d'])] rfl rfl rfl rfl rfl (by simp [hcells, hcelld]) rfl) rfl (Z10 7 rfl (by kernel_rfl) rfl (RV.nilCheck rfl) rfl ?_)))))))
        refine Z11 3 rfl (by kernel_rfl) rfl Tryd.call52 rfl (fun N' hN' => waybilllaw02_which_does w0 (fun w => Mem w0 w N') N' (fun w m => m) other (ko : Int) hoth hko) rfl ?_
        rintro _ G3 ⟨_, rfl⟩
        refine Z19 (M' := (some ba, blk (kyC l) 48) :: (some b6, blk x.cells 47) :: (some b3, blk [.int .i64 kind, .int .i64 on, .int .i64 other, .slice A data.length cA] 52) :: (Kp.E 91 p' ++ (Kd.E 93 d' ++ (Kd.E 93 x.d ++ (Kp.E 91 x.p ++ (kyE 91 93 (l.eraseIdx ki) ++ N)))))) (fun w m => m.appR) (fun w m => m.tail) (Z10 8 rfl (by kernel_rfl) rfl (RV.idx_as (ko) rfl rfl rfl rfl rfl (by omega)) rfl ?_)
        refine XW.sv 9 rfl (by kernel_rfl) (SV.storeAs (s := 2) rfl rfl rfl (by intro u hu; simp only [List.mem_cons, List.not_mem_nil, or_false] at hu; rcases hu with rfl | rfl; exact hpo; exact hdo) rfl rfl (by rw [kyC_length]; show 0 + ko * 2 + 2 ≤ _; omega)) (fun w m => m.tail) ?_
        refine XW.cells (kyC (l.set ko ⟨p', d'⟩)) (kyC_spl (y := ⟨p', d'⟩) hkol (Nat.zero_add _)) (XW.nil (by kernel_rfl) ?_)
        (refine Z27 ?_; refine Z1 ?_; refine Z4 ?_)
        refine Z2 (Z0 (Z5 rfl) rfl (Z6 ?_))
        (refine Z1 ?_; refine CW.ret ?_)
        obtain ⟨q1, q2⟩ := hset ko ⟨p', d'⟩ hy.1 hy.2
        refine Z107 (rs := [.tmp 4]) [.bool true] _ rfl ⟨rfl, trivial⟩ rfl ⟨l.set ko ⟨p', d'⟩, [], rfl, rfl, q1, q2⟩ (fun w m => fin ko _ [] w hkol ?_) _ (.inl rfl)
        refine bk (Y := KS.ents 91 93 ⟨p', d'⟩) w ?_
        have m2 : Mem w0 w ([(some ba, blk (kyC (l.set ko ⟨p', d'⟩)) 48)] ++ (Kp.E 91 p' ++ (Kd.E 93 d' ++ (Kd.E 93 x.d ++ (Kp.E 91 x.p ++ (kyE 91 93 (l.eraseIdx ki) ++ N)))))) := m.sublist (List.Sublist.cons_cons _ (List.Sublist.cons _ (List.Sublist.cons _ (List.Sublist.refl _))))
        refine Mem.perm m2 ?_
        have p1 : List.Perm ([(some ba, blk (kyC (l.set ko ⟨p', d'⟩)) 48)] ++ (Kp.E 91 p' ++ (Kd.E 93 d' ++ (Kd.E 93 x.d ++ (Kp.E 91 x.p ++ (kyE 91 93 (l.eraseIdx ki) ++ N)))))) ((Kp.E 91 p' ++ Kd.E 93 d') ++ ([(some ba, blk (kyC (l.set ko ⟨p', d'⟩)) 48)] ++ (Kd.E 93 x.d ++ (Kp.E 91 x.p ++ (kyE 91 93 (l.eraseIdx ki) ++ N))))) := by
         rw [← List.append_assoc (Kp.E 91 p')]
         exact List.perm_append_comm_assoc _ _ _
        refine p1.trans (List.Perm.append_left _ (List.Perm.append_left _ ?_))
        exact List.perm_append_comm_assoc _ _ _
       ·(refine CW.skip ?_; refine Z27 ?_; refine Z1 ?_; refine Z4 ?_)
        refine Z2 (Z0 (Z5 rfl) rfl (Z6 ?_))
        (refine Z1 ?_; refine CW.ret ?_)
        obtain ⟨q1, q2⟩ := hset ki ⟨x.p, x.d⟩ okx (show x.len ≤ _ by omega)
        refine Z107 (rs := [.tmp 4]) [.bool true] _ rfl ⟨rfl, trivial⟩ rfl ⟨l.set ki ⟨x.p, x.d⟩, [], rfl, rfl, q1, q2⟩ (fun w m => done x.p x.d [] w rfl m.tail.tail) _ (.inl rfl)
theorem waybilllaw02_KeccakSponges_does (w0 : World) (Φ : Ctx) (N : List Ent) (hΦ : ∀ w, Mem w0 w N → Φ w) (hg : View Φ (some ⟨0, 0, none⟩) 2 2 1 (u8s firstL)) (hTn : ∀ i, i < 25 → w0.cell? ⟨4, i, none⟩ = some (.int .i64 (turnsL.getD i 0))) (hRn : ∀ i, i < 24 → w0.cell? ⟨3, i, none⟩ = some (U64 (g64 roundsL i)))
  (A : Option Addr) (c : Nat) (cs : List Value) (ops : List KOp) (va : View Φ A ops.length c 4 cs) (ra : Reps (KOpRd Φ) cs ops) (hb : (ops.map fun o => o.data.length).sum + 200 ≤ 1099511627776) :
  DoesG Tryd.prog 4 [.slice A ops.length c] w0 [] N (fun v G => v = .bool true) := by
 have hm := va.mx
 refine DoesG.enter Tryd.func4 rfl Tryd.ntmps4 rfl (M := N) rfl (Z4 (Z2 (Z0 (Z5 rfl) rfl (Z6 ?_))))
 (refine Z1 ?_; refine Z4 ?_)
 refine Z2 (OW.alloc (l := kyC [⟨none, none⟩, ⟨none, none⟩, ⟨none, none⟩]) rfl rfl rfl (fun ba => (Z6 ?_)))
 (refine Z1 ?_; refine Z4 ?_; refine Z4 ?_)
 refine Z2 (Z0 (Z5 rfl) rfl (Z6 ?_))
 (refine Z1 ?_; refine CW.block ?_)
 refine CW.loopJ (fun k L' M' => ∃ (i : Nat) (l : List KS) (B : List Ent), k = ops.length - i ∧ i ≤ ops.length ∧ l.length = 3 ∧ (∀ x ∈ l, x.Ok ∧ x.len ≤ kopTot ops i) ∧ L' = [(0, .slice A ops.length c), (3, ptr (some ba) 0), (4, .int .i64 (i : Int))] ∧
  M' = (some ba, blk (kyC l) 48) :: (kyE 91 93 l ++ (B ++ N))) (k0 := ops.length) ⟨0, [⟨none, none⟩, ⟨none, none⟩, ⟨none, none⟩], [], rfl, by omega, rfl, (by
   intro x hx
   simp only [List.mem_cons, List.not_mem_nil, or_false, or_self] at hx
   subst hx
   exact ⟨.nil, Nat.zero_le _⟩), rfl, rfl⟩ ⟨rfl, rfl, rfl, trivial⟩ (fun w m => m) ?_
 rintro k L' M' ⟨i, l, B, rfl, hi, hl3, hok, rfl, hM⟩
 rw [hM]
 clear hM M'
 (refine Z4 ?_; refine Z4 ?_)
 refine Z2 (Z0 (Z3 rfl) rfl (Z0 (Z3 rfl) rfl (Z0 (RV.len rfl rfl) rfl (Z0 (RV.lss rfl rfl) rfl (Z6 (Z1 ?_))))))
 refine Z106 rfl (fun hlt2 => ?_) (fun hlt2 => ?_)
 ·have h1 : i < ops.length := by omega
  have hx : ops[i]? = some ops[i] := List.getElem?_eq_getElem h1
  obtain ⟨ci, ⟨Ao, co, rfl, hon, hoth, vo⟩, hcc⟩ := ra.get KOpRd.len hx
  have hsome := va.isSome (by decide) h1
  have htot := kopTot_succ hx
  have htle := kopTot_le ops (i + 1)
  generalize hox : ops[i] = ox at *
  (refine CW.skip ?_; refine Z1 ?_; refine Z4 ?_; refine CW.block ?_; refine Z4 ?_)
  refine Z2 (Z0 (Z3 rfl) rfl (Z0 (Z3 rfl) rfl (Z0 (RV.idx_rs (i) rfl rfl rfl rfl rfl hsome (by omega)) rfl (Z0 (RV.loadAs rfl rfl rfl rfl (fun w m => va.load (hΦ w ((m.tail).appR).appR) hcc) rfl) rfl ?_))))
  refine Z20 (M' := ((some ba, blk (kyC l) 48) :: kyE 91 93 l) ++ (B ++ N)) (fun w m => m) ?_; refine Z12 Tryd.call18 rfl (waybilllaw02_play_does w0 Φ (B ++ N) (fun w m => hΦ w m.appR) hg hTn hRn ba l hl3 (kopTot ops i) hok ox.kind ox.on ox.other hon hoth Ao co ox.data vo (by omega)) rfl rfl ?_; rintro _ _ ⟨l', B', rfl, rfl, hl3', hok'⟩
  refine Z0 (Z5 rfl) rfl (Z6 ?_)
  (refine Z1 ?_; refine Z4 ?_)
  refine Z2 (Z0 (Z3 rfl) rfl (Z0 (RV.not rfl) rfl (Z6 (Z1 (Z109 rfl ?_)))))
  (refine CW.skip ?_; refine Z27 ?_; refine Z1 ?_)
  refine Z2 (Z0 (Z3 rfl) rfl (Z0 (RV.add rfl rfl (by omega)) rfl (Z0 (Z5 rfl) rfl (Z6 ?_))))
  refine Z129 (k' := ops.length - (i + 1)) (by omega) ⟨i + 1, l', B' ++ B, rfl, by omega, hl3', fun x hx => by obtain ⟨q1, q2⟩ := hok' x hx; exact ⟨q1, by omega⟩, rfl, rfl⟩ ⟨rfl, rfl, rfl, trivial⟩ (fun w m => by
   rw [List.cons_append, List.append_assoc] at m
   rw [List.append_assoc]
   exact m)
 ·have hie : i = ops.length := by omega
  (repeat (first | refine Z4 ?_ | refine Z1 ?_ | refine CW.block ?_ | refine CW.ret ?_ | refine CW.skip ?_ | refine CW.exit ?_ | refine Z9 ?_ | refine Z8 ?_ | refine Z27 ?_ | refine Z15 ?_ | refine QW.block_xn rfl ?_ | refine Z16 ?_))
  refine Z2 (Z0 (Z5 rfl) rfl (Z6 ?_))
  (refine Z1 ?_; refine CW.block ?_)
  refine CW.loopJ (fun k L' M' => ∃ (q : Nat), k = 3 - q ∧ q ≤ 3 ∧ L' = [(3, ptr (some ba) 0), (6, .int .i64 (q : Int))] ∧
   M' = (some ba, blk (kyC l) 48) :: (kyE 91 93 l ++ (B ++ N))) (k0 := 3) ⟨0, rfl, by omega, rfl, rfl⟩ ⟨rfl, rfl, trivial⟩ (fun w m => m) ?_
  rintro k L' M' ⟨q, rfl, hq, rfl, hM⟩
  rw [hM]
  clear hM M'
  (refine Z4 ?_; refine Z4 ?_)
  refine Z2 (Z0 (Z3 rfl) rfl (Z0 (RV.lss rfl rfl) rfl (Z6 (Z1 ?_))))
  refine Z106 rfl (fun hlt3 => ?_) (fun hlt3 => ?_)
  ·have hql : q < l.length := by omega
   have hlx : l[q]? = some l[q] := List.getElem?_eq_getElem hql
   obtain ⟨okx, hxt⟩ := hok _ (List.getElem_mem hql)
   have htle := kopTot_le ops i
   have hcx := kyC_at hlx
   generalize hxx : l[q] = x at *
   have hc0 : (kyC l)[0 + q * 2 + 0]? = some (Kp.v x.p) := by rw [Nat.zero_add]; exact hcx 0 _ rfl
   have hc1 : (kyC l)[0 + q * 2 + 1]? = some (Kd.v x.d) := by rw [Nat.zero_add]; exact hcx 1 _ rfl
   have hvn : (u8s x.dig.toList).length = 32 := (Z101 _).trans Zv
   refine CW.mem (M' := [(some ba, blk (kyC l) 48)] ++ (Kp.E 91 x.p ++ (Kd.E 93 x.d ++ (kyE 91 93 (l.eraseIdx q) ++ (B ++ N))))) (fun w m => kp5 (ky_front (F := [_]) hlx m)) ?_
   (refine CW.skip ?_; refine Z1 ?_; refine Z4 ?_; refine CW.block ?_; refine Z4 ?_)
   refine Z2 (Z0 (Z3 rfl) rfl (Z0 (RV.idx_as (q) rfl rfl rfl rfl rfl (by omega)) rfl (Z0 (Z30 rfl rfl rfl rfl) rfl (Z0 (Z29 rfl Zh rfl rfl rfl (v := Kp.v x.p) hc0) rfl ?_))))
   refine Z20 (M' := Kp.E 91 x.p ++ ([(some ba, blk (kyC l) 48)] ++ (Kd.E 93 x.d ++ (kyE 91 93 (l.eraseIdx q) ++ (B ++ N))))) (fun w m => kp6 (F := [_]) m) ?_; refine Z12 Tryd.call19 rfl (PSum_does w0 Φ ([(some ba, blk (kyC l) 48)] ++ (Kd.E 93 x.d ++ (kyE 91 93 (l.eraseIdx q) ++ (B ++ N)))) (fun w m => hΦ w m.tail.appR.appR.appR.appR) hg x okx) rfl rfl ?_; rintro _ _ ⟨rfl, B1, rfl⟩; refine Z20 (M' := [(some ba, blk (kyC l) 48)] ++ (Kp.E 91 x.p ++ (Kd.E 93 x.d ++ (kyE 91 93 (l.eraseIdx q) ++ (B ++ N))))) (fun w m => kp7 (F := [_]) m) ?_
   refine OW.alloc (l := u8s (List.replicate 32 0#8)) rfl (by rw [← u8s_rep]; rfl) rfl (fun b7 => (Z28 (Z104 (s := 32) rfl rfl rfl (Z117 _) rfl ((Z101 _).trans (List.length_replicate ..)) hvn) (Z6 ?_)))
   (refine Z1 ?_; refine Z4 ?_)
   refine CW.mem (M' := [(some b7, blk (u8s x.dig.toList) 39), (some ba, blk (kyC l) 48)] ++ (Kp.E 91 x.p ++ (Kd.E 93 x.d ++ (kyE 91 93 (l.eraseIdx q) ++ (B ++ N))))) (fun w m => m) (Z2 (Z0 (Z3 rfl) rfl (Z0 (RV.idx_as (q) rfl rfl rfl rfl rfl (by omega)) rfl (Z0 (Z30 rfl rfl rfl rfl) rfl (Z0 (Z29 rfl (List.Mem.tail _ Zh) rfl rfl rfl (v := Kp.v x.p) hc0) rfl ?_)))))
   refine Z20 (M' := Kp.E 91 x.p ++ ([(some b7, blk (u8s x.dig.toList) 39), (some ba, blk (kyC l) 48)] ++ (Kd.E 93 x.d ++ (kyE 91 93 (l.eraseIdx q) ++ (B ++ N))))) (fun w m => kp6 (F := [_, _]) m) ?_; refine Z12 Tryd.call19 rfl (PSum_does w0 Φ ([(some b7, blk (u8s x.dig.toList) 39), (some ba, blk (kyC l) 48)] ++ (Kd.E 93 x.d ++ (kyE 91 93 (l.eraseIdx q) ++ (B ++ N)))) (fun w m => hΦ w m.tail.tail.appR.appR.appR.appR) hg x okx) rfl rfl ?_; rintro _ _ ⟨rfl, B2, rfl⟩; refine Z20 (M' := [(some b7, blk (u8s x.dig.toList) 39), (some ba, blk (kyC l) 48)] ++ (Kp.E 91 x.p ++ (Kd.E 93 x.d ++ (kyE 91 93 (l.eraseIdx q) ++ (B ++ N))))) (fun w m => kp7 (F := [_, _]) m) ?_
   refine OW.alloc (l := u8s (List.replicate 32 0#8)) rfl (by rw [← u8s_rep]; rfl) rfl (fun b8 => (Z28 (Z104 (s := 32) rfl rfl rfl (Z117 _) rfl ((Z101 _).trans (List.length_replicate ..)) hvn) (Z6 ?_)))
   (refine Z1 ?_; refine Z4 ?_)
   refine CW.mem (M' := [(some b8, blk (u8s x.dig.toList) 39), (some b7, blk (u8s x.dig.toList) 39), (some ba, blk (kyC l) 48)] ++ (Kp.E 91 x.p ++ (Kd.E 93 x.d ++ (kyE 91 93 (l.eraseIdx q) ++ (B ++ N))))) (fun w m => m) (CW.drawsX ([(some b8, blk (u8s x.dig.toList) 39), (some b7, blk (u8s x.dig.toList) 39), (some ba, blk (kyC l) 48)] ++ (Kp.E 91 x.p ++ (Kd.E 93 x.d ++ (kyE 91 93 (l.eraseIdx q) ++ (B ++ N))))) [9, 17, 22] (fun w m => m) mixed (by kernel_rfl) (Z10 0 rfl (by kernel_rfl) rfl (Z22 rfl (List.Mem.tail _ Zh) rfl rfl rfl rfl hvn) rfl (Z10 1 rfl (by kernel_rfl) rfl (Z22 rfl Zh rfl rfl rfl rfl hvn) rfl (Z10 2 rfl (by kernel_rfl) rfl (RV.neA8_f rfl rfl rfl rfl rfl rfl Zv rfl) rfl (Z10 3 rfl (by kernel_rfl) rfl (Z3 rfl) rfl (Z10 4 rfl (by kernel_rfl) rfl (Z22 rfl (List.Mem.tail _ Zh) rfl rfl rfl rfl hvn) rfl (Z10 5 rfl (by kernel_rfl) rfl (Z3 rfl) rfl ?_)))))))
   refine Z10 6 rfl (by kernel_rfl) rfl (RV.idx_as (q) rfl rfl rfl rfl rfl (by omega)) rfl (Z10 7 rfl (by kernel_rfl) rfl (Z30 rfl rfl rfl rfl) rfl (Z10 8 rfl (by kernel_rfl) rfl (Z29 rfl (List.Mem.tail _ (List.Mem.tail _ Zh)) rfl rfl rfl (v := Kd.v x.d) hc1) rfl ?_))
   refine Z19 (M' := Kd.E 93 x.d ++ ([(some b8, blk (u8s x.dig.toList) 39), (some b7, blk (u8s x.dig.toList) 39), (some ba, blk (kyC l) 48)] ++ (Kp.E 91 x.p ++ (kyE 91 93 (l.eraseIdx q) ++ (B ++ N))))) (fun w m => kp2 (F := [(some b8, blk (u8s x.dig.toList) 39), (some b7, blk (u8s x.dig.toList) 39), (some ba, blk (kyC l) 48)]) m) (fun w m => kp8 (F := [(some b8, blk (u8s x.dig.toList) 39), (some b7, blk (u8s x.dig.toList) 39), (some ba, blk (kyC l) 48)]) (B := []) (by rw [List.append_nil]; exact m)) ?_
   refine XW.callEs 9 rfl (by kernel_rfl) rfl Tryd.call20 rfl (fun N' hN' => DSum_does w0 N' hTn hRn x okx (show x.len ≤ _ by omega)) rfl (fun v G hG w m => by obtain ⟨_, B, rfl⟩ := hG; exact kp8 (F := [(some b8, blk (u8s x.dig.toList) 39), (some b7, blk (u8s x.dig.toList) 39), (some ba, blk (kyC l) 48)]) m) ?_
   rintro _ _ ⟨rfl, B3, rfl⟩
   refine Z19 (M' := [(some b8, blk (u8s x.dig.toList) 39), (some b7, blk (u8s x.dig.toList) 39), (some ba, blk (kyC l) 48)] ++ (Kp.E 91 x.p ++ (Kd.E 93 x.d ++ (kyE 91 93 (l.eraseIdx q) ++ (B ++ N))))) (fun w m => kp8 (F := [(some b8, blk (u8s x.dig.toList) 39), (some b7, blk (u8s x.dig.toList) 39), (some ba, blk (kyC l) 48)]) m) (fun w m => m) (Z10 10 rfl (by kernel_rfl) rfl (RV.neA8_f rfl rfl rfl rfl rfl rfl Zv rfl) rfl (Z10 11 rfl (by kernel_rfl) rfl (Z115 rfl rfl rfl) rfl (Z10 12 rfl (by kernel_rfl) rfl (Z3 rfl) rfl (Z10 13 rfl (by kernel_rfl) rfl (Z3 rfl) rfl (Z10 14 rfl (by kernel_rfl) rfl (RV.idx_as (q) rfl rfl rfl rfl rfl (by omega)) rfl (Z10 15 rfl (by kernel_rfl) rfl (Z30 rfl rfl rfl rfl) rfl (Z10 16 rfl (by kernel_rfl) rfl (Z29 rfl (List.Mem.tail _ (List.Mem.tail _ Zh)) rfl rfl rfl (v := Kp.v x.p) hc0) rfl ?_)))))))
   refine Z10 18 rfl (by kernel_rfl) rfl (Z3 rfl) rfl (Z10 19 rfl (by kernel_rfl) rfl (RV.idx_as (q) rfl rfl rfl rfl rfl (by omega)) rfl (Z10 20 rfl (by kernel_rfl) rfl (Z30 rfl rfl rfl rfl) rfl (Z10 21 rfl (by kernel_rfl) rfl (Z29 rfl (List.Mem.tail _ (List.Mem.tail _ Zh)) rfl rfl rfl (v := Kd.v x.d) hc1) rfl (Z19 (M' := Kp.E 91 x.p ++ ([(some b8, blk (u8s x.dig.toList) 39), (some b7, blk (u8s x.dig.toList) 39), (some ba, blk (kyC l) 48)] ++ (Kd.E 93 x.d ++ (kyE 91 93 (l.eraseIdx q) ++ (B ++ N))))) (fun w m => kp6 (F := [(some b8, blk (u8s x.dig.toList) 39), (some b7, blk (u8s x.dig.toList) 39), (some ba, blk (kyC l) 48)]) m) (fun w m => m.perm (List.perm_append_comm_assoc _ [(some b8, blk (u8s x.dig.toList) 39), (some b7, blk (u8s x.dig.toList) 39), (some ba, blk (kyC l) 48)] _)) ?_))))
   refine XW.callEs 17 rfl (by kernel_rfl) rfl Tryd.call21 rfl (fun N' hN' => PLen_does w0 N' x okx (show x.len ≤ _ by omega)) rfl (fun v G hG w m => by obtain ⟨_, B, rfl⟩ := hG; exact kp7 (F := [(some b8, blk (u8s x.dig.toList) 39), (some b7, blk (u8s x.dig.toList) 39), (some ba, blk (kyC l) 48)]) m) ?_
   rintro _ _ ⟨rfl, B4, rfl⟩
   refine Z19 (M' := Kd.E 93 x.d ++ ([(some b8, blk (u8s x.dig.toList) 39), (some b7, blk (u8s x.dig.toList) 39), (some ba, blk (kyC l) 48)] ++ (Kp.E 91 x.p ++ (kyE 91 93 (l.eraseIdx q) ++ (B ++ N))))) (fun w m => kp2 (F := [(some b8, blk (u8s x.dig.toList) 39), (some b7, blk (u8s x.dig.toList) 39), (some ba, blk (kyC l) 48)]) (kp7 (F := [(some b8, blk (u8s x.dig.toList) 39), (some b7, blk (u8s x.dig.toList) 39), (some ba, blk (kyC l) 48)]) m)) (fun w m => kp8 (F := [(some b8, blk (u8s x.dig.toList) 39), (some b7, blk (u8s x.dig.toList) 39), (some ba, blk (kyC l) 48)]) (B := []) (by rw [List.append_nil]; exact m)) ?_
   refine XW.callEs 22 rfl (by kernel_rfl) rfl Tryd.call22 rfl (fun N' hN' => DLen_does w0 N' x okx) rfl (fun v G hG w m => by obtain ⟨_, B, rfl⟩ := hG; exact kp8 (F := [(some b8, blk (u8s x.dig.toList) 39), (some b7, blk (u8s x.dig.toList) 39), (some ba, blk (kyC l) 48)]) m) ?_
   rintro _ _ ⟨rfl, B5, rfl⟩
   refine Z19 (M' := [(some b8, blk (u8s x.dig.toList) 39), (some b7, blk (u8s x.dig.toList) 39), (some ba, blk (kyC l) 48)] ++ (Kp.E 91 x.p ++ (Kd.E 93 x.d ++ (kyE 91 93 (l.eraseIdx q) ++ (B ++ N))))) (fun w m => kp8 (F := [(some b8, blk (u8s x.dig.toList) 39), (some b7, blk (u8s x.dig.toList) 39), (some ba, blk (kyC l) 48)]) m) (fun w m => m) (Z10 23 rfl (by kernel_rfl) rfl (RV.neq_f rfl rfl rfl) rfl (Z10 24 rfl (by kernel_rfl) rfl (Z115 rfl rfl rfl) rfl (XW.nil (by kernel_rfl) (Z1 (Z109 rfl ?_)))))
   refine CW.mem (M' := (some ba, blk (kyC l) 48) :: (kyE 91 93 l ++ (B ++ N))) (fun w m => by
    have m2 : Mem w0 w ([(some ba, blk (kyC l) 48)] ++ (Kp.E 91 x.p ++ (Kd.E 93 x.d ++ ([] ++ (kyE 91 93 (l.eraseIdx q) ++ (B ++ N)))))) := m.tail.tail
    have := ky_back (F := [_]) hql (kp4 m2)
    rw [set_own hlx] at this
    exact this) ?_
   (refine CW.skip ?_; refine Z27 ?_; refine Z1 ?_)
   refine Z2 (Z0 (Z3 rfl) rfl (Z0 (RV.add rfl rfl (by omega)) rfl (Z0 (Z5 rfl) rfl (Z6 ?_))))
   refine Z129 (k' := 3 - (q + 1)) (by omega) ⟨q + 1, rfl, by omega, rfl, rfl⟩ ⟨rfl, rfl, trivial⟩ (fun w m => m)
  ·(refine CW.exit ?_; refine Z9 ?_; refine Z9 ?_; refine Z15 ?_; refine Z1 ?_; refine Z4 ?_)
   refine Z2 (Z0 (Z5 rfl) rfl (Z6 ?_))
   (refine Z1 ?_; refine CW.ret ?_)
   refine Z107 (R := fun v G => v = .bool true) (N := N) (rs := [.tmp 2]) [.bool true] [] rfl ⟨rfl, trivial⟩ rfl rfl (fun w m => m.tail.appR.appR) _ (.inl rfl)
end Go.Fw.Tryd
namespace Go.Fw
open Go Go.RowKit
theorem View.of_rd {W : World} {A : Option Addr} {cap len s : Nat} {cells : List Value} (rd : Rd W A cells) (hn : cells.length = len * s) (hle : len ≤ cap) (hmx : cap ≤ 140737488355328) : View (fun w => Mem W w []) A len cap s cells :=
 ⟨fun w q => rd.old q, rd.1, hn, hle, by omega⟩
theorem View.of8 {W : World} {A : Option Addr} {cap : Nat} {xs : List (BitVec 8)} (rd : Rd W A (u8s xs)) (hle : xs.length ≤ cap) (hmx : cap ≤ 140737488351232) : View (fun w => Mem W w []) A xs.length cap 1 (u8s xs) :=
 View.of_rd rd (by rw [Z101, Nat.mul_one]) hle (by omega)
end Go.Fw
namespace Go.Fw
open Go Go.RowKit Go.Deep Go.WideShapes
theorem Reps.of_list {α T : Type} {R : List Value → T → Prop} (cells : α → List Value) (pr : α → T) : ∀ (l : List α), (∀ x ∈ l, R (cells x) (pr x)) → Reps R (l.flatMap cells) (l.map pr)
 | [], _ => .nil
 | x :: l, h => by
  rw [List.flatMap_cons, List.map_cons]
  exact .cons (h x (List.mem_cons_self ..)) (Reps.of_list cells pr l (fun y hy => h y (List.mem_cons_of_mem _ hy)))
section
variable {H : Type} {enc : TypeId × Value → H} {P : Program} {W : World} {t e e2 : TypeId} {v : Value}
theorem reads_bs (ht : P.underlying e = some (.slice e2)) (he : P.underlying e2 = some (.int .u8)) (hs : P.cellsOf e2 = 1) (hb : P.bytesOf e2 = 1) {n : Nat} {u : Value} {r : DataW H × List MemPlace} (h : reads enc P W n e [u] = some r) (hz : Fits P e r.1) :
    ∃ (A : Option Addr) (cap : Nat) (x : List (BitVec 8)), u = .slice A x.length cap ∧ View (fun w => Mem W w []) A x.length cap 1 (u8s x) ∧ x.length ≤ 140737488351232 ∧ ∃ el sp, Els r.1 el sp ∧ el.length = x.length := by
 obtain ⟨A, cap, xs, el, sp, h1, h2, h3, h4, h5, h6, h7, h8, h9, h10⟩ := cells_of_slice (α := BitVec 8) (fun x => [U8 x]) (fun _ _ => True) 1 hs (by omega) (fun n cs r _ hr => by
  obtain ⟨x, rfl⟩ := reads_u8 he hr; exact ⟨x, rfl, trivial⟩) ht h
 rw [flat1] at h6
 have hw := (hz.slice ht h7).1
 rw [hb, h9] at hw
 have hc : cap ≤ 140737488351232 := by simpa [reachBytes] using hw
 exact ⟨A, cap, xs, h1, View.of8 h6 h2 hc, by omega, el, sp, h7, h8⟩
end
end Go.Fw
namespace Go.Fw
open Go
structure LogC where
 address : Vector (BitVec 8) 20
 topics : Value
 data : Value
def LogC.C (s : LogC) : List Value := u8s s.address.toList ++ ([s.topics] ++ ([s.data]))
theorem LogC.C_length (s : LogC) : s.C.length = 22 := by simp [LogC.C, Z101]
theorem LogC.C_one (s : LogC) (h_topics : s.topics.oneCell' = true) (h_data : s.data.oneCell' = true) : ∀ u ∈ s.C, u.oneCell' = true := by
 intro u hu
 simp only [LogC.C, List.mem_append, List.mem_singleton] at hu
 rcases hu with hu | rfl | rfl
 ·exact Z117 _ u hu
 ·exact h_topics
 ·exact h_data
structure Log where
 address : Vector (BitVec 8) 20
 topics : List (Vector (BitVec 8) 32)
 data : List (BitVec 8)
def LogRd (Φ : Ctx) (cs : List Value) (x : Log) : Prop := ∃ (A_topics : Option Addr), ∃ (c_topics : Nat), ∃ (cs_topics : List Value), ∃ (A_data : Option Addr), ∃ (c_data : Nat), cs = (⟨x.address, .slice A_topics x.topics.length c_topics, .slice A_data x.data.length c_data⟩ : LogC).C ∧ (View Φ A_topics x.topics.length c_topics 32 cs_topics) ∧ (Reps (Ar8Rd Φ) cs_topics x.topics) ∧ (View Φ A_data x.data.length c_data 1 (u8s x.data))
theorem LogRd.mono {Φ Ψ : Ctx} (hh : ∀ w, Ψ w → Φ w) (cs : List Value) (x : Log) : LogRd Φ cs x → LogRd Ψ cs x := fun ⟨A_topics, c_topics, cs_topics, A_data, c_data, e, v_topics, h_topics, v_data⟩ => ⟨A_topics, c_topics, cs_topics, A_data, c_data, e, v_topics.mono hh, h_topics.mono (Ar8Rd.mono hh), v_data.mono hh⟩
theorem LogRd.len {Φ : Ctx} (cs : List Value) (x : Log) (h : LogRd Φ cs x) : cs.length = 22 := by
 obtain ⟨A_topics, c_topics, cs_topics, A_data, c_data, e, v_topics, h_topics, v_data⟩ := h
 rw [e]; exact LogC.C_length _
theorem LogRd.mk {Φ : Ctx} {address : Vector (BitVec 8) 20} {topics : List (Vector (BitVec 8) 32)} {data : List (BitVec 8)} {A_topics : Option Addr} {c_topics : Nat} {cs_topics : List Value} {A_data : Option Addr} {c_data : Nat} (v_topics : View Φ A_topics topics.length c_topics 32 cs_topics) (h_topics : Reps (Ar8Rd Φ) cs_topics topics) (v_data : View Φ A_data data.length c_data 1 (u8s data)) : LogRd Φ (⟨address, .slice A_topics topics.length c_topics, .slice A_data data.length c_data⟩ : LogC).C (⟨address, topics, data⟩ : Log) := ⟨A_topics, c_topics, cs_topics, A_data, c_data, rfl, v_topics, h_topics, v_data⟩
structure RcptC where
 kind : Int
 rooted : Bool
 root : Vector (BitVec 8) 32
 status : BitVec 64
 used : BitVec 64
 bloom : Vector (BitVec 8) 256
 logs : Value
def RcptC.C (s : RcptC) : List Value := [.int .i64 s.kind] ++ ([.bool s.rooted] ++ (u8s s.root.toList ++ ([U64 s.status] ++ ([U64 s.used] ++ (u8s s.bloom.toList ++ ([s.logs]))))))
theorem RcptC.C_length (s : RcptC) : s.C.length = 293 := by simp [RcptC.C, Z101]
theorem RcptC.C_one (s : RcptC) (h_logs : s.logs.oneCell' = true) : ∀ u ∈ s.C, u.oneCell' = true := by
 intro u hu
 simp only [RcptC.C, List.mem_append, List.mem_singleton] at hu
 rcases hu with rfl | rfl | hu | rfl | rfl | hu | rfl
 ·rfl
 ·rfl
 ·exact Z117 _ u hu
 ·rfl
 ·rfl
 ·exact Z117 _ u hu
 ·exact h_logs
theorem RcptC.C_kind (s : RcptC) : s.C[0]? = some (.int .i64 s.kind) := by
 rw [show 0 = 0 by rfl]; exact (here_get rfl)
theorem RcptC.C_kind_set (s : RcptC) (x : Int) : s.C.set 0 (.int .i64 x) = ({ s with kind := x } : RcptC).C := by
 rw [show 0 = 0 by rfl]; exact (here_set (by simp) rfl)
structure Rcpt where
 kind : Int
 rooted : Bool
 root : Vector (BitVec 8) 32
 status : BitVec 64
 used : BitVec 64
 bloom : Vector (BitVec 8) 256
 logs : List (Log)
def RcptRd (Φ : Ctx) (cs : List Value) (x : Rcpt) : Prop := ∃ (A_logs : Option Addr), ∃ (c_logs : Nat), ∃ (cs_logs : List Value), cs = (⟨x.kind, x.rooted, x.root, x.status, x.used, x.bloom, .slice A_logs x.logs.length c_logs⟩ : RcptC).C ∧ (-9223372036854775808 ≤ x.kind ∧ x.kind ≤ 9223372036854775807) ∧ (View Φ A_logs x.logs.length c_logs 22 cs_logs) ∧ (Reps (LogRd Φ) cs_logs x.logs)
theorem RcptRd.mono {Φ Ψ : Ctx} (hh : ∀ w, Ψ w → Φ w) (cs : List Value) (x : Rcpt) : RcptRd Φ cs x → RcptRd Ψ cs x := fun ⟨A_logs, c_logs, cs_logs, e, b_kind, v_logs, h_logs⟩ => ⟨A_logs, c_logs, cs_logs, e, b_kind, v_logs.mono hh, h_logs.mono (LogRd.mono hh)⟩
theorem RcptRd.len {Φ : Ctx} (cs : List Value) (x : Rcpt) (h : RcptRd Φ cs x) : cs.length = 293 := by
 obtain ⟨A_logs, c_logs, cs_logs, e, b_kind, v_logs, h_logs⟩ := h
 rw [e]; exact RcptC.C_length _
theorem RcptRd.mk {Φ : Ctx} {kind : Int} {rooted : Bool} {root : Vector (BitVec 8) 32} {status : BitVec 64} {used : BitVec 64} {bloom : Vector (BitVec 8) 256} {logs : List (Log)} {A_logs : Option Addr} {c_logs : Nat} {cs_logs : List Value} (b_kind : -9223372036854775808 ≤ kind ∧ kind ≤ 9223372036854775807) (v_logs : View Φ A_logs logs.length c_logs 22 cs_logs) (h_logs : Reps (LogRd Φ) cs_logs logs) : RcptRd Φ (⟨kind, rooted, root, status, used, bloom, .slice A_logs logs.length c_logs⟩ : RcptC).C (⟨kind, rooted, root, status, used, bloom, logs⟩ : Rcpt) := ⟨A_logs, c_logs, cs_logs, rfl, b_kind, v_logs, h_logs⟩
end Go.Fw
namespace Go.Fw
open Go
theorem bulk_len {H : Type} (ub : DataW H → Nat) (uba : List (DataW H) → Nat) (h0 : uba [] = 0) (h1 : ∀ d r, uba (d :: r) = ub d + uba r) (h2 : ∀ el sp, ub (.slice el sp) = uba el + uba sp + 1) (hp : ∀ d : DataW H, 1 ≤ ub d)
    {d : DataW H} {el sp : List (DataW H)} (he : Els d el sp) : el.length ≤ ub d := by
 have hlen : ∀ l : List (DataW H), l.length ≤ uba l := fun l => by
  induction l with
  | nil => simp
  | cons x r ih => rw [h1]; have := hp x; simp; omega
 rcases he with ⟨_, rfl, _⟩ | rfl
 ·simp
 ·rw [h2]; have := hlen el; omega
end Go.Fw
namespace Go.Fw
open Go
structure BulkFn {H : Type} (ub : DataW H → Nat) (uba : List (DataW H) → Nat) : Prop where
 h0 : uba [] = 0
 h1 : ∀ d r, uba (d :: r) = ub d + uba r
 hs : ∀ el sp, ub (.slice el sp) = uba el + uba sp + 1
 ha : ∀ l, ub (.agg l) = uba l + 1
 hp : ∀ d : DataW H, 1 ≤ ub d
namespace BulkFn
variable {H : Type} {ub : DataW H → Nat} {uba : List (DataW H) → Nat} (B : BulkFn ub uba)
include B
theorem mem {d : DataW H} : ∀ {l : List (DataW H)}, d ∈ l → ub d ≤ uba l
 | x :: l, h => by
  rw [B.h1]
  rcases List.mem_cons.1 h with rfl | h
  ·omega
  ·have := mem h; omega
theorem els {d : DataW H} {el sp : List (DataW H)} (h : Els d el sp) : uba el ≤ ub d := by
 rcases h with ⟨_, rfl, _⟩ | rfl
 ·rw [B.h0]; omega
 ·rw [B.hs]; omega
theorem len {d : DataW H} {el sp : List (DataW H)} (h : Els d el sp) : el.length ≤ ub d := bulk_len ub uba B.h0 B.h1 B.hs B.hp h
theorem sum {α : Type} (f : α → Nat) : ∀ (xs : List α) (el : List (DataW H)), el.length = xs.length → (∀ (i : Nat) x d, xs[i]? = some x → el[i]? = some d → f x ≤ ub d) → (xs.map f).sum ≤ uba el
 | [], el, hl, h => by simp
 | x :: xs, [], hl, h => by simp at hl
 | x :: xs, d :: el, hl, h => by
  rw [List.map_cons, List.sum_cons, B.h1]
  have h1 := h 0 x d rfl rfl
  have h2 := sum f xs el (by simpa using hl) (fun i y e hy he => h (i + 1) y e (by simpa using hy) (by simpa using he))
  omega
end BulkFn
end Go.Fw
namespace Go.Fw
open Go Go.RowKit Go.Deep Go.WideShapes
section
variable {H : Type} {enc : TypeId × Value → H} {P : Program} {W : World} {t e e2 : TypeId}
def LogD (d : DataW H) (x : Log) : Prop := ∃ ds d0 d1 d2 el sp el2 sp2, d = .agg (d0 :: d1 :: d2 :: ds) ∧ Els d1 el sp ∧ el.length = x.topics.length ∧ Els d2 el2 sp2 ∧ el2.length = x.data.length
theorem LogD.bulk2 {ub : DataW H → Nat} {uba : List (DataW H) → Nat} (B : BulkFn ub uba) {d : DataW H} {x : Log} (h : LogD d x) : x.topics.length + x.data.length + 1 ≤ ub d := by
 obtain ⟨ds, d0, d1, d2, el, sp, el2, sp2, rfl, he, hl, he2, hl2⟩ := h
 have h1 := B.len he
 have h2 := B.len he2
 rw [B.ha, B.h1, B.h1, B.h1]
 omega
theorem LogD.bulk {ub : DataW H → Nat} {uba : List (DataW H) → Nat} (B : BulkFn ub uba) {d : DataW H} {x : Log} (h : LogD d x) : x.topics.length + 1 ≤ ub d := by
 have := h.bulk2 B; omega
variable {tL tA tS tH tB t8 : TypeId}
end
end Go.Fw
namespace Go.Fw
abbrev It.zero : It := It.mk false [] []
end Go.Fw
namespace Go.Fw
def be : Nat → Nat → List (BitVec 8)
 | 0, _ => []
 | k + 1, n => BitVec.ofNat 8 (n / 256 ^ k) :: be k n
def bl (n : Nat) : Nat := if n = 0 then 0 else n.log2 + 1
end Go.Fw
namespace Go.Fw
def nb (n : Nat) : Nat := (bl n + 7) / 8
def bytesN (n : Nat) : List (BitVec 8) := be (nb n) n
end Go.Fw
namespace Go.Fw
def small (s : List (BitVec 8)) (h : Nat) : Bool := match s[h]? with
 | some x => decide (x.toNat < 128)
 | none => false
end Go.Fw
namespace Go.Fw
def headB (c n : Nat) : List (BitVec 8) := if n ≤ 55 then [BitVec.ofNat 8 (c + n)] else BitVec.ofNat 8 (c + 55 + nb n) :: bytesN n
end Go.Fw
namespace Go.Fw
def oneB (d : List (BitVec 8)) : Bool := decide (d.length = 1) && small d 0
mutual
def It.enc : It → List (BitVec 8)
 | .mk l d its => if l = true then headB 192 (Its.enc its).length ++ Its.enc its else if oneB d = true then d else headB 128 d.length ++ d
def Its.enc : List It → List (BitVec 8)
 | [] => []
 | x :: xs => It.enc x ++ Its.enc xs
end
end Go.Fw
namespace Go.Fw
def bloom_Places.l1 (x9 : Vector (BitVec 8) 32) : Nat → (Nat) → (Vector (Int) 3) → Option ((Vector (Int) 3))
 | 0, _, _ => none
 | k25 + 1, n22, w24 => (if n22 < 3 then (if (2 * n22) < 32 then (x9[(2 * n22)]?).bind fun x34 => (if ((2 * n22) + 1) < 32 then (x9[((2 * n22) + 1)]?).bind fun x38 => (bloom_Places.l1 x9 k25 (n22 + 1) (w24.setIfInBounds n22 ((((256 * x34.toNat) + x38.toNat) % 2048 : Nat) : Int))) else none) else none) else (some (w24)))
def bloom_Places (a0 : List (BitVec 8)) : Option ((Vector (Int) 3)) := ((keccak_Sum ([a0] : List (List (BitVec 8)))).bind fun x9 => (((bloom_Places.l1 x9 (3 - 0 + 2) 0 (Vector.replicate 3 0)) : Option ((Vector (Int) 3))).bind fun w16 => (some w16)))
def bloom_set (a0 : Vector (BitVec 8) 256) (a1 : Int) : Option ((Vector (BitVec 8) 256)) := (if 0 ≤ a1 then (if 0 ≤ ((255 : Int) - (((a1).toNat / 8 : Nat) : Int)) then (if (((255 : Int) - (((a1).toNat / 8 : Nat) : Int))).toNat < 256 then (a0[(((255 : Int) - (((a1).toNat / 8 : Nat) : Int))).toNat]?).bind fun x6 => (some (a0.setIfInBounds ((((255 : Int) - (((a1).toNat / 8 : Nat) : Int))).toNat) (x6 ||| (1#8 <<< ((a1).toNat % 8))))) else none) else none) else none)
def bloom_Add.l1 (x5 : Vector (Int) 3) : Nat → (Nat) → (Vector (BitVec 8) 256) → Option ((Vector (BitVec 8) 256))
 | 0, _, _ => none
 | k19 + 1, n16, w18 => (if n16 < 3 then (x5[n16]?).bind fun x27 => (if -9223372036854775808 ≤ x27 ∧ x27 ≤ 9223372036854775807 then ((bloom_set w18 x27).bind fun x32 => (bloom_Add.l1 x5 k19 (n16 + 1) x32)) else none) else (some (w18)))
def bloom_Add (a0 : Vector (BitVec 8) 256) (a1 : List (BitVec 8)) : Option ((Vector (BitVec 8) 256)) := ((bloom_Places a1).bind fun x5 => (((bloom_Add.l1 x5 (3 - 0 + 2) 0 a0) : Option ((Vector (BitVec 8) 256))).bind fun w10 => (some w10)))
def bloom_Of.l1 (a0 : List (List (BitVec 8))) : Nat → (Nat) → (Vector (BitVec 8) 256) → Option ((Vector (BitVec 8) 256))
 | 0, _, _ => none
 | k15 + 1, n12, w14 => (if n12 < a0.length then (a0[n12]?).bind fun x23 => ((bloom_Add w14 x23).bind fun x35 => (bloom_Of.l1 a0 k15 (n12 + 1) x35)) else (some (w14)))
def bloom_Of (a0 : List (List (BitVec 8))) : Option ((Vector (BitVec 8) 256)) := (((bloom_Of.l1 a0 (a0.length - 0 + 2) 0 (Vector.replicate 256 0#8)) : Option ((Vector (BitVec 8) 256))).bind fun w6 => (some w6))
end Go.Fw
namespace Go.Fw
open Go
structure Rdr where
 err : Int
def Rdr.C (s : Rdr) : List Value := [.int .i64 s.err]
theorem Rdr.C_length (s : Rdr) : s.C.length = 1 := by simp [Rdr.C]
theorem Rdr.C_one (s : Rdr) : ∀ u ∈ s.C, u.oneCell' = true := by
 intro u hu
 simp only [Rdr.C, List.mem_append, List.mem_singleton] at hu
 rcases hu with rfl
 ·rfl
end Go.Fw
namespace Go.Fw
open Go
abbrev hs32 (l : List (Vector (BitVec 8) 32)) : List Value := l.flatMap fun x => u8s x.toList
theorem hs32_reps {Φ : Ctx} (l : List (Vector (BitVec 8) 32)) : Reps (Ar8Rd Φ) (hs32 l) l := by
 have := Reps.of_list (R := Ar8Rd (n := 32) Φ) (fun x : Vector (BitVec 8) 32 => u8s x.toList) (fun x => x) l (fun x _ => rfl)
 rwa [List.map_id'] at this
structure Lg where
 a : Vector (BitVec 8) 20
 tb : Option Nat
 t : List (Vector (BitVec 8) 32)
 tc : Nat
 tr : List Value
 db : Option Nat
 d : List (BitVec 8)
 dc : Nat
 dr : List Value
def Lg.val (g : Lg) : Log := ⟨g.a, g.t, g.d⟩
def Lg.cell (g : Lg) : LogC := ⟨g.a, sl g.tb 0 g.t.length g.tc, sl g.db 0 g.d.length g.dc⟩
def Lg.cells (g : Lg) : List Value := g.cell.C
def Lg.ents (tH tB : TypeId) (g : Lg) : List Ent := [(g.tb, blk (hs32 g.t ++ g.tr) tH), (g.db, blk (u8s g.d ++ g.dr) tB)]
structure Lg.Ok (g : Lg) : Prop where
 t : OwnS g.tb g.t.length g.tc 32 (hs32 g.t) g.tr
 d : OwnS g.db g.d.length g.dc 1 (u8s g.d) g.dr
theorem Lg.cells_one (g : Lg) : ∀ u ∈ g.cells, u.oneCell' = true := LogC.C_one _ rfl rfl
theorem Lg.rd {w0 : World} {Φ : Ctx} {tH tB : TypeId} {g : Lg} (ok : g.Ok) (h : ∀ w, Φ w → Mem w0 w (g.ents tH tB)) : LogRd Φ g.cells g.val := by
 have h1 := ok.t.view (te := tH) (w0 := w0) (Ψ := Φ) (by decide) (fun w q => (h w q).sublist (by unfold Lg.ents; exact List.Sublist.cons_cons _ (List.nil_sublist _)))
 have h2 := ok.d.view (te := tB) (w0 := w0) (Ψ := Φ) (by decide) (fun w q => (h w q).tail)
 exact LogRd.mk h1 (hs32_reps _) h2
end Go.Fw
namespace Go.Fw
def Log.zero : Log := ⟨Vector.replicate 20 0#8, [], []⟩
def Rcpt.zero : Rcpt := ⟨0, false, Vector.replicate 32 0#8, 0#64, 0#64, Vector.replicate 256 0#8, []⟩
end Go.Fw
namespace Go.Fw
theorem ssum_loop (x : Sponge) : ∀ (d i k : Nat) (w : Vector (BitVec 8) 32), i + d = 32 → d < k → ∃ w', keccak_Sponge_Sum.l1 x k i w = some w'
 | 0, i, k, w, h, hk => by
  obtain ⟨k, rfl⟩ : ∃ m, k = m + 1 := ⟨k - 1, by omega⟩
  exact ⟨w, by rw [keccak_Sponge_Sum.l1, if_neg (by omega)]⟩
 | d + 1, i, k, w, h, hk => by
  obtain ⟨k, rfl⟩ : ∃ m, k = m + 1 := ⟨k - 1, by omega⟩
  rw [keccak_Sponge_Sum.l1, if_pos (by omega), if_pos (by omega), Vector.getElem?_eq_getElem (by omega), Zb]
  exact ssum_loop x d (i + 1) k _ (by omega) (by omega)
theorem ssum_total (s : Sponge) (h0 : 0 ≤ s.held) (h1 : s.held < 136) (hk : s.kind = 0 ∨ s.kind = 1) : ∃ r, keccak_Sponge_Sum s = some r := by
 unfold keccak_Sponge_Sum
 rw [if_pos h0, if_pos (by omega)]
 dsimp only
 have hf : ∃ f, firstL[s.kind.toNat]? = some f := by
  rcases hk with e | e <;> rw [e]
  ·exact ⟨1#8, rfl⟩
  ·exact ⟨6#8, rfl⟩
 obtain ⟨f, hf⟩ := hf
 rw [if_pos h0, if_pos (by omega), Vector.getElem?_eq_getElem (by omega), Zb, if_pos (by omega), hf, Zb]
 generalize hS : (Sponge.mk _ _ _ _ _ : Sponge) = S
 obtain ⟨s', e1, _⟩ := absorb_total S
 rw [e1, Zb]
 obtain ⟨w', e2⟩ := ssum_loop s' 32 0 (32 - 0 + 2) (Vector.replicate 32 0#8) (by omega) (by omega)
 rw [e2, Zb]
 exact ⟨_, rfl⟩
theorem sum_total (t : List (BitVec 8)) (ht : t.length ≤ 140737488355328) : ∃ h, keccak_Sum [t] = some h := by
 unfold keccak_Sum keccak_digest
 obtain ⟨w, e1, e2, e3, e4, e5⟩ := write_total ({ (⟨0, (Vector.replicate 25 0#64), (Vector.replicate 136 0#8), 0, 0⟩ : Sponge) with kind := (0 : Int) } : Sponge) t (by show (0 : Int) ≤ 0; omega) (by show (0 : Int) < 136; omega) (by show -9223372036854775808 ≤ (0 : Int) + _ ∧ (0 : Int) + _ ≤ _; omega)
 have hl : keccak_digest.l1 [t] ([t].length - 0 + 2) 0 ({ (⟨0, (Vector.replicate 25 0#64), (Vector.replicate 136 0#8), 0, 0⟩ : Sponge) with kind := (0 : Int) } : Sponge) = some w := by
  show keccak_digest.l1 [t] (2 + 1) 0 _ = some w
  rw [keccak_digest.l1, if_pos (by simp)]
  show (some t).bind _ = _
  rw [Zb, e1, Zb, keccak_digest.l1, if_neg (by simp)]
 rw [hl, Zb]
 obtain ⟨⟨h, w'⟩, e6⟩ := ssum_total w e2 e3 (.inl e4)
 rw [e6, Zb]
 exact ⟨h, rfl⟩
theorem places_total (t : List (BitVec 8)) (ht : t.length ≤ 140737488355328) : ∃ p : Vector Int 3, bloom_Places t = some p ∧ ∀ (i : Nat) (h : i < 3), 0 ≤ p[i] ∧ p[i] < (2048 : Int) := by
 unfold bloom_Places
 obtain ⟨h, e⟩ := sum_total t ht
 rw [e, Zb]
 have loop : ∀ (d i k : Nat) (w : Vector Int 3), i + d = 3 → d < k → (∀ (j : Nat) (hj : j < 3), 0 ≤ w[j] ∧ w[j] < (2048 : Int)) → ∃ p, bloom_Places.l1 h k i w = some p ∧ ∀ (j : Nat) (hj : j < 3), 0 ≤ p[j] ∧ p[j] < (2048 : Int) := by
  intro d
  induction d with
  | zero =>
   intro i k w h1 h2 h3
   obtain ⟨k, rfl⟩ : ∃ m, k = m + 1 := ⟨k - 1, by omega⟩
   exact ⟨w, by rw [bloom_Places.l1, if_neg (by omega)], h3⟩
  | succ d ih =>
   intro i k w h1 h2 h3
   obtain ⟨k, rfl⟩ : ∃ m, k = m + 1 := ⟨k - 1, by omega⟩
   rw [bloom_Places.l1, if_pos (by omega), if_pos (by omega), Vector.getElem?_eq_getElem (by omega), Zb, if_pos (by omega), Vector.getElem?_eq_getElem (by omega), Zb]
   refine ih (i + 1) k _ (by omega) (by omega) fun j hj => ?_
   rw [Vector.getElem_setIfInBounds]
   split
   ·omega
   ·exact h3 j hj
 obtain ⟨p, e1, e2⟩ := loop 3 0 (3 - 0 + 2) (Vector.replicate 3 0) (by omega) (by omega) (by intro j hj; simp)
 rw [e1, Zb]
 exact ⟨p, rfl, e2⟩
end Go.Fw
namespace Go.Fw
def bitV (b : Vector (BitVec 8) 256) (k : Nat) : Bool := (b[255 - k / 8]'(by omega)).getLsbD (k % 8)
theorem place_eq (k : Nat) (hk : k < 2048) : ((255 : Int) - ((((k : Nat) : Int).toNat / 8 : Nat) : Int)).toNat = 255 - k / 8 := by omega
theorem set_eq (b : Vector (BitVec 8) 256) (j : Nat) (hj : j < 2048) : ∃ b', bloom_set b ((j : Nat) : Int) = some b' ∧ ∀ k, k < 2048 → bitV b' k = (bitV b k || decide (k = j)) := by
 unfold bloom_set
 rw [if_pos (by omega), if_pos (by omega), place_eq j hj, if_pos (by omega), Vector.getElem?_eq_getElem (by omega), Zb, Int.toNat_natCast]
 refine ⟨_, rfl, fun k hk => ?_⟩
 unfold bitV
 rw [Vector.getElem_setIfInBounds]
 by_cases h : 255 - j / 8 = 255 - k / 8
 ·rw [if_pos h, BitVec.getLsbD_or, BitVec.getLsbD_shiftLeft]
  have e : b[255 - j / 8] = b[255 - k / 8]'(by omega) := by congr 1
  rw [e]
  congr 1
  by_cases h2 : k = j
  ·subst h2
   have : k % 8 < 8 := by omega
   simp [this]
  ·have : k % 8 ≠ j % 8 := by omega
   rw [decide_eq_false h2]
   by_cases h3 : k % 8 < j % 8
   ·simp [h3]
   ·have : 0 < k % 8 - j % 8 := by omega
    have h4 : (1#8).getLsbD (k % 8 - j % 8) = false := by
     have : ∀ d, 0 < d → (1#8 : BitVec 8).getLsbD d = false := by
      intro d hd
      rw [BitVec.getLsbD_one]
      simp; omega
     exact this _ (by omega)
    rw [h4]; simp
 ·rw [if_neg h]
  have : k ≠ j := fun e => h (by rw [e])
  simp [this]
theorem zero_bits (k : Nat) : bitV (Vector.replicate 256 0#8) k = false := by unfold bitV; simp
def inP (p : Vector Int 3) (k : Nat) : Bool := decide (p[0] = (k : Int)) || decide (p[1] = (k : Int)) || decide (p[2] = (k : Int))
theorem add_eq (b : Vector (BitVec 8) 256) (t : List (BitVec 8)) (p : Vector Int 3) (hp : bloom_Places t = some p) (hr : ∀ (i : Nat) (h : i < 3), 0 ≤ p[i] ∧ p[i] < (2048 : Int)) : ∃ b', bloom_Add b t = some b' ∧ ∀ k, k < 2048 → bitV b' k = (bitV b k || inP p k) := by
 unfold bloom_Add
 rw [hp, Zb]
 have r0 := hr 0 (by omega)
 have r1 := hr 1 (by omega)
 have r2 := hr 2 (by omega)
 obtain ⟨a0, e0⟩ : ∃ n : Nat, p[0] = (n : Int) := ⟨p[0].toNat, by omega⟩
 obtain ⟨a1, e1⟩ : ∃ n : Nat, p[1] = (n : Int) := ⟨p[1].toNat, by omega⟩
 obtain ⟨a2, e2⟩ : ∃ n : Nat, p[2] = (n : Int) := ⟨p[2].toNat, by omega⟩
 rw [e0] at r0; rw [e1] at r1; rw [e2] at r2
 obtain ⟨b1, f1, g1⟩ := set_eq b a0 (by omega)
 obtain ⟨b2, f2, g2⟩ := set_eq b1 a1 (by omega)
 obtain ⟨b3, f3, g3⟩ := set_eq b2 a2 (by omega)
 have h : bloom_Add.l1 p (3 - 0 + 2) 0 b = some b3 := by
  show bloom_Add.l1 p (4 + 1) 0 b = _
  rw [bloom_Add.l1, if_pos (by omega), Vector.getElem?_eq_getElem (by omega), Zb, e0, if_pos (by omega), f1, Zb]
  rw [bloom_Add.l1, if_pos (by omega), Vector.getElem?_eq_getElem (by omega), Zb]
  show (if -9223372036854775808 ≤ p[1] ∧ p[1] ≤ 9223372036854775807 then (bloom_set b1 p[1]).bind _ else none) = _
  rw [e1, if_pos (by omega), f2, Zb]
  rw [bloom_Add.l1, if_pos (by omega), Vector.getElem?_eq_getElem (by omega), Zb]
  show (if -9223372036854775808 ≤ p[2] ∧ p[2] ≤ 9223372036854775807 then (bloom_set b2 p[2]).bind _ else none) = _
  rw [e2, if_pos (by omega), f3, Zb]
  rw [bloom_Add.l1, if_neg (by omega)]
 rw [h, Zb]
 refine ⟨b3, rfl, fun k hk => ?_⟩
 rw [g3 k hk, g2 k hk, g1 k hk]
 unfold inP
 rw [e0, e1, e2]
 have c : ∀ m : Nat, decide (k = m) = decide ((m : Int) = (k : Int)) := fun m => decide_eq_decide.2 (by omega)
 rw [c, c, c]
 cases bitV b k <;> cases decide ((a0 : Int) = (k : Int)) <;> cases decide ((a1 : Int) = (k : Int)) <;> cases decide ((a2 : Int) = (k : Int)) <;> rfl
end Go.Fw
namespace Go.Fw
def inT (t : List (BitVec 8)) (k : Nat) : Bool := match bloom_Places t with
 | some p => inP p k
 | none => false
def inL (l : List (List (BitVec 8))) (k : Nat) : Bool := l.any (fun t => inT t k)
theorem of_loop (a : List (List (BitVec 8))) (ha : ∀ t ∈ a, t.length ≤ 140737488355328) : ∀ (d i k : Nat) (w : Vector (BitVec 8) 256), i + d = a.length → d < k → (∀ q, q < 2048 → bitV w q = inL (a.take i) q) → ∃ w', bloom_Of.l1 a k i w = some w' ∧ ∀ q, q < 2048 → bitV w' q = inL a q
 | 0, i, k, w, h, hk, hw => by
  obtain ⟨k, rfl⟩ : ∃ m, k = m + 1 := ⟨k - 1, by omega⟩
  refine ⟨w, by rw [bloom_Of.l1, if_neg (by omega)], ?_⟩
  rwa [List.take_of_length_le (by omega)] at hw
 | d + 1, i, k, w, h, hk, hw => by
  obtain ⟨k, rfl⟩ : ∃ m, k = m + 1 := ⟨k - 1, by omega⟩
  have h1 : i < a.length := by omega
  obtain ⟨p, e1, e2⟩ := places_total a[i] (ha _ (List.getElem_mem h1))
  obtain ⟨b', f1, f2⟩ := add_eq w a[i] p e1 e2
  rw [bloom_Of.l1, if_pos h1, List.getElem?_eq_getElem h1, Zb, f1, Zb]
  refine of_loop a ha d (i + 1) k b' (by omega) (by omega) fun q hq => ?_
  rw [f2 q hq, hw q hq, List.take_add_one, List.getElem?_eq_getElem h1]
  unfold inL
  rw [List.any_append]
  simp [inT, e1]
theorem of_eq (a : List (List (BitVec 8))) (ha : ∀ t ∈ a, t.length ≤ 140737488355328) : ∃ b, bloom_Of a = some b ∧ (∀ q, q < 2048 → bitV b q = inL a q) ∧ (a = [] → b = Vector.replicate 256 0#8) := by
 unfold bloom_Of
 by_cases h0 : a = []
 ·subst h0
  refine ⟨Vector.replicate 256 0#8, rfl, fun q _ => by rw [zero_bits]; rfl, fun _ => rfl⟩
 ·obtain ⟨w, e1, e2⟩ := of_loop a ha a.length 0 (a.length - 0 + 2) (Vector.replicate 256 0#8) (by omega) (by omega) (fun q _ => by rw [zero_bits]; simp [inL])
  rw [e1, Zb]
  exact ⟨w, rfl, e2, fun h => absurd h h0⟩
end Go.Fw
namespace Go.Fw
open Go Go.RowKit Go.Deep Go.WideShapes
section
variable {H : Type} {enc : TypeId × Value → H} {P : Program} {W : World} {tL tA tS tH tB t8 : TypeId}
theorem seg_list (cs : List Value) (o n : Nat) : cs.drop o = (cs.drop o).take n ++ cs.drop (o + n) := by
 rw [← List.drop_drop, List.take_append_drop]
def RcptD (d : DataW H) (x : Rcpt) : Prop := ∃ ds el sp, d = .agg ds ∧ (∃ dl ∈ ds, Els dl el sp) ∧ el.length = x.logs.length ∧ ∀ (i : Nat) x' d', x.logs[i]? = some x' → el[i]? = some d' → LogD d' x'
theorem RcptD.bulk {ub : DataW H → Nat} {uba : List (DataW H) → Nat} (B : BulkFn ub uba) {d : DataW H} {x : Rcpt} (h : RcptD d x) : (x.logs.map fun x => x.topics.length + x.data.length + 1).sum ≤ ub d := by
 obtain ⟨ds, el, sp, rfl, ⟨dl, hm, he⟩, hl, hq⟩ := h
 have h1 := B.sum (fun x : Log => x.topics.length + x.data.length + 1) x.logs el hl (fun i x d hx hd => (hq i x d hx hd).bulk2 B)
 have h2 := B.els he
 have h3 := B.mem hm
 rw [B.ha]
 omega
end
end Go.Fw
namespace Go.Fw
open Go Go.RowKit Go.Deep Go.WideShapes
section
variable {H : Type} {enc : TypeId × Value → H} {P : Program} {W : World}
structure KopTypes (P : Program) (tO tN tB t8 : TypeId) where
 fs : Array Field
 f0 : Field
 f1 : Field
 f2 : Field
 f3 : Field
 hO : P.underlying tO = some (.struct fs)
 h0 : fs[0]? = some f0
 h1 : fs[1]? = some f1
 h2 : fs[2]? = some f2
 h3 : fs[3]? = some f3
 o0 : f0.offset = 0
 o1 : f1.offset = 1
 o2 : f2.offset = 2
 o3 : f3.offset = 3
 y0 : f0.type = tN
 y1 : f1.type = tN
 y2 : f2.type = tN
 y3 : f3.type = tB
 uN : P.underlying tN = some (.int .i64)
 uB : P.underlying tB = some (.slice t8)
 u8 : P.underlying t8 = some (.int .u8)
 cN : P.cellsOf tN = 1
 cB : P.cellsOf tB = 1
 c8 : P.cellsOf t8 = 1
 cO : P.cellsOf tO = 4
 b8 : P.bytesOf t8 = 1
def KOpD (d : DataW H) (o : KOp) : Prop := ∃ ds d0 d1 d2 d3 el sp, d = .agg (d0 :: d1 :: d2 :: d3 :: ds) ∧ Els d3 el sp ∧ el.length = o.data.length
theorem KOpD.bulk {ub : DataW H → Nat} {uba : List (DataW H) → Nat} (B : BulkFn ub uba) {d : DataW H} {o : KOp} (h : KOpD d o) : o.data.length ≤ ub d := by
 obtain ⟨ds, d0, d1, d2, d3, el, sp, rfl, he, hl⟩ := h
 have h1 := B.len he
 rw [B.ha, B.h1, B.h1, B.h1, B.h1]
 omega
variable {tO tN tB t8 : TypeId}
theorem reads_kop (T : KopTypes P tO tN tB t8) {n : Nat} {cs : List Value} {d : DataW H} {ps : List MemPlace} (hl : cs.length = 4) (hr : reads enc P W n tO cs = some (d, ps)) (hz : Fits P tO d) :
    ∃ o : KOp, KOpRd (fun w => Mem W w []) cs o ∧ KOpD d o := by
 obtain ⟨xs, m, hn, hx, hcl, hxl, hf⟩ := DataW.trod_struct T.hO hr
 have g0 := hf 0 T.f0 T.h0
 have g1 := hf 1 T.f1 T.h1
 have g2 := hf 2 T.f2 T.h2
 have g3 := hf 3 T.f3 T.h3
 rw [T.o0, T.y0, T.cN] at g0
 rw [T.o1, T.y1, T.cN] at g1
 rw [T.o2, T.y2, T.cN] at g2
 rw [T.o3, T.y3, T.cB] at g3
 have hsz : 3 < T.fs.size := (Array.getElem?_eq_some_iff.1 T.h3).1
 obtain ⟨x0, e0⟩ : ∃ x, xs[0]? = some x := ⟨_, List.getElem?_eq_getElem (by omega)⟩
 obtain ⟨x1, e1⟩ : ∃ x, xs[1]? = some x := ⟨_, List.getElem?_eq_getElem (by omega)⟩
 obtain ⟨x2, e2⟩ : ∃ x, xs[2]? = some x := ⟨_, List.getElem?_eq_getElem (by omega)⟩
 obtain ⟨x3, e3⟩ : ∃ x, xs[3]? = some x := ⟨_, List.getElem?_eq_getElem (by omega)⟩
 rw [e0] at g0; rw [e1] at g1; rw [e2] at g2; rw [e3] at g3
 have hd2 : d = .agg (xs.map (·.1)) := congrArg Prod.fst hx
 subst hd2
 have hz3 : Fits P tB x3.1 := by have := Fits.struct T.hO hz T.h3 (d := x3.1) (by simp [e3]); rwa [T.y3] at this
 obtain ⟨n0, a0, w0⟩ := reads_int T.uN g0
 obtain ⟨n1, a1, w1⟩ := reads_int T.uN g1
 obtain ⟨n2, a2, w2⟩ := reads_int T.uN g2
 obtain ⟨u2, hu2⟩ : ∃ u, (cs.drop 3).take 1 = [u] := List.length_eq_one_iff.1 (by rw [List.length_take, List.length_drop]; omega)
 rw [hu2] at g3
 obtain ⟨A2, c2, x, rfl, v2, m2, el2, sp2, hel2, hlen2⟩ := reads_bs T.uB T.u8 T.c8 T.b8 g3 hz3
 have hcs : cs = [.int .i64 n0, .int .i64 n1, .int .i64 n2, .slice A2 x.length c2] := by
  have h0 : cs = cs.drop 0 := rfl
  have h7 : cs.drop 4 = [] := List.drop_of_length_le (by omega)
  rw [h0, seg_list cs 0 1, seg_list cs 1 1, seg_list cs 2 1, seg_list cs 3 1, a0, a1, a2, hu2, h7]
  rfl
 refine ⟨⟨n0, n1, n2, x⟩, ?_, ?_⟩
 ·rw [hcs]
  exact ⟨A2, c2, rfl, wf_i64_in w1, wf_i64_in w2, v2⟩
 ·match xs, e0, e1, e2, e3 with
  | [], e, _, _, _ => simp at e
  | [_], _, e, _, _ => simp at e
  | [_, _], _, _, e, _ => simp at e
  | [_, _, _], _, _, _, e => simp at e
  | y0 :: y1 :: y2 :: y3 :: r, _, e1, e2, e3 =>
   simp at e1 e2 e3
   subst e1 e2 e3
   exact ⟨r.map (·.1), y0.1, _, _, _, el2, sp2, rfl, hel2, hlen2⟩
theorem arg_kops {tOs : TypeId} (T : KopTypes P tO tN tB t8) (uO : P.underlying tOs = some (.slice tO)) (bO : P.bytesOf tO = 48) {b0 : Nat} {v : Value} (hval : Value.okWide P W .any b0 tOs v) {d : DataW H} {ps : List MemPlace} (h : DataW.Trod enc P W 0 (fun _ => true) true tOs v d ps) (hz : Fits P tOs d) :
    ∃ (A : Option Addr) (cap : Nat) (cells : List Value) (xs : List KOp) (el sp : List (DataW H)), v = .slice A xs.length cap ∧ View (fun w => Mem W w []) A xs.length cap 4 cells ∧ Reps (KOpRd (fun w => Mem W w [])) cells xs ∧ Els d el sp ∧ el.length = xs.length ∧ ∀ (i : Nat) x d, xs[i]? = some x → el[i]? = some d → KOpD d x := by
 obtain ⟨a, l, c, rfl⟩ := okWide_slice uO hval
 obtain ⟨fuel, hf⟩ := h
 have hr : reads enc P W fuel tOs [.slice a l c] = some (d, ps) := by simpa [Value.cells] using hf
 obtain ⟨A, cap, ys, el, sp, h1, h2, h3, h4, h5, h6, h7, h8, h9, h10⟩ := cells_of_slice (α := List Value) (fun u => u) (fun cs d => ∃ n ps, cs.length = 4 ∧ reads enc P W n tO cs = some (d, ps)) 4 T.cO (by omega) (fun n cs r hl hr => ⟨cs, rfl, n, r.2, hl, hr⟩) uO hr
 have hw := hz.slice uO h7
 rw [bO, h9] at hw
 obtain ⟨xs, hlen, hq⟩ := list_of (Q := fun i x => ∃ cs d, ys[i]? = some cs ∧ el[i]? = some d ∧ KOpRd (fun w => Mem W w []) cs x ∧ KOpD d x) ys.length (fun i hi => by
  have hu : ys[i]? = some ys[i] := List.getElem?_eq_getElem hi
  have hd : el[i]? = some (el[i]'(by omega)) := List.getElem?_eq_getElem (by omega)
  obtain ⟨n, ps', hl, hr⟩ := h10 i _ _ hu hd
  obtain ⟨x, e1, e2⟩ := reads_kop T hl hr (hw.2 _ (List.mem_of_getElem? hd))
  exact ⟨x, _, _, hu, hd, e1, e2⟩)
 have hreps : ∀ (ys : List (List Value)) (xs : List KOp), xs.length = ys.length → (∀ (i : Nat) (x : KOp), xs[i]? = some x → ∃ cs, ys[i]? = some cs ∧ KOpRd (fun w => Mem W w []) cs x) → Reps (KOpRd (fun w => Mem W w [])) (ys.flatMap fun u => u) xs := by
  intro ys
  induction ys with
  | nil => intro its hl _; cases its with | nil => exact .nil | cons _ _ => simp at hl
  | cons y ys ih =>
   intro its hl hq
   cases its with
   | nil => simp at hl
   | cons it its =>
    obtain ⟨cs, e1, e2⟩ := hq 0 it rfl
    simp at e1
    subst e1
    rw [List.flatMap_cons]
    exact .cons e2 (ih its (by simpa using hl) (fun i x hx => by simpa using hq (i + 1) x (by simpa using hx)))
 have hc : cap * 48 ≤ 140737488351232 := by simpa [reachBytes] using hw.1
 have hR := hreps ys xs hlen (fun i x hx => by obtain ⟨cs, d, e1, _, e3, _⟩ := hq i x hx; exact ⟨cs, e1, e3⟩)
 refine ⟨A, cap, _, xs, el, sp, by rw [hlen]; exact h1, View.of_rd h6 (hR.len KOpRd.len) (by omega) (by omega), hR, h7, by omega, fun i x d hx hd => ?_⟩
 obtain ⟨cs, d', _, e2', _, e4⟩ := hq i x hx
 obtain rfl : d = d' := Zi (hd.symm.trans e2')
 exact e4
end
end Go.Fw
