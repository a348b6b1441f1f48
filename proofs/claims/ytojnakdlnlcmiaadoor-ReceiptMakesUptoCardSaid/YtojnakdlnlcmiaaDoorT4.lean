/- Part of a proof: rules that its law uses. -/
import Derived.Test.YtojnakdlnlcmiaaDoorT3
namespace Go.Fw.Tryd
open Go Go.Proofs Go.Fw
set_option maxRecDepth 100000
set_option linter.unusedVariables false
set_option linter.unusedSimpArgs false
set_option maxHeartbeats 1000000
theorem keccak_Sponge_absorb_does (w0 : World) (Φ : Ctx) (N : List Ent) (hΦ : ∀ w, Mem w0 w N → Φ w) (b0_ : Nat) (a0 : Sponge) (new0 : Sponge) (hf : keccak_Sponge_absorb a0 = some new0) : DoesG Tryd.prog 142 [ptr (some b0_) 0] w0 [(some b0_, blk a0.C 186)] N (fun v G => ∃ B : List Ent, v = .tuple #[] ∧ G = (some b0_, blk new0.C 186) :: B) := by
 unfold keccak_Sponge_absorb at hf
 refine DoesG.enter Tryd.func142 rfl Tryd.ntmps142 rfl (M := ((some b0_, blk a0.C 186) :: ([] ++ N))) rfl (CW.seq (CW.seq (CW.region (OW.rv (RV.move rfl) rfl (OW.rv (RV.nilCheck rfl) rfl (OW.rv (RV.field rfl rfl rfl rfl) rfl (OW.slot (ptr (some b0_) 26) rfl (OW.rv (RV.loadAo rfl (List.Mem.head _) rfl rfl rfl rfl (Sponge.C_part_all _) ((u8s_length _).trans Vector.length_toList)) rfl (OW.rv (RV.move rfl) rfl ?_)))))))))
 refine OW.nil (QW.then_n ?_)
 obtain ⟨q1, hq2, hf⟩ := some_bind hf
 refine CW.cutJ (fun L' M' => ∃ w3 : Sponge, q1 = w3 ∧ L' = [(0, ptr (some b0_) 0)] ∧ M' = ((some b0_, blk w3.C 186) :: ([] ++ N))) ?_ ?_
 ·rintro L5 M6 ⟨w3, e4, e7, e8⟩
  rw [e7, e8]
  clear e7 e8 L5 M6
  clear hq2
  rw [e4] at hf
  clear e4
  try dsimp only at hf
  refine QW.then_n (CW.seq (CW.region (OW.rv (RV.move rfl) rfl (OW.rv (RV.move rfl) rfl (OW.rv (RV.nilCheck rfl) rfl (OW.rv (RV.field rfl rfl rfl rfl) rfl (OW.slot (ptr (some b0_) 1) rfl (OW.rv (RV.loadAo rfl (List.Mem.head _) rfl rfl rfl rfl (Sponge.C_lanes_all _) ((u64s_length _).trans Vector.length_toList)) rfl ?_))))))))
  obtain ⟨x10, hx9, hf⟩ := some_bind hf
  refine OW.callG Tryd.call149 rfl (keccak_Permute_does w0 (More w0 Φ []) ((some b0_, blk w3.C 186) :: ([] ++ N)) (fun w m => More.of hΦ 1 m rfl) w3.lanes x10 hx9) rfl rfl ?_
  rintro _ G11 rfl
  refine OW.mem (M' := ((some b0_, blk w3.C 186) :: ([] ++ N))) (fun w m => m.appR) (OW.rv (RV.nilCheck rfl) rfl (OW.rv (RV.field rfl rfl rfl rfl) rfl (OW.slot (ptr (some b0_) 1) rfl ?_)))
  refine OW.sv (SV.storeAs rfl rfl rfl (u64s_one _) rfl ((u64s_length _).trans Vector.length_toList) (by rw [Sponge.C_length]; first | omega | decide)) ?_
  refine OW.cells ({ w3 with lanes := x10 } : Sponge).C (Sponge.C_lanes_spl _ _) (OW.nil (QW.then_n (CW.region (OW.rv (RV.move rfl) rfl (OW.rv (RV.nilCheck rfl) rfl (OW.rv (RV.field rfl rfl rfl rfl) rfl (OW.slot (ptr (some b0_) 162) rfl (OW.sv (SV.store rfl rfl rfl rfl rfl (by rw [Sponge.C_length]; omega)) (OW.cells ({ ({ w3 with lanes := x10 } : Sponge) with held := (0 : Int) } : Sponge).C (Sponge.C_held_set _ _) ?_)))))))))
  refine OW.nil ?_
  have e0 := Option.some.inj hf
  subst e0
  refine QW.retG (rs := []) ([]) ((some b0_, blk ({ ({ w3 with lanes := x10 } : Sponge) with held := (0 : Int) } : Sponge).C 186) :: []) rfl ?_ rfl ?_ ?_ _ (.inr rfl)
  ·exact trivial
  ·exact ⟨[], rfl, rfl⟩
  ·exact (fun w m => m.pick [0] 1 rfl rfl)
 ·skip
  refine CW.block (CW.loopJ (fun k L' M' => ∃ n13 : Nat, ∃ w15 : Sponge, (keccak_Sponge_absorb.l1 a0 k n13 w15) = some q1 ∧ (n13 ≤ 9223372036854775807) ∧ L' = [(0, ptr (some b0_) 0), (7, .agg (u8s a0.part.toList).toArray), (8, .int .i64 ((n13 : Nat) : Int))] ∧ M' = ((some b0_, blk w15.C 186) :: ([] ++ N))) (k0 := (136 - 0 + 2)) ⟨0, a0, hq2, (by omega), rfl, rfl⟩ ⟨rfl, rfl, rfl, trivial⟩ (fun w m => m.pick [0] 1 rfl rfl) ?_)
  clear hq2
  rintro k16 L19 M20 ⟨n13, w15, hl17, b14, e21, e22⟩
  rw [e21, e22]
  clear e21 e22 L19 M20
  rcases k16 with _ | k16
  ·rw [keccak_Sponge_absorb.l1] at hl17; cases hl17
  rw [keccak_Sponge_absorb.l1] at hl17
  refine CW.seq (CW.region (OW.rv (RV.lss rfl rfl) rfl (OW.slot (.bool (decide (n13 < 136))) (congrArg Value.bool (decide_eq_decide.2 (by omega))) (OW.nil (QW.then_n (CW.seq ?_))))))
  by_cases h23 : n13 < 136
  ·replace hl17 := if_t hl17 h23
   refine CW.is_t rfl (decide_eq_true h23) (CW.skip (QW.then_n (CW.seq (CW.block (CW.seq (CW.region (OW.rv (RV.move rfl) rfl ?_)))))))
   obtain ⟨x24, hx25, hl17⟩ := some_bind hl17
   have hl26 := (Vector.getElem?_eq_some_iff.1 hx25).1
   refine OW.rv (RV.indexV (n13) rfl rfl rfl rfl rfl rfl rfl (by omega) (u8s_at (vat hx25))) rfl (OW.rv (RV.assign rfl) rfl (OW.rv (RV.assign rfl) rfl (OW.nil (QW.then_n (CW.drawsX (([] ++ N)) [17] (fun w m => m.pick [] 1 rfl rfl) mixed (by kernel_rfl) (XW.rs 0 rfl (by kernel_rfl) rfl (RV.move rfl) rfl (XW.rs 1 rfl (by kernel_rfl) rfl (RV.move rfl) rfl (XW.rs 2 rfl (by kernel_rfl) rfl (RV.quo rfl rfl (by omega) (by omega) (by omega)) rfl ?_))))))))
   refine XW.slot (.int .i64 ((n13 / 8 : Nat) : Int)) (by first | rfl | (congr 1; omega)) (XW.rs 3 rfl (by kernel_rfl) rfl (RV.nilCheck rfl) rfl (XW.rs 4 rfl (by kernel_rfl) rfl (RV.field rfl rfl rfl rfl) rfl (XW.slot (ptr (some b0_) 1) rfl ?_)))
   obtain ⟨g27, hl17⟩ := some_if hl17
   refine XW.rs 5 rfl (by kernel_rfl) rfl (RV.idx_a ((n13 / 8)) rfl rfl rfl rfl rfl (by omega)) rfl ?_
   obtain ⟨x28, hx29, hl17⟩ := some_bind hl17
   refine XW.rv 6 rfl (by kernel_rfl) rfl (by kernel_rfl) (RV.load rfl (List.Mem.head _) rfl rfl rfl (Sponge.C_lanes _ hx29)) rfl (XW.rs 7 rfl (by kernel_rfl) rfl (RV.move rfl) rfl (XW.rs 8 rfl (by kernel_rfl) rfl (RV.conv8_64 rfl (by first | rfl | exact lit8 _ rfl) rfl rfl) rfl (XW.rs 9 rfl (by kernel_rfl) rfl (RV.move rfl) rfl (XW.rs 10 rfl (by kernel_rfl) rfl (RV.rem rfl rfl (by omega) (by omega)) rfl (XW.slot (.int .i64 ((n13 % 8 : Nat) : Int)) (by first | rfl | (congr 1; omega)) (XW.rs 11 rfl (by kernel_rfl) rfl (RV.mul rfl rfl (by omega)) rfl (XW.slot (.int .i64 (((8 * (n13 % 8)) : Nat) : Int)) (by first | rfl | (congr 1) | (congr 1; omega)) ?_)))))))
   refine XW.rs 12 rfl (by kernel_rfl) rfl (RV.shl64 (s := (8 * (n13 % 8))) rfl (by first | rfl | exact lit64 _ rfl) rfl (by first | rfl | (congr 1))) rfl (XW.rs 13 rfl (by kernel_rfl) rfl (RV.xor64 rfl (by first | rfl | exact lit64 _ rfl) rfl (by first | rfl | exact lit64 _ rfl)) rfl (XW.rs 14 rfl (by kernel_rfl) rfl (RV.nilCheck rfl) rfl (XW.rs 15 rfl (by kernel_rfl) rfl (RV.field rfl rfl rfl rfl) rfl (XW.slot (ptr (some b0_) 1) rfl (XW.rs 16 rfl (by kernel_rfl) rfl (RV.idx_a ((n13 / 8)) rfl rfl rfl rfl rfl (by omega)) rfl (XW.sv 17 rfl (by kernel_rfl) (SV.store rfl rfl rfl rfl rfl (by rw [Sponge.C_length]; omega)) (fun w m => m.pick [] 1 rfl rfl) (XW.cells ({ w15 with lanes := w15.lanes.setIfInBounds (n13 / 8) (x28 ^^^ ((x24.setWidth 64) <<< (8 * (n13 % 8)))) } : Sponge).C (Sponge.C_lanes_set _ (by omega) _) ?_)))))))
   refine XW.nil (by kernel_rfl) (QW.block_n (QW.then_n (CW.region (OW.rv (RV.add rfl rfl (by omega)) rfl (OW.slot (.int .i64 (((n13 + 1) : Nat) : Int)) (by first | rfl | (congr 1) | (congr 1; omega)) (OW.rv (RV.move rfl) rfl (OW.nil ?_)))))))
   exact QW.againJ (k' := k16) (Nat.lt_succ_self _) ⟨(n13 + 1), ({ w15 with lanes := w15.lanes.setIfInBounds (n13 / 8) (x28 ^^^ ((x24.setWidth 64) <<< (8 * (n13 % 8)))) } : Sponge), hl17, (by omega), rfl, rfl⟩ ⟨rfl, rfl, rfl, trivial⟩ (fun w m => m.pick [0] 1 rfl rfl)
  ·replace hl17 := if_f hl17 h23
   refine CW.is_f rfl (decide_eq_false h23) (CW.exit (QW.then_x (QW.then_x (QW.block_xe ?_))))
   exact QW.join ⟨w15, (Option.some.inj hl17).symm, rfl, rfl⟩ ⟨rfl, trivial⟩ (fun w m => m.pick [0] 1 rfl rfl)
theorem keccak_Sponge_Write_does (w0 : World) (Φ : Ctx) (N : List Ent) (hΦ : ∀ w, Mem w0 w N → Φ w) (b0_ : Nat) (a0 : Sponge) (A1_ : Option Addr) (c1_ : Nat) (a1 : List (BitVec 8)) (new0 : Sponge) (va1 : View Φ A1_ a1.length c1_ 1 (u8s a1)) (hf : keccak_Sponge_Write a0 a1 = some new0) : DoesG Tryd.prog 129 [ptr (some b0_) 0, .slice A1_ a1.length c1_] w0 [(some b0_, blk a0.C 186)] N (fun v G => ∃ B : List Ent, v = .tuple #[] ∧ G = (some b0_, blk new0.C 186) :: B) := by
 unfold keccak_Sponge_Write at hf
 replace va1 := va1.mono (Ψ := More w0 Φ []) (fun w q => q.1)
 have m1 := va1.mx
 refine DoesG.enter Tryd.func129 rfl Tryd.ntmps129 rfl (M := ((some b0_, blk a0.C 186) :: ([] ++ N))) rfl (CW.seq (CW.seq (CW.region (OW.rv (RV.move rfl) rfl (OW.rv (RV.eqlS rfl rfl rfl) rfl (OW.nil (QW.then_n (CW.is_f rfl rfl (CW.skip (QW.then_n (CW.seq (CW.region (OW.rv (RV.move rfl) rfl ?_)))))))))))))
 refine OW.rv (RV.nilCheck rfl) rfl (OW.rv (RV.field rfl rfl rfl rfl) rfl (OW.slot (ptr (some b0_) 163) rfl (OW.rv (RV.load rfl (List.Mem.head _) rfl rfl rfl (Sponge.C_long _)) rfl (OW.rv (RV.move rfl) rfl (OW.rv (RV.len rfl rfl) rfl ?_)))))
 obtain ⟨g2, hf⟩ := some_if hf
 refine OW.rv (RV.add rfl rfl (by omega)) rfl (OW.rv (RV.nilCheck rfl) rfl (OW.rv (RV.field rfl rfl rfl rfl) rfl (OW.slot (ptr (some b0_) 163) rfl (OW.sv (SV.store rfl rfl rfl rfl rfl (by rw [Sponge.C_length]; omega)) (OW.cells ({ a0 with long := (a0.long + ((a1.length : Nat) : Int)) } : Sponge).C (Sponge.C_long_set _ _) (OW.nil (QW.then_n ?_)))))))
 obtain ⟨q3, hq4, hf⟩ := some_bind hf
 refine CW.cutJ (fun L' M' => ∃ w7 : Sponge, ∃ B5 : List Ent, q3 = w7 ∧ (∀ w, Mem w0 w B5 → Mem w0 w []) ∧ L' = [] ∧ M' = ((some b0_, blk w7.C 186) :: (B5 ++ N))) ?_ ?_
 ·rintro L9 M10 ⟨w7, B5, e8, hB6, e11, e12⟩
  rw [e11, e12]
  clear e11 e12 L9 M10
  clear hq4
  rw [e8] at hf
  clear e8
  try dsimp only at hf
  have e0 := Option.some.inj hf
  subst e0
  refine QW.retG (rs := []) ([]) ((some b0_, blk w7.C 186) :: B5) rfl ?_ rfl ?_ ?_ _ (.inr rfl)
  ·exact trivial
  ·exact ⟨B5, rfl, rfl⟩
  ·exact (fun w m => m.pick [0] 1 rfl rfl)
 ·skip
  refine CW.block (CW.loopJ (fun k L' M' => ∃ l15 : List (BitVec 8), ∃ w19 : Sponge, ∃ B13 : List Ent, ∃ A16 : Option Addr, ∃ c17 : Nat, (keccak_Sponge_Write.l1 k l15 w19) = some q3 ∧ (∀ w, Mem w0 w B13 → Mem w0 w []) ∧ (View (More w0 Φ B13) A16 l15.length c17 1 (u8s l15)) ∧ L' = [(0, ptr (some b0_) 0), (1, .slice A16 l15.length c17)] ∧ M' = ((some b0_, blk w19.C 186) :: (B13 ++ N))) (k0 := (a1.length - 0 + 2)) ⟨a1, ({ a0 with long := (a0.long + ((a1.length : Nat) : Int)) } : Sponge), [], A1_, c1_, hq4, (fun w m => m), va1, rfl, rfl⟩ ⟨rfl, rfl, trivial⟩ (fun w m => m.pick [0] 1 rfl rfl) ?_)
  clear hq4
  rintro k20 L23 M24 ⟨l15, w19, B13, A16, c17, hl21, hB14, v18, e25, e26⟩
  rw [e25, e26]
  clear e25 e26 L23 M24
  rcases k20 with _ | k20
  ·rw [keccak_Sponge_Write.l1] at hl21; cases hl21
  rw [keccak_Sponge_Write.l1] at hl21
  have m27 := v18.mx
  refine CW.seq (CW.seq (CW.region (OW.rv (RV.move rfl) rfl (OW.rv (RV.len rfl rfl) rfl (OW.rv (RV.gtr rfl rfl) rfl (OW.slot (.bool (decide (0 < l15.length))) (congrArg Value.bool (decide_eq_decide.2 (by omega))) (OW.nil (QW.then_n ?_))))))))
  by_cases h28 : 0 < l15.length
  ·replace hl21 := if_t hl21 h28
   refine CW.is_t rfl (decide_eq_true h28) (CW.skip (QW.then_n (CW.block (CW.seq (CW.drawsU 9 mixed (by kernel_rfl) rfl (UW.rv 0 rfl (by kernel_rfl) rfl (RV.move rfl) rfl (UW.rv 1 rfl (by kernel_rfl) rfl (RV.nilCheck rfl) rfl (UW.rv 2 rfl (by kernel_rfl) rfl (RV.field rfl rfl rfl rfl) rfl (UW.slot (ptr (some b0_) 26) rfl (UW.rv 3 rfl (by kernel_rfl) rfl (RV.move rfl) rfl ?_))))))))))
   refine UW.rv 4 rfl (by kernel_rfl) rfl (RV.nilCheck rfl) rfl (UW.rv 5 rfl (by kernel_rfl) rfl (RV.field rfl rfl rfl rfl) rfl (UW.slot (ptr (some b0_) 162) rfl (UW.rv 6 rfl (by kernel_rfl) rfl (RV.load rfl (List.Mem.head _) rfl rfl rfl (Sponge.C_held _)) rfl ?_)))
   obtain ⟨g29, hl21⟩ := some_if hl21
   obtain ⟨g30, hl21⟩ := some_if hl21
   refine UW.rv 7 rfl (by kernel_rfl) rfl (RV.arr_loS ((w19.held).toNat) rfl rfl (by omega) rfl rfl (by omega)) rfl (UW.rv 8 rfl (by kernel_rfl) rfl (RV.move rfl) rfl (UW.nil (by kernel_rfl) (OW.copy (ob := some b0_) (off := 26 + ((w19.held).toNat)) rfl rfl rfl rfl (fun h => nomatch h) (by rw [Sponge.C_length]; omega) (fun w m => v18.rd w (More.of hΦ 1 m rfl)) (u8s_length _) (u8s_one _) (v18.zero (by decide)) rfl ?_)))
   refine OW.cells ({ w19 with part := cpV w19.part ((w19.held).toNat) (l15.take (min l15.length (136 - ((w19.held).toNat)))) } : Sponge).C (by rw [u8s_take]; exact Sponge.C_part_cpy _ (by rw [List.length_take]; omega)) ?_
   refine OW.rv (RV.assign rfl) rfl (OW.nil (QW.then_n (CW.seq (CW.region (OW.rv (RV.move rfl) rfl (OW.rv (RV.move rfl) rfl ?_))))))
   obtain ⟨g32, hl21⟩ := some_if hl21
   refine OW.rv (RV.cut_lo (s := 1) ((min l15.length (136 - ((w19.held).toNat)))) rfl rfl (by omega) rfl rfl (by omega)) rfl (OW.slot (.slice (subA A16 c17 (min l15.length (136 - ((w19.held).toNat))) 1) (l15.drop (min l15.length (136 - ((w19.held).toNat)))).length (c17 - (min l15.length (136 - ((w19.held).toNat))))) (by rw [show ((l15.drop (min l15.length (136 - ((w19.held).toNat))))).length = (l15).length - ((min l15.length (136 - ((w19.held).toNat)))) from List.length_drop]) ?_)
   have v31 : View (More w0 Φ B13) (subA A16 c17 (min l15.length (136 - ((w19.held).toNat))) 1) (l15.drop (min l15.length (136 - ((w19.held).toNat)))).length (c17 - (min l15.length (136 - ((w19.held).toNat)))) 1 (u8s (l15.drop (min l15.length (136 - ((w19.held).toNat))))) := v18.lo8 (by omega)
   have m33 := v31.mx
   refine OW.rv (RV.assign rfl) rfl (OW.nil (QW.then_n (CW.seq (CW.region (OW.rv (RV.move rfl) rfl (OW.rv (RV.nilCheck rfl) rfl (OW.rv (RV.field rfl rfl rfl rfl) rfl (OW.slot (ptr (some b0_) 162) rfl (OW.rv (RV.load rfl (List.Mem.head _) rfl rfl rfl (Sponge.C_held _)) rfl (OW.rv (RV.move rfl) rfl ?_))))))))))
   obtain ⟨g34, hl21⟩ := some_if hl21
   refine OW.rv (RV.add rfl rfl (by omega)) rfl (OW.rv (RV.nilCheck rfl) rfl (OW.rv (RV.field rfl rfl rfl rfl) rfl (OW.slot (ptr (some b0_) 162) rfl (OW.sv (SV.store rfl rfl rfl rfl rfl (by rw [Sponge.C_length]; omega)) (OW.cells ({ ({ w19 with part := cpV w19.part ((w19.held).toNat) (l15.take (min l15.length (136 - ((w19.held).toNat)))) } : Sponge) with held := (({ w19 with part := cpV w19.part ((w19.held).toNat) (l15.take (min l15.length (136 - ((w19.held).toNat)))) } : Sponge).held + (((min l15.length (136 - ((w19.held).toNat))) : Nat) : Int)) } : Sponge).C (Sponge.C_held_set _ _) (OW.nil (QW.then_n (CW.seq (CW.region (OW.rv (RV.move rfl) rfl ?_))))))))))
   refine OW.rv (RV.nilCheck rfl) rfl (OW.rv (RV.field rfl rfl rfl rfl) rfl (OW.slot (ptr (some b0_) 162) rfl (OW.rv (RV.load rfl (List.Mem.head _) rfl rfl rfl (Sponge.C_held _)) rfl (OW.rv (RV.eql rfl rfl) rfl (OW.nil (QW.then_n ?_))))))
   obtain ⟨q35, hq36, hl21⟩ := some_bind hl21
   refine CW.cutJ (fun L' M' => ∃ w39 : Sponge, ∃ B37 : List Ent, q35 = w39 ∧ (∀ w, Mem w0 w B37 → Mem w0 w B13) ∧ L' = [(0, ptr (some b0_) 0), (1, .slice (subA A16 c17 (min l15.length (136 - ((w19.held).toNat))) 1) (l15.drop (min l15.length (136 - ((w19.held).toNat)))).length (c17 - (min l15.length (136 - ((w19.held).toNat)))))] ∧ M' = ((some b0_, blk w39.C 186) :: (B37 ++ N))) ?_ ?_
   ·rintro L41 M42 ⟨w39, B37, e40, hB38, e43, e44⟩
    rw [e43, e44]
    clear e43 e44 L41 M42
    clear hq36
    rw [e40] at hl21
    clear e40
    try dsimp only at hl21
    have gq3 : ∀ w, More w0 Φ B37 w → More w0 Φ B13 w := fun w q => More.mono (fun w m => hB38 w (m)) q
    replace v31 := v31.mono gq3
    refine QW.block_n ?_
    exact QW.againJ (k' := k20) (Nat.lt_succ_self _) ⟨(l15.drop (min l15.length (136 - ((w19.held).toNat)))), w39, B37, (subA A16 c17 (min l15.length (136 - ((w19.held).toNat))) 1), (c17 - (min l15.length (136 - ((w19.held).toNat)))), hl21, (fun w m => hB14 w (hB38 w (m))), v31, rfl, rfl⟩ ⟨rfl, rfl, trivial⟩ (fun w m => m.pick [0] 1 rfl rfl)
   ·skip
    by_cases h45 : ({ ({ w19 with part := cpV w19.part ((w19.held).toNat) (l15.take (min l15.length (136 - ((w19.held).toNat)))) } : Sponge) with held := (({ w19 with part := cpV w19.part ((w19.held).toNat) (l15.take (min l15.length (136 - ((w19.held).toNat)))) } : Sponge).held + (((min l15.length (136 - ((w19.held).toNat))) : Nat) : Int)) } : Sponge).held = (136 : Int)
    ·replace hq36 := if_t hq36 h45
     refine CW.is_t rfl (decide_eq_true h45) (CW.region (OW.rv (RV.move rfl) rfl ?_))
     obtain ⟨x47, hx46, hq36⟩ := some_bind hq36
     refine OW.callG Tryd.call142 rfl (keccak_Sponge_absorb_does w0 (More w0 Φ B13) ((B13 ++ N)) (fun w m => More.of hΦ 0 m rfl) b0_ ({ ({ w19 with part := cpV w19.part ((w19.held).toNat) (l15.take (min l15.length (136 - ((w19.held).toNat)))) } : Sponge) with held := (({ w19 with part := cpV w19.part ((w19.held).toNat) (l15.take (min l15.length (136 - ((w19.held).toNat)))) } : Sponge).held + (((min l15.length (136 - ((w19.held).toNat))) : Nat) : Int)) } : Sponge) x47 hx46) rfl rfl ?_
     rintro L49 M50 ⟨B48, e51, e52⟩
     rw [e51, e52]
     clear e51 e52 L49 M50
     refine OW.mem (M' := ((some b0_, blk x47.C 186) :: ((B48 ++ B13) ++ N))) (fun w m => by have h := Mem.sinkAt (A := B48) m 1 0 rfl rfl; exact h) ?_
     have gq4 : ∀ w, More w0 Φ (B48 ++ B13) w → More w0 Φ B13 w := fun w q => More.mono (fun w m => (m).appR) q
     replace v31 := v31.mono gq4
     replace v18 := v18.mono gq4
     refine OW.nil ?_
     exact QW.join ⟨x47, (B48 ++ B13), (Option.some.inj hq36).symm, (fun w m => (m).appR), rfl, rfl⟩ ⟨rfl, rfl, trivial⟩ (fun w m => m.pick [0] 1 rfl rfl)
    ·replace hq36 := if_f hq36 h45
     refine CW.is_f rfl (decide_eq_false h45) (CW.skip ?_)
     exact QW.join ⟨({ ({ w19 with part := cpV w19.part ((w19.held).toNat) (l15.take (min l15.length (136 - ((w19.held).toNat)))) } : Sponge) with held := (({ w19 with part := cpV w19.part ((w19.held).toNat) (l15.take (min l15.length (136 - ((w19.held).toNat)))) } : Sponge).held + (((min l15.length (136 - ((w19.held).toNat))) : Nat) : Int)) } : Sponge), B13, (Option.some.inj hq36).symm, (fun w m => m), rfl, rfl⟩ ⟨rfl, rfl, trivial⟩ (fun w m => m.pick [0] 1 rfl rfl)
  ·replace hl21 := if_f hl21 h28
   refine CW.is_f rfl (decide_eq_false h28) (CW.exit (QW.then_x (QW.then_x (QW.block_xe ?_))))
   exact QW.join ⟨w19, B13, (Option.some.inj hl21).symm, (fun w m => hB14 w (m)), rfl, rfl⟩ trivial (fun w m => m.pick [0] 1 rfl rfl)
theorem keccak_Sponge_Sum_does (w0 : World) (Φ : Ctx) (N : List Ent) (hΦ : ∀ w, Mem w0 w N → Φ w) (b0_ : Nat) (a0 : Sponge) (res0 : Vector (BitVec 8) 32) (new0 : Sponge) (hg2 : View Φ (some ⟨2, 0, none⟩) 2 2 1 (u8s firstL)) (hf : keccak_Sponge_Sum a0 = some (res0, new0)) : DoesG Tryd.prog 130 [ptr (some b0_) 0] w0 [(some b0_, blk a0.C 186)] N (fun v G => ∃ B : List Ent, v = .agg (u8s res0.toList).toArray ∧ G = (some b0_, blk new0.C 186) :: B) := by
 unfold keccak_Sponge_Sum at hf
 replace hg2 := hg2.mono (Ψ := More w0 Φ []) (fun w q => q.1)
 refine DoesG.enter Tryd.func130 rfl Tryd.ntmps130 rfl (M := ((some b0_, blk a0.C 186) :: ([] ++ N))) rfl (CW.seq (CW.region (OW.alloc (l := (u8s (Vector.replicate 32 0#8).toList)) rfl (by rw [Vector.toList_replicate, ← u8s_rep']; rfl) rfl (fun b1 => (OW.nil (QW.then_n (CW.seq (CW.seq (CW.region (OW.rv (RV.move rfl) rfl (OW.rv (RV.eqlS rfl rfl rfl) rfl (OW.nil (QW.then_n (CW.is_f rfl rfl ?_))))))))))))))
 refine CW.skip (QW.then_n (CW.seq (CW.region (OW.rv (RV.move rfl) rfl (OW.rv (RV.nilCheck rfl) rfl (OW.rv (RV.loadW rfl (List.Mem.tail _ (List.Mem.head _)) rfl rfl rfl rfl (Sponge.C_length _)) rfl (OW.alloc (l := (⟨0, (Vector.replicate 25 0#64), (Vector.replicate 136 0#8), 0, 0⟩ : Sponge).C) rfl (by kernel_rfl) rfl (fun b2 => (OW.sv (SV.storeW rfl rfl rfl (Sponge.C_one _) rfl (Sponge.C_length _) (Sponge.C_length _)) (OW.nil (QW.then_n (CW.seq (CW.region (OW.rv (RV.field rfl rfl rfl rfl) rfl ?_))))))))))))))
 refine OW.slot (ptr (some b2) 26) rfl (OW.rv (RV.field rfl rfl rfl rfl) rfl (OW.slot (ptr (some b2) 162) rfl (OW.rv (RV.load rfl (List.Mem.head _) rfl rfl rfl (Sponge.C_held _)) rfl ?_)))
 obtain ⟨g3, hf⟩ := some_if hf
 obtain ⟨g4, hf⟩ := some_if hf
 refine OW.rv (RV.arr_loS ((a0.held).toNat) rfl rfl (by omega) rfl rfl (by omega)) rfl (OW.clear (z := .int .u8 0) (b := b2) (off := 26 + ((a0.held).toNat)) rfl rfl rfl rfl rfl (by omega) (by rw [Sponge.C_length]; omega) ?_)
 refine OW.cells ({ a0 with part := cpV a0.part ((a0.held).toNat) (List.replicate (136 - ((a0.held).toNat)) 0#8) } : Sponge).C (by rw [u8s_rep0]; exact Sponge.C_part_cpy _ (by rw [List.length_replicate]; omega)) ?_
 refine OW.nil (QW.then_n (CW.seq (CW.drawsX ((some b1, blk (u8s (Vector.replicate 32 0#8).toList) 24) :: (some b0_, blk a0.C 186) :: ([] ++ N)) [12] (fun w m => m.pick [1, 2] 3 rfl rfl) mixed (by kernel_rfl) (XW.rs 0 rfl (by kernel_rfl) rfl (RV.field rfl rfl rfl rfl) rfl (XW.slot (ptr (some b2) 162) rfl (XW.rv 1 rfl (by kernel_rfl) rfl (by kernel_rfl) (RV.load rfl (List.Mem.head _) rfl rfl rfl (Sponge.C_held _)) rfl (XW.rs 2 rfl (by kernel_rfl) rfl (RV.field rfl rfl rfl rfl) rfl (XW.slot (ptr (some b2) 26) rfl ?_))))))))
 obtain ⟨g5, hf⟩ := some_if hf
 obtain ⟨g6, hf⟩ := some_if hf
 refine XW.rs 3 rfl (by kernel_rfl) rfl (RV.idx_a ((({ a0 with part := cpV a0.part ((a0.held).toNat) (List.replicate (136 - ((a0.held).toNat)) 0#8) } : Sponge).held).toNat) rfl rfl (by omega) rfl rfl (by omega)) rfl ?_
 obtain ⟨x7, hx8, hf⟩ := some_bind hf
 refine XW.rv 4 rfl (by kernel_rfl) rfl (by kernel_rfl) (RV.load rfl (List.Mem.head _) rfl rfl rfl (Sponge.C_part _ hx8)) rfl (XW.rs 5 rfl (by kernel_rfl) rfl (RV.field rfl rfl rfl rfl) rfl (XW.slot (ptr (some b2) 0) rfl (XW.rv 6 rfl (by kernel_rfl) rfl (by kernel_rfl) (RV.load rfl (List.Mem.head _) rfl rfl rfl (Sponge.C_kind _)) rfl ?_)))
 obtain ⟨g9, hf⟩ := some_if hf
 obtain ⟨x10, hx11, hf⟩ := some_bind hf
 have hl12 : (({ a0 with part := cpV a0.part ((a0.held).toNat) (List.replicate (136 - ((a0.held).toNat)) 0#8) } : Sponge).kind).toNat < 2 := lt_of_at hx11
 refine XW.rs 7 rfl (by kernel_rfl) rfl (RV.idx_arr_at (a := ⟨2, 0, none⟩) rfl rfl rfl rfl (by omega) (by omega)) rfl (XW.slot (rptr (some ⟨2, 0, none⟩) ((({ a0 with part := cpV a0.part ((a0.held).toNat) (List.replicate (136 - ((a0.held).toNat)) 0#8) } : Sponge).kind).toNat)) (congrArg (fun k => Value.pointer (some (Addr.add ⟨2, 0, none⟩ k))) (Nat.mul_one _)) (XW.rs 8 rfl (by kernel_rfl) rfl (RV.load_at rfl rfl rfl (fun w m => hg2.cell (More.of hΦ 2 m rfl) (u8s_at hx11))) rfl (XW.rs 9 rfl (by kernel_rfl) rfl (RV.xor8 rfl (by first | rfl | exact lit8 _ rfl) rfl (by first | rfl | exact lit8 _ rfl)) rfl (XW.rs 10 rfl (by kernel_rfl) rfl (RV.field rfl rfl rfl rfl) rfl (XW.slot (ptr (some b2) 26) rfl (XW.rs 11 rfl (by kernel_rfl) rfl (RV.idx_a ((({ a0 with part := cpV a0.part ((a0.held).toNat) (List.replicate (136 - ((a0.held).toNat)) 0#8) } : Sponge).held).toNat) rfl rfl (by omega) rfl rfl (by omega)) rfl (XW.sv 12 rfl (by kernel_rfl) (SV.store rfl rfl rfl rfl rfl (by rw [Sponge.C_length]; omega)) (fun w m => m.pick [1, 2] 3 rfl rfl) ?_)))))))
 refine XW.cells ({ ({ a0 with part := cpV a0.part ((a0.held).toNat) (List.replicate (136 - ((a0.held).toNat)) 0#8) } : Sponge) with part := ({ a0 with part := cpV a0.part ((a0.held).toNat) (List.replicate (136 - ((a0.held).toNat)) 0#8) } : Sponge).part.setIfInBounds ((({ a0 with part := cpV a0.part ((a0.held).toNat) (List.replicate (136 - ((a0.held).toNat)) 0#8) } : Sponge).held).toNat) (x7 ^^^ x10) } : Sponge).C (Sponge.C_part_set _ (by omega) _) (XW.nil (by kernel_rfl) (QW.then_n (CW.seq (CW.region (OW.rv (RV.field rfl rfl rfl rfl) rfl (OW.slot (ptr (some b2) 26) rfl (OW.rv (RV.idx_a (135) rfl rfl rfl rfl rfl (by omega)) rfl ?_)))))))
 refine OW.rv (RV.load rfl (List.Mem.head _) rfl rfl rfl (Sponge.C_part _ (Vector.getElem?_eq_getElem (by decide)))) rfl ?_
 refine OW.rv (RV.xor8 rfl (by first | rfl | exact lit8 _ rfl) rfl (by first | rfl | exact lit8 _ rfl)) rfl (OW.rv (RV.field rfl rfl rfl rfl) rfl (OW.slot (ptr (some b2) 26) rfl (OW.rv (RV.idx_a (135) rfl rfl rfl rfl rfl (by omega)) rfl (OW.sv (SV.store rfl rfl rfl rfl rfl (by rw [Sponge.C_length]; omega)) (OW.cells ({ ({ ({ a0 with part := cpV a0.part ((a0.held).toNat) (List.replicate (136 - ((a0.held).toNat)) 0#8) } : Sponge) with part := ({ a0 with part := cpV a0.part ((a0.held).toNat) (List.replicate (136 - ((a0.held).toNat)) 0#8) } : Sponge).part.setIfInBounds ((({ a0 with part := cpV a0.part ((a0.held).toNat) (List.replicate (136 - ((a0.held).toNat)) 0#8) } : Sponge).held).toNat) (x7 ^^^ x10) } : Sponge) with part := ({ ({ a0 with part := cpV a0.part ((a0.held).toNat) (List.replicate (136 - ((a0.held).toNat)) 0#8) } : Sponge) with part := ({ a0 with part := cpV a0.part ((a0.held).toNat) (List.replicate (136 - ((a0.held).toNat)) 0#8) } : Sponge).part.setIfInBounds ((({ a0 with part := cpV a0.part ((a0.held).toNat) (List.replicate (136 - ((a0.held).toNat)) 0#8) } : Sponge).held).toNat) (x7 ^^^ x10) } : Sponge).part.setIfInBounds 135 (({ ({ a0 with part := cpV a0.part ((a0.held).toNat) (List.replicate (136 - ((a0.held).toNat)) 0#8) } : Sponge) with part := ({ a0 with part := cpV a0.part ((a0.held).toNat) (List.replicate (136 - ((a0.held).toNat)) 0#8) } : Sponge).part.setIfInBounds ((({ a0 with part := cpV a0.part ((a0.held).toNat) (List.replicate (136 - ((a0.held).toNat)) 0#8) } : Sponge).held).toNat) (x7 ^^^ x10) } : Sponge).part[135] ^^^ 128#8) } : Sponge).C (Sponge.C_part_set _ (by omega) _) (OW.nil (QW.then_n (CW.seq (CW.region ?_)))))))))
 obtain ⟨x14, hx13, hf⟩ := some_bind hf
 refine OW.callG Tryd.call142 rfl (keccak_Sponge_absorb_does w0 (More w0 Φ []) ((some b1, blk (u8s (Vector.replicate 32 0#8).toList) 24) :: (some b0_, blk a0.C 186) :: ([] ++ N)) (fun w m => More.of hΦ 2 m rfl) b2 ({ ({ ({ a0 with part := cpV a0.part ((a0.held).toNat) (List.replicate (136 - ((a0.held).toNat)) 0#8) } : Sponge) with part := ({ a0 with part := cpV a0.part ((a0.held).toNat) (List.replicate (136 - ((a0.held).toNat)) 0#8) } : Sponge).part.setIfInBounds ((({ a0 with part := cpV a0.part ((a0.held).toNat) (List.replicate (136 - ((a0.held).toNat)) 0#8) } : Sponge).held).toNat) (x7 ^^^ x10) } : Sponge) with part := ({ ({ a0 with part := cpV a0.part ((a0.held).toNat) (List.replicate (136 - ((a0.held).toNat)) 0#8) } : Sponge) with part := ({ a0 with part := cpV a0.part ((a0.held).toNat) (List.replicate (136 - ((a0.held).toNat)) 0#8) } : Sponge).part.setIfInBounds ((({ a0 with part := cpV a0.part ((a0.held).toNat) (List.replicate (136 - ((a0.held).toNat)) 0#8) } : Sponge).held).toNat) (x7 ^^^ x10) } : Sponge).part.setIfInBounds 135 (({ ({ a0 with part := cpV a0.part ((a0.held).toNat) (List.replicate (136 - ((a0.held).toNat)) 0#8) } : Sponge) with part := ({ a0 with part := cpV a0.part ((a0.held).toNat) (List.replicate (136 - ((a0.held).toNat)) 0#8) } : Sponge).part.setIfInBounds ((({ a0 with part := cpV a0.part ((a0.held).toNat) (List.replicate (136 - ((a0.held).toNat)) 0#8) } : Sponge).held).toNat) (x7 ^^^ x10) } : Sponge).part[135] ^^^ 128#8) } : Sponge) x14 hx13) rfl rfl ?_
 rintro L16 M17 ⟨B15, e18, e19⟩
 rw [e18, e19]
 clear e18 e19 L16 M17
 refine OW.mem (M' := ((some b2, blk x14.C 186) :: (some b1, blk (u8s (Vector.replicate 32 0#8).toList) 24) :: (some b0_, blk a0.C 186) :: ((B15 ++ []) ++ N))) (fun w m => by have h := Mem.sinkAt (A := B15) m 1 2 rfl rfl; exact h) ?_
 have gq1 : ∀ w, More w0 Φ (B15 ++ []) w → More w0 Φ [] w := fun w q => More.mono (fun w m => (m).appR) q
 replace hg2 := hg2.mono gq1
 refine OW.nil (QW.then_n (CW.seq (CW.region (OW.alloc (l := (u8s (Vector.replicate 32 0#8).toList)) rfl (by rw [Vector.toList_replicate, ← u8s_rep']; rfl) rfl (fun b20 => (OW.nil (QW.then_n (CW.seq (CW.seq (CW.region (OW.rv (RV.move rfl) rfl (OW.nil (QW.then_n ?_)))))))))))))
 obtain ⟨q21, hq22, hf⟩ := some_bind hf
 refine CW.cutJ (fun L' M' => ∃ w23 : Vector (BitVec 8) 32, q21 = w23 ∧ L' = [(2, ptr (some b1) 0), (4, ptr (some b20) 0)] ∧ M' = ((some b20, blk (u8s w23.toList) 24) :: (some b1, blk (u8s (Vector.replicate 32 0#8).toList) 24) :: (some b0_, blk a0.C 186) :: ((B15 ++ []) ++ N))) ?_ ?_
 ·rintro L25 M26 ⟨w23, e24, e27, e28⟩
  rw [e27, e28]
  clear e27 e28 L25 M26
  clear hq22
  rw [e24] at hf
  clear e24
  try dsimp only at hf
  refine QW.then_n (CW.seq (CW.region (OW.rv (RV.loadW rfl (List.Mem.head _) rfl rfl rfl rfl ((u8s_length _).trans Vector.length_toList)) rfl (OW.rot1 (OW.sv (SV.storeW rfl rfl rfl (u8s_one _) rfl ((u8s_length _).trans Vector.length_toList) ((u8s_length _).trans Vector.length_toList)) (OW.nil (QW.then_n (CW.ret ?_))))))))
  have er0 := Option.some.inj hf
  obtain ⟨e0, er1⟩ := Prod.mk.inj er0
  clear er0
  subst e0
  subst er1
  refine QW.retG (rs := [.cell 2 24]) ([.agg (u8s w23.toList).toArray]) ((some b0_, blk a0.C 186) :: (B15 ++ [])) rfl ?_ rfl ?_ ?_ _ (.inl rfl)
  ·exact ⟨⟨_, _, _, _, rfl, (List.Mem.head _), rfl, rfl, (congrArg some ((u8s_length _).trans Vector.length_toList).symm), rfl⟩, trivial⟩
  ·exact ⟨(B15 ++ []), rfl, rfl⟩
  ·exact (fun w m => m.pick [2] 3 rfl rfl)
 ·skip
  refine CW.block (CW.loopJ (fun k L' M' => ∃ n29 : Nat, ∃ w31 : Vector (BitVec 8) 32, (keccak_Sponge_Sum.l1 x14 k n29 w31) = some q21 ∧ (n29 ≤ 9223372036854775807) ∧ L' = [(2, ptr (some b1) 0), (3, ptr (some b2) 0), (4, ptr (some b20) 0), (35, .int .i64 ((n29 : Nat) : Int))] ∧ M' = ((some b20, blk (u8s w31.toList) 24) :: (some b2, blk x14.C 186) :: (some b1, blk (u8s (Vector.replicate 32 0#8).toList) 24) :: (some b0_, blk a0.C 186) :: ((B15 ++ []) ++ N))) (k0 := (32 - 0 + 2)) ⟨0, (Vector.replicate 32 0#8), hq22, (by omega), rfl, rfl⟩ ⟨rfl, rfl, rfl, rfl, trivial⟩ (fun w m => m.pick [0, 1, 2, 3] 4 rfl rfl) ?_)
  clear hq22
  rintro k32 L35 M36 ⟨n29, w31, hl33, b30, e37, e38⟩
  rw [e37, e38]
  clear e37 e38 L35 M36
  rcases k32 with _ | k32
  ·rw [keccak_Sponge_Sum.l1] at hl33; cases hl33
  rw [keccak_Sponge_Sum.l1] at hl33
  refine CW.seq (CW.region (OW.rv (RV.lss rfl rfl) rfl (OW.slot (.bool (decide (n29 < 32))) (congrArg Value.bool (decide_eq_decide.2 (by omega))) (OW.nil (QW.then_n (CW.seq ?_))))))
  by_cases h39 : n29 < 32
  ·replace hl33 := if_t hl33 h39
   refine CW.is_t rfl (decide_eq_true h39) (CW.skip (QW.then_n (CW.seq (CW.block (CW.seq (CW.region (OW.rv (RV.move rfl) rfl (OW.rv (RV.assign rfl) rfl (OW.nil (QW.then_n (CW.region (OW.rv (RV.move rfl) rfl (OW.rv (RV.move rfl) rfl (OW.rv (RV.quo rfl rfl (by omega) (by omega) (by omega)) rfl ?_))))))))))))))
   refine OW.slot (.int .i64 ((n29 / 8 : Nat) : Int)) (by first | rfl | (congr 1; omega)) (OW.rv (RV.field rfl rfl rfl rfl) rfl (OW.slot (ptr (some b2) 1) rfl ?_))
   obtain ⟨g40, hl33⟩ := some_if hl33
   refine OW.rv (RV.idx_a ((n29 / 8)) rfl rfl rfl rfl rfl (by omega)) rfl ?_
   obtain ⟨x41, hx42, hl33⟩ := some_bind hl33
   refine OW.rv (RV.load rfl (List.Mem.tail _ (List.Mem.head _)) rfl rfl rfl (Sponge.C_lanes _ hx42)) rfl (OW.rv (RV.move rfl) rfl (OW.rv (RV.rem rfl rfl (by omega) (by omega)) rfl (OW.slot (.int .i64 ((n29 % 8 : Nat) : Int)) (by first | rfl | (congr 1; omega)) (OW.rv (RV.mul rfl rfl (by omega)) rfl (OW.slot (.int .i64 (((8 * (n29 % 8)) : Nat) : Int)) (by first | rfl | (congr 1) | (congr 1; omega)) (OW.rv (RV.shr64 (s := (8 * (n29 % 8))) rfl (by first | rfl | exact lit64 _ rfl) rfl (by first | rfl | (congr 1))) rfl (OW.rv (RV.conv64_8 rfl (by first | rfl | exact lit64 _ rfl) rfl rfl) rfl ?_)))))))
   refine OW.rv (RV.idx_a (n29) rfl rfl rfl rfl rfl (by omega)) rfl (OW.sv (SV.store rfl rfl rfl rfl rfl (by rw [u8s_length, Vector.length_toList]; omega)) (OW.cells (u8s (w31.setIfInBounds n29 ((x41 >>> (8 * (n29 % 8))).setWidth 8)).toList) (by rw [Nat.zero_add, u8s_set', vset]) (OW.nil (QW.block_n (QW.then_n (CW.region (OW.rv (RV.add rfl rfl (by omega)) rfl (OW.slot (.int .i64 (((n29 + 1) : Nat) : Int)) (by first | rfl | (congr 1) | (congr 1; omega)) (OW.rv (RV.move rfl) rfl (OW.nil ?_))))))))))
   exact QW.againJ (k' := k32) (Nat.lt_succ_self _) ⟨(n29 + 1), (w31.setIfInBounds n29 ((x41 >>> (8 * (n29 % 8))).setWidth 8)), hl33, (by omega), rfl, rfl⟩ ⟨rfl, rfl, rfl, rfl, trivial⟩ (fun w m => m.pick [0, 1, 2, 3] 4 rfl rfl)
  ·replace hl33 := if_f hl33 h39
   refine CW.is_f rfl (decide_eq_false h39) (CW.exit (QW.then_x (QW.then_x (QW.block_xe ?_))))
   exact QW.join ⟨w31, (Option.some.inj hl33).symm, rfl, rfl⟩ ⟨rfl, rfl, trivial⟩ (fun w m => m.pick [0, 2, 3] 4 rfl rfl)
theorem keccak_digest_does (w0 : World) (Φ : Ctx) (N : List Ent) (hΦ : ∀ w, Mem w0 w N → Φ w) (a0 : Int) (A1_ : Option Addr) (c1_ : Nat) (cs1_ : List Value) (a1 : List (List (BitVec 8))) (res0 : Vector (BitVec 8) 32) (ba0 : -9223372036854775808 ≤ a0 ∧ a0 ≤ 9223372036854775807) (va1 : View Φ A1_ a1.length c1_ 1 cs1_) (ha1 : Reps (BsRd Φ) cs1_ a1) (hg2 : View Φ (some ⟨2, 0, none⟩) 2 2 1 (u8s firstL)) (hf : keccak_digest a0 a1 = some res0) : DoesG Tryd.prog 107 [.int .i64 a0, .slice A1_ a1.length c1_] w0 [] N (fun v G => v = .agg (u8s res0.toList).toArray) := by
 unfold keccak_digest at hf
 replace va1 := va1.mono (Ψ := More w0 Φ []) (fun w q => q.1)
 replace hg2 := hg2.mono (Ψ := More w0 Φ []) (fun w q => q.1)
 replace ha1 := ha1.mono (BsRd.mono (Ψ := More w0 Φ []) (fun w q => q.1))
 have m1 := va1.mx
 refine DoesG.enter Tryd.func107 rfl Tryd.ntmps107 rfl (M := (([] ++ N))) rfl (CW.seq (CW.region (OW.alloc (l := (u8s (Vector.replicate 32 0#8).toList)) rfl (by rw [Vector.toList_replicate, ← u8s_rep']; rfl) rfl (fun b2 => (OW.nil (QW.then_n (CW.seq (CW.region (OW.rv (RV.move rfl) rfl (OW.rv (RV.buildSt (l := (⟨0, (Vector.replicate 25 0#64), (Vector.replicate 136 0#8), 0, 0⟩ : Sponge).C) (cs := ({ (⟨0, (Vector.replicate 25 0#64), (Vector.replicate 136 0#8), 0, 0⟩ : Sponge) with kind := a0 } : Sponge).C) [(0, [.int .i64 a0])] rfl rfl rfl rfl rfl rfl rfl) rfl (OW.alloc (l := (⟨0, (Vector.replicate 25 0#64), (Vector.replicate 136 0#8), 0, 0⟩ : Sponge).C) rfl (by kernel_rfl) rfl (fun b3 => (OW.sv (SV.storeW rfl rfl rfl (Sponge.C_one _) rfl (Sponge.C_length _) (Sponge.C_length _)) ?_)))))))))))))
 refine OW.nil (QW.then_n (CW.seq (CW.seq (CW.region (OW.rv (RV.move rfl) rfl (OW.rv (RV.len rfl rfl) rfl (OW.rv (RV.move rfl) rfl (OW.nil (QW.then_n ?_)))))))))
 obtain ⟨q4, hq5, hf⟩ := some_bind hf
 refine CW.cutJ (fun L' M' => ∃ w8 : Sponge, ∃ B6 : List Ent, q4 = w8 ∧ (∀ w, Mem w0 w B6 → Mem w0 w []) ∧ L' = [(4, ptr (some b2) 0), (5, ptr (some b3) 0)] ∧ M' = ((some b3, blk w8.C 186) :: (some b2, blk (u8s (Vector.replicate 32 0#8).toList) 24) :: (B6 ++ N))) ?_ ?_
 ·rintro L10 M11 ⟨w8, B6, e9, hB7, e12, e13⟩
  rw [e12, e13]
  clear e12 e13 L10 M11
  clear hq5
  rw [e9] at hf
  clear e9
  try dsimp only at hf
  have gq1 : ∀ w, More w0 Φ B6 w → More w0 Φ [] w := fun w q => More.mono (fun w m => hB7 w (m)) q
  replace hg2 := hg2.mono gq1
  refine QW.then_n (CW.seq (CW.region ?_))
  obtain ⟨⟨x15, x16⟩, hx14, hf⟩ := some_bind hf
  try dsimp only at hf
  refine OW.callG Tryd.call130 rfl (keccak_Sponge_Sum_does w0 (More w0 Φ B6) ((some b2, blk (u8s (Vector.replicate 32 0#8).toList) 24) :: (B6 ++ N)) (fun w m => More.of hΦ 1 m rfl) b3 w8 x15 x16 hg2 hx14) rfl rfl ?_
  rintro L18 M19 ⟨B17, e20, e21⟩
  rw [e20, e21]
  clear e20 e21 L18 M19
  refine OW.mem (M' := ((some b3, blk x16.C 186) :: (some b2, blk (u8s (Vector.replicate 32 0#8).toList) 24) :: ((B17 ++ B6) ++ N))) (fun w m => by have h := Mem.sinkAt (A := B17) m 1 1 rfl rfl; exact h) ?_
  have gq2 : ∀ w, More w0 Φ (B17 ++ B6) w → More w0 Φ B6 w := fun w q => More.mono (fun w m => (m).appR) q
  replace hg2 := hg2.mono gq2
  refine OW.rot1 (OW.sv (SV.storeW rfl rfl rfl (u8s_one _) rfl ((u8s_length _).trans Vector.length_toList) ((u8s_length _).trans Vector.length_toList)) (OW.nil (QW.then_n (CW.ret ?_))))
  have e0 := Option.some.inj hf
  subst e0
  refine QW.retG (rs := [.cell 4 24]) ([.agg (u8s x15.toList).toArray]) ((some b2, blk (u8s x15.toList) 24) :: (some b3, blk x16.C 186) :: (B17 ++ B6)) rfl ?_ rfl ?_ ?_ _ (.inl rfl)
  ·exact ⟨⟨_, _, _, _, rfl, (List.Mem.head _), rfl, rfl, (congrArg some ((u8s_length _).trans Vector.length_toList).symm), rfl⟩, trivial⟩
  ·exact rfl
  ·exact (fun w m => m)
 ·skip
  refine CW.block (CW.loopJ (fun k L' M' => ∃ n24 : Nat, ∃ w26 : Sponge, ∃ B22 : List Ent, (keccak_digest.l1 a1 k n24 w26) = some q4 ∧ (∀ w, Mem w0 w B22 → Mem w0 w []) ∧ (n24 ≤ 9223372036854775807) ∧ L' = [(4, ptr (some b2) 0), (5, ptr (some b3) 0), (10, .slice A1_ a1.length c1_), (11, .int .i64 ((a1.length : Nat) : Int)), (12, .int .i64 ((n24 : Nat) : Int))] ∧ M' = ((some b3, blk w26.C 186) :: (some b2, blk (u8s (Vector.replicate 32 0#8).toList) 24) :: (B22 ++ N))) (k0 := (a1.length - 0 + 2)) ⟨0, ({ (⟨0, (Vector.replicate 25 0#64), (Vector.replicate 136 0#8), 0, 0⟩ : Sponge) with kind := a0 } : Sponge), [], hq5, (fun w m => m), (by omega), rfl, rfl⟩ ⟨rfl, rfl, rfl, rfl, rfl, trivial⟩ (fun w m => m.pick [0, 1] 2 rfl rfl) ?_)
  clear hq5
  rintro k27 L30 M31 ⟨n24, w26, B22, hl28, hB23, b25, e32, e33⟩
  rw [e32, e33]
  clear e32 e33 L30 M31
  rcases k27 with _ | k27
  ·rw [keccak_digest.l1] at hl28; cases hl28
  rw [keccak_digest.l1] at hl28
  have gq3 : ∀ w, More w0 Φ B22 w → More w0 Φ [] w := fun w q => More.mono (fun w m => hB23 w (m)) q
  replace va1 := va1.mono gq3
  replace ha1 := ha1.mono (BsRd.mono gq3)
  replace hg2 := hg2.mono gq3
  refine CW.seq (CW.region (OW.rv (RV.lss rfl rfl) rfl (OW.slot (.bool (decide (n24 < a1.length))) (congrArg Value.bool (decide_eq_decide.2 (by omega))) (OW.nil (QW.then_n (CW.seq ?_))))))
  by_cases h34 : n24 < a1.length
  ·replace hl28 := if_t hl28 h34
   refine CW.is_t rfl (decide_eq_true h34) (CW.skip (QW.then_n (CW.seq (CW.block (CW.seq (CW.region ?_))))))
   obtain ⟨x35, hx36, hl28⟩ := some_bind hl28
   have hl37 := lt_of_at hx36
   refine OW.rv (RV.idx_r (n24) rfl rfl rfl rfl rfl (va1.isSome (by decide) hl37) (by omega)) rfl ?_
   obtain ⟨cs38, h39, h40⟩ := ha1.get BsRd.len hx36
   obtain ⟨A41, c42, e44, v43⟩ := h39
   subst e44
   have m45 := v43.mx
   refine OW.rv (RV.load_at rfl rfl rfl (fun w m => by have := va1.load (More.of hΦ 2 m rfl) h40 0 _ rfl; simpa [Addr.add] using this)) rfl ?_
   refine OW.rv (RV.assign rfl) rfl (OW.nil (QW.then_n (CW.region (OW.rv (RV.move rfl) rfl ?_))))
   obtain ⟨x47, hx46, hl28⟩ := some_bind hl28
   refine OW.callG Tryd.call129 rfl (keccak_Sponge_Write_does w0 (More w0 Φ B22) ((some b2, blk (u8s (Vector.replicate 32 0#8).toList) 24) :: (B22 ++ N)) (fun w m => More.of hΦ 1 m rfl) b3 w26 A41 c42 x35 x47 v43 hx46) rfl rfl ?_
   rintro L49 M50 ⟨B48, e51, e52⟩
   rw [e51, e52]
   clear e51 e52 L49 M50
   refine OW.mem (M' := ((some b3, blk x47.C 186) :: (some b2, blk (u8s (Vector.replicate 32 0#8).toList) 24) :: ((B48 ++ B22) ++ N))) (fun w m => by have h := Mem.sinkAt (A := B48) m 1 1 rfl rfl; exact h) ?_
   have gq4 : ∀ w, More w0 Φ (B48 ++ B22) w → More w0 Φ B22 w := fun w q => More.mono (fun w m => (m).appR) q
   replace va1 := va1.mono gq4
   replace ha1 := ha1.mono (BsRd.mono gq4)
   replace v43 := v43.mono gq4
   replace hg2 := hg2.mono gq4
   refine OW.nil (QW.block_n (QW.then_n (CW.region (OW.rv (RV.add rfl rfl (by omega)) rfl (OW.slot (.int .i64 (((n24 + 1) : Nat) : Int)) (by first | rfl | (congr 1) | (congr 1; omega)) (OW.rv (RV.move rfl) rfl (OW.nil ?_)))))))
   exact QW.againJ (k' := k27) (Nat.lt_succ_self _) ⟨(n24 + 1), x47, (B48 ++ B22), hl28, (fun w m => hB23 w ((m).appR)), (by omega), rfl, rfl⟩ ⟨rfl, rfl, rfl, rfl, rfl, trivial⟩ (fun w m => m.pick [0, 1] 2 rfl rfl)
  ·replace hl28 := if_f hl28 h34
   refine CW.is_f rfl (decide_eq_false h34) (CW.exit (QW.then_x (QW.then_x (QW.block_xe ?_))))
   exact QW.join ⟨w26, B22, (Option.some.inj hl28).symm, (fun w m => hB23 w (m)), rfl, rfl⟩ ⟨rfl, rfl, trivial⟩ (fun w m => m.pick [0, 1] 2 rfl rfl)
theorem keccak_Sum_does (w0 : World) (Φ : Ctx) (N : List Ent) (hΦ : ∀ w, Mem w0 w N → Φ w) (A0_ : Option Addr) (c0_ : Nat) (cs0_ : List Value) (a0 : List (List (BitVec 8))) (res0 : Vector (BitVec 8) 32) (va0 : View Φ A0_ a0.length c0_ 1 cs0_) (ha0 : Reps (BsRd Φ) cs0_ a0) (hg2 : View Φ (some ⟨2, 0, none⟩) 2 2 1 (u8s firstL)) (hf : keccak_Sum a0 = some res0) : DoesG Tryd.prog 80 [.slice A0_ a0.length c0_] w0 [] N (fun v G => v = .agg (u8s res0.toList).toArray) := by
 unfold keccak_Sum at hf
 replace va0 := va0.mono (Ψ := More w0 Φ []) (fun w q => q.1)
 replace hg2 := hg2.mono (Ψ := More w0 Φ []) (fun w q => q.1)
 replace ha0 := ha0.mono (BsRd.mono (Ψ := More w0 Φ []) (fun w q => q.1))
 have m1 := va0.mx
 refine DoesG.enter Tryd.func80 rfl Tryd.ntmps80 rfl (M := (([] ++ N))) rfl (CW.seq (CW.region (OW.alloc (l := (u8s (Vector.replicate 32 0#8).toList)) rfl (by rw [Vector.toList_replicate, ← u8s_rep']; rfl) rfl (fun b2 => (OW.nil (QW.then_n (CW.seq (CW.region (OW.rv (RV.move rfl) rfl ?_)))))))))
 obtain ⟨x4, hx3, hf⟩ := some_bind hf
 refine OW.callG Tryd.call107 rfl (keccak_digest_does w0 (More w0 Φ []) ((some b2, blk (u8s (Vector.replicate 32 0#8).toList) 24) :: ([] ++ N)) (fun w m => More.of hΦ 1 m rfl) (0 : Int) A0_ c0_ cs0_ a0 x4 (by omega) va0 ha0 hg2 hx3) rfl rfl ?_
 rintro _ G5 rfl
 refine OW.mem (M' := ((some b2, blk (u8s (Vector.replicate 32 0#8).toList) 24) :: ([] ++ N))) (fun w m => m.appR) (OW.sv (SV.storeW rfl rfl rfl (u8s_one _) rfl ((u8s_length _).trans Vector.length_toList) ((u8s_length _).trans Vector.length_toList)) (OW.nil (QW.then_n (CW.ret ?_))))
 have e0 := Option.some.inj hf
 subst e0
 refine QW.retG (rs := [.cell 2 24]) ([.agg (u8s x4.toList).toArray]) ((some b2, blk (u8s x4.toList) 24) :: []) rfl ?_ rfl ?_ ?_ _ (.inl rfl)
 ·exact ⟨⟨_, _, _, _, rfl, (List.Mem.head _), rfl, rfl, (congrArg some ((u8s_length _).trans Vector.length_toList).symm), rfl⟩, trivial⟩
 ·exact rfl
 ·exact (fun w m => m)
theorem bloom_Places_does (w0 : World) (Φ : Ctx) (N : List Ent) (hΦ : ∀ w, Mem w0 w N → Φ w) (A0_ : Option Addr) (c0_ : Nat) (a0 : List (BitVec 8)) (res0 : Vector (Int) 3) (va0 : View Φ A0_ a0.length c0_ 1 (u8s a0)) (hg2 : View Φ (some ⟨2, 0, none⟩) 2 2 1 (u8s firstL)) (hf : bloom_Places a0 = some res0) : DoesG Tryd.prog 57 [.slice A0_ a0.length c0_] w0 [] N (fun v G => v = .agg (i64s res0.toList).toArray) := by
 unfold bloom_Places at hf
 replace va0 := va0.mono (Ψ := More w0 Φ []) (fun w q => q.1)
 replace hg2 := hg2.mono (Ψ := More w0 Φ []) (fun w q => q.1)
 have m1 := va0.mx
 refine DoesG.enter Tryd.func57 rfl Tryd.ntmps57 rfl (M := (([] ++ N))) rfl (CW.seq (CW.region (OW.alloc (l := (i64s (Vector.replicate 3 0).toList)) rfl (by rw [Vector.toList_replicate, ← i64s_rep]; rfl) rfl (fun b2 => (OW.nil (QW.then_n (CW.seq (CW.region (OW.rv (RV.move rfl) rfl (OW.ofN (NV.bs1 rfl rfl rfl rfl rfl rfl) rfl (fun b3 => ?_)))))))))))
 have h6 : Reps (BsRd (More w0 Φ [])) (([.slice A0_ a0.length c0_] : List Value)) [a0] := Reps.one (BsRd.mk va0)
 refine OW.mem (M' := (((some b3), blk ((([.slice A0_ a0.length c0_] : List Value)) ++ []) 61) :: (some b2, blk (i64s (Vector.replicate 3 0).toList) 95) :: ([] ++ N))) (fun w m => m) ?_
 have o4 : OwnS (some b3) ([a0] : List (List (BitVec 8))).length 1 1 (([.slice A0_ a0.length c0_] : List Value)) [] := ⟨by simp [BsRd], by simp [BsRd], (fun h => nomatch h), by simp⟩
 have mx_o4 := o4.mx
 refine OW.slot (sl (some b3) 0 ([a0] : List (List (BitVec 8))).length 1) (rfl) (OW.mem (M' := (some b2, blk (i64s (Vector.replicate 3 0).toList) 95) :: ((((some b3), blk ((([.slice A0_ a0.length c0_] : List Value)) ++ []) 61) :: []) ++ N)) (fun w m => m.pick [1, 0] 2 rfl rfl) ?_)
 have gq1 : ∀ w, More w0 Φ (((some b3), blk ((([.slice A0_ a0.length c0_] : List Value)) ++ []) 61) :: []) w → More w0 Φ [] w := fun w q => More.mono (fun w m => (m).tail) q
 replace va0 := va0.mono gq1
 replace h6 := h6.mono (BsRd.mono gq1)
 replace hg2 := hg2.mono gq1
 have v7 : View (More w0 Φ (((some b3), blk ((([.slice A0_ a0.length c0_] : List Value)) ++ []) 61) :: [])) (((some b3)).map fun k => ⟨k, 0, none⟩) ([a0] : List (List (BitVec 8))).length 1 1 (([.slice A0_ a0.length c0_] : List Value)) := o4.view (by decide) (fun w q => q.2.sublist (List.singleton_sublist.2 (List.mem_cons_self ..)))
 obtain ⟨x9, hx8, hf⟩ := some_bind hf
 refine OW.callG Tryd.call80 rfl (keccak_Sum_does w0 (More w0 Φ (((some b3), blk ((([.slice A0_ a0.length c0_] : List Value)) ++ []) 61) :: [])) ((some b2, blk (i64s (Vector.replicate 3 0).toList) 95) :: ((((some b3), blk ((([.slice A0_ a0.length c0_] : List Value)) ++ []) 61) :: []) ++ N)) (fun w m => More.of hΦ 1 m rfl) (((some b3)).map fun k => ⟨k, 0, none⟩) 1 (([.slice A0_ a0.length c0_] : List Value)) ([a0] : List (List (BitVec 8))) x9 v7 h6 hg2 hx8) rfl rfl ?_
 rintro _ G10 rfl
 refine OW.mem (M' := ((some b2, blk (i64s (Vector.replicate 3 0).toList) 95) :: ((((some b3), blk ((([.slice A0_ a0.length c0_] : List Value)) ++ []) 61) :: []) ++ N))) (fun w m => m.appR) (OW.alloc (l := (u8s (Vector.replicate 32 0#8).toList)) rfl (by rw [Vector.toList_replicate, ← u8s_rep']; rfl) rfl (fun b12 => (OW.sv (SV.storeW rfl rfl rfl (u8s_one _) rfl ((u8s_length _).trans Vector.length_toList) ((u8s_length _).trans Vector.length_toList)) (OW.nil (QW.then_n (CW.seq (CW.region (OW.alloc (l := (i64s (Vector.replicate 3 0).toList)) rfl (by rw [Vector.toList_replicate, ← i64s_rep]; rfl) rfl (fun b13 => (OW.nil (QW.then_n (CW.seq (CW.seq (CW.region (OW.rv (RV.move rfl) rfl (OW.nil (QW.then_n ?_)))))))))))))))))
 obtain ⟨q14, hq15, hf⟩ := some_bind hf
 refine CW.cutJ (fun L' M' => ∃ w16 : Vector (Int) 3, q14 = w16 ∧ L' = [(2, ptr (some b2) 0), (4, ptr (some b13) 0)] ∧ M' = ((some b13, blk (i64s w16.toList) 95) :: (some b2, blk (i64s (Vector.replicate 3 0).toList) 95) :: ((((some b3), blk ((([.slice A0_ a0.length c0_] : List Value)) ++ []) 61) :: []) ++ N))) ?_ ?_
 ·rintro L18 M19 ⟨w16, e17, e20, e21⟩
  rw [e20, e21]
  clear e20 e21 L18 M19
  clear hq15
  rw [e17] at hf
  clear e17
  try dsimp only at hf
  refine QW.then_n (CW.seq (CW.region (OW.rv (RV.loadW rfl (List.Mem.head _) rfl rfl rfl rfl ((i64s_length _).trans Vector.length_toList)) rfl (OW.rot1 (OW.sv (SV.storeW rfl rfl rfl (i64s_one _) rfl ((i64s_length _).trans Vector.length_toList) ((i64s_length _).trans Vector.length_toList)) (OW.nil (QW.then_n (CW.ret ?_))))))))
  have e0 := Option.some.inj hf
  subst e0
  refine QW.retG (rs := [.cell 2 95]) ([.agg (i64s w16.toList).toArray]) ((some b2, blk (i64s w16.toList) 95) :: (some b13, blk (i64s w16.toList) 95) :: (((some b3), blk ((([.slice A0_ a0.length c0_] : List Value)) ++ []) 61) :: [])) rfl ?_ rfl ?_ ?_ _ (.inl rfl)
  ·exact ⟨⟨_, _, _, _, rfl, (List.Mem.head _), rfl, rfl, (congrArg some ((i64s_length _).trans Vector.length_toList).symm), rfl⟩, trivial⟩
  ·exact rfl
  ·exact (fun w m => m)
 ·skip
  refine CW.block (CW.loopJ (fun k L' M' => ∃ n22 : Nat, ∃ w24 : Vector (Int) 3, (bloom_Places.l1 x9 k n22 w24) = some q14 ∧ (n22 ≤ 9223372036854775807) ∧ L' = [(2, ptr (some b2) 0), (3, ptr (some b12) 0), (4, ptr (some b13) 0), (9, .int .i64 ((n22 : Nat) : Int))] ∧ M' = ((some b13, blk (i64s w24.toList) 95) :: (some b12, blk (u8s x9.toList) 24) :: (some b2, blk (i64s (Vector.replicate 3 0).toList) 95) :: ((((some b3), blk ((([.slice A0_ a0.length c0_] : List Value)) ++ []) 61) :: []) ++ N))) (k0 := (3 - 0 + 2)) ⟨0, (Vector.replicate 3 0), hq15, (by omega), rfl, rfl⟩ ⟨rfl, rfl, rfl, rfl, trivial⟩ (fun w m => m.pick [0, 1, 2] 3 rfl rfl) ?_)
  clear hq15
  rintro k25 L28 M29 ⟨n22, w24, hl26, b23, e30, e31⟩
  rw [e30, e31]
  clear e30 e31 L28 M29
  rcases k25 with _ | k25
  ·rw [bloom_Places.l1] at hl26; cases hl26
  rw [bloom_Places.l1] at hl26
  refine CW.seq (CW.region (OW.rv (RV.lss rfl rfl) rfl (OW.slot (.bool (decide (n22 < 3))) (congrArg Value.bool (decide_eq_decide.2 (by omega))) (OW.nil (QW.then_n (CW.seq ?_))))))
  by_cases h32 : n22 < 3
  ·replace hl26 := if_t hl26 h32
   refine CW.is_t rfl (decide_eq_true h32) (CW.skip (QW.then_n (CW.seq (CW.block (CW.seq (CW.region (OW.rv (RV.move rfl) rfl (OW.rv (RV.assign rfl) rfl (OW.nil (QW.then_n (CW.drawsX ((some b12, blk (u8s x9.toList) 24) :: (some b2, blk (i64s (Vector.replicate 3 0).toList) 95) :: ((((some b3), blk ((([.slice A0_ a0.length c0_] : List Value)) ++ []) 61) :: []) ++ N)) [16] (fun w m => m.pick [1, 2] 3 rfl rfl) mixed (by kernel_rfl) (XW.rs 0 rfl (by kernel_rfl) rfl (RV.move rfl) rfl (XW.rs 1 rfl (by kernel_rfl) rfl (RV.move rfl) rfl ?_)))))))))))))
   refine XW.rs 2 rfl (by kernel_rfl) rfl (RV.mul rfl rfl (by omega)) rfl (XW.slot (.int .i64 (((2 * n22) : Nat) : Int)) (by first | rfl | (congr 1) | (congr 1; omega)) ?_)
   obtain ⟨g33, hl26⟩ := some_if hl26
   refine XW.rs 3 rfl (by kernel_rfl) rfl (RV.idx_a ((2 * n22)) rfl rfl rfl rfl rfl (by omega)) rfl ?_
   obtain ⟨x34, hx35, hl26⟩ := some_bind hl26
   refine XW.rs 4 rfl (by kernel_rfl) rfl (RV.load rfl (List.Mem.head _) rfl rfl rfl (by rw [Nat.zero_add]; exact u8s_at (vat hx35))) rfl ?_
   refine XW.rs 5 rfl (by kernel_rfl) rfl (RV.conv8_i rfl (by first | rfl | exact lit8 _ rfl) rfl rfl) rfl ?_
   have m36 := (x34).isLt
   refine XW.rs 6 rfl (by kernel_rfl) rfl (RV.mul rfl rfl (by omega)) rfl (XW.slot (.int .i64 (((256 * x34.toNat) : Nat) : Int)) (by first | rfl | (congr 1) | (congr 1; omega)) (XW.rs 7 rfl (by kernel_rfl) rfl (RV.move rfl) rfl (XW.rs 8 rfl (by kernel_rfl) rfl (RV.mul rfl rfl (by omega)) rfl (XW.slot (.int .i64 (((2 * n22) : Nat) : Int)) (by first | rfl | (congr 1) | (congr 1; omega)) (XW.rs 9 rfl (by kernel_rfl) rfl (RV.add rfl rfl (by omega)) rfl (XW.slot (.int .i64 ((((2 * n22) + 1) : Nat) : Int)) (by first | rfl | (congr 1) | (congr 1; omega)) ?_))))))
   obtain ⟨g37, hl26⟩ := some_if hl26
   refine XW.rs 10 rfl (by kernel_rfl) rfl (RV.idx_a (((2 * n22) + 1)) rfl rfl rfl rfl rfl (by omega)) rfl ?_
   obtain ⟨x38, hx39, hl26⟩ := some_bind hl26
   refine XW.rs 11 rfl (by kernel_rfl) rfl (RV.load rfl (List.Mem.head _) rfl rfl rfl (by rw [Nat.zero_add]; exact u8s_at (vat hx39))) rfl ?_
   refine XW.rs 12 rfl (by kernel_rfl) rfl (RV.conv8_i rfl (by first | rfl | exact lit8 _ rfl) rfl rfl) rfl ?_
   have m40 := (x38).isLt
   refine XW.rs 13 rfl (by kernel_rfl) rfl (RV.add rfl rfl (by omega)) rfl (XW.slot (.int .i64 ((((256 * x34.toNat) + x38.toNat) : Nat) : Int)) (by first | rfl | (congr 1) | (congr 1; omega)) (XW.rs 14 rfl (by kernel_rfl) rfl (RV.rem rfl rfl (by omega) (by omega)) rfl (XW.slot (.int .i64 ((((256 * x34.toNat) + x38.toNat) % 2048 : Nat) : Int)) (by first | rfl | (congr 1; omega)) (XW.rs 15 rfl (by kernel_rfl) rfl (RV.idx_a (n22) rfl rfl rfl rfl rfl (by omega)) rfl (XW.sv 16 rfl (by kernel_rfl) (SV.store rfl rfl rfl rfl rfl (by rw [i64s_length, Vector.length_toList]; omega)) (fun w m => m.pick [1, 2] 3 rfl rfl) (XW.cells (i64s (w24.setIfInBounds n22 ((((256 * x34.toNat) + x38.toNat) % 2048 : Nat) : Int)).toList) (by rw [Nat.zero_add, i64s_set, vset]) (XW.nil (by kernel_rfl) ?_)))))))
   refine QW.block_n (QW.then_n (CW.region (OW.rv (RV.add rfl rfl (by omega)) rfl (OW.slot (.int .i64 (((n22 + 1) : Nat) : Int)) (by first | rfl | (congr 1) | (congr 1; omega)) (OW.rv (RV.move rfl) rfl (OW.nil ?_))))))
   exact QW.againJ (k' := k25) (Nat.lt_succ_self _) ⟨(n22 + 1), (w24.setIfInBounds n22 ((((256 * x34.toNat) + x38.toNat) % 2048 : Nat) : Int)), hl26, (by omega), rfl, rfl⟩ ⟨rfl, rfl, rfl, rfl, trivial⟩ (fun w m => m.pick [0, 1, 2] 3 rfl rfl)
  ·replace hl26 := if_f hl26 h32
   refine CW.is_f rfl (decide_eq_false h32) (CW.exit (QW.then_x (QW.then_x (QW.block_xe ?_))))
   exact QW.join ⟨w24, (Option.some.inj hl26).symm, rfl, rfl⟩ ⟨rfl, rfl, trivial⟩ (fun w m => m.pick [0, 2] 3 rfl rfl)
theorem bloom_set_does (w0 : World) (Φ : Ctx) (N : List Ent) (hΦ : ∀ w, Mem w0 w N → Φ w) (a0 : Vector (BitVec 8) 256) (a1 : Int) (res0 : Vector (BitVec 8) 256) (ba1 : -9223372036854775808 ≤ a1 ∧ a1 ≤ 9223372036854775807) (hf : bloom_set a0 a1 = some res0) : DoesG Tryd.prog 104 [.agg (u8s a0.toList).toArray, .int .i64 a1] w0 [] N (fun v G => v = .agg (u8s res0.toList).toArray) := by
 unfold bloom_set at hf
 refine DoesG.enter Tryd.func104 rfl Tryd.ntmps104 rfl (M := (([] ++ N))) rfl (CW.seq (CW.region (OW.boxA rfl rfl (fun b1 => (OW.alloc (l := (u8s (Vector.replicate 256 0#8).toList)) rfl (by rw [Vector.toList_replicate, ← u8s_rep']; rfl) rfl (fun b2 => (OW.nil (QW.then_n (CW.seq (CW.drawsX ((some b2, blk (u8s (Vector.replicate 256 0#8).toList) 27) :: ([] ++ N)) [10] (fun w m => m.pick [0] 2 rfl rfl) mixed (by kernel_rfl) (XW.rs 0 rfl (by kernel_rfl) rfl (RV.move rfl) rfl ?_)))))))))))
 obtain ⟨g3, hf⟩ := some_if hf
 refine XW.rs 1 rfl (by kernel_rfl) rfl (RV.quo rfl rfl (by omega) (by omega) (by omega)) rfl (XW.slot (.int .i64 (((a1).toNat / 8 : Nat) : Int)) (by first | rfl | (congr 1; omega)) (XW.rs 2 rfl (by kernel_rfl) rfl (RV.sub rfl rfl (by omega)) rfl ?_))
 obtain ⟨g4, hf⟩ := some_if hf
 obtain ⟨g5, hf⟩ := some_if hf
 refine XW.rs 3 rfl (by kernel_rfl) rfl (RV.idx_a ((((255 : Int) - (((a1).toNat / 8 : Nat) : Int))).toNat) rfl rfl (by omega) rfl rfl (by omega)) rfl ?_
 obtain ⟨x6, hx7, hf⟩ := some_bind hf
 refine XW.rv 4 rfl (by kernel_rfl) rfl (by kernel_rfl) (RV.load rfl (List.Mem.tail _ (List.Mem.head _)) rfl rfl rfl (by rw [Nat.zero_add]; exact u8s_at (vat hx7))) rfl ?_
 refine XW.rs 5 rfl (by kernel_rfl) rfl (RV.move rfl) rfl (XW.rs 6 rfl (by kernel_rfl) rfl (RV.rem rfl rfl (by omega) (by omega)) rfl (XW.slot (.int .i64 (((a1).toNat % 8 : Nat) : Int)) (by first | rfl | (congr 1; omega)) (XW.rs 7 rfl (by kernel_rfl) rfl (RV.shl8 (s := ((a1).toNat % 8)) rfl (by first | rfl | exact lit8 _ rfl) rfl (by first | rfl | (congr 1))) rfl (XW.rs 8 rfl (by kernel_rfl) rfl (RV.or8 rfl (by first | rfl | exact lit8 _ rfl) rfl (by first | rfl | exact lit8 _ rfl)) rfl (XW.rs 9 rfl (by kernel_rfl) rfl (RV.idx_a ((((255 : Int) - (((a1).toNat / 8 : Nat) : Int))).toNat) rfl rfl (by omega) rfl rfl (by omega)) rfl (XW.mem (M' := ((some b1, blk (u8s a0.toList) 27) :: (some b2, blk (u8s (Vector.replicate 256 0#8).toList) 27) :: ([] ++ N))) (fun w m => m.pick [1, 0] 2 rfl rfl) (fun w m => m.pick [1] 2 rfl rfl) (XW.sv 10 rfl (by kernel_rfl) (SV.store rfl rfl rfl rfl rfl (by rw [u8s_length, Vector.length_toList]; omega)) (fun w m => m.pick [1] 2 rfl rfl) ?_)))))))
 refine XW.cells (u8s (a0.setIfInBounds ((((255 : Int) - (((a1).toNat / 8 : Nat) : Int))).toNat) (x6 ||| (1#8 <<< ((a1).toNat % 8)))).toList) (by rw [Nat.zero_add, u8s_set', vset]) (XW.nil (by kernel_rfl) (QW.then_n (CW.seq (CW.region (OW.rv (RV.loadW rfl (List.Mem.head _) rfl rfl rfl rfl ((u8s_length _).trans Vector.length_toList)) rfl (OW.rot1 (OW.sv (SV.storeW rfl rfl rfl (u8s_one _) rfl ((u8s_length _).trans Vector.length_toList) ((u8s_length _).trans Vector.length_toList)) (OW.nil (QW.then_n (CW.ret ?_))))))))))
 have e0 := Option.some.inj hf
 subst e0
 refine QW.retG (rs := [.cell 4 27]) ([.agg (u8s (a0.setIfInBounds ((((255 : Int) - (((a1).toNat / 8 : Nat) : Int))).toNat) (x6 ||| (1#8 <<< ((a1).toNat % 8)))).toList).toArray]) ((some b2, blk (u8s (a0.setIfInBounds ((((255 : Int) - (((a1).toNat / 8 : Nat) : Int))).toNat) (x6 ||| (1#8 <<< ((a1).toNat % 8)))).toList) 27) :: (some b1, blk (u8s (a0.setIfInBounds ((((255 : Int) - (((a1).toNat / 8 : Nat) : Int))).toNat) (x6 ||| (1#8 <<< ((a1).toNat % 8)))).toList) 27) :: []) rfl ?_ rfl ?_ ?_ _ (.inl rfl)
 ·exact ⟨⟨_, _, _, _, rfl, (List.Mem.head _), rfl, rfl, (congrArg some ((u8s_length _).trans Vector.length_toList).symm), rfl⟩, trivial⟩
 ·exact rfl
 ·exact (fun w m => m)
theorem bloom_Add_does (w0 : World) (Φ : Ctx) (N : List Ent) (hΦ : ∀ w, Mem w0 w N → Φ w) (a0 : Vector (BitVec 8) 256) (A1_ : Option Addr) (c1_ : Nat) (a1 : List (BitVec 8)) (res0 : Vector (BitVec 8) 256) (va1 : View Φ A1_ a1.length c1_ 1 (u8s a1)) (hg2 : View Φ (some ⟨2, 0, none⟩) 2 2 1 (u8s firstL)) (hf : bloom_Add a0 a1 = some res0) : DoesG Tryd.prog 78 [.agg (u8s a0.toList).toArray, .slice A1_ a1.length c1_] w0 [] N (fun v G => v = .agg (u8s res0.toList).toArray) := by
 unfold bloom_Add at hf
 replace va1 := va1.mono (Ψ := More w0 Φ []) (fun w q => q.1)
 replace hg2 := hg2.mono (Ψ := More w0 Φ []) (fun w q => q.1)
 have m1 := va1.mx
 refine DoesG.enter Tryd.func78 rfl Tryd.ntmps78 rfl (M := (([] ++ N))) rfl (CW.seq (CW.region (OW.boxA rfl rfl (fun b2 => (OW.alloc (l := (u8s (Vector.replicate 256 0#8).toList)) rfl (by rw [Vector.toList_replicate, ← u8s_rep']; rfl) rfl (fun b3 => (OW.nil (QW.then_n (CW.seq (CW.seq (CW.region (OW.rv (RV.move rfl) rfl ?_))))))))))))
 obtain ⟨x5, hx4, hf⟩ := some_bind hf
 refine OW.callG Tryd.call57 rfl (bloom_Places_does w0 (More w0 Φ []) ((some b3, blk (u8s (Vector.replicate 256 0#8).toList) 27) :: (some b2, blk (u8s a0.toList) 27) :: ([] ++ N)) (fun w m => More.of hΦ 2 m rfl) A1_ c1_ a1 x5 va1 hg2 hx4) rfl rfl ?_
 rintro _ G6 rfl
 refine OW.mem (M' := ((some b3, blk (u8s (Vector.replicate 256 0#8).toList) 27) :: (some b2, blk (u8s a0.toList) 27) :: ([] ++ N))) (fun w m => m.appR) (OW.rv (RV.move rfl) rfl (OW.nil (QW.then_n ?_)))
 obtain ⟨q8, hq9, hf⟩ := some_bind hf
 refine CW.cutJ (fun L' M' => ∃ w10 : Vector (BitVec 8) 256, q8 = w10 ∧ L' = [(2, ptr (some b2) 0), (4, ptr (some b3) 0)] ∧ M' = ((some b3, blk (u8s (Vector.replicate 256 0#8).toList) 27) :: (some b2, blk (u8s w10.toList) 27) :: ([] ++ N))) ?_ ?_
 ·rintro L12 M13 ⟨w10, e11, e14, e15⟩
  rw [e14, e15]
  clear e14 e15 L12 M13
  clear hq9
  rw [e11] at hf
  clear e11
  try dsimp only at hf
  refine QW.then_n (CW.seq (CW.region (OW.rv (RV.loadW rfl (List.Mem.tail _ (List.Mem.head _)) rfl rfl rfl rfl ((u8s_length _).trans Vector.length_toList)) rfl (OW.sv (SV.storeW rfl rfl rfl (u8s_one _) rfl ((u8s_length _).trans Vector.length_toList) ((u8s_length _).trans Vector.length_toList)) (OW.nil (QW.then_n (CW.ret ?_)))))))
  have e0 := Option.some.inj hf
  subst e0
  refine QW.retG (rs := [.cell 4 27]) ([.agg (u8s w10.toList).toArray]) ((some b3, blk (u8s w10.toList) 27) :: (some b2, blk (u8s w10.toList) 27) :: []) rfl ?_ rfl ?_ ?_ _ (.inl rfl)
  ·exact ⟨⟨_, _, _, _, rfl, (List.Mem.head _), rfl, rfl, (congrArg some ((u8s_length _).trans Vector.length_toList).symm), rfl⟩, trivial⟩
  ·exact rfl
  ·exact (fun w m => m)
 ·skip
  refine CW.block (CW.loopJ (fun k L' M' => ∃ n16 : Nat, ∃ w18 : Vector (BitVec 8) 256, (bloom_Add.l1 x5 k n16 w18) = some q8 ∧ (n16 ≤ 9223372036854775807) ∧ L' = [(2, ptr (some b2) 0), (4, ptr (some b3) 0), (8, .agg (i64s x5.toList).toArray), (9, .int .i64 ((n16 : Nat) : Int))] ∧ M' = ((some b3, blk (u8s (Vector.replicate 256 0#8).toList) 27) :: (some b2, blk (u8s w18.toList) 27) :: ([] ++ N))) (k0 := (3 - 0 + 2)) ⟨0, a0, hq9, (by omega), rfl, rfl⟩ ⟨rfl, rfl, rfl, rfl, trivial⟩ (fun w m => m.pick [0, 1] 2 rfl rfl) ?_)
  clear hq9
  rintro k19 L22 M23 ⟨n16, w18, hl20, b17, e24, e25⟩
  rw [e24, e25]
  clear e24 e25 L22 M23
  rcases k19 with _ | k19
  ·rw [bloom_Add.l1] at hl20; cases hl20
  rw [bloom_Add.l1] at hl20
  refine CW.seq (CW.region (OW.rv (RV.lss rfl rfl) rfl (OW.slot (.bool (decide (n16 < 3))) (congrArg Value.bool (decide_eq_decide.2 (by omega))) (OW.nil (QW.then_n (CW.seq ?_))))))
  by_cases h26 : n16 < 3
  ·replace hl20 := if_t hl20 h26
   refine CW.is_t rfl (decide_eq_true h26) (CW.skip (QW.then_n (CW.seq (CW.block (CW.seq (CW.region ?_))))))
   obtain ⟨x27, hx28, hl20⟩ := some_bind hl20
   have hl29 := (Vector.getElem?_eq_some_iff.1 hx28).1
   refine OW.rv (RV.indexV (n16) rfl rfl rfl rfl rfl rfl rfl (by omega) (i64s_at (vat hx28))) rfl (OW.rv (RV.assign rfl) rfl (OW.nil (QW.then_n (CW.region (OW.rv (RV.loadW rfl (List.Mem.tail _ (List.Mem.head _)) rfl rfl rfl rfl ((u8s_length _).trans Vector.length_toList)) rfl (OW.rv (RV.move rfl) rfl ?_))))))
   obtain ⟨g30, hl20⟩ := some_if hl20
   obtain ⟨x32, hx31, hl20⟩ := some_bind hl20
   refine OW.callG Tryd.call104 rfl (bloom_set_does w0 (More w0 Φ []) ((some b3, blk (u8s (Vector.replicate 256 0#8).toList) 27) :: (some b2, blk (u8s w18.toList) 27) :: ([] ++ N)) (fun w m => More.of hΦ 2 m rfl) w18 x27 x32 (by omega) hx31) rfl rfl ?_
   rintro _ G33 rfl
   refine OW.mem (M' := ((some b3, blk (u8s (Vector.replicate 256 0#8).toList) 27) :: (some b2, blk (u8s w18.toList) 27) :: ([] ++ N))) (fun w m => m.appR) (OW.rot1 (OW.sv (SV.storeW rfl rfl rfl (u8s_one _) rfl ((u8s_length _).trans Vector.length_toList) ((u8s_length _).trans Vector.length_toList)) (OW.nil (QW.block_n (QW.then_n (CW.region (OW.rv (RV.add rfl rfl (by omega)) rfl (OW.slot (.int .i64 (((n16 + 1) : Nat) : Int)) (by first | rfl | (congr 1) | (congr 1; omega)) (OW.rv (RV.move rfl) rfl (OW.nil ?_))))))))))
   exact QW.againJ (k' := k19) (Nat.lt_succ_self _) ⟨(n16 + 1), x32, hl20, (by omega), rfl, rfl⟩ ⟨rfl, rfl, rfl, rfl, trivial⟩ (fun w m => m.pick [1, 0] 2 rfl rfl)
  ·replace hl20 := if_f hl20 h26
   refine CW.is_f rfl (decide_eq_false h26) (CW.exit (QW.then_x (QW.then_x (QW.block_xe ?_))))
   exact QW.join ⟨w18, (Option.some.inj hl20).symm, rfl, rfl⟩ ⟨rfl, rfl, trivial⟩ (fun w m => m.pick [0, 1] 2 rfl rfl)
theorem bloom_Of_does (w0 : World) (Φ : Ctx) (N : List Ent) (hΦ : ∀ w, Mem w0 w N → Φ w) (A0_ : Option Addr) (c0_ : Nat) (cs0_ : List Value) (a0 : List (List (BitVec 8))) (res0 : Vector (BitVec 8) 256) (va0 : View Φ A0_ a0.length c0_ 1 cs0_) (ha0 : Reps (BsRd Φ) cs0_ a0) (hg2 : View Φ (some ⟨2, 0, none⟩) 2 2 1 (u8s firstL)) (hf : bloom_Of a0 = some res0) : DoesG Tryd.prog 51 [.slice A0_ a0.length c0_] w0 [] N (fun v G => v = .agg (u8s res0.toList).toArray) := by
 unfold bloom_Of at hf
 replace va0 := va0.mono (Ψ := More w0 Φ []) (fun w q => q.1)
 replace hg2 := hg2.mono (Ψ := More w0 Φ []) (fun w q => q.1)
 replace ha0 := ha0.mono (BsRd.mono (Ψ := More w0 Φ []) (fun w q => q.1))
 have m1 := va0.mx
 refine DoesG.enter Tryd.func51 rfl Tryd.ntmps51 rfl (M := (([] ++ N))) rfl (CW.seq (CW.region (OW.alloc (l := (u8s (Vector.replicate 256 0#8).toList)) rfl (by rw [Vector.toList_replicate, ← u8s_rep']; rfl) rfl (fun b2 => (OW.nil (QW.then_n (CW.seq (CW.region (OW.alloc (l := (u8s (Vector.replicate 256 0#8).toList)) rfl (by rw [Vector.toList_replicate, ← u8s_rep']; rfl) rfl (fun b3 => (OW.nil (QW.then_n (CW.seq (CW.seq (CW.region (OW.rv (RV.move rfl) rfl (OW.rv (RV.len rfl rfl) rfl ?_)))))))))))))))))
 refine OW.rv (RV.move rfl) rfl (OW.nil (QW.then_n ?_))
 obtain ⟨q4, hq5, hf⟩ := some_bind hf
 refine CW.cutJ (fun L' M' => ∃ w6 : Vector (BitVec 8) 256, q4 = w6 ∧ L' = [(2, ptr (some b2) 0), (3, ptr (some b3) 0)] ∧ M' = ((some b3, blk (u8s w6.toList) 27) :: (some b2, blk (u8s (Vector.replicate 256 0#8).toList) 27) :: ([] ++ N))) ?_ ?_
 ·rintro L8 M9 ⟨w6, e7, e10, e11⟩
  rw [e10, e11]
  clear e10 e11 L8 M9
  clear hq5
  rw [e7] at hf
  clear e7
  try dsimp only at hf
  refine QW.then_n (CW.seq (CW.region (OW.rv (RV.loadW rfl (List.Mem.head _) rfl rfl rfl rfl ((u8s_length _).trans Vector.length_toList)) rfl (OW.rot1 (OW.sv (SV.storeW rfl rfl rfl (u8s_one _) rfl ((u8s_length _).trans Vector.length_toList) ((u8s_length _).trans Vector.length_toList)) (OW.nil (QW.then_n (CW.ret ?_))))))))
  have e0 := Option.some.inj hf
  subst e0
  refine QW.retG (rs := [.cell 2 27]) ([.agg (u8s w6.toList).toArray]) ((some b2, blk (u8s w6.toList) 27) :: (some b3, blk (u8s w6.toList) 27) :: []) rfl ?_ rfl ?_ ?_ _ (.inl rfl)
  ·exact ⟨⟨_, _, _, _, rfl, (List.Mem.head _), rfl, rfl, (congrArg some ((u8s_length _).trans Vector.length_toList).symm), rfl⟩, trivial⟩
  ·exact rfl
  ·exact (fun w m => m)
 ·skip
  refine CW.block (CW.loopJ (fun k L' M' => ∃ n12 : Nat, ∃ w14 : Vector (BitVec 8) 256, (bloom_Of.l1 a0 k n12 w14) = some q4 ∧ (n12 ≤ 9223372036854775807) ∧ L' = [(2, ptr (some b2) 0), (3, ptr (some b3) 0), (6, .slice A0_ a0.length c0_), (7, .int .i64 ((a0.length : Nat) : Int)), (8, .int .i64 ((n12 : Nat) : Int))] ∧ M' = ((some b3, blk (u8s w14.toList) 27) :: (some b2, blk (u8s (Vector.replicate 256 0#8).toList) 27) :: ([] ++ N))) (k0 := (a0.length - 0 + 2)) ⟨0, (Vector.replicate 256 0#8), hq5, (by omega), rfl, rfl⟩ ⟨rfl, rfl, rfl, rfl, rfl, trivial⟩ (fun w m => m.pick [0, 1] 2 rfl rfl) ?_)
  clear hq5
  rintro k15 L18 M19 ⟨n12, w14, hl16, b13, e20, e21⟩
  rw [e20, e21]
  clear e20 e21 L18 M19
  rcases k15 with _ | k15
  ·rw [bloom_Of.l1] at hl16; cases hl16
  rw [bloom_Of.l1] at hl16
  refine CW.seq (CW.region (OW.rv (RV.lss rfl rfl) rfl (OW.slot (.bool (decide (n12 < a0.length))) (congrArg Value.bool (decide_eq_decide.2 (by omega))) (OW.nil (QW.then_n (CW.seq ?_))))))
  by_cases h22 : n12 < a0.length
  ·replace hl16 := if_t hl16 h22
   refine CW.is_t rfl (decide_eq_true h22) (CW.skip (QW.then_n (CW.seq (CW.block (CW.seq (CW.region ?_))))))
   obtain ⟨x23, hx24, hl16⟩ := some_bind hl16
   have hl25 := lt_of_at hx24
   refine OW.rv (RV.idx_r (n12) rfl rfl rfl rfl rfl (va0.isSome (by decide) hl25) (by omega)) rfl ?_
   obtain ⟨cs26, h27, h28⟩ := ha0.get BsRd.len hx24
   obtain ⟨A29, c30, e32, v31⟩ := h27
   subst e32
   have m33 := v31.mx
   refine OW.rv (RV.load_at rfl rfl rfl (fun w m => by have := va0.load (More.of hΦ 2 m rfl) h28 0 _ rfl; simpa [Addr.add] using this)) rfl ?_
   refine OW.rv (RV.assign rfl) rfl (OW.nil (QW.then_n (CW.region (OW.rv (RV.loadW rfl (List.Mem.head _) rfl rfl rfl rfl ((u8s_length _).trans Vector.length_toList)) rfl (OW.rv (RV.move rfl) rfl ?_)))))
   obtain ⟨x35, hx34, hl16⟩ := some_bind hl16
   refine OW.callG Tryd.call78 rfl (bloom_Add_does w0 (More w0 Φ []) ((some b3, blk (u8s w14.toList) 27) :: (some b2, blk (u8s (Vector.replicate 256 0#8).toList) 27) :: ([] ++ N)) (fun w m => More.of hΦ 2 m rfl) w14 A29 c30 x23 x35 v31 hg2 hx34) rfl rfl ?_
   rintro _ G36 rfl
   refine OW.mem (M' := ((some b3, blk (u8s w14.toList) 27) :: (some b2, blk (u8s (Vector.replicate 256 0#8).toList) 27) :: ([] ++ N))) (fun w m => m.appR) (OW.sv (SV.storeW rfl rfl rfl (u8s_one _) rfl ((u8s_length _).trans Vector.length_toList) ((u8s_length _).trans Vector.length_toList)) (OW.nil (QW.block_n (QW.then_n (CW.region (OW.rv (RV.add rfl rfl (by omega)) rfl (OW.slot (.int .i64 (((n12 + 1) : Nat) : Int)) (by first | rfl | (congr 1) | (congr 1; omega)) (OW.rv (RV.move rfl) rfl (OW.nil ?_)))))))))
   exact QW.againJ (k' := k15) (Nat.lt_succ_self _) ⟨(n12 + 1), x35, hl16, (by omega), rfl, rfl⟩ ⟨rfl, rfl, rfl, rfl, rfl, trivial⟩ (fun w m => m.pick [0, 1] 2 rfl rfl)
  ·replace hl16 := if_f hl16 h22
   refine CW.is_f rfl (decide_eq_false h22) (CW.exit (QW.then_x (QW.then_x (QW.block_xe ?_))))
   exact QW.join ⟨w14, (Option.some.inj hl16).symm, rfl, rfl⟩ ⟨rfl, rfl, trivial⟩ (fun w m => m.pick [0, 1] 2 rfl rfl)
theorem waybillref02_filled_does (w0 : World) (Φ : Ctx) (N : List Ent) (hΦ : ∀ w, Mem w0 w N → Φ w) (A0_ : Option Addr) (c0_ : Nat) (a0 : List (BitVec 8)) (a1 : BitVec 8) (res0 : List (BitVec 8)) (va0 : View Φ A0_ a0.length c0_ 1 (u8s a0)) (hf : waybillref02_filled a0 a1 = some res0) : DoesG Tryd.prog 147 [.slice A0_ a0.length c0_, U8 a1] w0 [] N (fun v G => ∃ B : List Ent, ∃ or0 : Option Nat, ∃ kr0 : Nat, ∃ rr0 : List Value, (OwnS or0 res0.length kr0 1 (u8s res0) rr0) ∧ v = sl or0 0 res0.length kr0 ∧ G = (or0, blk ((u8s res0) ++ rr0) 5) :: B) := by
 unfold waybillref02_filled at hf
 replace va0 := va0.mono (Ψ := More w0 Φ []) (fun w q => q.1)
 have m1 := va0.mx
 refine DoesG.enter Tryd.func147 rfl Tryd.ntmps147 rfl (M := (([] ++ N))) rfl (CW.seq (CW.region (OW.rv (RV.assign rfl) rfl (OW.nil (QW.then_n (CW.seq (CW.region (OW.rv (RV.assign rfl) rfl (OW.nil (QW.then_n (CW.seq (CW.region (OW.rv (RV.move rfl) rfl (OW.rv (RV.move rfl) rfl ?_))))))))))))))
 refine OW.mem (M' := ((none, blk ((u8s ([] : List (BitVec 8))) ++ []) 5) :: ([] ++ N))) (fun w m => m.nil_ent _) (OW.appendOwn (s := 1) rfl rfl rfl rfl rfl rfl OwnS.nil (fun w m => va0.rd w (More.of hΦ 1 m rfl)) va0.n (u8s_one _) (va0.zero (by decide)) (by decide) (by decide) (by first | omega | (simp only [i5, List.length_nil]; omega)) rfl rfl (a0.length) (u8s a0) (Nat.zero_add _) rfl (fun ob2 r3 c4 o5 => ?_))
 have m6 := o5.mx
 refine OW.rv (RV.assign rfl) rfl (OW.nil (QW.then_n (CW.seq (CW.region (OW.rv (RV.move rfl) rfl (OW.rv (RV.move rfl) rfl (OW.ofN (NV.bs1 rfl rfl rfl rfl rfl rfl) rfl (fun b7 => (OW.mem (M' := (((some b7), blk ((u8s ([a1] : List (BitVec 8))) ++ []) 5) :: (ob2, blk ((u8s a0) ++ r3) 5) :: ([] ++ N))) (fun w m => by first | exact m | simpa [u8s] using m) ?_)))))))))
 have o8 : OwnS (some b7) ([a1] : List (BitVec 8)).length 1 1 (u8s ([a1] : List (BitVec 8))) [] := ⟨by simp [u8s], by simp [u8s], (fun h => nomatch h), by simp⟩
 have mx_o8 := o8.mx
 refine OW.slot (sl (some b7) 0 ([a1] : List (BitVec 8)).length 1) (rfl) (OW.rot1 ?_)
 obtain ⟨g9, hf⟩ := some_if hf
 refine OW.appendOwn (s := 1) rfl rfl rfl rfl rfl rfl o5 (fun w m => m.rd0 (List.Mem.tail _ (List.Mem.head _)) (fun e => o8.nilc (by decide) e)) o8.n (u8s_one _) (o8.zeroO (by decide)) (by decide) (by decide) (by first | omega | (simp only [i5, List.length_nil]; omega)) rfl rfl ((a0 ++ ([a1] : List (BitVec 8))).length) (u8s (a0 ++ ([a1] : List (BitVec 8)))) (List.length_append ..).symm (u8s_app _ _) (fun ob10 r11 c12 o13 => ?_)
 have m14 := o13.mx
 refine OW.rv (RV.assign rfl) rfl (OW.nil (QW.then_n (CW.seq ?_)))
 obtain ⟨q15, hq16, hf⟩ := some_bind hf
 refine CW.cutJ (fun L' M' => ∃ l17 : List (BitVec 8), ∃ ob18 : Option Nat, ∃ c19 : Nat, ∃ r20 : List Value, q15 = l17 ∧ (OwnS ob18 l17.length c19 1 (u8s l17) r20) ∧ L' = [(5, sl ob18 0 l17.length c19)] ∧ M' = ((ob18, blk ((u8s l17) ++ r20) 5) :: ([] ++ N))) ?_ ?_
 ·rintro L23 M24 ⟨l17, ob18, c19, r20, e22, o21, e25, e26⟩
  rw [e25, e26]
  clear e25 e26 L23 M24
  clear hq16
  rw [e22] at hf
  clear e22
  try dsimp only at hf
  have m27 := o21.mx
  refine QW.then_n (CW.seq (CW.region (OW.rv (RV.move rfl) rfl (OW.rv (RV.move rfl) rfl (OW.rv (RV.len rfl rfl) rfl (OW.rv (RV.sub rfl rfl (by omega)) rfl (OW.rv (RV.move rfl) rfl (OW.rv (RV.move rfl) rfl (OW.rv (RV.len rfl rfl) rfl ?_)))))))))
  refine OW.rv (RV.sub rfl rfl (by omega)) rfl ?_
  obtain ⟨g28, hf⟩ := some_if hf
  obtain ⟨x29, hx30, hf⟩ := some_bind hf
  have hl31 := lt_of_at hx30
  refine OW.rv (RV.idx_o (((((l17.length : Nat) : Int) - (1 : Int))).toNat) rfl rfl (by omega) rfl rfl (o21.isSome (by decide) hl31) (by omega)) rfl (OW.rv (RV.load rfl (List.Mem.head _) (o21.isSome (by decide) hl31) rfl rfl (own_at0 (u8s_at hx30))) rfl (OW.rv (RV.or8 rfl (by first | rfl | exact lit8 _ rfl) rfl (by first | rfl | exact lit8 _ rfl)) rfl ?_))
  obtain ⟨x32, hx33, hf⟩ := some_bind hf
  have hl34 := lt_of_at hx33
  refine OW.rv (RV.idx_o (((((l17.length : Nat) : Int) - (1 : Int))).toNat) rfl rfl (by omega) rfl rfl (o21.isSome (by decide) hl34) (by omega)) rfl (OW.sv (SV.store rfl (o21.isSome (by decide) hl34) rfl rfl rfl (by rw [List.length_append, u8s_length]; omega)) ?_)
  refine OW.cells ((u8s (l17.set (((((l17.length : Nat) : Int) - (1 : Int))).toNat) (x29 ||| 128#8))) ++ r20) (by rw [Nat.zero_add, List.set_append_left _ _ (by rw [u8s_length]; omega)]; first | rw [u8s_set'] | (rw [← u8s_set']; rfl)) ?_
  have o35 : OwnS ob18 (l17.set (((((l17.length : Nat) : Int) - (1 : Int))).toNat) (x29 ||| 128#8)).length c19 1 (u8s (l17.set (((((l17.length : Nat) : Int) - (1 : Int))).toNat) (x29 ||| 128#8))) r20 := OwnS.same o21 (by simp) (by simp)
  refine OW.frame (L' := [(5, sl ob18 0 (l17.set (((((l17.length : Nat) : Int) - (1 : Int))).toNat) (x29 ||| 128#8)).length c19), (20, sl ob18 0 (l17.set (((((l17.length : Nat) : Int) - (1 : Int))).toNat) (x29 ||| 128#8)).length c19), (21, sl ob18 0 (l17.set (((((l17.length : Nat) : Int) - (1 : Int))).toNat) (x29 ||| 128#8)).length c19), (22, .int .i64 ((l17.length : Nat) : Int)), (23, .int .i64 (((l17.length : Nat) : Int) - (1 : Int))), (24, sl ob18 0 (l17.set (((((l17.length : Nat) : Int) - (1 : Int))).toNat) (x29 ||| 128#8)).length c19), (25, sl ob18 0 (l17.set (((((l17.length : Nat) : Int) - (1 : Int))).toNat) (x29 ||| 128#8)).length c19), (26, .int .i64 ((l17.length : Nat) : Int)), (27, .int .i64 (((l17.length : Nat) : Int) - (1 : Int))), (29, U8 x29), (30, U8 (x29 ||| 128#8))]) (fun k v h => Sub.get (L' := [(5, sl ob18 0 (l17.set (((((l17.length : Nat) : Int) - (1 : Int))).toNat) (x29 ||| 128#8)).length c19), (20, sl ob18 0 (l17.set (((((l17.length : Nat) : Int) - (1 : Int))).toNat) (x29 ||| 128#8)).length c19), (21, sl ob18 0 (l17.set (((((l17.length : Nat) : Int) - (1 : Int))).toNat) (x29 ||| 128#8)).length c19), (22, .int .i64 ((l17.length : Nat) : Int)), (23, .int .i64 (((l17.length : Nat) : Int) - (1 : Int))), (24, sl ob18 0 (l17.set (((((l17.length : Nat) : Int) - (1 : Int))).toNat) (x29 ||| 128#8)).length c19), (25, sl ob18 0 (l17.set (((((l17.length : Nat) : Int) - (1 : Int))).toNat) (x29 ||| 128#8)).length c19), (26, .int .i64 ((l17.length : Nat) : Int)), (27, .int .i64 (((l17.length : Nat) : Int) - (1 : Int))), (29, U8 x29), (30, U8 (x29 ||| 128#8))]) ?_ k v h) ?_
  ·exact ⟨(congrArg (fun k => some (sl ob18 0 k c19)) (List.length_set ..).symm), (congrArg (fun k => some (sl ob18 0 k c19)) (List.length_set ..).symm), (congrArg (fun k => some (sl ob18 0 k c19)) (List.length_set ..).symm), rfl, rfl, (congrArg (fun k => some (sl ob18 0 k c19)) (List.length_set ..).symm), (congrArg (fun k => some (sl ob18 0 k c19)) (List.length_set ..).symm), rfl, rfl, rfl, rfl, trivial⟩
  refine OW.nil (QW.then_n (CW.seq (CW.region (OW.rv (RV.move rfl) rfl (OW.rv (RV.assign rfl) rfl (OW.nil (QW.then_n (CW.ret ?_))))))))
  have e0 := Option.some.inj hf
  subst e0
  refine QW.retG (rs := [.tmp 4]) ([sl ob18 0 (l17.set (((((l17.length : Nat) : Int) - (1 : Int))).toNat) (x29 ||| 128#8)).length c19]) ((ob18, blk ((u8s (l17.set (((((l17.length : Nat) : Int) - (1 : Int))).toNat) (x29 ||| 128#8))) ++ r20) 5) :: []) rfl ?_ rfl ?_ ?_ _ (.inl rfl)
  ·exact ⟨rfl, trivial⟩
  ·exact ⟨[], ob18, c19, r20, o35, rfl, rfl⟩
  ·exact (fun w m => m.pick [0] 1 rfl rfl)
 ·skip
  refine CW.block (CW.loopJ (fun k L' M' => ∃ l36 : List (BitVec 8), ∃ ob37 : Option Nat, ∃ c38 : Nat, ∃ r39 : List Value, (waybillref02_filled.l1 k l36) = some q15 ∧ (OwnS ob37 l36.length c38 1 (u8s l36) r39) ∧ L' = [(5, sl ob37 0 l36.length c38)] ∧ M' = ((ob37, blk ((u8s l36) ++ r39) 5) :: ([] ++ N))) (k0 := 140) ⟨(a0 ++ ([a1] : List (BitVec 8))), ob10, c12, r11, hq16, o13, rfl, rfl⟩ ⟨rfl, trivial⟩ (fun w m => m.pick [0] 2 rfl rfl) ?_)
  clear hq16
  rintro k41 L44 M45 ⟨l36, ob37, c38, r39, hl42, o40, e46, e47⟩
  rw [e46, e47]
  clear e46 e47 L44 M45
  rcases k41 with _ | k41
  ·rw [waybillref02_filled.l1] at hl42; cases hl42
  rw [waybillref02_filled.l1] at hl42
  have m48 := o40.mx
  refine CW.seq (CW.seq (CW.region (OW.rv (RV.move rfl) rfl (OW.rv (RV.len rfl rfl) rfl (OW.rv (RV.rem rfl rfl (by omega) (by omega)) rfl (OW.slot (.int .i64 ((l36.length % 136 : Nat) : Int)) (by first | rfl | (congr 1; omega)) (OW.rv (RV.neq rfl rfl) rfl (OW.slot (.bool (!decide ((l36.length % 136) = 0))) (congrArg (fun b => Value.bool (!b)) (decide_eq_decide.2 (by omega))) (OW.nil (QW.then_n ?_))))))))))
  by_cases h49 : (l36.length % 136) = 0
  ·replace hl42 := if_t hl42 h49
   refine CW.is_f rfl (congrArg (fun b => !b) (decide_eq_true h49)) (CW.exit (QW.then_x (QW.then_x (QW.block_xe ?_))))
   exact QW.join ⟨l36, ob37, c38, r39, (Option.some.inj hl42).symm, o40, rfl, rfl⟩ ⟨rfl, trivial⟩ (fun w m => m.pick [0] 1 rfl rfl)
  ·replace hl42 := if_f hl42 h49
   refine CW.is_t rfl (congrArg (fun b => !b) (decide_eq_false h49)) (CW.skip (QW.then_n (CW.block (CW.region (OW.rv (RV.move rfl) rfl (OW.ofN (NV.bs1 rfl rfl rfl rfl rfl rfl) rfl (fun b50 => (OW.mem (M' := (((some b50), blk ((u8s ([0#8] : List (BitVec 8))) ++ []) 5) :: (ob37, blk ((u8s l36) ++ r39) 5) :: ([] ++ N))) (fun w m => by first | exact m | simpa [u8s] using m) ?_))))))))
   have o51 : OwnS (some b50) ([0#8] : List (BitVec 8)).length 1 1 (u8s ([0#8] : List (BitVec 8))) [] := ⟨by simp [u8s], by simp [u8s], (fun h => nomatch h), by simp⟩
   have mx_o51 := o51.mx
   refine OW.slot (sl (some b50) 0 ([0#8] : List (BitVec 8)).length 1) (rfl) (OW.rot1 ?_)
   obtain ⟨g52, hl42⟩ := some_if hl42
   refine OW.appendOwn (s := 1) rfl rfl rfl rfl rfl rfl o40 (fun w m => m.rd0 (List.Mem.tail _ (List.Mem.head _)) (fun e => o51.nilc (by decide) e)) o51.n (u8s_one _) (o51.zeroO (by decide)) (by decide) (by decide) (by first | omega | (simp only [i5, List.length_nil]; omega)) rfl rfl ((l36 ++ ([0#8] : List (BitVec 8))).length) (u8s (l36 ++ ([0#8] : List (BitVec 8)))) (List.length_append ..).symm (u8s_app _ _) (fun ob53 r54 c55 o56 => ?_)
   have m57 := o56.mx
   refine OW.rv (RV.assign rfl) rfl (OW.nil (QW.block_n ?_))
   exact QW.againJ (k' := k41) (Nat.lt_succ_self _) ⟨(l36 ++ ([0#8] : List (BitVec 8))), ob53, c55, r54, hl42, o56, rfl, rfl⟩ ⟨rfl, trivial⟩ (fun w m => m.pick [0] 2 rfl rfl)
theorem waybillref02_joined_does (w0 : World) (Φ : Ctx) (N : List Ent) (hΦ : ∀ w, Mem w0 w N → Φ w) (A0_ : Option Addr) (c0_ : Nat) (cs0_ : List Value) (a0 : List (List (BitVec 8))) (res0 : List (BitVec 8)) (va0 : View Φ A0_ a0.length c0_ 1 cs0_) (ha0 : Reps (BsRd Φ) cs0_ a0) (hf : waybillref02_joined a0 = some res0) : DoesG Tryd.prog 141 [.slice A0_ a0.length c0_] w0 [] N (fun v G => ∃ B : List Ent, ∃ or0 : Option Nat, ∃ kr0 : Nat, ∃ rr0 : List Value, (OwnS or0 res0.length kr0 1 (u8s res0) rr0) ∧ v = sl or0 0 res0.length kr0 ∧ G = (or0, blk ((u8s res0) ++ rr0) 5) :: B) := by
 unfold waybillref02_joined at hf
 replace va0 := va0.mono (Ψ := More w0 Φ []) (fun w q => q.1)
 replace ha0 := ha0.mono (BsRd.mono (Ψ := More w0 Φ []) (fun w q => q.1))
 have m1 := va0.mx
 refine DoesG.enter Tryd.func141 rfl Tryd.ntmps141 rfl (M := (([] ++ N))) rfl (CW.seq (CW.region (OW.rv (RV.assign rfl) rfl (OW.nil (QW.then_n (CW.seq (CW.region (OW.rv (RV.assign rfl) rfl (OW.nil (QW.then_n (CW.seq (CW.seq (CW.region (OW.rv (RV.assign rfl) rfl (OW.nil (QW.then_n ?_))))))))))))))))
 obtain ⟨q2, hq3, hf⟩ := some_bind hf
 refine CW.cutJ (fun L' M' => ∃ l4 : List (BitVec 8), ∃ ob5 : Option Nat, ∃ c6 : Nat, ∃ r7 : List Value, q2 = l4 ∧ (OwnS ob5 l4.length c6 1 (u8s l4) r7) ∧ L' = [(3, sl ob5 0 l4.length c6)] ∧ M' = ((ob5, blk ((u8s l4) ++ r7) 5) :: ([] ++ N))) ?_ ?_
 ·rintro L10 M11 ⟨l4, ob5, c6, r7, e9, o8, e12, e13⟩
  rw [e12, e13]
  clear e12 e13 L10 M11
  clear hq3
  rw [e9] at hf
  clear e9
  try dsimp only at hf
  have m14 := o8.mx
  refine QW.then_n (CW.seq (CW.region (OW.rv (RV.move rfl) rfl (OW.rv (RV.assign rfl) rfl (OW.nil (QW.then_n (CW.ret ?_)))))))
  have e0 := Option.some.inj hf
  subst e0
  refine QW.retG (rs := [.tmp 2]) ([sl ob5 0 l4.length c6]) ((ob5, blk ((u8s l4) ++ r7) 5) :: []) rfl ?_ rfl ?_ ?_ _ (.inl rfl)
  ·exact ⟨rfl, trivial⟩
  ·exact ⟨[], ob5, c6, r7, o8, rfl, rfl⟩
  ·exact (fun w m => m.pick [0] 1 rfl rfl)
 ·skip
  refine CW.block (CW.mem (M' := ((none, blk ((u8s ([] : List (BitVec 8))) ++ []) 5) :: ([] ++ N))) (fun w m => m.nil_ent _) (CW.loopJ (fun k L' M' => ∃ l15 : List (BitVec 8), ∃ n20 : Nat, ∃ ob16 : Option Nat, ∃ c17 : Nat, ∃ r18 : List Value, (waybillref02_joined.l1 a0 k l15 n20) = some q2 ∧ (OwnS ob16 l15.length c17 1 (u8s l15) r18) ∧ (n20 ≤ 9223372036854775807) ∧ L' = [(0, .slice A0_ a0.length c0_), (3, sl ob16 0 l15.length c17), (4, .int .i64 ((n20 : Nat) : Int))] ∧ M' = ((ob16, blk ((u8s l15) ++ r18) 5) :: ([] ++ N))) (k0 := (a0.length - 0 + 2)) ⟨([] : List (BitVec 8)), 0, none, 0, [], hq3, OwnS.nil, (by omega), rfl, rfl⟩ ⟨rfl, rfl, rfl, trivial⟩ (fun w m => m.pick [0] 1 rfl rfl) ?_))
  clear hq3
  rintro k22 L25 M26 ⟨l15, n20, ob16, c17, r18, hl23, o19, b21, e27, e28⟩
  rw [e27, e28]
  clear e27 e28 L25 M26
  rcases k22 with _ | k22
  ·rw [waybillref02_joined.l1] at hl23; cases hl23
  rw [waybillref02_joined.l1] at hl23
  have m29 := o19.mx
  refine CW.seq (CW.seq (CW.region (OW.rv (RV.move rfl) rfl (OW.rv (RV.move rfl) rfl (OW.rv (RV.len rfl rfl) rfl (OW.rv (RV.lss rfl rfl) rfl (OW.slot (.bool (decide (n20 < a0.length))) (congrArg Value.bool (decide_eq_decide.2 (by omega))) (OW.nil (QW.then_n ?_)))))))))
  by_cases h30 : n20 < a0.length
  ·replace hl23 := if_t hl23 h30
   refine CW.is_t rfl (decide_eq_true h30) (CW.skip (QW.then_n (CW.seq (CW.block (CW.region (OW.rv (RV.move rfl) rfl (OW.rv (RV.move rfl) rfl (OW.rv (RV.move rfl) rfl ?_))))))))
   obtain ⟨x31, hx32, hl23⟩ := some_bind hl23
   have hl33 := lt_of_at hx32
   refine OW.rv (RV.idx_r (n20) rfl rfl rfl rfl rfl (va0.isSome (by decide) hl33) (by omega)) rfl ?_
   obtain ⟨cs34, h35, h36⟩ := ha0.get BsRd.len hx32
   obtain ⟨A37, c38, e40, v39⟩ := h35
   subst e40
   have m41 := v39.mx
   refine OW.rv (RV.load_at rfl rfl rfl (fun w m => by have := va0.load (More.of hΦ 1 m rfl) h36 0 _ rfl; simpa [Addr.add] using this)) rfl ?_
   obtain ⟨g42, hl23⟩ := some_if hl23
   refine OW.appendOwn (s := 1) rfl rfl rfl rfl rfl rfl o19 (fun w m => v39.rd w (More.of hΦ 1 m rfl)) v39.n (u8s_one _) (v39.zero (by decide)) (by decide) (by decide) (by first | omega | (simp only [i5, List.length_nil]; omega)) rfl rfl ((l15 ++ x31).length) (u8s (l15 ++ x31)) (List.length_append ..).symm (u8s_app _ _) (fun ob43 r44 c45 o46 => ?_)
   have m47 := o46.mx
   refine OW.rv (RV.assign rfl) rfl (OW.nil (QW.block_n (QW.then_n (CW.region (OW.rv (RV.move rfl) rfl (OW.rv (RV.add rfl rfl (by omega)) rfl (OW.slot (.int .i64 (((n20 + 1) : Nat) : Int)) (by first | rfl | (congr 1) | (congr 1; omega)) (OW.rv (RV.assign rfl) rfl (OW.nil ?_)))))))))
   exact QW.againJ (k' := k22) (Nat.lt_succ_self _) ⟨(l15 ++ x31), (n20 + 1), ob43, c45, r44, hl23, o46, (by omega), rfl, rfl⟩ ⟨rfl, rfl, rfl, trivial⟩ (fun w m => m.pick [0] 1 rfl rfl)
  ·replace hl23 := if_f hl23 h30
   refine CW.is_f rfl (decide_eq_false h30) (CW.exit (QW.then_x (QW.then_x (QW.block_xe ?_))))
   exact QW.join ⟨l15, ob16, c17, r18, (Option.some.inj hl23).symm, o19, rfl, rfl⟩ ⟨rfl, trivial⟩ (fun w m => m.pick [0] 1 rfl rfl)
theorem waybillref02_Digest_does (w0 : World) (Φ : Ctx) (N : List Ent) (hΦ : ∀ w, Mem w0 w N → Φ w) (A0_ : Option Addr) (c0_ : Nat) (a0 : List (BitVec 8)) (a1 : BitVec 8) (res0 : Vector (BitVec 8) 32) (va0 : View Φ A0_ a0.length c0_ 1 (u8s a0)) (hTn : ∀ i, i < 25 → w0.cell? ⟨4, i, none⟩ = some (.int .i64 (turnsL.getD i 0))) (hRn : ∀ i, i < 24 → w0.cell? ⟨3, i, none⟩ = some (U64 (g64 roundsL i))) (hf : waybillref02_Digest a0 a1 = some res0) : DoesG Tryd.prog 140 [.slice A0_ a0.length c0_, U8 a1] w0 [] N (fun v G => v = .agg (u8s res0.toList).toArray) := by
 unfold waybillref02_Digest at hf
 replace va0 := va0.mono (Ψ := More w0 Φ []) (fun w q => q.1)
 have m1 := va0.mx
 refine DoesG.enter Tryd.func140 rfl Tryd.ntmps140 rfl (M := (([] ++ N))) rfl (CW.seq (CW.region (OW.alloc (l := (u8s (Vector.replicate 32 0#8).toList)) rfl (by rw [Vector.toList_replicate, ← u8s_rep']; rfl) rfl (fun b2 => (OW.nil (QW.then_n (CW.seq (CW.region (OW.rv (RV.move rfl) rfl (OW.rv (RV.move rfl) rfl ?_))))))))))
 obtain ⟨x4, hx3, hf⟩ := some_bind hf
 refine OW.callG Tryd.call147 rfl (waybillref02_filled_does w0 (More w0 Φ []) ((some b2, blk (u8s (Vector.replicate 32 0#8).toList) 24) :: ([] ++ N)) (fun w m => More.of hΦ 1 m rfl) A0_ c0_ a0 a1 x4 va0 hx3) rfl rfl ?_
 rintro L10 M11 ⟨B5, ob6, c7, r8, o9, e12, e13⟩
 rw [e12, e13]
 clear e12 e13 L10 M11
 refine OW.mem (M' := ((ob6, blk ((u8s x4) ++ r8) 5) :: (some b2, blk (u8s (Vector.replicate 32 0#8).toList) 24) :: ((B5 ++ []) ++ N))) (fun w m => by have h := Mem.sinkAt (A := B5) m 1 1 rfl rfl; exact h) ?_
 have gq1 : ∀ w, More w0 Φ (B5 ++ []) w → More w0 Φ [] w := fun w q => More.mono (fun w m => (m).appR) q
 replace va0 := va0.mono gq1
 have m14 := o9.mx
 refine OW.rv (RV.assign rfl) rfl (OW.nil (QW.then_n (CW.seq (CW.region (OW.alloc (l := (u64s (Vector.replicate 25 0#64).toList)) rfl (by rw [Vector.toList_replicate, ← u64s_rep]; rfl) rfl (fun b15 => (OW.nil (QW.then_n (CW.seq (CW.seq (CW.region (OW.rv (RV.assign rfl) rfl (OW.nil (QW.then_n ?_))))))))))))))
 obtain ⟨q16, hq17, hf⟩ := some_bind hf
 refine CW.cutJ (fun L' M' => ∃ w18 : Vector (BitVec 64) 25, q16 = w18 ∧ L' = [(4, ptr (some b2) 0), (6, ptr (some b15) 0)] ∧ M' = ((some b15, blk (u64s w18.toList) 183) :: (some b2, blk (u8s (Vector.replicate 32 0#8).toList) 24) :: ((B5 ++ []) ++ N))) ?_ ?_
 ·rintro L20 M21 ⟨w18, e19, e22, e23⟩
  rw [e22, e23]
  clear e22 e23 L20 M21
  clear hq17
  rw [e19] at hf
  clear e19
  try dsimp only at hf
  refine QW.then_n (CW.seq (CW.region (OW.alloc (l := (u8s (Vector.replicate 32 0#8).toList)) rfl (by rw [Vector.toList_replicate, ← u8s_rep']; rfl) rfl (fun b24 => (OW.nil (QW.then_n (CW.seq (CW.seq (CW.region (OW.rv (RV.assign rfl) rfl (OW.nil (QW.then_n ?_))))))))))))
  obtain ⟨q25, hq26, hf⟩ := some_bind hf
  refine CW.cutJ (fun L' M' => ∃ w27 : Vector (BitVec 8) 32, q25 = w27 ∧ L' = [(4, ptr (some b2) 0), (9, ptr (some b24) 0)] ∧ M' = ((some b24, blk (u8s w27.toList) 24) :: (some b2, blk (u8s (Vector.replicate 32 0#8).toList) 24) :: ((B5 ++ []) ++ N))) ?_ ?_
  ·rintro L29 M30 ⟨w27, e28, e31, e32⟩
   rw [e31, e32]
   clear e31 e32 L29 M30
   clear hq26
   rw [e28] at hf
   clear e28
   try dsimp only at hf
   refine QW.then_n (CW.seq (CW.region (OW.rv (RV.loadW rfl (List.Mem.head _) rfl rfl rfl rfl ((u8s_length _).trans Vector.length_toList)) rfl (OW.rot1 (OW.sv (SV.storeW rfl rfl rfl (u8s_one _) rfl ((u8s_length _).trans Vector.length_toList) ((u8s_length _).trans Vector.length_toList)) (OW.nil (QW.then_n (CW.ret ?_))))))))
   have e0 := Option.some.inj hf
   subst e0
   refine QW.retG (rs := [.cell 4 24]) ([.agg (u8s w27.toList).toArray]) ((some b2, blk (u8s w27.toList) 24) :: (some b24, blk (u8s w27.toList) 24) :: (B5 ++ [])) rfl ?_ rfl ?_ ?_ _ (.inl rfl)
   ·exact ⟨⟨_, _, _, _, rfl, (List.Mem.head _), rfl, rfl, (congrArg some ((u8s_length _).trans Vector.length_toList).symm), rfl⟩, trivial⟩
   ·exact rfl
   ·exact (fun w m => m)
  ·skip
   refine CW.block (CW.loopJ (fun k L' M' => ∃ n33 : Nat, ∃ w35 : Vector (BitVec 8) 32, (waybillref02_Digest.l1 w18 k n33 w35) = some q25 ∧ (n33 ≤ 9223372036854775807) ∧ L' = [(4, ptr (some b2) 0), (6, ptr (some b15) 0), (9, ptr (some b24) 0), (10, .int .i64 ((n33 : Nat) : Int))] ∧ M' = ((some b24, blk (u8s w35.toList) 24) :: (some b15, blk (u64s w18.toList) 183) :: (some b2, blk (u8s (Vector.replicate 32 0#8).toList) 24) :: ((B5 ++ []) ++ N))) (k0 := (32 - 0 + 2)) ⟨0, (Vector.replicate 32 0#8), hq26, (by omega), rfl, rfl⟩ ⟨rfl, rfl, rfl, rfl, trivial⟩ (fun w m => m.pick [0, 1, 2] 3 rfl rfl) ?_)
   clear hq26
   rintro k36 L39 M40 ⟨n33, w35, hl37, b34, e41, e42⟩
   rw [e41, e42]
   clear e41 e42 L39 M40
   rcases k36 with _ | k36
   ·rw [waybillref02_Digest.l1] at hl37; cases hl37
   rw [waybillref02_Digest.l1] at hl37
   refine CW.seq (CW.seq (CW.region (OW.rv (RV.move rfl) rfl (OW.rv (RV.lss rfl rfl) rfl (OW.slot (.bool (decide (n33 < 32))) (congrArg Value.bool (decide_eq_decide.2 (by omega))) (OW.nil (QW.then_n ?_)))))))
   by_cases h43 : n33 < 32
   ·replace hl37 := if_t hl37 h43
    refine CW.is_t rfl (decide_eq_true h43) (CW.skip (QW.then_n (CW.seq (CW.block (CW.region (OW.rv (RV.move rfl) rfl (OW.rv (RV.move rfl) rfl (OW.rv (RV.quo rfl rfl (by omega) (by omega) (by omega)) rfl (OW.slot (.int .i64 ((n33 / 8 : Nat) : Int)) (by first | rfl | (congr 1; omega)) ?_)))))))))
    obtain ⟨g44, hl37⟩ := some_if hl37
    refine OW.rv (RV.idx_a ((n33 / 8)) rfl rfl rfl rfl rfl (by omega)) rfl ?_
    obtain ⟨x45, hx46, hl37⟩ := some_bind hl37
    refine OW.rv (RV.load rfl (List.Mem.tail _ (List.Mem.head _)) rfl rfl rfl (by rw [Nat.zero_add]; exact u64s_at (vat hx46))) rfl ?_
    refine OW.rv (RV.move rfl) rfl (OW.rv (RV.rem rfl rfl (by omega) (by omega)) rfl (OW.slot (.int .i64 ((n33 % 8 : Nat) : Int)) (by first | rfl | (congr 1; omega)) (OW.rv (RV.mul rfl rfl (by omega)) rfl (OW.slot (.int .i64 (((8 * (n33 % 8)) : Nat) : Int)) (by first | rfl | (congr 1) | (congr 1; omega)) (OW.rv (RV.conv_i64 rfl rfl rfl) rfl (OW.slot (U64 (BitVec.ofNat 64 (8 * (n33 % 8)))) (congrArg U64 (BitVec.ofInt_natCast ..)) ?_))))))
    refine OW.rv (RV.shr64 (s := (BitVec.ofNat 64 (8 * (n33 % 8))).toNat) rfl (by first | rfl | exact lit64 _ rfl) rfl (by first | rfl | (simp [U64]; done))) rfl ?_
    refine OW.rv (RV.conv64_8 rfl (by first | rfl | exact lit64 _ rfl) rfl rfl) rfl (OW.rv (RV.idx_a (n33) rfl rfl rfl rfl rfl (by omega)) rfl (OW.sv (SV.store rfl rfl rfl rfl rfl (by rw [u8s_length, Vector.length_toList]; omega)) (OW.cells (u8s (w35.setIfInBounds n33 ((x45 >>> (BitVec.ofNat 64 (8 * (n33 % 8))).toNat).setWidth 8)).toList) (by rw [Nat.zero_add, u8s_set', vset]) (OW.nil (QW.block_n (QW.then_n (CW.region (OW.rv (RV.move rfl) rfl (OW.rv (RV.add rfl rfl (by omega)) rfl (OW.slot (.int .i64 (((n33 + 1) : Nat) : Int)) (by first | rfl | (congr 1) | (congr 1; omega)) ?_))))))))))
    refine OW.rv (RV.assign rfl) rfl (OW.nil ?_)
    exact QW.againJ (k' := k36) (Nat.lt_succ_self _) ⟨(n33 + 1), (w35.setIfInBounds n33 ((x45 >>> (BitVec.ofNat 64 (8 * (n33 % 8))).toNat).setWidth 8)), hl37, (by omega), rfl, rfl⟩ ⟨rfl, rfl, rfl, rfl, trivial⟩ (fun w m => m.pick [0, 1, 2] 3 rfl rfl)
   ·replace hl37 := if_f hl37 h43
    refine CW.is_f rfl (decide_eq_false h43) (CW.exit (QW.then_x (QW.then_x (QW.block_xe ?_))))
    exact QW.join ⟨w35, (Option.some.inj hl37).symm, rfl, rfl⟩ ⟨rfl, rfl, trivial⟩ (fun w m => m.pick [0, 2] 3 rfl rfl)
 ·skip
  refine CW.block (CW.loopJ (fun k L' M' => ∃ n47 : Nat, ∃ w49 : Vector (BitVec 64) 25, (waybillref02_Digest.l2 x4 k n47 w49) = some q16 ∧ (n47 ≤ 9223372036854775807) ∧ L' = [(4, ptr (some b2) 0), (5, sl ob6 0 x4.length c7), (6, ptr (some b15) 0), (7, .int .i64 ((n47 : Nat) : Int))] ∧ M' = ((some b15, blk (u64s w49.toList) 183) :: (ob6, blk ((u8s x4) ++ r8) 5) :: (some b2, blk (u8s (Vector.replicate 32 0#8).toList) 24) :: ((B5 ++ []) ++ N))) (k0 := (x4.length - 0 + 2)) ⟨0, (Vector.replicate 25 0#64), hq17, (by omega), rfl, rfl⟩ ⟨rfl, rfl, rfl, rfl, trivial⟩ (fun w m => m.pick [0, 1, 2] 3 rfl rfl) ?_)
  clear hq17
  rintro k50 L53 M54 ⟨n47, w49, hl51, b48, e55, e56⟩
  rw [e55, e56]
  clear e55 e56 L53 M54
  rcases k50 with _ | k50
  ·rw [waybillref02_Digest.l2] at hl51; cases hl51
  rw [waybillref02_Digest.l2] at hl51
  have m57 := o9.mx
  refine CW.seq (CW.seq (CW.region (OW.rv (RV.move rfl) rfl (OW.rv (RV.move rfl) rfl (OW.rv (RV.len rfl rfl) rfl (OW.rv (RV.lss rfl rfl) rfl (OW.slot (.bool (decide (n47 < x4.length))) (congrArg Value.bool (decide_eq_decide.2 (by omega))) (OW.nil (QW.then_n ?_)))))))))
  by_cases h58 : n47 < x4.length
  ·replace hl51 := if_t hl51 h58
   refine CW.is_t rfl (decide_eq_true h58) (CW.skip (QW.then_n (CW.seq (CW.block (CW.seq (CW.seq (CW.region (OW.rv (RV.assign rfl) rfl (OW.nil (QW.then_n ?_))))))))))
   obtain ⟨q59, hq60, hl51⟩ := some_bind hl51
   refine CW.cutJ (fun L' M' => ∃ w61 : Vector (BitVec 64) 25, q59 = w61 ∧ L' = [(4, ptr (some b2) 0), (5, sl ob6 0 x4.length c7), (6, ptr (some b15) 0), (7, .int .i64 ((n47 : Nat) : Int))] ∧ M' = ((some b15, blk (u64s w61.toList) 183) :: (ob6, blk ((u8s x4) ++ r8) 5) :: (some b2, blk (u8s (Vector.replicate 32 0#8).toList) 24) :: ((B5 ++ []) ++ N))) ?_ ?_
   ·rintro L63 M64 ⟨w61, e62, e65, e66⟩
    rw [e65, e66]
    clear e65 e66 L63 M64
    clear hq60
    rw [e62] at hl51
    clear e62
    try dsimp only at hl51
    have m67 := o9.mx
    refine QW.then_n (CW.region (OW.rv (RV.loadW rfl (List.Mem.head _) rfl rfl rfl rfl ((u64s_length _).trans Vector.length_toList)) rfl ?_))
    obtain ⟨x69, hx68, hl51⟩ := some_bind hl51
    refine OW.callG Tryd.call148 rfl (waybillref02_Permute_does w0 (More w0 Φ (B5 ++ [])) ((some b15, blk (u64s w61.toList) 183) :: (ob6, blk ((u8s x4) ++ r8) 5) :: (some b2, blk (u8s (Vector.replicate 32 0#8).toList) 24) :: ((B5 ++ []) ++ N)) (fun w m => More.of hΦ 3 m rfl) w61 x69 hTn hRn hx68) rfl rfl ?_
    rintro _ G70 rfl
    refine OW.mem (M' := ((some b15, blk (u64s w61.toList) 183) :: (ob6, blk ((u8s x4) ++ r8) 5) :: (some b2, blk (u8s (Vector.replicate 32 0#8).toList) 24) :: ((B5 ++ []) ++ N))) (fun w m => m.appR) (OW.sv (SV.storeW rfl rfl rfl (u64s_one _) rfl ((u64s_length _).trans Vector.length_toList) ((u64s_length _).trans Vector.length_toList)) (OW.nil (QW.block_n (QW.then_n (CW.region (OW.rv (RV.move rfl) rfl (OW.rv (RV.add rfl rfl (by omega)) rfl (OW.slot (.int .i64 (((n47 + 136) : Nat) : Int)) (by first | rfl | (congr 1) | (congr 1; omega)) (OW.rv (RV.assign rfl) rfl (OW.nil ?_))))))))))
    exact QW.againJ (k' := k50) (Nat.lt_succ_self _) ⟨(n47 + 136), x69, hl51, (by omega), rfl, rfl⟩ ⟨rfl, rfl, rfl, rfl, trivial⟩ (fun w m => m.pick [0, 1, 2] 3 rfl rfl)
   ·skip
    refine CW.block (CW.loopJ (fun k L' M' => ∃ n72 : Nat, ∃ w74 : Vector (BitVec 64) 25, (waybillref02_Digest.l3 x4 n47 k n72 w74) = some q59 ∧ (n72 ≤ 9223372036854775807) ∧ L' = [(4, ptr (some b2) 0), (5, sl ob6 0 x4.length c7), (6, ptr (some b15) 0), (7, .int .i64 ((n47 : Nat) : Int)), (8, .int .i64 ((n72 : Nat) : Int))] ∧ M' = ((some b15, blk (u64s w74.toList) 183) :: (ob6, blk ((u8s x4) ++ r8) 5) :: (some b2, blk (u8s (Vector.replicate 32 0#8).toList) 24) :: ((B5 ++ []) ++ N))) (k0 := (136 - 0 + 2)) ⟨0, w49, hq60, (by omega), rfl, rfl⟩ ⟨rfl, rfl, rfl, rfl, rfl, trivial⟩ (fun w m => m.pick [0, 1, 2] 3 rfl rfl) ?_)
    clear hq60
    rintro k75 L78 M79 ⟨n72, w74, hl76, b73, e80, e81⟩
    rw [e80, e81]
    clear e80 e81 L78 M79
    rcases k75 with _ | k75
    ·rw [waybillref02_Digest.l3] at hl76; cases hl76
    rw [waybillref02_Digest.l3] at hl76
    have m82 := o9.mx
    refine CW.seq (CW.seq (CW.region (OW.rv (RV.move rfl) rfl (OW.rv (RV.lss rfl rfl) rfl (OW.slot (.bool (decide (n72 < 136))) (congrArg Value.bool (decide_eq_decide.2 (by omega))) (OW.nil (QW.then_n ?_)))))))
    by_cases h83 : n72 < 136
    ·replace hl76 := if_t hl76 h83
     refine CW.is_t rfl (decide_eq_true h83) (CW.skip (QW.then_n (CW.seq (CW.block (CW.drawsX ((ob6, blk ((u8s x4) ++ r8) 5) :: (some b2, blk (u8s (Vector.replicate 32 0#8).toList) 24) :: ((B5 ++ []) ++ N)) [20] (fun w m => m.pick [1, 2] 3 rfl rfl) mixed (by kernel_rfl) (XW.rs 0 rfl (by kernel_rfl) rfl (RV.move rfl) rfl (XW.rs 1 rfl (by kernel_rfl) rfl (RV.quo rfl rfl (by omega) (by omega) (by omega)) rfl (XW.slot (.int .i64 ((n72 / 8 : Nat) : Int)) (by first | rfl | (congr 1; omega)) (XW.rs 2 rfl (by kernel_rfl) rfl (RV.move rfl) rfl (XW.rs 3 rfl (by kernel_rfl) rfl (RV.quo rfl rfl (by omega) (by omega) (by omega)) rfl ?_))))))))))
     refine XW.slot (.int .i64 ((n72 / 8 : Nat) : Int)) (by first | rfl | (congr 1; omega)) ?_
     obtain ⟨g84, hl76⟩ := some_if hl76
     refine XW.rs 4 rfl (by kernel_rfl) rfl (RV.idx_a ((n72 / 8)) rfl rfl rfl rfl rfl (by omega)) rfl ?_
     obtain ⟨x85, hx86, hl76⟩ := some_bind hl76
     refine XW.rv 5 rfl (by kernel_rfl) rfl (by kernel_rfl) (RV.load rfl (List.Mem.head _) rfl rfl rfl (by rw [Nat.zero_add]; exact u64s_at (vat hx86))) rfl ?_
     refine XW.rs 6 rfl (by kernel_rfl) rfl (RV.move rfl) rfl (XW.rs 7 rfl (by kernel_rfl) rfl (RV.move rfl) rfl (XW.rs 8 rfl (by kernel_rfl) rfl (RV.move rfl) rfl (XW.rs 9 rfl (by kernel_rfl) rfl (RV.add rfl rfl (by omega)) rfl (XW.slot (.int .i64 (((n47 + n72) : Nat) : Int)) (by first | rfl | (congr 1) | (congr 1; omega)) ?_))))
     obtain ⟨x87, hx88, hl76⟩ := some_bind hl76
     have hl89 := lt_of_at hx88
     refine XW.rs 10 rfl (by kernel_rfl) rfl (RV.idx_o ((n47 + n72)) rfl rfl rfl rfl rfl (o9.isSome (by decide) hl89) (by omega)) rfl (XW.rs 11 rfl (by kernel_rfl) rfl (RV.load rfl (List.Mem.head _) (o9.isSome (by decide) hl89) rfl rfl (own_at0 (u8s_at hx88))) rfl (XW.rs 12 rfl (by kernel_rfl) rfl (RV.conv8_64 rfl (by first | rfl | exact lit8 _ rfl) rfl rfl) rfl (XW.rs 13 rfl (by kernel_rfl) rfl (RV.move rfl) rfl (XW.rs 14 rfl (by kernel_rfl) rfl (RV.rem rfl rfl (by omega) (by omega)) rfl (XW.slot (.int .i64 ((n72 % 8 : Nat) : Int)) (by first | rfl | (congr 1; omega)) (XW.rs 15 rfl (by kernel_rfl) rfl (RV.mul rfl rfl (by omega)) rfl (XW.slot (.int .i64 (((8 * (n72 % 8)) : Nat) : Int)) (by first | rfl | (congr 1) | (congr 1; omega)) ?_)))))))
     refine XW.rs 16 rfl (by kernel_rfl) rfl (RV.conv_i64 rfl rfl rfl) rfl (XW.slot (U64 (BitVec.ofNat 64 (8 * (n72 % 8)))) (congrArg U64 (BitVec.ofInt_natCast ..)) ?_)
     refine XW.rs 17 rfl (by kernel_rfl) rfl (RV.shl64 (s := (BitVec.ofNat 64 (8 * (n72 % 8))).toNat) rfl (by first | rfl | exact lit64 _ rfl) rfl (by first | rfl | (simp [U64]; done))) rfl ?_
     refine XW.rs 18 rfl (by kernel_rfl) rfl (RV.xor64 rfl (by first | rfl | exact lit64 _ rfl) rfl (by first | rfl | exact lit64 _ rfl)) rfl (XW.rs 19 rfl (by kernel_rfl) rfl (RV.idx_a ((n72 / 8)) rfl rfl rfl rfl rfl (by omega)) rfl (XW.sv 20 rfl (by kernel_rfl) (SV.store rfl rfl rfl rfl rfl (by rw [u64s_length, Vector.length_toList]; omega)) (fun w m => m.pick [1, 2] 3 rfl rfl) (XW.cells (u64s (w74.setIfInBounds (n72 / 8) (x85 ^^^ ((x87.setWidth 64) <<< (BitVec.ofNat 64 (8 * (n72 % 8))).toNat))).toList) (by rw [Nat.zero_add, u64s_set', vset]) (XW.nil (by kernel_rfl) (QW.block_n (QW.then_n (CW.region (OW.rv (RV.move rfl) rfl (OW.rv (RV.add rfl rfl (by omega)) rfl ?_)))))))))
     refine OW.slot (.int .i64 (((n72 + 1) : Nat) : Int)) (by first | rfl | (congr 1) | (congr 1; omega)) (OW.rv (RV.assign rfl) rfl (OW.nil ?_))
     exact QW.againJ (k' := k75) (Nat.lt_succ_self _) ⟨(n72 + 1), (w74.setIfInBounds (n72 / 8) (x85 ^^^ ((x87.setWidth 64) <<< (BitVec.ofNat 64 (8 * (n72 % 8))).toNat))), hl76, (by omega), rfl, rfl⟩ ⟨rfl, rfl, rfl, rfl, rfl, trivial⟩ (fun w m => m.pick [0, 1, 2] 3 rfl rfl)
    ·replace hl76 := if_f hl76 h83
     refine CW.is_f rfl (decide_eq_false h83) (CW.exit (QW.then_x (QW.then_x (QW.block_xe ?_))))
     exact QW.join ⟨w74, (Option.some.inj hl76).symm, rfl, rfl⟩ ⟨rfl, rfl, rfl, rfl, trivial⟩ (fun w m => m.pick [0, 1, 2] 3 rfl rfl)
  ·replace hl51 := if_f hl51 h58
   refine CW.is_f rfl (decide_eq_false h58) (CW.exit (QW.then_x (QW.then_x (QW.block_xe ?_))))
   exact QW.join ⟨w49, (Option.some.inj hl51).symm, rfl, rfl⟩ ⟨rfl, rfl, trivial⟩ (fun w m => m.pick [0, 2] 3 rfl rfl)
theorem waybillref02_Sum_does (w0 : World) (Φ : Ctx) (N : List Ent) (hΦ : ∀ w, Mem w0 w N → Φ w) (A0_ : Option Addr) (c0_ : Nat) (cs0_ : List Value) (a0 : List (List (BitVec 8))) (res0 : Vector (BitVec 8) 32) (va0 : View Φ A0_ a0.length c0_ 1 cs0_) (ha0 : Reps (BsRd Φ) cs0_ a0) (hTn : ∀ i, i < 25 → w0.cell? ⟨4, i, none⟩ = some (.int .i64 (turnsL.getD i 0))) (hRn : ∀ i, i < 24 → w0.cell? ⟨3, i, none⟩ = some (U64 (g64 roundsL i))) (hf : waybillref02_Sum a0 = some res0) : DoesG Tryd.prog 128 [.slice A0_ a0.length c0_] w0 [] N (fun v G => v = .agg (u8s res0.toList).toArray) := by
 unfold waybillref02_Sum at hf
 replace va0 := va0.mono (Ψ := More w0 Φ []) (fun w q => q.1)
 replace ha0 := ha0.mono (BsRd.mono (Ψ := More w0 Φ []) (fun w q => q.1))
 have m1 := va0.mx
 refine DoesG.enter Tryd.func128 rfl Tryd.ntmps128 rfl (M := (([] ++ N))) rfl (CW.seq (CW.region (OW.alloc (l := (u8s (Vector.replicate 32 0#8).toList)) rfl (by rw [Vector.toList_replicate, ← u8s_rep']; rfl) rfl (fun b2 => (OW.nil (QW.then_n (CW.seq (CW.region (OW.rv (RV.move rfl) rfl ?_)))))))))
 obtain ⟨x4, hx3, hf⟩ := some_bind hf
 refine OW.callG Tryd.call141 rfl (waybillref02_joined_does w0 (More w0 Φ []) ((some b2, blk (u8s (Vector.replicate 32 0#8).toList) 24) :: ([] ++ N)) (fun w m => More.of hΦ 1 m rfl) A0_ c0_ cs0_ a0 x4 va0 ha0 hx3) rfl rfl ?_
 rintro L10 M11 ⟨B5, ob6, c7, r8, o9, e12, e13⟩
 rw [e12, e13]
 clear e12 e13 L10 M11
 refine OW.mem (M' := ((ob6, blk ((u8s x4) ++ r8) 5) :: (some b2, blk (u8s (Vector.replicate 32 0#8).toList) 24) :: ((B5 ++ []) ++ N))) (fun w m => by have h := Mem.sinkAt (A := B5) m 1 1 rfl rfl; exact h) ?_
 have gq1 : ∀ w, More w0 Φ (B5 ++ []) w → More w0 Φ [] w := fun w q => More.mono (fun w m => (m).appR) q
 replace va0 := va0.mono gq1
 replace ha0 := ha0.mono (BsRd.mono gq1)
 have m14 := o9.mx
 refine OW.mem (M' := (some b2, blk (u8s (Vector.replicate 32 0#8).toList) 24) :: (((ob6, blk ((u8s x4) ++ r8) 5) :: (B5 ++ [])) ++ N)) (fun w m => m.pick [1, 0] 2 rfl rfl) ?_
 have gq2 : ∀ w, More w0 Φ ((ob6, blk ((u8s x4) ++ r8) 5) :: (B5 ++ [])) w → More w0 Φ (B5 ++ []) w := fun w q => More.mono (fun w m => (m).tail) q
 replace va0 := va0.mono gq2
 replace ha0 := ha0.mono (BsRd.mono gq2)
 have v15 : View (More w0 Φ ((ob6, blk ((u8s x4) ++ r8) 5) :: (B5 ++ []))) ((ob6).map fun k => ⟨k, 0, none⟩) x4.length c7 1 (u8s x4) := o9.view (by decide) (fun w q => q.2.sublist (List.singleton_sublist.2 (List.mem_cons_self ..)))
 obtain ⟨x17, hx16, hf⟩ := some_bind hf
 refine OW.callG Tryd.call140 rfl (waybillref02_Digest_does w0 (More w0 Φ ((ob6, blk ((u8s x4) ++ r8) 5) :: (B5 ++ []))) ((some b2, blk (u8s (Vector.replicate 32 0#8).toList) 24) :: (((ob6, blk ((u8s x4) ++ r8) 5) :: (B5 ++ [])) ++ N)) (fun w m => More.of hΦ 1 m rfl) ((ob6).map fun k => ⟨k, 0, none⟩) c7 x4 (1#8) x17 v15 hTn hRn hx16) rfl rfl ?_
 rintro _ G18 rfl
 refine OW.mem (M' := ((some b2, blk (u8s (Vector.replicate 32 0#8).toList) 24) :: (((ob6, blk ((u8s x4) ++ r8) 5) :: (B5 ++ [])) ++ N))) (fun w m => m.appR) (OW.sv (SV.storeW rfl rfl rfl (u8s_one _) rfl ((u8s_length _).trans Vector.length_toList) ((u8s_length _).trans Vector.length_toList)) (OW.nil (QW.then_n (CW.ret ?_))))
 have e0 := Option.some.inj hf
 subst e0
 refine QW.retG (rs := [.cell 2 24]) ([.agg (u8s x17.toList).toArray]) ((some b2, blk (u8s x17.toList) 24) :: ((ob6, blk ((u8s x4) ++ r8) 5) :: (B5 ++ []))) rfl ?_ rfl ?_ ?_ _ (.inl rfl)
 ·exact ⟨⟨_, _, _, _, rfl, (List.Mem.head _), rfl, rfl, (congrArg some ((u8s_length _).trans Vector.length_toList).symm), rfl⟩, trivial⟩
 ·exact rfl
 ·exact (fun w m => m)
theorem waybillref10_Places_does (w0 : World) (Φ : Ctx) (N : List Ent) (hΦ : ∀ w, Mem w0 w N → Φ w) (A0_ : Option Addr) (c0_ : Nat) (a0 : List (BitVec 8)) (res0 : Vector (Int) 3) (va0 : View Φ A0_ a0.length c0_ 1 (u8s a0)) (hTn : ∀ i, i < 25 → w0.cell? ⟨4, i, none⟩ = some (.int .i64 (turnsL.getD i 0))) (hRn : ∀ i, i < 24 → w0.cell? ⟨3, i, none⟩ = some (U64 (g64 roundsL i))) (hf : waybillref10_Places a0 = some res0) : DoesG Tryd.prog 105 [.slice A0_ a0.length c0_] w0 [] N (fun v G => v = .agg (i64s res0.toList).toArray) := by
 unfold waybillref10_Places at hf
 replace va0 := va0.mono (Ψ := More w0 Φ []) (fun w q => q.1)
 have m1 := va0.mx
 refine DoesG.enter Tryd.func105 rfl Tryd.ntmps105 rfl (M := (([] ++ N))) rfl (CW.seq (CW.region (OW.alloc (l := (i64s (Vector.replicate 3 0).toList)) rfl (by rw [Vector.toList_replicate, ← i64s_rep]; rfl) rfl (fun b2 => (OW.nil (QW.then_n (CW.seq (CW.region (OW.rv (RV.move rfl) rfl (OW.ofN (NV.bs1 rfl rfl rfl rfl rfl rfl) rfl (fun b3 => ?_)))))))))))
 have h6 : Reps (BsRd (More w0 Φ [])) (([.slice A0_ a0.length c0_] : List Value)) [a0] := Reps.one (BsRd.mk va0)
 refine OW.mem (M' := (((some b3), blk ((([.slice A0_ a0.length c0_] : List Value)) ++ []) 61) :: (some b2, blk (i64s (Vector.replicate 3 0).toList) 95) :: ([] ++ N))) (fun w m => m) ?_
 have o4 : OwnS (some b3) ([a0] : List (List (BitVec 8))).length 1 1 (([.slice A0_ a0.length c0_] : List Value)) [] := ⟨by simp [BsRd], by simp [BsRd], (fun h => nomatch h), by simp⟩
 have mx_o4 := o4.mx
 refine OW.slot (sl (some b3) 0 ([a0] : List (List (BitVec 8))).length 1) (rfl) (OW.mem (M' := (some b2, blk (i64s (Vector.replicate 3 0).toList) 95) :: ((((some b3), blk ((([.slice A0_ a0.length c0_] : List Value)) ++ []) 61) :: []) ++ N)) (fun w m => m.pick [1, 0] 2 rfl rfl) ?_)
 have gq1 : ∀ w, More w0 Φ (((some b3), blk ((([.slice A0_ a0.length c0_] : List Value)) ++ []) 61) :: []) w → More w0 Φ [] w := fun w q => More.mono (fun w m => (m).tail) q
 replace va0 := va0.mono gq1
 replace h6 := h6.mono (BsRd.mono gq1)
 have v7 : View (More w0 Φ (((some b3), blk ((([.slice A0_ a0.length c0_] : List Value)) ++ []) 61) :: [])) (((some b3)).map fun k => ⟨k, 0, none⟩) ([a0] : List (List (BitVec 8))).length 1 1 (([.slice A0_ a0.length c0_] : List Value)) := o4.view (by decide) (fun w q => q.2.sublist (List.singleton_sublist.2 (List.mem_cons_self ..)))
 obtain ⟨x9, hx8, hf⟩ := some_bind hf
 refine OW.callG Tryd.call128 rfl (waybillref02_Sum_does w0 (More w0 Φ (((some b3), blk ((([.slice A0_ a0.length c0_] : List Value)) ++ []) 61) :: [])) ((some b2, blk (i64s (Vector.replicate 3 0).toList) 95) :: ((((some b3), blk ((([.slice A0_ a0.length c0_] : List Value)) ++ []) 61) :: []) ++ N)) (fun w m => More.of hΦ 1 m rfl) (((some b3)).map fun k => ⟨k, 0, none⟩) 1 (([.slice A0_ a0.length c0_] : List Value)) ([a0] : List (List (BitVec 8))) x9 v7 h6 hTn hRn hx8) rfl rfl ?_
 rintro _ G10 rfl
 refine OW.mem (M' := ((some b2, blk (i64s (Vector.replicate 3 0).toList) 95) :: ((((some b3), blk ((([.slice A0_ a0.length c0_] : List Value)) ++ []) 61) :: []) ++ N))) (fun w m => m.appR) (OW.alloc (l := (u8s (Vector.replicate 32 0#8).toList)) rfl (by rw [Vector.toList_replicate, ← u8s_rep']; rfl) rfl (fun b12 => (OW.sv (SV.storeW rfl rfl rfl (u8s_one _) rfl ((u8s_length _).trans Vector.length_toList) ((u8s_length _).trans Vector.length_toList)) (OW.nil (QW.then_n (CW.seq (CW.region (OW.alloc (l := (i64s (Vector.replicate 3 0).toList)) rfl (by rw [Vector.toList_replicate, ← i64s_rep]; rfl) rfl (fun b13 => (OW.nil (QW.then_n (CW.seq (CW.seq (CW.region (OW.rv (RV.assign rfl) rfl (OW.nil (QW.then_n ?_)))))))))))))))))
 obtain ⟨q14, hq15, hf⟩ := some_bind hf
 refine CW.cutJ (fun L' M' => ∃ w16 : Vector (Int) 3, q14 = w16 ∧ L' = [(2, ptr (some b2) 0), (4, ptr (some b13) 0)] ∧ M' = ((some b13, blk (i64s w16.toList) 95) :: (some b2, blk (i64s (Vector.replicate 3 0).toList) 95) :: ((((some b3), blk ((([.slice A0_ a0.length c0_] : List Value)) ++ []) 61) :: []) ++ N))) ?_ ?_
 ·rintro L18 M19 ⟨w16, e17, e20, e21⟩
  rw [e20, e21]
  clear e20 e21 L18 M19
  clear hq15
  rw [e17] at hf
  clear e17
  try dsimp only at hf
  refine QW.then_n (CW.seq (CW.region (OW.rv (RV.loadW rfl (List.Mem.head _) rfl rfl rfl rfl ((i64s_length _).trans Vector.length_toList)) rfl (OW.rot1 (OW.sv (SV.storeW rfl rfl rfl (i64s_one _) rfl ((i64s_length _).trans Vector.length_toList) ((i64s_length _).trans Vector.length_toList)) (OW.nil (QW.then_n (CW.ret ?_))))))))
  have e0 := Option.some.inj hf
  subst e0
  refine QW.retG (rs := [.cell 2 95]) ([.agg (i64s w16.toList).toArray]) ((some b2, blk (i64s w16.toList) 95) :: (some b13, blk (i64s w16.toList) 95) :: (((some b3), blk ((([.slice A0_ a0.length c0_] : List Value)) ++ []) 61) :: [])) rfl ?_ rfl ?_ ?_ _ (.inl rfl)
  ·exact ⟨⟨_, _, _, _, rfl, (List.Mem.head _), rfl, rfl, (congrArg some ((i64s_length _).trans Vector.length_toList).symm), rfl⟩, trivial⟩
  ·exact rfl
  ·exact (fun w m => m)
 ·skip
  refine CW.block (CW.loopJ (fun k L' M' => ∃ n22 : Nat, ∃ w24 : Vector (Int) 3, (waybillref10_Places.l1 x9 k n22 w24) = some q14 ∧ (n22 ≤ 9223372036854775807) ∧ L' = [(2, ptr (some b2) 0), (3, ptr (some b12) 0), (4, ptr (some b13) 0), (5, .int .i64 ((n22 : Nat) : Int))] ∧ M' = ((some b13, blk (i64s w24.toList) 95) :: (some b12, blk (u8s x9.toList) 24) :: (some b2, blk (i64s (Vector.replicate 3 0).toList) 95) :: ((((some b3), blk ((([.slice A0_ a0.length c0_] : List Value)) ++ []) 61) :: []) ++ N))) (k0 := (3 - 0 + 2)) ⟨0, (Vector.replicate 3 0), hq15, (by omega), rfl, rfl⟩ ⟨rfl, rfl, rfl, rfl, trivial⟩ (fun w m => m.pick [0, 1, 2] 3 rfl rfl) ?_)
  clear hq15
  rintro k25 L28 M29 ⟨n22, w24, hl26, b23, e30, e31⟩
  rw [e30, e31]
  clear e30 e31 L28 M29
  rcases k25 with _ | k25
  ·rw [waybillref10_Places.l1] at hl26; cases hl26
  rw [waybillref10_Places.l1] at hl26
  refine CW.seq (CW.seq (CW.region (OW.rv (RV.move rfl) rfl (OW.rv (RV.lss rfl rfl) rfl (OW.slot (.bool (decide (n22 < 3))) (congrArg Value.bool (decide_eq_decide.2 (by omega))) (OW.nil (QW.then_n ?_)))))))
  by_cases h32 : n22 < 3
  ·replace hl26 := if_t hl26 h32
   refine CW.is_t rfl (decide_eq_true h32) (CW.skip (QW.then_n (CW.seq (CW.block (CW.drawsX ((some b12, blk (u8s x9.toList) 24) :: (some b2, blk (i64s (Vector.replicate 3 0).toList) 95) :: ((((some b3), blk ((([.slice A0_ a0.length c0_] : List Value)) ++ []) 61) :: []) ++ N)) [16] (fun w m => m.pick [1, 2] 3 rfl rfl) mixed (by kernel_rfl) (XW.rs 0 rfl (by kernel_rfl) rfl (RV.move rfl) rfl (XW.rs 1 rfl (by kernel_rfl) rfl (RV.move rfl) rfl (XW.rs 2 rfl (by kernel_rfl) rfl (RV.mul rfl rfl (by omega)) rfl (XW.slot (.int .i64 (((2 * n22) : Nat) : Int)) (by first | rfl | (congr 1) | (congr 1; omega)) ?_)))))))))
   obtain ⟨g33, hl26⟩ := some_if hl26
   refine XW.rs 3 rfl (by kernel_rfl) rfl (RV.idx_a ((2 * n22)) rfl rfl rfl rfl rfl (by omega)) rfl ?_
   obtain ⟨x34, hx35, hl26⟩ := some_bind hl26
   refine XW.rs 4 rfl (by kernel_rfl) rfl (RV.load rfl (List.Mem.head _) rfl rfl rfl (by rw [Nat.zero_add]; exact u8s_at (vat hx35))) rfl ?_
   refine XW.rs 5 rfl (by kernel_rfl) rfl (RV.conv8_i rfl (by first | rfl | exact lit8 _ rfl) rfl rfl) rfl ?_
   have m36 := (x34).isLt
   refine XW.rs 6 rfl (by kernel_rfl) rfl (RV.mul rfl rfl (by omega)) rfl (XW.slot (.int .i64 (((256 * x34.toNat) : Nat) : Int)) (by first | rfl | (congr 1) | (congr 1; omega)) (XW.rs 7 rfl (by kernel_rfl) rfl (RV.move rfl) rfl (XW.rs 8 rfl (by kernel_rfl) rfl (RV.mul rfl rfl (by omega)) rfl (XW.slot (.int .i64 (((2 * n22) : Nat) : Int)) (by first | rfl | (congr 1) | (congr 1; omega)) (XW.rs 9 rfl (by kernel_rfl) rfl (RV.add rfl rfl (by omega)) rfl (XW.slot (.int .i64 ((((2 * n22) + 1) : Nat) : Int)) (by first | rfl | (congr 1) | (congr 1; omega)) ?_))))))
   obtain ⟨g37, hl26⟩ := some_if hl26
   refine XW.rs 10 rfl (by kernel_rfl) rfl (RV.idx_a (((2 * n22) + 1)) rfl rfl rfl rfl rfl (by omega)) rfl ?_
   obtain ⟨x38, hx39, hl26⟩ := some_bind hl26
   refine XW.rs 11 rfl (by kernel_rfl) rfl (RV.load rfl (List.Mem.head _) rfl rfl rfl (by rw [Nat.zero_add]; exact u8s_at (vat hx39))) rfl ?_
   refine XW.rs 12 rfl (by kernel_rfl) rfl (RV.conv8_i rfl (by first | rfl | exact lit8 _ rfl) rfl rfl) rfl ?_
   have m40 := (x38).isLt
   refine XW.rs 13 rfl (by kernel_rfl) rfl (RV.add rfl rfl (by omega)) rfl (XW.slot (.int .i64 ((((256 * x34.toNat) + x38.toNat) : Nat) : Int)) (by first | rfl | (congr 1) | (congr 1; omega)) (XW.rs 14 rfl (by kernel_rfl) rfl (RV.rem rfl rfl (by omega) (by omega)) rfl (XW.slot (.int .i64 ((((256 * x34.toNat) + x38.toNat) % 2048 : Nat) : Int)) (by first | rfl | (congr 1; omega)) (XW.rs 15 rfl (by kernel_rfl) rfl (RV.idx_a (n22) rfl rfl rfl rfl rfl (by omega)) rfl (XW.sv 16 rfl (by kernel_rfl) (SV.store rfl rfl rfl rfl rfl (by rw [i64s_length, Vector.length_toList]; omega)) (fun w m => m.pick [1, 2] 3 rfl rfl) (XW.cells (i64s (w24.setIfInBounds n22 ((((256 * x34.toNat) + x38.toNat) % 2048 : Nat) : Int)).toList) (by rw [Nat.zero_add, i64s_set, vset]) (XW.nil (by kernel_rfl) ?_)))))))
   refine QW.block_n (QW.then_n (CW.region (OW.rv (RV.move rfl) rfl (OW.rv (RV.add rfl rfl (by omega)) rfl (OW.slot (.int .i64 (((n22 + 1) : Nat) : Int)) (by first | rfl | (congr 1) | (congr 1; omega)) (OW.rv (RV.assign rfl) rfl (OW.nil ?_)))))))
   exact QW.againJ (k' := k25) (Nat.lt_succ_self _) ⟨(n22 + 1), (w24.setIfInBounds n22 ((((256 * x34.toNat) + x38.toNat) % 2048 : Nat) : Int)), hl26, (by omega), rfl, rfl⟩ ⟨rfl, rfl, rfl, rfl, trivial⟩ (fun w m => m.pick [0, 1, 2] 3 rfl rfl)
  ·replace hl26 := if_f hl26 h32
   refine CW.is_f rfl (decide_eq_false h32) (CW.exit (QW.then_x (QW.then_x (QW.block_xe ?_))))
   exact QW.join ⟨w24, (Option.some.inj hl26).symm, rfl, rfl⟩ ⟨rfl, rfl, trivial⟩ (fun w m => m.pick [0, 2] 3 rfl rfl)
theorem waybillref10_set_does (w0 : World) (Φ : Ctx) (N : List Ent) (hΦ : ∀ w, Mem w0 w N → Φ w) (a0 : Vector (BitVec 8) 256) (a1 : Int) (res0 : Vector (BitVec 8) 256) (ba1 : -9223372036854775808 ≤ a1 ∧ a1 ≤ 9223372036854775807) (hf : waybillref10_set a0 a1 = some res0) : DoesG Tryd.prog 106 [.agg (u8s a0.toList).toArray, .int .i64 a1] w0 [] N (fun v G => v = .agg (u8s res0.toList).toArray) := by
 unfold waybillref10_set at hf
 refine DoesG.enter Tryd.func106 rfl Tryd.ntmps106 rfl (M := (([] ++ N))) rfl (CW.seq (CW.region (OW.boxA rfl rfl (fun b1 => (OW.alloc (l := (u8s (Vector.replicate 256 0#8).toList)) rfl (by rw [Vector.toList_replicate, ← u8s_rep']; rfl) rfl (fun b2 => (OW.nil (QW.then_n (CW.seq (CW.region (OW.rv (RV.move rfl) rfl ?_)))))))))))
 obtain ⟨g3, hf⟩ := some_if hf
 refine OW.rv (RV.quo rfl rfl (by omega) (by omega) (by omega)) rfl (OW.slot (.int .i64 (((a1).toNat / 8 : Nat) : Int)) (by first | rfl | (congr 1; omega)) (OW.rv (RV.sub rfl rfl (by omega)) rfl (OW.rv (RV.move rfl) rfl (OW.rv (RV.quo rfl rfl (by omega) (by omega) (by omega)) rfl (OW.slot (.int .i64 (((a1).toNat / 8 : Nat) : Int)) (by first | rfl | (congr 1; omega)) (OW.rv (RV.sub rfl rfl (by omega)) rfl ?_))))))
 obtain ⟨g4, hf⟩ := some_if hf
 obtain ⟨g5, hf⟩ := some_if hf
 refine OW.rv (RV.idx_a ((((255 : Int) - (((a1).toNat / 8 : Nat) : Int))).toNat) rfl rfl (by omega) rfl rfl (by omega)) rfl ?_
 obtain ⟨x6, hx7, hf⟩ := some_bind hf
 refine OW.rv (RV.load rfl (List.Mem.tail _ (List.Mem.head _)) rfl rfl rfl (by rw [Nat.zero_add]; exact u8s_at (vat hx7))) rfl ?_
 refine OW.rv (RV.move rfl) rfl (OW.rv (RV.rem rfl rfl (by omega) (by omega)) rfl (OW.slot (.int .i64 (((a1).toNat % 8 : Nat) : Int)) (by first | rfl | (congr 1; omega)) (OW.rv (RV.conv_i64 rfl rfl rfl) rfl (OW.slot (U64 (BitVec.ofNat 64 ((a1).toNat % 8))) (congrArg U64 (BitVec.ofInt_natCast ..)) ?_))))
 refine OW.rv (RV.shl8 (s := (BitVec.ofNat 64 ((a1).toNat % 8)).toNat) rfl (by first | rfl | exact lit8 _ rfl) rfl (by first | rfl | (simp [U64]; done))) rfl ?_
 refine OW.rv (RV.or8 rfl (by first | rfl | exact lit8 _ rfl) rfl (by first | rfl | exact lit8 _ rfl)) rfl (OW.rv (RV.idx_a ((((255 : Int) - (((a1).toNat / 8 : Nat) : Int))).toNat) rfl rfl (by omega) rfl rfl (by omega)) rfl (OW.rot1 (OW.sv (SV.store rfl rfl rfl rfl rfl (by rw [u8s_length, Vector.length_toList]; omega)) (OW.cells (u8s (a0.setIfInBounds ((((255 : Int) - (((a1).toNat / 8 : Nat) : Int))).toNat) (x6 ||| (1#8 <<< (BitVec.ofNat 64 ((a1).toNat % 8)).toNat))).toList) (by rw [Nat.zero_add, u8s_set', vset]) (OW.nil (QW.then_n (CW.seq (CW.region (OW.rv (RV.loadW rfl (List.Mem.head _) rfl rfl rfl rfl ((u8s_length _).trans Vector.length_toList)) rfl (OW.rot1 ?_))))))))))
 refine OW.sv (SV.storeW rfl rfl rfl (u8s_one _) rfl ((u8s_length _).trans Vector.length_toList) ((u8s_length _).trans Vector.length_toList)) (OW.nil (QW.then_n (CW.ret ?_)))
 have e0 := Option.some.inj hf
 subst e0
 refine QW.retG (rs := [.cell 4 27]) ([.agg (u8s (a0.setIfInBounds ((((255 : Int) - (((a1).toNat / 8 : Nat) : Int))).toNat) (x6 ||| (1#8 <<< (BitVec.ofNat 64 ((a1).toNat % 8)).toNat))).toList).toArray]) ((some b2, blk (u8s (a0.setIfInBounds ((((255 : Int) - (((a1).toNat / 8 : Nat) : Int))).toNat) (x6 ||| (1#8 <<< (BitVec.ofNat 64 ((a1).toNat % 8)).toNat))).toList) 27) :: (some b1, blk (u8s (a0.setIfInBounds ((((255 : Int) - (((a1).toNat / 8 : Nat) : Int))).toNat) (x6 ||| (1#8 <<< (BitVec.ofNat 64 ((a1).toNat % 8)).toNat))).toList) 27) :: []) rfl ?_ rfl ?_ ?_ _ (.inl rfl)
 ·exact ⟨⟨_, _, _, _, rfl, (List.Mem.head _), rfl, rfl, (congrArg some ((u8s_length _).trans Vector.length_toList).symm), rfl⟩, trivial⟩
 ·exact rfl
 ·exact (fun w m => m)
theorem waybillref10_Add_does (w0 : World) (Φ : Ctx) (N : List Ent) (hΦ : ∀ w, Mem w0 w N → Φ w) (a0 : Vector (BitVec 8) 256) (A1_ : Option Addr) (c1_ : Nat) (a1 : List (BitVec 8)) (res0 : Vector (BitVec 8) 256) (va1 : View Φ A1_ a1.length c1_ 1 (u8s a1)) (hTn : ∀ i, i < 25 → w0.cell? ⟨4, i, none⟩ = some (.int .i64 (turnsL.getD i 0))) (hRn : ∀ i, i < 24 → w0.cell? ⟨3, i, none⟩ = some (U64 (g64 roundsL i))) (hf : waybillref10_Add a0 a1 = some res0) : DoesG Tryd.prog 79 [.agg (u8s a0.toList).toArray, .slice A1_ a1.length c1_] w0 [] N (fun v G => v = .agg (u8s res0.toList).toArray) := by
 unfold waybillref10_Add at hf
 replace va1 := va1.mono (Ψ := More w0 Φ []) (fun w q => q.1)
 have m1 := va1.mx
 refine DoesG.enter Tryd.func79 rfl Tryd.ntmps79 rfl (M := (([] ++ N))) rfl (CW.seq (CW.region (OW.boxA rfl rfl (fun b2 => (OW.alloc (l := (u8s (Vector.replicate 256 0#8).toList)) rfl (by rw [Vector.toList_replicate, ← u8s_rep']; rfl) rfl (fun b3 => (OW.nil (QW.then_n (CW.seq (CW.region (OW.rv (RV.move rfl) rfl ?_)))))))))))
 obtain ⟨x5, hx4, hf⟩ := some_bind hf
 refine OW.callG Tryd.call105 rfl (waybillref10_Places_does w0 (More w0 Φ []) ((some b3, blk (u8s (Vector.replicate 256 0#8).toList) 27) :: (some b2, blk (u8s a0.toList) 27) :: ([] ++ N)) (fun w m => More.of hΦ 2 m rfl) A1_ c1_ a1 x5 va1 hTn hRn hx4) rfl rfl ?_
 rintro _ G6 rfl
 refine OW.mem (M' := ((some b3, blk (u8s (Vector.replicate 256 0#8).toList) 27) :: (some b2, blk (u8s a0.toList) 27) :: ([] ++ N))) (fun w m => m.appR) (OW.alloc (l := (i64s (Vector.replicate 3 0).toList)) rfl (by rw [Vector.toList_replicate, ← i64s_rep]; rfl) rfl (fun b8 => (OW.sv (SV.storeW rfl rfl rfl (i64s_one _) rfl ((i64s_length _).trans Vector.length_toList) ((i64s_length _).trans Vector.length_toList)) (OW.nil (QW.then_n (CW.seq (CW.drawsX ((some b8, blk (i64s x5.toList) 95) :: (some b2, blk (u8s a0.toList) 27) :: ([] ++ N)) [10] (fun w m => m.pick [0, 2] 3 rfl rfl) mixed (by kernel_rfl) (XW.rs 0 rfl (by kernel_rfl) rfl (RV.loadW rfl (List.Mem.tail _ (List.Mem.head _)) rfl rfl rfl rfl ((u8s_length _).trans Vector.length_toList)) rfl (XW.rs 1 rfl (by kernel_rfl) rfl (RV.idx_a (0) rfl rfl rfl rfl rfl (by omega)) rfl (XW.rs 2 rfl (by kernel_rfl) rfl (RV.load rfl (List.Mem.head _) rfl rfl rfl (i64s_at (vat' (by decide)))) rfl ?_))))))))))
 refine XW.rs 4 rfl (by kernel_rfl) rfl (RV.idx_a (1) rfl rfl rfl rfl rfl (by omega)) rfl (XW.rs 5 rfl (by kernel_rfl) rfl (RV.load rfl (List.Mem.head _) rfl rfl rfl (i64s_at (vat' (by decide)))) rfl (XW.rs 7 rfl (by kernel_rfl) rfl (RV.idx_a (2) rfl rfl rfl rfl rfl (by omega)) rfl (XW.rs 8 rfl (by kernel_rfl) rfl (RV.load rfl (List.Mem.head _) rfl rfl rfl (i64s_at (vat' (by decide)))) rfl ?_)))
 obtain ⟨g9, hf⟩ := some_if hf
 obtain ⟨x11, hx10, hf⟩ := some_bind hf
 refine XW.callG 3 rfl (by kernel_rfl) rfl Tryd.call106 rfl (fun N' hN' => waybillref10_set_does w0 (More w0 Φ []) N' (fun w m => More.of hΦ 3 (hN' w m) rfl) a0 (x5[0]) x11 (by omega) hx10) rfl ?_
 rintro _ G12 rfl
 refine XW.mem (M' := ((some b8, blk (i64s x5.toList) 95) :: (some b3, blk (u8s (Vector.replicate 256 0#8).toList) 27) :: (some b2, blk (u8s a0.toList) 27) :: ([] ++ N))) (fun w m => m.appR) (fun w m => m.pick [0, 2] 3 rfl rfl) ?_
 obtain ⟨g14, hf⟩ := some_if hf
 obtain ⟨x16, hx15, hf⟩ := some_bind hf
 refine XW.callG 6 rfl (by kernel_rfl) rfl Tryd.call106 rfl (fun N' hN' => waybillref10_set_does w0 (More w0 Φ []) N' (fun w m => More.of hΦ 3 (hN' w m) rfl) x11 (x5[1]) x16 (by omega) hx15) rfl ?_
 rintro _ G17 rfl
 refine XW.mem (M' := ((some b8, blk (i64s x5.toList) 95) :: (some b3, blk (u8s (Vector.replicate 256 0#8).toList) 27) :: (some b2, blk (u8s a0.toList) 27) :: ([] ++ N))) (fun w m => m.appR) (fun w m => m.pick [0, 2] 3 rfl rfl) ?_
 obtain ⟨g19, hf⟩ := some_if hf
 obtain ⟨x21, hx20, hf⟩ := some_bind hf
 refine XW.callG 9 rfl (by kernel_rfl) rfl Tryd.call106 rfl (fun N' hN' => waybillref10_set_does w0 (More w0 Φ []) N' (fun w m => More.of hΦ 3 (hN' w m) rfl) x16 (x5[2]) x21 (by omega) hx20) rfl ?_
 rintro _ G22 rfl
 refine XW.mem (M' := ((some b8, blk (i64s x5.toList) 95) :: (some b3, blk (u8s (Vector.replicate 256 0#8).toList) 27) :: (some b2, blk (u8s a0.toList) 27) :: ([] ++ N))) (fun w m => m.appR) (fun w m => m.pick [0, 2] 3 rfl rfl) (XW.mem (M' := ((some b3, blk (u8s (Vector.replicate 256 0#8).toList) 27) :: (some b8, blk (i64s x5.toList) 95) :: (some b2, blk (u8s a0.toList) 27) :: ([] ++ N))) (fun w m => m.pick [1, 0] 2 rfl rfl) (fun w m => m.pick [1, 2] 3 rfl rfl) (XW.sv 10 rfl (by kernel_rfl) (SV.storeW rfl rfl rfl (u8s_one _) rfl ((u8s_length _).trans Vector.length_toList) ((u8s_length _).trans Vector.length_toList)) (fun w m => m.pick [1, 2] 3 rfl rfl) (XW.nil (by kernel_rfl) (QW.then_n (CW.ret ?_)))))
 have e0 := Option.some.inj hf
 subst e0
 refine QW.retG (rs := [.cell 4 27]) ([.agg (u8s x21.toList).toArray]) ((some b3, blk (u8s x21.toList) 27) :: (some b8, blk (i64s x5.toList) 95) :: (some b2, blk (u8s a0.toList) 27) :: []) rfl ?_ rfl ?_ ?_ _ (.inl rfl)
 ·exact ⟨⟨_, _, _, _, rfl, (List.Mem.head _), rfl, rfl, (congrArg some ((u8s_length _).trans Vector.length_toList).symm), rfl⟩, trivial⟩
 ·exact rfl
 ·exact (fun w m => m)
theorem waybillref10_Of_does (w0 : World) (Φ : Ctx) (N : List Ent) (hΦ : ∀ w, Mem w0 w N → Φ w) (A0_ : Option Addr) (c0_ : Nat) (cs0_ : List Value) (a0 : List (List (BitVec 8))) (res0 : Vector (BitVec 8) 256) (va0 : View Φ A0_ a0.length c0_ 1 cs0_) (ha0 : Reps (BsRd Φ) cs0_ a0) (hTn : ∀ i, i < 25 → w0.cell? ⟨4, i, none⟩ = some (.int .i64 (turnsL.getD i 0))) (hRn : ∀ i, i < 24 → w0.cell? ⟨3, i, none⟩ = some (U64 (g64 roundsL i))) (hf : waybillref10_Of a0 = some res0) : DoesG Tryd.prog 53 [.slice A0_ a0.length c0_] w0 [] N (fun v G => v = .agg (u8s res0.toList).toArray) := by
 unfold waybillref10_Of at hf
 replace va0 := va0.mono (Ψ := More w0 Φ []) (fun w q => q.1)
 replace ha0 := ha0.mono (BsRd.mono (Ψ := More w0 Φ []) (fun w q => q.1))
 have m1 := va0.mx
 refine DoesG.enter Tryd.func53 rfl Tryd.ntmps53 rfl (M := (([] ++ N))) rfl (CW.seq (CW.region (OW.alloc (l := (u8s (Vector.replicate 256 0#8).toList)) rfl (by rw [Vector.toList_replicate, ← u8s_rep']; rfl) rfl (fun b2 => (OW.nil (QW.then_n (CW.seq (CW.region (OW.alloc (l := (u8s (Vector.replicate 256 0#8).toList)) rfl (by rw [Vector.toList_replicate, ← u8s_rep']; rfl) rfl (fun b3 => (OW.nil (QW.then_n (CW.seq (CW.seq (CW.region (OW.rv (RV.assign rfl) rfl (OW.nil (QW.then_n ?_))))))))))))))))))
 obtain ⟨q4, hq5, hf⟩ := some_bind hf
 refine CW.cutJ (fun L' M' => ∃ w6 : Vector (BitVec 8) 256, q4 = w6 ∧ L' = [(2, ptr (some b2) 0), (3, ptr (some b3) 0)] ∧ M' = ((some b3, blk (u8s w6.toList) 27) :: (some b2, blk (u8s (Vector.replicate 256 0#8).toList) 27) :: ([] ++ N))) ?_ ?_
 ·rintro L8 M9 ⟨w6, e7, e10, e11⟩
  rw [e10, e11]
  clear e10 e11 L8 M9
  clear hq5
  rw [e7] at hf
  clear e7
  try dsimp only at hf
  refine QW.then_n (CW.seq (CW.region (OW.rv (RV.loadW rfl (List.Mem.head _) rfl rfl rfl rfl ((u8s_length _).trans Vector.length_toList)) rfl (OW.rot1 (OW.sv (SV.storeW rfl rfl rfl (u8s_one _) rfl ((u8s_length _).trans Vector.length_toList) ((u8s_length _).trans Vector.length_toList)) (OW.nil (QW.then_n (CW.ret ?_))))))))
  have e0 := Option.some.inj hf
  subst e0
  refine QW.retG (rs := [.cell 2 27]) ([.agg (u8s w6.toList).toArray]) ((some b2, blk (u8s w6.toList) 27) :: (some b3, blk (u8s w6.toList) 27) :: []) rfl ?_ rfl ?_ ?_ _ (.inl rfl)
  ·exact ⟨⟨_, _, _, _, rfl, (List.Mem.head _), rfl, rfl, (congrArg some ((u8s_length _).trans Vector.length_toList).symm), rfl⟩, trivial⟩
  ·exact rfl
  ·exact (fun w m => m)
 ·skip
  refine CW.block (CW.loopJ (fun k L' M' => ∃ n12 : Nat, ∃ w14 : Vector (BitVec 8) 256, (waybillref10_Of.l1 a0 k n12 w14) = some q4 ∧ (n12 ≤ 9223372036854775807) ∧ L' = [(0, .slice A0_ a0.length c0_), (2, ptr (some b2) 0), (3, ptr (some b3) 0), (4, .int .i64 ((n12 : Nat) : Int))] ∧ M' = ((some b3, blk (u8s w14.toList) 27) :: (some b2, blk (u8s (Vector.replicate 256 0#8).toList) 27) :: ([] ++ N))) (k0 := (a0.length - 0 + 2)) ⟨0, (Vector.replicate 256 0#8), hq5, (by omega), rfl, rfl⟩ ⟨rfl, rfl, rfl, rfl, trivial⟩ (fun w m => m.pick [0, 1] 2 rfl rfl) ?_)
  clear hq5
  rintro k15 L18 M19 ⟨n12, w14, hl16, b13, e20, e21⟩
  rw [e20, e21]
  clear e20 e21 L18 M19
  rcases k15 with _ | k15
  ·rw [waybillref10_Of.l1] at hl16; cases hl16
  rw [waybillref10_Of.l1] at hl16
  refine CW.seq (CW.seq (CW.region (OW.rv (RV.move rfl) rfl (OW.rv (RV.move rfl) rfl (OW.rv (RV.len rfl rfl) rfl (OW.rv (RV.lss rfl rfl) rfl (OW.slot (.bool (decide (n12 < a0.length))) (congrArg Value.bool (decide_eq_decide.2 (by omega))) (OW.nil (QW.then_n ?_)))))))))
  by_cases h22 : n12 < a0.length
  ·replace hl16 := if_t hl16 h22
   refine CW.is_t rfl (decide_eq_true h22) (CW.skip (QW.then_n (CW.seq (CW.block (CW.drawsX ((some b2, blk (u8s (Vector.replicate 256 0#8).toList) 27) :: ([] ++ N)) [6] (fun w m => m.pick [1] 2 rfl rfl) mixed (by kernel_rfl) (XW.rv 0 rfl (by kernel_rfl) rfl (by kernel_rfl) (RV.loadW rfl (List.Mem.head _) rfl rfl rfl rfl ((u8s_length _).trans Vector.length_toList)) rfl (XW.rs 1 rfl (by kernel_rfl) rfl (RV.move rfl) rfl (XW.rs 2 rfl (by kernel_rfl) rfl (RV.move rfl) rfl ?_))))))))
   obtain ⟨x23, hx24, hl16⟩ := some_bind hl16
   have hl25 := lt_of_at hx24
   refine XW.rs 3 rfl (by kernel_rfl) rfl (RV.idx_r (n12) rfl rfl rfl rfl rfl (va0.isSome (by decide) hl25) (by omega)) rfl ?_
   obtain ⟨cs26, h27, h28⟩ := ha0.get BsRd.len hx24
   obtain ⟨A29, c30, e32, v31⟩ := h27
   subst e32
   have m33 := v31.mx
   refine XW.rs 4 rfl (by kernel_rfl) rfl (RV.load_at rfl rfl rfl (fun w m => by have := va0.load (More.of hΦ 1 m rfl) h28 0 _ rfl; simpa [Addr.add] using this)) rfl ?_
   obtain ⟨x35, hx34, hl16⟩ := some_bind hl16
   refine XW.callG 5 rfl (by kernel_rfl) rfl Tryd.call79 rfl (fun N' hN' => waybillref10_Add_does w0 (More w0 Φ []) N' (fun w m => More.of hΦ 2 (hN' w m) rfl) w14 A29 c30 x23 x35 v31 hTn hRn hx34) rfl ?_
   rintro _ G36 rfl
   refine XW.mem (M' := ((some b3, blk (u8s w14.toList) 27) :: (some b2, blk (u8s (Vector.replicate 256 0#8).toList) 27) :: ([] ++ N))) (fun w m => m.appR) (fun w m => m.pick [1] 2 rfl rfl) (XW.sv 6 rfl (by kernel_rfl) (SV.storeW rfl rfl rfl (u8s_one _) rfl ((u8s_length _).trans Vector.length_toList) ((u8s_length _).trans Vector.length_toList)) (fun w m => m.pick [1] 2 rfl rfl) (XW.nil (by kernel_rfl) (QW.block_n (QW.then_n (CW.region (OW.rv (RV.move rfl) rfl (OW.rv (RV.add rfl rfl (by omega)) rfl (OW.slot (.int .i64 (((n12 + 1) : Nat) : Int)) (by first | rfl | (congr 1) | (congr 1; omega)) (OW.rv (RV.assign rfl) rfl ?_)))))))))
   refine OW.nil ?_
   exact QW.againJ (k' := k15) (Nat.lt_succ_self _) ⟨(n12 + 1), x35, hl16, (by omega), rfl, rfl⟩ ⟨rfl, rfl, rfl, rfl, trivial⟩ (fun w m => m.pick [0, 1] 2 rfl rfl)
  ·replace hl16 := if_f hl16 h22
   refine CW.is_f rfl (decide_eq_false h22) (CW.exit (QW.then_x (QW.then_x (QW.block_xe ?_))))
   exact QW.join ⟨w14, (Option.some.inj hl16).symm, rfl, rfl⟩ ⟨rfl, rfl, trivial⟩ (fun w m => m.pick [0, 1] 2 rfl rfl)
theorem receipt_BloomOf_does (w0 : World) (Φ : Ctx) (N : List Ent) (hΦ : ∀ w, Mem w0 w N → Φ w) (A0_ : Option Addr) (c0_ : Nat) (cs0_ : List Value) (a0 : List (Log)) (res0 : Vector (BitVec 8) 256) (va0 : View Φ A0_ a0.length c0_ 22 cs0_) (ha0 : Reps (LogRd Φ) cs0_ a0) (hg2 : View Φ (some ⟨2, 0, none⟩) 2 2 1 (u8s firstL)) (hf : receipt_BloomOf a0 = some res0) : DoesG Tryd.prog 28 [.slice A0_ a0.length c0_] w0 [] N (fun v G => v = .agg (u8s res0.toList).toArray) := by
 unfold receipt_BloomOf at hf
 replace va0 := va0.mono (Ψ := More w0 Φ []) (fun w q => q.1)
 replace hg2 := hg2.mono (Ψ := More w0 Φ []) (fun w q => q.1)
 replace ha0 := ha0.mono (LogRd.mono (Ψ := More w0 Φ []) (fun w q => q.1))
 have m1 := va0.mx
 refine DoesG.enter Tryd.func28 rfl Tryd.ntmps28 rfl (M := (([] ++ N))) rfl (CW.seq (CW.region (OW.alloc (l := (u8s (Vector.replicate 256 0#8).toList)) rfl (by rw [Vector.toList_replicate, ← u8s_rep']; rfl) rfl (fun b2 => (OW.nil (QW.then_n (CW.seq (CW.region (OW.rv (RV.assign rfl) rfl (OW.nil (QW.then_n (CW.seq (CW.seq (CW.region (OW.rv (RV.move rfl) rfl (OW.rv (RV.len rfl rfl) rfl ?_))))))))))))))))
 refine OW.rv (RV.move rfl) rfl (OW.nil (QW.then_n ?_))
 obtain ⟨q3, hq4, hf⟩ := some_bind hf
 refine CW.cutJ (fun L' M' => ∃ l5 : List (List (BitVec 8)), ∃ cs6 : List Value, ∃ ob8 : Option Nat, ∃ c9 : Nat, ∃ r10 : List Value, q3 = l5 ∧ (Reps (BsRd (More w0 Φ [])) cs6 l5) ∧ (OwnS ob8 l5.length c9 1 cs6 r10) ∧ L' = [(2, ptr (some b2) 0), (3, sl ob8 0 l5.length c9)] ∧ M' = ((ob8, blk (cs6 ++ r10) 61) :: (some b2, blk (u8s (Vector.replicate 256 0#8).toList) 27) :: ([] ++ N))) ?_ ?_
 ·rintro L13 M14 ⟨l5, cs6, ob8, c9, r10, e12, h7, o11, e15, e16⟩
  rw [e15, e16]
  clear e15 e16 L13 M14
  clear hq4
  rw [e12] at hf
  clear e12
  try dsimp only at hf
  have m17 := o11.mx
  refine QW.then_n (CW.seq (CW.region (OW.rv (RV.move rfl) rfl (OW.mem (M' := (some b2, blk (u8s (Vector.replicate 256 0#8).toList) 27) :: (((ob8, blk (cs6 ++ r10) 61) :: []) ++ N)) (fun w m => m.pick [1, 0] 2 rfl rfl) ?_))))
  have gq1 : ∀ w, More w0 Φ ((ob8, blk (cs6 ++ r10) 61) :: []) w → More w0 Φ [] w := fun w q => More.mono (fun w m => (m).tail) q
  replace h7 := h7.mono (BsRd.mono gq1)
  replace hg2 := hg2.mono gq1
  have v18 : View (More w0 Φ ((ob8, blk (cs6 ++ r10) 61) :: [])) ((ob8).map fun k => ⟨k, 0, none⟩) l5.length c9 1 cs6 := o11.view (by decide) (fun w q => q.2.sublist (List.singleton_sublist.2 (List.mem_cons_self ..)))
  obtain ⟨x20, hx19, hf⟩ := some_bind hf
  refine OW.callG Tryd.call51 rfl (bloom_Of_does w0 (More w0 Φ ((ob8, blk (cs6 ++ r10) 61) :: [])) ((some b2, blk (u8s (Vector.replicate 256 0#8).toList) 27) :: (((ob8, blk (cs6 ++ r10) 61) :: []) ++ N)) (fun w m => More.of hΦ 1 m rfl) ((ob8).map fun k => ⟨k, 0, none⟩) c9 cs6 l5 x20 v18 h7 hg2 hx19) rfl rfl ?_
  rintro _ G21 rfl
  refine OW.mem (M' := ((some b2, blk (u8s (Vector.replicate 256 0#8).toList) 27) :: (((ob8, blk (cs6 ++ r10) 61) :: []) ++ N))) (fun w m => m.appR) (OW.sv (SV.storeW rfl rfl rfl (u8s_one _) rfl ((u8s_length _).trans Vector.length_toList) ((u8s_length _).trans Vector.length_toList)) (OW.nil (QW.then_n (CW.ret ?_))))
  have e0 := Option.some.inj hf
  subst e0
  refine QW.retG (rs := [.cell 2 27]) ([.agg (u8s x20.toList).toArray]) ((some b2, blk (u8s x20.toList) 27) :: ((ob8, blk (cs6 ++ r10) 61) :: [])) rfl ?_ rfl ?_ ?_ _ (.inl rfl)
  ·exact ⟨⟨_, _, _, _, rfl, (List.Mem.head _), rfl, rfl, (congrArg some ((u8s_length _).trans Vector.length_toList).symm), rfl⟩, trivial⟩
  ·exact rfl
  ·exact (fun w m => m)
 ·skip
  refine CW.block (CW.mem (M' := ((none, blk ([] ++ []) 61) :: (some b2, blk (u8s (Vector.replicate 256 0#8).toList) 27) :: ([] ++ N))) (fun w m => m.nil_ent _) (CW.loopJ (fun k L' M' => ∃ l23 : List (List (BitVec 8)), ∃ n30 : Nat, ∃ cs24 : List Value, ∃ ob26 : Option Nat, ∃ c27 : Nat, ∃ r28 : List Value, (receipt_BloomOf.l1 a0 k l23 n30) = some q3 ∧ (Reps (BsRd (More w0 Φ [])) cs24 l23) ∧ (OwnS ob26 l23.length c27 1 cs24 r28) ∧ (n30 ≤ 9223372036854775807) ∧ L' = [(0, .slice A0_ a0.length c0_), (2, ptr (some b2) 0), (3, sl ob26 0 l23.length c27), (7, .int .i64 ((a0.length : Nat) : Int)), (8, .int .i64 ((n30 : Nat) : Int))] ∧ M' = ((ob26, blk (cs24 ++ r28) 61) :: (some b2, blk (u8s (Vector.replicate 256 0#8).toList) 27) :: ([] ++ N))) (k0 := (a0.length - 0 + 2)) ⟨([] : List (List (BitVec 8))), 0, [], none, 0, [], hq4, Reps.nil, OwnS.nil, (by omega), rfl, rfl⟩ ⟨rfl, rfl, rfl, rfl, rfl, trivial⟩ (fun w m => m.pick [0, 1] 2 rfl rfl) ?_))
  clear hq4
  rintro k32 L35 M36 ⟨l23, n30, cs24, ob26, c27, r28, hl33, h25, o29, b31, e37, e38⟩
  rw [e37, e38]
  clear e37 e38 L35 M36
  rcases k32 with _ | k32
  ·rw [receipt_BloomOf.l1] at hl33; cases hl33
  rw [receipt_BloomOf.l1] at hl33
  have m39 := o29.mx
  refine CW.seq (CW.region (OW.rv (RV.lss rfl rfl) rfl (OW.slot (.bool (decide (n30 < a0.length))) (congrArg Value.bool (decide_eq_decide.2 (by omega))) (OW.nil (QW.then_n (CW.seq ?_))))))
  by_cases h40 : n30 < a0.length
  ·replace hl33 := if_t hl33 h40
   refine CW.is_t rfl (decide_eq_true h40) (CW.skip (QW.then_n (CW.seq (CW.block (CW.seq (CW.region (OW.rv (RV.move rfl) rfl (OW.rv (RV.assign rfl) rfl (OW.nil (QW.then_n (CW.seq (CW.region (OW.rv (RV.move rfl) rfl (OW.rv (RV.move rfl) rfl (OW.rv (RV.move rfl) rfl ?_)))))))))))))))
   obtain ⟨x41, hx42, hl33⟩ := some_bind hl33
   have hl43 := lt_of_at hx42
   refine OW.rv (RV.idx_rs (n30) rfl rfl rfl rfl rfl (va0.isSome (by decide) hl43) (by omega)) rfl ?_
   obtain ⟨cs44, h45, h46⟩ := ha0.get LogRd.len hx42
   have h56 := h45
   obtain ⟨A47, c48, cs50, A52, c53, e55, v49, h51, v54⟩ := LogRd.opn h45
   subst e55
   have m57 := v49.mx
   have m58 := v54.mx
   refine OW.rv (RV.field_at rfl rfl rfl rfl) rfl (OW.rv (RV.arr_all rfl rfl rfl) rfl ?_)
   refine OW.slot (.slice (some ((((A0_).getD default).add (n30 * 22)).add 0)) x41.address.toList.length 20) (by rw [Vector.length_toList]; try rfl) ?_
   have v59 : View (More w0 Φ []) (some ((((A0_).getD default).add (n30 * 22)).add 0)) x41.address.toList.length 20 1 (u8s x41.address.toList) := View.part va0 h46 (LogC.C_address_all (⟨x41.address, .slice A47 x41.topics.length c48, .slice A52 x41.data.length c53⟩ : LogC)) (by decide)
   refine OW.ofN (NV.bs1 rfl rfl rfl rfl rfl rfl) rfl (fun b60 => ?_)
   have h63 : Reps (BsRd (More w0 Φ [])) (([.slice (some ((((A0_).getD default).add (n30 * 22)).add 0)) x41.address.toList.length 20] : List Value)) [x41.address.toList] := Reps.one (BsRd.mk v59)
   refine OW.mem (M' := (((some b60), blk ((([.slice (some ((((A0_).getD default).add (n30 * 22)).add 0)) x41.address.toList.length 20] : List Value)) ++ []) 61) :: (ob26, blk (cs24 ++ r28) 61) :: (some b2, blk (u8s (Vector.replicate 256 0#8).toList) 27) :: ([] ++ N))) (fun w m => m) ?_
   have o61 : OwnS (some b60) ([x41.address.toList] : List (List (BitVec 8))).length 1 1 (([.slice (some ((((A0_).getD default).add (n30 * 22)).add 0)) x41.address.toList.length 20] : List Value)) [] := ⟨by simp [BsRd], by simp [BsRd], (fun h => nomatch h), by simp⟩
   have mx_o61 := o61.mx
   refine OW.slot (sl (some b60) 0 ([x41.address.toList] : List (List (BitVec 8))).length 1) (rfl) (OW.rot1 ?_)
   obtain ⟨g64, hl33⟩ := some_if hl33
   have h69 := h25.app h63
   refine OW.appendOwn (s := 1) rfl rfl rfl rfl rfl rfl o29 (fun w m => m.rd0 (List.Mem.tail _ (List.Mem.head _)) (fun e => o61.nilc (by decide) e)) o61.n (h63.cell1 BsRd.one) (o61.zeroO (by decide)) (by decide) (by decide) (by first | omega | (simp only [i61, List.length_nil]; omega)) rfl rfl ((l23 ++ ([x41.address.toList] : List (List (BitVec 8)))).length) (cs24 ++ (([.slice (some ((((A0_).getD default).add (n30 * 22)).add 0)) x41.address.toList.length 20] : List Value))) (List.length_append ..).symm rfl (fun ob65 r66 c67 o68 => ?_)
   have m70 := o68.mx
   refine OW.rv (RV.assign rfl) rfl (OW.nil (QW.then_n (CW.seq (CW.region (OW.rv (RV.move rfl) rfl (OW.rv (RV.move rfl) rfl ?_))))))
   obtain ⟨x71, hx72, hl33⟩ := some_bind hl33
   have hl73 := lt_of_at hx72
   refine OW.rv (RV.idx_rs (n30) rfl rfl rfl rfl rfl (va0.isSome (by decide) hl73) (by omega)) rfl ?_
   obtain ⟨cs74, h75, h76⟩ := ha0.get LogRd.len hx72
   have h86 := h75
   obtain ⟨A77, c78, cs80, A82, c83, e85, v79, h81, v84⟩ := LogRd.opn h75
   subst e85
   have m87 := v79.mx
   have m88 := v84.mx
   refine OW.rv (RV.field_at rfl rfl rfl rfl) rfl (OW.rv (RV.load_at rfl rfl rfl (fun w m => va0.load_fld (More.of hΦ 3 m rfl) h76 (LogC.C_topics (⟨x71.address, .slice A77 x71.topics.length c78, .slice A82 x71.data.length c83⟩ : LogC)))) rfl (OW.rv (RV.len rfl rfl) rfl (OW.rv (RV.move rfl) rfl (OW.nil (QW.then_n ?_)))))
   obtain ⟨q89, hq90, hl33⟩ := some_bind hl33
   refine CW.cutJ (fun L' M' => ∃ l91 : List (List (BitVec 8)), ∃ cs92 : List Value, ∃ ob94 : Option Nat, ∃ c95 : Nat, ∃ r96 : List Value, q89 = l91 ∧ (Reps (BsRd (More w0 Φ [])) cs92 l91) ∧ (OwnS ob94 l91.length c95 1 cs92 r96) ∧ L' = [(0, .slice A0_ a0.length c0_), (2, ptr (some b2) 0), (3, sl ob94 0 l91.length c95), (7, .int .i64 ((a0.length : Nat) : Int)), (8, .int .i64 ((n30 : Nat) : Int))] ∧ M' = ((ob94, blk (cs92 ++ r96) 61) :: (some b2, blk (u8s (Vector.replicate 256 0#8).toList) 27) :: ([] ++ N))) ?_ ?_
   ·rintro L99 M100 ⟨l91, cs92, ob94, c95, r96, e98, h93, o97, e101, e102⟩
    rw [e101, e102]
    clear e101 e102 L99 M100
    clear hq90
    rw [e98] at hl33
    clear e98
    try dsimp only at hl33
    have m103 := o97.mx
    refine QW.block_n (QW.then_n (CW.region (OW.rv (RV.add rfl rfl (by omega)) rfl (OW.slot (.int .i64 (((n30 + 1) : Nat) : Int)) (by first | rfl | (congr 1) | (congr 1; omega)) (OW.rv (RV.move rfl) rfl (OW.nil ?_))))))
    exact QW.againJ (k' := k32) (Nat.lt_succ_self _) ⟨l91, (n30 + 1), cs92, ob94, c95, r96, hl33, h93, o97, (by omega), rfl, rfl⟩ ⟨rfl, rfl, rfl, rfl, rfl, trivial⟩ (fun w m => m.pick [0, 1] 2 rfl rfl)
   ·skip
    refine CW.block (CW.loopJ (fun k L' M' => ∃ l104 : List (List (BitVec 8)), ∃ n111 : Nat, ∃ cs105 : List Value, ∃ ob107 : Option Nat, ∃ c108 : Nat, ∃ r109 : List Value, (receipt_BloomOf.l2 a0 n30 x71 k l104 n111) = some q89 ∧ (Reps (BsRd (More w0 Φ [])) cs105 l104) ∧ (OwnS ob107 l104.length c108 1 cs105 r109) ∧ (n111 ≤ 9223372036854775807) ∧ L' = [(0, .slice A0_ a0.length c0_), (2, ptr (some b2) 0), (3, sl ob107 0 l104.length c108), (4, .int .i64 ((n30 : Nat) : Int)), (7, .int .i64 ((a0.length : Nat) : Int)), (8, .int .i64 ((n30 : Nat) : Int)), (24, .int .i64 ((x71.topics.length : Nat) : Int)), (25, .int .i64 ((n111 : Nat) : Int))] ∧ M' = ((ob107, blk (cs105 ++ r109) 61) :: (some b2, blk (u8s (Vector.replicate 256 0#8).toList) 27) :: ([] ++ N))) (k0 := (x71.topics.length - 0 + 2)) ⟨(l23 ++ ([x41.address.toList] : List (List (BitVec 8)))), 0, (cs24 ++ (([.slice (some ((((A0_).getD default).add (n30 * 22)).add 0)) x41.address.toList.length 20] : List Value))), ob65, c67, r66, hq90, h69, o68, (by omega), rfl, rfl⟩ ⟨rfl, rfl, rfl, rfl, rfl, rfl, rfl, rfl, trivial⟩ (fun w m => m.pick [0, 2] 3 rfl rfl) ?_)
    clear hq90
    rintro k113 L116 M117 ⟨l104, n111, cs105, ob107, c108, r109, hl114, h106, o110, b112, e118, e119⟩
    rw [e118, e119]
    clear e118 e119 L116 M117
    rcases k113 with _ | k113
    ·rw [receipt_BloomOf.l2] at hl114; cases hl114
    rw [receipt_BloomOf.l2] at hl114
    have m120 := o110.mx
    refine CW.seq (CW.region (OW.rv (RV.lss rfl rfl) rfl (OW.slot (.bool (decide (n111 < x71.topics.length))) (congrArg Value.bool (decide_eq_decide.2 (by omega))) (OW.nil (QW.then_n (CW.seq ?_))))))
    by_cases h121 : n111 < x71.topics.length
    ·replace hl114 := if_t hl114 h121
     refine CW.is_t rfl (decide_eq_true h121) (CW.skip (QW.then_n (CW.seq (CW.block (CW.seq (CW.region (OW.rv (RV.move rfl) rfl (OW.rv (RV.assign rfl) rfl (OW.nil (QW.then_n (CW.region (OW.rv (RV.move rfl) rfl (OW.rv (RV.move rfl) rfl (OW.rv (RV.move rfl) rfl ?_))))))))))))))
     obtain ⟨x122, hx123, hl114⟩ := some_bind hl114
     have hl124 := lt_of_at hx123
     refine OW.rv (RV.idx_rs (n30) rfl rfl rfl rfl rfl (va0.isSome (by decide) hl124) (by omega)) rfl ?_
     obtain ⟨cs125, h126, h127⟩ := ha0.get LogRd.len hx123
     have h137 := h126
     obtain ⟨A128, c129, cs131, A133, c134, e136, v130, h132, v135⟩ := LogRd.opn h126
     subst e136
     have m138 := v130.mx
     have m139 := v135.mx
     refine OW.rv (RV.field_at rfl rfl rfl rfl) rfl (OW.rv (RV.load_at rfl rfl rfl (fun w m => va0.load_fld (More.of hΦ 2 m rfl) h127 (LogC.C_topics (⟨x122.address, .slice A128 x122.topics.length c129, .slice A133 x122.data.length c134⟩ : LogC)))) rfl (OW.rv (RV.move rfl) rfl ?_))
     obtain ⟨x140, hx141, hl114⟩ := some_bind hl114
     have hl142 := lt_of_at hx141
     refine OW.rv (RV.idx_rs (n111) rfl rfl rfl rfl rfl (v130.isSome (by decide) hl142) (by omega)) rfl ?_
     obtain ⟨cs143, h144, h145⟩ := h132.get Ar8Rd.len hx141
     have h144a := h144
     subst h144a
     refine OW.rv (RV.arr_all rfl rfl rfl) rfl ?_
     refine OW.slot (.slice (some (((A128).getD default).add (n111 * 32))) x140.toList.length 32) (by rw [Vector.length_toList]; try rfl) ?_
     have v146 : View (More w0 Φ []) (some (((A128).getD default).add (n111 * 32))) x140.toList.length 32 1 (u8s x140.toList) := View.elem v130 h145 (by decide)
     refine OW.ofN (NV.bs1 rfl rfl rfl rfl rfl rfl) rfl (fun b147 => ?_)
     have h150 : Reps (BsRd (More w0 Φ [])) (([.slice (some (((A128).getD default).add (n111 * 32))) x140.toList.length 32] : List Value)) [x140.toList] := Reps.one (BsRd.mk v146)
     refine OW.mem (M' := (((some b147), blk ((([.slice (some (((A128).getD default).add (n111 * 32))) x140.toList.length 32] : List Value)) ++ []) 61) :: (ob107, blk (cs105 ++ r109) 61) :: (some b2, blk (u8s (Vector.replicate 256 0#8).toList) 27) :: ([] ++ N))) (fun w m => m) ?_
     have o148 : OwnS (some b147) ([x140.toList] : List (List (BitVec 8))).length 1 1 (([.slice (some (((A128).getD default).add (n111 * 32))) x140.toList.length 32] : List Value)) [] := ⟨by simp [BsRd], by simp [BsRd], (fun h => nomatch h), by simp⟩
     have mx_o148 := o148.mx
     refine OW.slot (sl (some b147) 0 ([x140.toList] : List (List (BitVec 8))).length 1) (rfl) (OW.rot1 ?_)
     obtain ⟨g151, hl114⟩ := some_if hl114
     have h156 := h106.app h150
     refine OW.appendOwn (s := 1) rfl rfl rfl rfl rfl rfl o110 (fun w m => m.rd0 (List.Mem.tail _ (List.Mem.head _)) (fun e => o148.nilc (by decide) e)) o148.n (h150.cell1 BsRd.one) (o148.zeroO (by decide)) (by decide) (by decide) (by first | omega | (simp only [i61, List.length_nil]; omega)) rfl rfl ((l104 ++ ([x140.toList] : List (List (BitVec 8)))).length) (cs105 ++ (([.slice (some (((A128).getD default).add (n111 * 32))) x140.toList.length 32] : List Value))) (List.length_append ..).symm rfl (fun ob152 r153 c154 o155 => ?_)
     have m157 := o155.mx
     refine OW.rv (RV.assign rfl) rfl (OW.nil (QW.block_n (QW.then_n (CW.region (OW.rv (RV.add rfl rfl (by omega)) rfl (OW.slot (.int .i64 (((n111 + 1) : Nat) : Int)) (by first | rfl | (congr 1) | (congr 1; omega)) (OW.rv (RV.move rfl) rfl (OW.nil ?_))))))))
     exact QW.againJ (k' := k113) (Nat.lt_succ_self _) ⟨(l104 ++ ([x140.toList] : List (List (BitVec 8)))), (n111 + 1), (cs105 ++ (([.slice (some (((A128).getD default).add (n111 * 32))) x140.toList.length 32] : List Value))), ob152, c154, r153, hl114, h156, o155, (by omega), rfl, rfl⟩ ⟨rfl, rfl, rfl, rfl, rfl, rfl, rfl, rfl, trivial⟩ (fun w m => m.pick [0, 2] 3 rfl rfl)
    ·replace hl114 := if_f hl114 h121
     refine CW.is_f rfl (decide_eq_false h121) (CW.exit (QW.then_x (QW.then_x (QW.block_xe ?_))))
     exact QW.join ⟨l104, cs105, ob107, c108, r109, (Option.some.inj hl114).symm, h106, o110, rfl, rfl⟩ ⟨rfl, rfl, rfl, rfl, rfl, trivial⟩ (fun w m => m.pick [0, 1] 2 rfl rfl)
  ·replace hl33 := if_f hl33 h40
   refine CW.is_f rfl (decide_eq_false h40) (CW.exit (QW.then_x (QW.then_x (QW.block_xe ?_))))
   exact QW.join ⟨l23, cs24, ob26, c27, r28, (Option.some.inj hl33).symm, h25, o29, rfl, rfl⟩ ⟨rfl, rfl, trivial⟩ (fun w m => m.pick [0, 1] 2 rfl rfl)
theorem waybilllaw17_num_does (w0 : World) (Φ : Ctx) (N : List Ent) (hΦ : ∀ w, Mem w0 w N → Φ w) (a0 : Int) (res0 : Int) (ba0 : -9223372036854775808 ≤ a0 ∧ a0 ≤ 9223372036854775807) (hf : waybilllaw17_num a0 = some res0) : DoesG Tryd.prog 15 [.int .i64 a0] w0 [] N (fun v G => (-9223372036854775808 ≤ res0 ∧ res0 ≤ 9223372036854775807) ∧ v = .int .i64 res0) := by
 unfold waybilllaw17_num at hf
 refine DoesG.enter Tryd.func15 rfl Tryd.ntmps15 rfl (M := (([] ++ N))) rfl (CW.seq (CW.region (OW.rv (RV.assign rfl) rfl (OW.nil (QW.then_n (CW.seq (CW.region (OW.rv (RV.move rfl) rfl (OW.rv (RV.assign rfl) rfl (OW.nil (QW.then_n (CW.ret ?_))))))))))))
 have e0 := Option.some.inj hf
 subst e0
 refine QW.retG (rs := [.tmp 2]) ([.int .i64 a0]) ([]) rfl ?_ rfl ?_ ?_ _ (.inl rfl)
 ·exact ⟨rfl, trivial⟩
 ·exact ⟨(by omega), rfl⟩
 ·exact (fun w m => m)
theorem receipt_Check_does (w0 : World) (Φ : Ctx) (N : List Ent) (hΦ : ∀ w, Mem w0 w N → Φ w) (cs0_ : List Value) (a0 : Rcpt) (res0 : Nat) (ha0 : RcptRd Φ cs0_ a0) (hg2 : View Φ (some ⟨2, 0, none⟩) 2 2 1 (u8s firstL)) (hf : receipt_Check a0 = some res0) : DoesG Tryd.prog 36 [.agg cs0_.toArray] w0 [] N (fun v G => (res0 ≤ 9223372036854775807) ∧ v = .int .i64 ((res0 : Nat) : Int)) := by
 unfold receipt_Check at hf
 replace hg2 := hg2.mono (Ψ := More w0 Φ []) (fun w q => q.1)
 replace ha0 := RcptRd.mono (Ψ := More w0 Φ []) (fun w q => q.1) _ _ ha0
 have h8 := ha0
 obtain ⟨A2, c3, cs5, e7, b1, v4, h6⟩ := RcptRd.opn ha0
 subst e7
 have m9 := v4.mx
 refine DoesG.enter Tryd.func36 rfl Tryd.ntmps36 rfl (M := (([] ++ N))) rfl (CW.seq (CW.region (OW.boxA rfl rfl (fun b10 => (OW.rv (RV.assign rfl) rfl (OW.nil (QW.then_n (CW.seq (CW.seq ?_)))))))))
 obtain ⟨q11, hq12, hf⟩ := some_bind hf
 refine CW.cutJ (fun L' M' => ∃ p13 : Bool, q11 = p13 ∧ L' = [(1, ptr (some b10) 0), (12, .bool (p13))] ∧ M' = ((some b10, blk (⟨a0.kind, (a0.rooted), a0.root, a0.status, a0.used, a0.bloom, .slice A2 a0.logs.length c3⟩ : RcptC).C 30) :: ([] ++ N))) ?_ ?_
 ·rintro L15 M16 ⟨p13, e14, e17, e18⟩
  rw [e17, e18]
  clear e17 e18 L15 M16
  clear hq12
  rw [e14] at hf
  clear e14
  try dsimp only at hf
  refine QW.then_n ?_
  by_cases h19 : p13 = true
  ·replace hf := if_t hf h19
   refine CW.is_t rfl (h19) (CW.seq (CW.region (OW.rv (RV.assign rfl) rfl (OW.nil (QW.then_n (CW.ret (QW.then_r ?_)))))))
   have e0 := Option.some.inj hf
   subst e0
   refine QW.retG (rs := [.tmp 2]) ([.int .i64 (170 : Int)]) ((some b10, blk (⟨a0.kind, (a0.rooted), a0.root, a0.status, a0.used, a0.bloom, .slice A2 a0.logs.length c3⟩ : RcptC).C 30) :: []) rfl ?_ rfl ?_ ?_ _ (.inl rfl)
   ·exact ⟨rfl, trivial⟩
   ·exact ⟨(by omega), rfl⟩
   ·exact (fun w m => m)
  ·replace hf := if_f hf h19
   refine CW.is_f rfl (Bool.eq_false_iff.2 h19) (CW.skip (QW.then_n (CW.seq (CW.seq ?_))))
   obtain ⟨q20, hq21, hf⟩ := some_bind hf
   refine CW.cutJ (fun L' M' => ∃ p22 : Bool, q20 = p22 ∧ L' = [(1, ptr (some b10) 0), (40, .bool (p22))] ∧ M' = ((some b10, blk (⟨a0.kind, (a0.rooted), a0.root, a0.status, a0.used, a0.bloom, .slice A2 a0.logs.length c3⟩ : RcptC).C 30) :: ([] ++ N))) ?_ ?_
   ·rintro L24 M25 ⟨p22, e23, e26, e27⟩
    rw [e26, e27]
    clear e26 e27 L24 M25
    clear hq21
    rw [e23] at hf
    clear e23
    try dsimp only at hf
    refine QW.then_n ?_
    by_cases h28 : p22 = true
    ·replace hf := if_t hf h28
     refine CW.is_t rfl (h28) (CW.seq (CW.region (OW.rv (RV.assign rfl) rfl (OW.nil (QW.then_n (CW.ret (QW.then_r ?_)))))))
     have e0 := Option.some.inj hf
     subst e0
     refine QW.retG (rs := [.tmp 2]) ([.int .i64 (172 : Int)]) ((some b10, blk (⟨a0.kind, (a0.rooted), a0.root, a0.status, a0.used, a0.bloom, .slice A2 a0.logs.length c3⟩ : RcptC).C 30) :: []) rfl ?_ rfl ?_ ?_ _ (.inl rfl)
     ·exact ⟨rfl, trivial⟩
     ·exact ⟨(by omega), rfl⟩
     ·exact (fun w m => m)
    ·replace hf := if_f hf h28
     refine CW.is_f rfl (Bool.eq_false_iff.2 h28) (CW.skip (QW.then_n (CW.seq (CW.seq (CW.region (OW.rv (RV.field rfl rfl rfl rfl) rfl (OW.slot (ptr (some b10) 292) rfl (OW.rv (RV.load rfl (List.Mem.head _) rfl rfl rfl (RcptC.C_logs (⟨a0.kind, (a0.rooted), a0.root, a0.status, a0.used, a0.bloom, .slice A2 a0.logs.length c3⟩ : RcptC))) rfl (OW.rv (RV.len rfl rfl) rfl (OW.rv (RV.move rfl) rfl (OW.nil (QW.then_n ?_))))))))))))
     obtain ⟨q29, hq30, hf⟩ := some_bind hf
     refine CW.cutJ (fun L' M' => q29 = Lp.go () ∧ L' = [(1, ptr (some b10) 0)] ∧ M' = ((some b10, blk (⟨a0.kind, (a0.rooted), a0.root, a0.status, a0.used, a0.bloom, .slice A2 a0.logs.length c3⟩ : RcptC).C 30) :: ([] ++ N))) ?_ ?_
     ·rintro L32 M33 ⟨e31, e34, e35⟩
      rw [e34, e35]
      clear e34 e35 L32 M33
      clear hq30
      rw [e31] at hf
      clear e31
      try dsimp only at hf
      refine QW.then_n (CW.seq (CW.seq (CW.drawsU 6 mixed (by kernel_rfl) rfl (UW.rv 0 rfl (by kernel_rfl) rfl (RV.field rfl rfl rfl rfl) rfl (UW.slot (ptr (some b10) 36) rfl (UW.rv 1 rfl (by kernel_rfl) rfl (RV.loadAo rfl (List.Mem.head _) rfl rfl rfl rfl (RcptC.C_bloom_all (⟨a0.kind, (a0.rooted), a0.root, a0.status, a0.used, a0.bloom, .slice A2 a0.logs.length c3⟩ : RcptC)) ((u8s_length _).trans Vector.length_toList)) rfl (UW.rv 2 rfl (by kernel_rfl) rfl (RV.field rfl rfl rfl rfl) rfl (UW.slot (ptr (some b10) 292) rfl (UW.rv 3 rfl (by kernel_rfl) rfl (RV.load rfl (List.Mem.head _) rfl rfl rfl (RcptC.C_logs (⟨a0.kind, (a0.rooted), a0.root, a0.status, a0.used, a0.bloom, .slice A2 a0.logs.length c3⟩ : RcptC))) rfl ?_)))))))))
      obtain ⟨x37, hx36, hf⟩ := some_bind hf
      refine UW.callG 4 rfl (by kernel_rfl) rfl Tryd.call28 rfl (fun N' hN' => receipt_BloomOf_does w0 (More w0 Φ []) N' (fun w m => More.of hΦ 1 (hN' w m) rfl) A2 c3 cs5 a0.logs x37 v4 h6 hg2 hx36) rfl ?_
      rintro _ G38 rfl
      refine UW.mem (M' := ((some b10, blk (⟨a0.kind, (a0.rooted), a0.root, a0.status, a0.used, a0.bloom, .slice A2 a0.logs.length c3⟩ : RcptC).C 30) :: ([] ++ N))) (fun w m => m.appR) (UW.rv 5 rfl (by kernel_rfl) rfl (RV.neA8 rfl rfl rfl rfl rfl rfl (Vector.length_toList) (Vector.length_toList)) rfl (UW.slot (.bool (!decide (a0.bloom = x37))) (congrArg (fun b => Value.bool (!b)) (decide_eq_decide.2 Vector.toList_inj)) (UW.nil (by kernel_rfl) (OW.nil (QW.then_n ?_)))))
      by_cases h40 : a0.bloom = x37
      ·replace hf := if_t hf h40
       refine CW.is_f rfl (congrArg (fun b => !b) (decide_eq_true h40)) (CW.skip (QW.then_n (CW.seq (CW.region (OW.rv (RV.assign rfl) rfl (OW.nil (QW.then_n (CW.ret ?_))))))))
       have e0 := Option.some.inj hf
       subst e0
       refine QW.retG (rs := [.tmp 2]) ([.int .i64 (0 : Int)]) ((some b10, blk (⟨a0.kind, (a0.rooted), a0.root, a0.status, a0.used, a0.bloom, .slice A2 a0.logs.length c3⟩ : RcptC).C 30) :: []) rfl ?_ rfl ?_ ?_ _ (.inl rfl)
       ·exact ⟨rfl, trivial⟩
       ·exact ⟨(by omega), rfl⟩
       ·exact (fun w m => m)
      ·replace hf := if_f hf h40
       refine CW.is_t rfl (congrArg (fun b => !b) (decide_eq_false h40)) (CW.seq (CW.region (OW.rv (RV.assign rfl) rfl (OW.nil (QW.then_n (CW.ret (QW.then_r ?_)))))))
       have e0 := Option.some.inj hf
       subst e0
       refine QW.retG (rs := [.tmp 2]) ([.int .i64 (173 : Int)]) ((some b10, blk (⟨a0.kind, (a0.rooted), a0.root, a0.status, a0.used, a0.bloom, .slice A2 a0.logs.length c3⟩ : RcptC).C 30) :: []) rfl ?_ rfl ?_ ?_ _ (.inl rfl)
       ·exact ⟨rfl, trivial⟩
       ·exact ⟨(by omega), rfl⟩
       ·exact (fun w m => m)
     ·skip
      refine CW.block (CW.loopJ (fun k L' M' => ∃ n41 : Nat, (receipt_Check.l1 a0 k n41) = some q29 ∧ (n41 ≤ 9223372036854775807) ∧ L' = [(1, ptr (some b10) 0), (42, .slice A2 a0.logs.length c3), (43, .int .i64 ((a0.logs.length : Nat) : Int)), (44, .int .i64 ((n41 : Nat) : Int))] ∧ M' = ((some b10, blk (⟨a0.kind, (a0.rooted), a0.root, a0.status, a0.used, a0.bloom, .slice A2 a0.logs.length c3⟩ : RcptC).C 30) :: ([] ++ N))) (k0 := (a0.logs.length - 0 + 2)) ⟨0, hq30, (by omega), rfl, rfl⟩ ⟨rfl, rfl, rfl, rfl, trivial⟩ (fun w m => m.pick [0] 1 rfl rfl) ?_)
      clear hq30
      rintro k43 L46 M47 ⟨n41, hl44, b42, e48, e49⟩
      rw [e48, e49]
      clear e48 e49 L46 M47
      rcases k43 with _ | k43
      ·rw [receipt_Check.l1] at hl44; cases hl44
      rw [receipt_Check.l1] at hl44
      refine CW.seq (CW.region (OW.rv (RV.lss rfl rfl) rfl (OW.slot (.bool (decide (n41 < a0.logs.length))) (congrArg Value.bool (decide_eq_decide.2 (by omega))) (OW.nil (QW.then_n (CW.seq ?_))))))
      by_cases h50 : n41 < a0.logs.length
      ·replace hl44 := if_t hl44 h50
       refine CW.is_t rfl (decide_eq_true h50) (CW.skip (QW.then_n (CW.seq (CW.block (CW.seq (CW.region ?_))))))
       obtain ⟨x51, hx52, hl44⟩ := some_bind hl44
       have hl53 := lt_of_at hx52
       refine OW.rv (RV.idx_rs (n41) rfl rfl rfl rfl rfl (v4.isSome (by decide) hl53) (by omega)) rfl ?_
       obtain ⟨cs54, h55, h56⟩ := h6.get LogRd.len hx52
       have h66 := h55
       obtain ⟨A57, c58, cs60, A62, c63, e65, v59, h61, v64⟩ := LogRd.opn h55
       subst e65
       have m67 := v59.mx
       have m68 := v64.mx
       refine OW.rv (RV.loadAs rfl rfl rfl rfl (fun w m => v4.load (More.of hΦ 1 m rfl) h56) (LogC.C_length _)) rfl (OW.alloc (l := (⟨(Vector.replicate 20 0#8), .slice none 0 0, .slice none 0 0⟩ : LogC).C) rfl (by kernel_rfl) rfl (fun b69 => (OW.sv (SV.storeW rfl rfl rfl (LogC.C_one _ rfl rfl) rfl (LogC.C_length _) (LogC.C_length _)) (OW.nil (QW.then_n (CW.seq (CW.region (OW.rv (RV.field rfl rfl rfl rfl) rfl (OW.slot (ptr (some b69) 20) rfl (OW.rv (RV.load rfl (List.Mem.head _) rfl rfl rfl (LogC.C_topics (⟨x51.address, .slice A57 x51.topics.length c58, .slice A62 x51.data.length c63⟩ : LogC))) rfl (OW.rv (RV.len rfl rfl) rfl ?_)))))))))))
       refine OW.rv (RV.gtr rfl rfl) rfl (OW.slot (.bool (decide (4 < x51.topics.length))) (congrArg Value.bool (decide_eq_decide.2 (by omega))) (OW.nil (QW.then_n ?_)))
       by_cases h70 : 4 < x51.topics.length
       ·replace hl44 := if_t hl44 h70
        refine CW.is_t rfl (decide_eq_true h70) (CW.seq (CW.region (OW.rv (RV.assign rfl) rfl (OW.nil (QW.then_n (CW.ret (QW.block_r (QW.then_r (QW.then_r (QW.block_r (QW.then_r ?_)))))))))))
        have hc := Option.some.inj hl44
        subst hc
        try dsimp only at hf
        refine QW.then_r ?_
        have e0 := Option.some.inj hf
        subst e0
        refine QW.retG (rs := [.tmp 2]) ([.int .i64 (174 : Int)]) ((some b69, blk (⟨x51.address, .slice A57 x51.topics.length c58, .slice A62 x51.data.length c63⟩ : LogC).C 63) :: (some b10, blk (⟨a0.kind, (a0.rooted), a0.root, a0.status, a0.used, a0.bloom, .slice A2 a0.logs.length c3⟩ : RcptC).C 30) :: []) rfl ?_ rfl ?_ ?_ _ (.inl rfl)
        ·exact ⟨rfl, trivial⟩
        ·exact ⟨(by omega), rfl⟩
        ·exact (fun w m => m)
       ·replace hl44 := if_f hl44 h70
        refine CW.is_f rfl (decide_eq_false h70) (CW.skip (QW.block_n (QW.then_n (CW.region (OW.rv (RV.add rfl rfl (by omega)) rfl (OW.slot (.int .i64 (((n41 + 1) : Nat) : Int)) (by first | rfl | (congr 1) | (congr 1; omega)) (OW.rv (RV.move rfl) rfl (OW.nil ?_))))))))
        exact QW.againJ (k' := k43) (Nat.lt_succ_self _) ⟨(n41 + 1), hl44, (by omega), rfl, rfl⟩ ⟨rfl, rfl, rfl, rfl, trivial⟩ (fun w m => m.pick [1] 2 rfl rfl)
      ·replace hl44 := if_f hl44 h50
       refine CW.is_f rfl (decide_eq_false h50) (CW.exit (QW.then_x (QW.then_x (QW.block_xe ?_))))
       exact QW.join ⟨(Option.some.inj hl44).symm, rfl, rfl⟩ ⟨rfl, trivial⟩ (fun w m => m.pick [0] 1 rfl rfl)
   ·skip
    refine CW.region (OW.rv (RV.field rfl rfl rfl rfl) rfl (OW.slot (ptr (some b10) 1) rfl (OW.rv (RV.load rfl (List.Mem.head _) rfl rfl rfl (RcptC.C_rooted (⟨a0.kind, (a0.rooted), a0.root, a0.status, a0.used, a0.bloom, .slice A2 a0.logs.length c3⟩ : RcptC))) rfl (OW.rv (RV.move rfl) rfl ?_))))
    by_cases h71 : a0.rooted = true
    ·replace hq21 := if_t hq21 h71
     refine OW.slot (.bool true) (congrArg Value.bool (h71)) (OW.want rfl (OW.rv (RV.field rfl rfl rfl rfl) rfl (OW.slot (ptr (some b10) 0) rfl (OW.want rfl (OW.rv (RV.load rfl (List.Mem.head _) rfl rfl rfl (RcptC.C_kind (⟨a0.kind, (a0.rooted), a0.root, a0.status, a0.used, a0.bloom, .slice A2 a0.logs.length c3⟩ : RcptC))) rfl (OW.want rfl (OW.rv (RV.neq rfl rfl) rfl ?_)))))))
     refine OW.want rfl (OW.rv (RV.move rfl) rfl ?_)
     by_cases h72 : a0.kind = (0 : Int)
     ·replace hq21 := if_t hq21 h72
      refine OW.slot (.bool false) (congrArg Value.bool (congrArg (fun b => !b) (decide_eq_true h72))) (OW.want rfl (OW.rv (RV.field rfl rfl rfl rfl) rfl (OW.slot (ptr (some b10) 34) rfl (OW.want rfl (OW.rv (RV.load rfl (List.Mem.head _) rfl rfl rfl (RcptC.C_status (⟨a0.kind, (a0.rooted), a0.root, a0.status, a0.used, a0.bloom, .slice A2 a0.logs.length c3⟩ : RcptC))) rfl (OW.want rfl (OW.rv (RV.neq64 rfl (by first | rfl | exact lit64 _ rfl) rfl (by first | rfl | exact lit64 _ rfl)) rfl ?_)))))))
      refine OW.want rfl (OW.rv (RV.pick_f rfl rfl rfl) rfl (OW.rv (RV.pick_t rfl rfl rfl) rfl (OW.rv (RV.move rfl) rfl ?_)))
      by_cases h73 : a0.status = 0#64
      ·replace hq21 := if_t hq21 h73
       refine OW.slot (.bool false) (congrArg Value.bool (congrArg (fun b => !b) (decide_eq_true h73))) (OW.want rfl (OW.rv (RV.field rfl rfl rfl rfl) rfl (OW.slot (ptr (some b10) 1) rfl (OW.want rfl (OW.rv (RV.load rfl (List.Mem.head _) rfl rfl rfl (RcptC.C_rooted (⟨a0.kind, (a0.rooted), a0.root, a0.status, a0.used, a0.bloom, .slice A2 a0.logs.length c3⟩ : RcptC))) rfl (OW.want rfl (OW.rv (RV.not rfl) rfl ?_)))))))
       refine OW.want rfl (OW.rv (RV.move rfl) rfl ?_)
       by_cases h74 : a0.rooted = true
       ·replace hq21 := if_t hq21 h74
        refine OW.slot (.bool false) (congrArg Value.bool (congrArg (fun b => !b) (h74))) (OW.skip rfl rfl rfl (OW.skip rfl rfl rfl (OW.skip rfl rfl rfl (OW.skip rfl rfl rfl (OW.skip rfl rfl rfl (OW.skip rfl rfl rfl (OW.skip rfl rfl rfl ?_)))))))
        refine OW.skip rfl rfl rfl (OW.skip rfl rfl rfl (OW.want rfl (OW.rv (RV.pick_f rfl rfl rfl) rfl (OW.rv (RV.pick_f rfl rfl rfl) rfl (OW.nil ?_)))))
        exact QW.join ⟨false, (Option.some.inj hq21).symm, rfl, rfl⟩ ⟨rfl, rfl, trivial⟩ (fun w m => m.pick [0] 1 rfl rfl)
       ·replace hq21 := if_f hq21 h74
        refine OW.slot (.bool true) (congrArg Value.bool (congrArg (fun b => !b) (Bool.eq_false_iff.2 h74))) (OW.want rfl (OW.rv (RV.field rfl rfl rfl rfl) rfl (OW.slot (ptr (some b10) 2) rfl (OW.want rfl (OW.rv (RV.loadAo rfl (List.Mem.head _) rfl rfl rfl rfl (RcptC.C_root_all (⟨a0.kind, (a0.rooted), a0.root, a0.status, a0.used, a0.bloom, .slice A2 a0.logs.length c3⟩ : RcptC)) ((u8s_length _).trans Vector.length_toList)) rfl (OW.want rfl (OW.rv (RV.build0 (l := (u8s (Vector.replicate 32 0#8).toList)) rfl rfl rfl (by rw [Vector.toList_replicate, ← u8s_rep']; rfl)) rfl ?_)))))))
        refine OW.want rfl (OW.rv (RV.neA8 rfl rfl rfl rfl rfl rfl (Vector.length_toList) (Vector.length_toList)) rfl (OW.slot (.bool (!decide (a0.root = (Vector.replicate 32 0#8)))) (congrArg (fun b => Value.bool (!b)) (decide_eq_decide.2 Vector.toList_inj)) (OW.want rfl (OW.rv (RV.move rfl) rfl ?_))))
        by_cases h75 : a0.root = (Vector.replicate 32 0#8)
        ·replace hq21 := if_t hq21 h75
         refine OW.slot (.bool false) (congrArg Value.bool (congrArg (fun b => !b) (decide_eq_true h75))) (OW.want rfl (OW.rv (RV.field rfl rfl rfl rfl) rfl (OW.slot (ptr (some b10) 34) rfl (OW.want rfl (OW.rv (RV.load rfl (List.Mem.head _) rfl rfl rfl (RcptC.C_status (⟨a0.kind, (a0.rooted), a0.root, a0.status, a0.used, a0.bloom, .slice A2 a0.logs.length c3⟩ : RcptC))) rfl (OW.want rfl (OW.rv (RV.gtr rfl rfl) rfl ?_)))))))
         refine OW.slot (.bool (decide (1 < a0.status.toNat))) (congrArg Value.bool (decide_eq_decide.2 (by first | omega | (simp; omega) | simp))) (OW.want rfl (OW.rv (RV.pick_f rfl rfl rfl) rfl (OW.want rfl (OW.rv (RV.pick_t rfl rfl rfl) rfl (OW.rv (RV.pick_f rfl rfl rfl) rfl (OW.nil ?_))))))
         exact QW.join ⟨(decide (1 < a0.status.toNat)), (Option.some.inj hq21).symm, rfl, rfl⟩ ⟨rfl, rfl, trivial⟩ (fun w m => m.pick [0] 1 rfl rfl)
        ·replace hq21 := if_f hq21 h75
         refine OW.slot (.bool true) (congrArg Value.bool (congrArg (fun b => !b) (decide_eq_false h75))) (OW.skip rfl rfl rfl (OW.skip rfl rfl rfl (OW.skip rfl rfl rfl (OW.want rfl (OW.rv (RV.pick_t rfl rfl rfl) rfl (OW.want rfl (OW.rv (RV.pick_t rfl rfl rfl) rfl ?_)))))))
         refine OW.rv (RV.pick_f rfl rfl rfl) rfl (OW.nil ?_)
         exact QW.join ⟨true, (Option.some.inj hq21).symm, rfl, rfl⟩ ⟨rfl, rfl, trivial⟩ (fun w m => m.pick [0] 1 rfl rfl)
      ·replace hq21 := if_f hq21 h73
       refine OW.slot (.bool true) (congrArg Value.bool (congrArg (fun b => !b) (decide_eq_false h73))) (OW.skip rfl rfl rfl (OW.skip rfl rfl rfl (OW.skip rfl rfl rfl (OW.skip rfl rfl rfl (OW.skip rfl rfl rfl (OW.skip rfl rfl rfl (OW.skip rfl rfl rfl ?_)))))))
       refine OW.skip rfl rfl rfl (OW.skip rfl rfl rfl (OW.skip rfl rfl rfl (OW.skip rfl rfl rfl (OW.skip rfl rfl rfl (OW.skip rfl rfl rfl (OW.skip rfl rfl rfl (OW.rv (RV.pick_t rfl rfl rfl) rfl ?_)))))))
       refine OW.nil ?_
       exact QW.join ⟨true, (Option.some.inj hq21).symm, rfl, rfl⟩ ⟨rfl, rfl, trivial⟩ (fun w m => m.pick [0] 1 rfl rfl)
     ·replace hq21 := if_f hq21 h72
      refine OW.slot (.bool true) (congrArg Value.bool (congrArg (fun b => !b) (decide_eq_false h72))) (OW.skip rfl rfl rfl (OW.skip rfl rfl rfl (OW.skip rfl rfl rfl (OW.want rfl (OW.rv (RV.pick_t rfl rfl rfl) rfl (OW.rv (RV.pick_t rfl rfl rfl) rfl (OW.rv (RV.move rfl) rfl ?_)))))))
      refine OW.skip rfl rfl rfl (OW.skip rfl rfl rfl (OW.skip rfl rfl rfl (OW.skip rfl rfl rfl (OW.skip rfl rfl rfl (OW.skip rfl rfl rfl (OW.skip rfl rfl rfl (OW.skip rfl rfl rfl ?_)))))))
      refine OW.skip rfl rfl rfl (OW.skip rfl rfl rfl (OW.skip rfl rfl rfl (OW.skip rfl rfl rfl (OW.skip rfl rfl rfl (OW.skip rfl rfl rfl (OW.rv (RV.pick_t rfl rfl rfl) rfl (OW.nil ?_)))))))
      exact QW.join ⟨true, (Option.some.inj hq21).symm, rfl, rfl⟩ ⟨rfl, rfl, trivial⟩ (fun w m => m.pick [0] 1 rfl rfl)
    ·replace hq21 := if_f hq21 h71
     refine OW.slot (.bool false) (congrArg Value.bool (Bool.eq_false_iff.2 h71)) (OW.skip rfl rfl rfl (OW.skip rfl rfl rfl (OW.skip rfl rfl rfl (OW.skip rfl rfl rfl (OW.skip rfl rfl rfl (OW.skip rfl rfl rfl (OW.skip rfl rfl rfl ?_)))))))
     refine OW.skip rfl rfl rfl (OW.rv (RV.pick_f rfl rfl rfl) rfl (OW.rv (RV.move rfl) rfl (OW.want rfl (OW.rv (RV.field rfl rfl rfl rfl) rfl (OW.slot (ptr (some b10) 1) rfl (OW.want rfl (OW.rv (RV.load rfl (List.Mem.head _) rfl rfl rfl (RcptC.C_rooted (⟨a0.kind, (a0.rooted), a0.root, a0.status, a0.used, a0.bloom, .slice A2 a0.logs.length c3⟩ : RcptC))) rfl ?_)))))))
     refine OW.want rfl (OW.rv (RV.not rfl) rfl (OW.want rfl (OW.rv (RV.move rfl) rfl ?_)))
     by_cases h76 : a0.rooted = true
     ·replace hq21 := if_t hq21 h76
      refine OW.slot (.bool false) (congrArg Value.bool (congrArg (fun b => !b) (h76))) (OW.skip rfl rfl rfl (OW.skip rfl rfl rfl (OW.skip rfl rfl rfl (OW.skip rfl rfl rfl (OW.skip rfl rfl rfl (OW.skip rfl rfl rfl (OW.skip rfl rfl rfl ?_)))))))
      refine OW.skip rfl rfl rfl (OW.skip rfl rfl rfl (OW.want rfl (OW.rv (RV.pick_f rfl rfl rfl) rfl (OW.rv (RV.pick_f rfl rfl rfl) rfl (OW.nil ?_)))))
      exact QW.join ⟨false, (Option.some.inj hq21).symm, rfl, rfl⟩ ⟨rfl, rfl, trivial⟩ (fun w m => m.pick [0] 1 rfl rfl)
     ·replace hq21 := if_f hq21 h76
      refine OW.slot (.bool true) (congrArg Value.bool (congrArg (fun b => !b) (Bool.eq_false_iff.2 h76))) (OW.want rfl (OW.rv (RV.field rfl rfl rfl rfl) rfl (OW.slot (ptr (some b10) 2) rfl (OW.want rfl (OW.rv (RV.loadAo rfl (List.Mem.head _) rfl rfl rfl rfl (RcptC.C_root_all (⟨a0.kind, (a0.rooted), a0.root, a0.status, a0.used, a0.bloom, .slice A2 a0.logs.length c3⟩ : RcptC)) ((u8s_length _).trans Vector.length_toList)) rfl (OW.want rfl (OW.rv (RV.build0 (l := (u8s (Vector.replicate 32 0#8).toList)) rfl rfl rfl (by rw [Vector.toList_replicate, ← u8s_rep']; rfl)) rfl ?_)))))))
      refine OW.want rfl (OW.rv (RV.neA8 rfl rfl rfl rfl rfl rfl (Vector.length_toList) (Vector.length_toList)) rfl (OW.slot (.bool (!decide (a0.root = (Vector.replicate 32 0#8)))) (congrArg (fun b => Value.bool (!b)) (decide_eq_decide.2 Vector.toList_inj)) (OW.want rfl (OW.rv (RV.move rfl) rfl ?_))))
      by_cases h77 : a0.root = (Vector.replicate 32 0#8)
      ·replace hq21 := if_t hq21 h77
       refine OW.slot (.bool false) (congrArg Value.bool (congrArg (fun b => !b) (decide_eq_true h77))) (OW.want rfl (OW.rv (RV.field rfl rfl rfl rfl) rfl (OW.slot (ptr (some b10) 34) rfl (OW.want rfl (OW.rv (RV.load rfl (List.Mem.head _) rfl rfl rfl (RcptC.C_status (⟨a0.kind, (a0.rooted), a0.root, a0.status, a0.used, a0.bloom, .slice A2 a0.logs.length c3⟩ : RcptC))) rfl (OW.want rfl (OW.rv (RV.gtr rfl rfl) rfl ?_)))))))
       refine OW.slot (.bool (decide (1 < a0.status.toNat))) (congrArg Value.bool (decide_eq_decide.2 (by first | omega | (simp; omega) | simp))) (OW.want rfl (OW.rv (RV.pick_f rfl rfl rfl) rfl (OW.want rfl (OW.rv (RV.pick_t rfl rfl rfl) rfl (OW.rv (RV.pick_f rfl rfl rfl) rfl (OW.nil ?_))))))
       exact QW.join ⟨(decide (1 < a0.status.toNat)), (Option.some.inj hq21).symm, rfl, rfl⟩ ⟨rfl, rfl, trivial⟩ (fun w m => m.pick [0] 1 rfl rfl)
      ·replace hq21 := if_f hq21 h77
       refine OW.slot (.bool true) (congrArg Value.bool (congrArg (fun b => !b) (decide_eq_false h77))) (OW.skip rfl rfl rfl (OW.skip rfl rfl rfl (OW.skip rfl rfl rfl (OW.want rfl (OW.rv (RV.pick_t rfl rfl rfl) rfl (OW.want rfl (OW.rv (RV.pick_t rfl rfl rfl) rfl ?_)))))))
       refine OW.rv (RV.pick_f rfl rfl rfl) rfl (OW.nil ?_)
       exact QW.join ⟨true, (Option.some.inj hq21).symm, rfl, rfl⟩ ⟨rfl, rfl, trivial⟩ (fun w m => m.pick [0] 1 rfl rfl)
 ·skip
  refine CW.region (OW.rv (RV.field rfl rfl rfl rfl) rfl (OW.slot (ptr (some b10) 0) rfl (OW.rv (RV.load rfl (List.Mem.head _) rfl rfl rfl (RcptC.C_kind (⟨a0.kind, (a0.rooted), a0.root, a0.status, a0.used, a0.bloom, .slice A2 a0.logs.length c3⟩ : RcptC))) rfl (OW.rv (RV.lss rfl rfl) rfl (OW.rv (RV.move rfl) rfl ?_)))))
  by_cases h78 : a0.kind < (0 : Int)
  ·replace hq12 := if_t hq12 h78
   refine OW.slot (.bool true) (congrArg Value.bool (decide_eq_true h78)) (OW.skip rfl rfl rfl (OW.skip rfl rfl rfl (OW.skip rfl rfl rfl (OW.rv (RV.pick_t rfl rfl rfl) rfl (OW.nil ?_)))))
   exact QW.join ⟨true, (Option.some.inj hq12).symm, rfl, rfl⟩ ⟨rfl, rfl, trivial⟩ (fun w m => m.pick [0] 1 rfl rfl)
  ·replace hq12 := if_f hq12 h78
   refine OW.slot (.bool false) (congrArg Value.bool (decide_eq_false h78)) (OW.want rfl (OW.rv (RV.field rfl rfl rfl rfl) rfl (OW.slot (ptr (some b10) 0) rfl (OW.want rfl (OW.rv (RV.load rfl (List.Mem.head _) rfl rfl rfl (RcptC.C_kind (⟨a0.kind, (a0.rooted), a0.root, a0.status, a0.used, a0.bloom, .slice A2 a0.logs.length c3⟩ : RcptC))) rfl (OW.want rfl (OW.rv (RV.gtr rfl rfl) rfl ?_)))))))
   refine OW.rv (RV.pick_f rfl rfl rfl) rfl (OW.nil ?_)
   exact QW.join ⟨(decide ((4 : Int) < a0.kind)), (Option.some.inj hq12).symm, rfl, rfl⟩ ⟨rfl, rfl, trivial⟩ (fun w m => m.pick [0] 1 rfl rfl)
theorem waybilllaw17_same_does (w0 : World) (Φ : Ctx) (N : List Ent) (hΦ : ∀ w, Mem w0 w N → Φ w) (A0_ : Option Addr) (c0_ : Nat) (a0 : List (BitVec 8)) (A1_ : Option Addr) (c1_ : Nat) (a1 : List (BitVec 8)) (res0 : Bool) (va0 : View Φ A0_ a0.length c0_ 1 (u8s a0)) (va1 : View Φ A1_ a1.length c1_ 1 (u8s a1)) (hf : waybilllaw17_same a0 a1 = some res0) : DoesG Tryd.prog 35 [.slice A0_ a0.length c0_, .slice A1_ a1.length c1_] w0 [] N (fun v G => v = .bool res0) := by
 unfold waybilllaw17_same at hf
 replace va0 := va0.mono (Ψ := More w0 Φ []) (fun w q => q.1)
 replace va1 := va1.mono (Ψ := More w0 Φ []) (fun w q => q.1)
 have m1 := va0.mx
 have m2 := va1.mx
 refine DoesG.enter Tryd.func35 rfl Tryd.ntmps35 rfl (M := (([] ++ N))) rfl (CW.seq (CW.region (OW.rv (RV.assign rfl) rfl (OW.nil (QW.then_n (CW.seq (CW.seq (CW.region (OW.rv (RV.move rfl) rfl (OW.rv (RV.len rfl rfl) rfl (OW.rv (RV.move rfl) rfl (OW.rv (RV.len rfl rfl) rfl ?_))))))))))))
 refine OW.rv (RV.neq rfl rfl) rfl (OW.slot (.bool (!decide (a0.length = a1.length))) (congrArg (fun b => Value.bool (!b)) (decide_eq_decide.2 (by omega))) (OW.nil (QW.then_n ?_)))
 by_cases h3 : a0.length = a1.length
 ·replace hf := if_t hf h3
  refine CW.is_f rfl (congrArg (fun b => !b) (decide_eq_true h3)) (CW.skip (QW.then_n (CW.seq (CW.seq (CW.region (OW.rv (RV.assign rfl) rfl (OW.nil (QW.then_n ?_))))))))
  obtain ⟨q4, hq5, hf⟩ := some_bind hf
  refine CW.cutJ (fun L' M' => q4 = Lp.go () ∧ L' = [] ∧ M' = (([] ++ N))) ?_ ?_
  ·rintro L7 M8 ⟨e6, e9, e10⟩
   rw [e9, e10]
   clear e9 e10 L7 M8
   clear hq5
   rw [e6] at hf
   clear e6
   try dsimp only at hf
   refine QW.then_n (CW.seq (CW.region (OW.rv (RV.assign rfl) rfl (OW.nil (QW.then_n (CW.ret ?_))))))
   have e0 := Option.some.inj hf
   subst e0
   refine QW.retG (rs := [.tmp 4]) ([.bool true]) ([]) rfl ?_ rfl ?_ ?_ _ (.inl rfl)
   ·exact ⟨rfl, trivial⟩
   ·exact rfl
   ·exact (fun w m => m)
  ·skip
   refine CW.block (CW.loopJ (fun k L' M' => ∃ n11 : Nat, (waybilllaw17_same.l1 a0 a1 k n11) = some q4 ∧ (n11 ≤ 9223372036854775807) ∧ L' = [(0, .slice A0_ a0.length c0_), (1, .slice A1_ a1.length c1_), (5, .int .i64 ((n11 : Nat) : Int))] ∧ M' = (([] ++ N))) (k0 := (a0.length - 0 + 2)) ⟨0, hq5, (by omega), rfl, rfl⟩ ⟨rfl, rfl, rfl, trivial⟩ (fun w m => m.pick [] 0 rfl rfl) ?_)
   clear hq5
   rintro k13 L16 M17 ⟨n11, hl14, b12, e18, e19⟩
   rw [e18, e19]
   clear e18 e19 L16 M17
   rcases k13 with _ | k13
   ·rw [waybilllaw17_same.l1] at hl14; cases hl14
   rw [waybilllaw17_same.l1] at hl14
   refine CW.seq (CW.seq (CW.region (OW.rv (RV.move rfl) rfl (OW.rv (RV.move rfl) rfl (OW.rv (RV.len rfl rfl) rfl (OW.rv (RV.lss rfl rfl) rfl (OW.slot (.bool (decide (n11 < a0.length))) (congrArg Value.bool (decide_eq_decide.2 (by omega))) (OW.nil (QW.then_n ?_)))))))))
   by_cases h20 : n11 < a0.length
   ·replace hl14 := if_t hl14 h20
    refine CW.is_t rfl (decide_eq_true h20) (CW.skip (QW.then_n (CW.seq (CW.block (CW.seq (CW.drawsU 9 mixed (by kernel_rfl) rfl (UW.rv 0 rfl (by kernel_rfl) rfl (RV.move rfl) rfl (UW.rv 1 rfl (by kernel_rfl) rfl (RV.move rfl) rfl ?_))))))))
    obtain ⟨x21, hx22, hl14⟩ := some_bind hl14
    have hl23 := lt_of_at hx22
    refine UW.rv 2 rfl (by kernel_rfl) rfl (RV.idx_r (n11) rfl rfl rfl rfl rfl (va0.isSome (by decide) hl23) (by omega)) rfl (UW.rv 3 rfl (by kernel_rfl) rfl (RV.load_at rfl rfl rfl (fun w m => va0.cell (More.of hΦ 0 m rfl) (u8s_at hx22))) rfl (UW.rv 4 rfl (by kernel_rfl) rfl (RV.move rfl) rfl (UW.rv 5 rfl (by kernel_rfl) rfl (RV.move rfl) rfl ?_)))
    obtain ⟨x24, hx25, hl14⟩ := some_bind hl14
    have hl26 := lt_of_at hx25
    refine UW.rv 6 rfl (by kernel_rfl) rfl (RV.idx_r (n11) rfl rfl rfl rfl rfl (va1.isSome (by decide) hl26) (by omega)) rfl (UW.rv 7 rfl (by kernel_rfl) rfl (RV.load_at rfl rfl rfl (fun w m => va1.cell (More.of hΦ 0 m rfl) (u8s_at hx25))) rfl (UW.rv 8 rfl (by kernel_rfl) rfl (RV.neq8 rfl (by first | rfl | exact lit8 _ rfl) rfl (by first | rfl | exact lit8 _ rfl)) rfl (UW.nil (by kernel_rfl) (OW.nil (QW.then_n ?_)))))
    by_cases h27 : x21 = x24
    ·replace hl14 := if_t hl14 h27
     refine CW.is_f rfl (congrArg (fun b => !b) (decide_eq_true h27)) (CW.skip (QW.block_n (QW.then_n (CW.region (OW.rv (RV.move rfl) rfl (OW.rv (RV.add rfl rfl (by omega)) rfl (OW.slot (.int .i64 (((n11 + 1) : Nat) : Int)) (by first | rfl | (congr 1) | (congr 1; omega)) (OW.rv (RV.assign rfl) rfl (OW.nil ?_)))))))))
     exact QW.againJ (k' := k13) (Nat.lt_succ_self _) ⟨(n11 + 1), hl14, (by omega), rfl, rfl⟩ ⟨rfl, rfl, rfl, trivial⟩ (fun w m => m.pick [] 0 rfl rfl)
    ·replace hl14 := if_f hl14 h27
     refine CW.is_t rfl (congrArg (fun b => !b) (decide_eq_false h27)) (CW.seq (CW.region (OW.rv (RV.assign rfl) rfl (OW.nil (QW.then_n (CW.ret (QW.block_r (QW.then_r (QW.then_r (QW.block_r (QW.then_r ?_)))))))))))
     have hc := Option.some.inj hl14
     subst hc
     try dsimp only at hf
     refine QW.then_r ?_
     have e0 := Option.some.inj hf
     subst e0
     refine QW.retG (rs := [.tmp 4]) ([.bool false]) ([]) rfl ?_ rfl ?_ ?_ _ (.inl rfl)
     ·exact ⟨rfl, trivial⟩
     ·exact rfl
     ·exact (fun w m => m)
   ·replace hl14 := if_f hl14 h20
    refine CW.is_f rfl (decide_eq_false h20) (CW.exit (QW.then_x (QW.then_x (QW.block_xe ?_))))
    exact QW.join ⟨(Option.some.inj hl14).symm, rfl, rfl⟩ trivial (fun w m => m.pick [] 0 rfl rfl)
 ·replace hf := if_f hf h3
  refine CW.is_t rfl (congrArg (fun b => !b) (decide_eq_false h3)) (CW.seq (CW.region (OW.rv (RV.assign rfl) rfl (OW.nil (QW.then_n (CW.ret (QW.then_r ?_)))))))
  have e0 := Option.some.inj hf
  subst e0
  refine QW.retG (rs := [.tmp 4]) ([.bool false]) ([]) rfl ?_ rfl ?_ ?_ _ (.inl rfl)
  ·exact ⟨rfl, trivial⟩
  ·exact rfl
  ·exact (fun w m => m)
theorem waybilllaw17_sameLog_does (w0 : World) (Φ : Ctx) (N : List Ent) (hΦ : ∀ w, Mem w0 w N → Φ w) (cs0_ : List Value) (a0 : Log) (cs1_ : List Value) (a1 : Log) (res0 : Bool) (ha0 : LogRd Φ cs0_ a0) (ha1 : LogRd Φ cs1_ a1) (hf : waybilllaw17_sameLog a0 a1 = some res0) : DoesG Tryd.prog 76 [.agg cs0_.toArray, .agg cs1_.toArray] w0 [] N (fun v G => v = .bool res0) := by
 unfold waybilllaw17_sameLog at hf
 replace ha0 := LogRd.mono (Ψ := More w0 Φ []) (fun w q => q.1) _ _ ha0
 have h10 := ha0
 obtain ⟨A1, c2, cs4, A6, c7, e9, v3, h5, v8⟩ := LogRd.opn ha0
 subst e9
 have m11 := v3.mx
 have m12 := v8.mx
 replace ha1 := LogRd.mono (Ψ := More w0 Φ []) (fun w q => q.1) _ _ ha1
 have h22 := ha1
 obtain ⟨A13, c14, cs16, A18, c19, e21, v15, h17, v20⟩ := LogRd.opn ha1
 subst e21
 have m23 := v15.mx
 have m24 := v20.mx
 refine DoesG.enter Tryd.func76 rfl Tryd.ntmps76 rfl (M := (([] ++ N))) rfl (CW.seq (CW.region (OW.boxA rfl rfl (fun b25 => (OW.boxA rfl rfl (fun b26 => (OW.rv (RV.assign rfl) rfl (OW.nil (QW.then_n (CW.seq (CW.seq ?_)))))))))))
 obtain ⟨q27, hq28, hf⟩ := some_bind hf
 refine CW.cutJ (fun L' M' => ∃ p29 : Bool, q27 = p29 ∧ L' = [(2, ptr (some b25) 0), (3, ptr (some b26) 0), (19, .bool (p29))] ∧ M' = ((some b26, blk (⟨a1.address, .slice A13 a1.topics.length c14, .slice A18 a1.data.length c19⟩ : LogC).C 63) :: (some b25, blk (⟨a0.address, .slice A1 a0.topics.length c2, .slice A6 a0.data.length c7⟩ : LogC).C 63) :: ([] ++ N))) ?_ ?_
 ·rintro L31 M32 ⟨p29, e30, e33, e34⟩
  rw [e33, e34]
  clear e33 e34 L31 M32
  clear hq28
  rw [e30] at hf
  clear e30
  try dsimp only at hf
  refine QW.then_n ?_
  by_cases h35 : p29 = true
  ·replace hf := if_t hf h35
   refine CW.is_t rfl (h35) (CW.seq (CW.region (OW.rv (RV.assign rfl) rfl (OW.nil (QW.then_n (CW.ret (QW.then_r ?_)))))))
   have e0 := Option.some.inj hf
   subst e0
   refine QW.retG (rs := [.tmp 4]) ([.bool false]) ((some b26, blk (⟨a1.address, .slice A13 a1.topics.length c14, .slice A18 a1.data.length c19⟩ : LogC).C 63) :: (some b25, blk (⟨a0.address, .slice A1 a0.topics.length c2, .slice A6 a0.data.length c7⟩ : LogC).C 63) :: []) rfl ?_ rfl ?_ ?_ _ (.inl rfl)
   ·exact ⟨rfl, trivial⟩
   ·exact rfl
   ·exact (fun w m => m)
  ·replace hf := if_f hf h35
   refine CW.is_f rfl (Bool.eq_false_iff.2 h35) (CW.skip (QW.then_n (CW.seq (CW.seq (CW.region (OW.rv (RV.assign rfl) rfl (OW.nil (QW.then_n ?_))))))))
   obtain ⟨q36, hq37, hf⟩ := some_bind hf
   refine CW.cutJ (fun L' M' => q36 = Lp.go () ∧ L' = [(2, ptr (some b25) 0), (3, ptr (some b26) 0)] ∧ M' = ((some b26, blk (⟨a1.address, .slice A13 a1.topics.length c14, .slice A18 a1.data.length c19⟩ : LogC).C 63) :: (some b25, blk (⟨a0.address, .slice A1 a0.topics.length c2, .slice A6 a0.data.length c7⟩ : LogC).C 63) :: ([] ++ N))) ?_ ?_
   ·rintro L39 M40 ⟨e38, e41, e42⟩
    rw [e41, e42]
    clear e41 e42 L39 M40
    clear hq37
    rw [e38] at hf
    clear e38
    try dsimp only at hf
    refine QW.then_n (CW.seq (CW.region (OW.rv (RV.field rfl rfl rfl rfl) rfl (OW.slot (ptr (some b25) 21) rfl (OW.rv (RV.load rfl (List.Mem.tail _ (List.Mem.head _)) rfl rfl rfl (LogC.C_data (⟨a0.address, .slice A1 a0.topics.length c2, .slice A6 a0.data.length c7⟩ : LogC))) rfl (OW.rv (RV.field rfl rfl rfl rfl) rfl (OW.slot (ptr (some b26) 21) rfl (OW.rv (RV.load rfl (List.Mem.head _) rfl rfl rfl (LogC.C_data (⟨a1.address, .slice A13 a1.topics.length c14, .slice A18 a1.data.length c19⟩ : LogC))) rfl ?_))))))))
    obtain ⟨x44, hx43, hf⟩ := some_bind hf
    refine OW.callG Tryd.call35 rfl (waybilllaw17_same_does w0 (More w0 Φ []) ((some b26, blk (⟨a1.address, .slice A13 a1.topics.length c14, .slice A18 a1.data.length c19⟩ : LogC).C 63) :: (some b25, blk (⟨a0.address, .slice A1 a0.topics.length c2, .slice A6 a0.data.length c7⟩ : LogC).C 63) :: ([] ++ N)) (fun w m => More.of hΦ 2 m rfl) A6 c7 a0.data A18 c19 a1.data x44 v8 v20 hx43) rfl rfl ?_
    rintro _ G45 rfl
    refine OW.mem (M' := ((some b26, blk (⟨a1.address, .slice A13 a1.topics.length c14, .slice A18 a1.data.length c19⟩ : LogC).C 63) :: (some b25, blk (⟨a0.address, .slice A1 a0.topics.length c2, .slice A6 a0.data.length c7⟩ : LogC).C 63) :: ([] ++ N))) (fun w m => m.appR) (OW.rv (RV.assign rfl) rfl (OW.nil (QW.then_n (CW.ret ?_))))
    have e0 := Option.some.inj hf
    subst e0
    refine QW.retG (rs := [.tmp 4]) ([.bool (x44)]) ((some b26, blk (⟨a1.address, .slice A13 a1.topics.length c14, .slice A18 a1.data.length c19⟩ : LogC).C 63) :: (some b25, blk (⟨a0.address, .slice A1 a0.topics.length c2, .slice A6 a0.data.length c7⟩ : LogC).C 63) :: []) rfl ?_ rfl ?_ ?_ _ (.inl rfl)
    ·exact ⟨rfl, trivial⟩
    ·exact rfl
    ·exact (fun w m => m)
   ·skip
    refine CW.block (CW.loopJ (fun k L' M' => ∃ n47 : Nat, (waybilllaw17_sameLog.l1 a0 a1 k n47) = some q36 ∧ (n47 ≤ 9223372036854775807) ∧ L' = [(2, ptr (some b25) 0), (3, ptr (some b26) 0), (5, .int .i64 ((n47 : Nat) : Int))] ∧ M' = ((some b26, blk (⟨a1.address, .slice A13 a1.topics.length c14, .slice A18 a1.data.length c19⟩ : LogC).C 63) :: (some b25, blk (⟨a0.address, .slice A1 a0.topics.length c2, .slice A6 a0.data.length c7⟩ : LogC).C 63) :: ([] ++ N))) (k0 := (a0.topics.length - 0 + 2)) ⟨0, hq37, (by omega), rfl, rfl⟩ ⟨rfl, rfl, rfl, trivial⟩ (fun w m => m.pick [0, 1] 2 rfl rfl) ?_)
    clear hq37
    rintro k49 L52 M53 ⟨n47, hl50, b48, e54, e55⟩
    rw [e54, e55]
    clear e54 e55 L52 M53
    rcases k49 with _ | k49
    ·rw [waybilllaw17_sameLog.l1] at hl50; cases hl50
    rw [waybilllaw17_sameLog.l1] at hl50
    refine CW.seq (CW.seq (CW.region (OW.rv (RV.move rfl) rfl (OW.rv (RV.field rfl rfl rfl rfl) rfl (OW.slot (ptr (some b25) 20) rfl (OW.rv (RV.load rfl (List.Mem.tail _ (List.Mem.head _)) rfl rfl rfl (LogC.C_topics (⟨a0.address, .slice A1 a0.topics.length c2, .slice A6 a0.data.length c7⟩ : LogC))) rfl (OW.rv (RV.len rfl rfl) rfl (OW.rv (RV.lss rfl rfl) rfl (OW.slot (.bool (decide (n47 < a0.topics.length))) (congrArg Value.bool (decide_eq_decide.2 (by omega))) ?_)))))))))
    refine OW.nil (QW.then_n ?_)
    by_cases h56 : n47 < a0.topics.length
    ·replace hl50 := if_t hl50 h56
     refine CW.is_t rfl (decide_eq_true h56) (CW.skip (QW.then_n (CW.seq (CW.block (CW.seq (CW.drawsU 11 mixed (by kernel_rfl) rfl (UW.rv 0 rfl (by kernel_rfl) rfl (RV.field rfl rfl rfl rfl) rfl (UW.slot (ptr (some b25) 20) rfl (UW.rv 1 rfl (by kernel_rfl) rfl (RV.load rfl (List.Mem.tail _ (List.Mem.head _)) rfl rfl rfl (LogC.C_topics (⟨a0.address, .slice A1 a0.topics.length c2, .slice A6 a0.data.length c7⟩ : LogC))) rfl (UW.rv 2 rfl (by kernel_rfl) rfl (RV.move rfl) rfl ?_))))))))))
     obtain ⟨x57, hx58, hl50⟩ := some_bind hl50
     have hl59 := lt_of_at hx58
     refine UW.rv 3 rfl (by kernel_rfl) rfl (RV.idx_rs (n47) rfl rfl rfl rfl rfl (v3.isSome (by decide) hl59) (by omega)) rfl ?_
     obtain ⟨cs60, h61, h62⟩ := h5.get Ar8Rd.len hx58
     have h61a := h61
     subst h61a
     refine UW.rv 4 rfl (by kernel_rfl) rfl (RV.loadAs rfl rfl rfl rfl (fun w m => v3.load (More.of hΦ 2 m rfl) h62) ((u8s_length _).trans Vector.length_toList)) rfl (UW.rv 5 rfl (by kernel_rfl) rfl (RV.field rfl rfl rfl rfl) rfl (UW.slot (ptr (some b26) 20) rfl (UW.rv 6 rfl (by kernel_rfl) rfl (RV.load rfl (List.Mem.head _) rfl rfl rfl (LogC.C_topics (⟨a1.address, .slice A13 a1.topics.length c14, .slice A18 a1.data.length c19⟩ : LogC))) rfl (UW.rv 7 rfl (by kernel_rfl) rfl (RV.move rfl) rfl ?_))))
     obtain ⟨x63, hx64, hl50⟩ := some_bind hl50
     have hl65 := lt_of_at hx64
     refine UW.rv 8 rfl (by kernel_rfl) rfl (RV.idx_rs (n47) rfl rfl rfl rfl rfl (v15.isSome (by decide) hl65) (by omega)) rfl ?_
     obtain ⟨cs66, h67, h68⟩ := h17.get Ar8Rd.len hx64
     have h67a := h67
     subst h67a
     refine UW.rv 9 rfl (by kernel_rfl) rfl (RV.loadAs rfl rfl rfl rfl (fun w m => v15.load (More.of hΦ 2 m rfl) h68) ((u8s_length _).trans Vector.length_toList)) rfl (UW.rv 10 rfl (by kernel_rfl) rfl (RV.neA8 rfl rfl rfl rfl rfl rfl (Vector.length_toList) (Vector.length_toList)) rfl (UW.slot (.bool (!decide (x57 = x63))) (congrArg (fun b => Value.bool (!b)) (decide_eq_decide.2 Vector.toList_inj)) (UW.nil (by kernel_rfl) (OW.nil (QW.then_n ?_)))))
     by_cases h69 : x57 = x63
     ·replace hl50 := if_t hl50 h69
      refine CW.is_f rfl (congrArg (fun b => !b) (decide_eq_true h69)) (CW.skip (QW.block_n (QW.then_n (CW.region (OW.rv (RV.move rfl) rfl (OW.rv (RV.add rfl rfl (by omega)) rfl (OW.slot (.int .i64 (((n47 + 1) : Nat) : Int)) (by first | rfl | (congr 1) | (congr 1; omega)) (OW.rv (RV.assign rfl) rfl (OW.nil ?_)))))))))
      exact QW.againJ (k' := k49) (Nat.lt_succ_self _) ⟨(n47 + 1), hl50, (by omega), rfl, rfl⟩ ⟨rfl, rfl, rfl, trivial⟩ (fun w m => m.pick [0, 1] 2 rfl rfl)
     ·replace hl50 := if_f hl50 h69
      refine CW.is_t rfl (congrArg (fun b => !b) (decide_eq_false h69)) (CW.seq (CW.region (OW.rv (RV.assign rfl) rfl (OW.nil (QW.then_n (CW.ret (QW.block_r (QW.then_r (QW.then_r (QW.block_r (QW.then_r ?_)))))))))))
      have hc := Option.some.inj hl50
      subst hc
      try dsimp only at hf
      refine QW.then_r ?_
      have e0 := Option.some.inj hf
      subst e0
      refine QW.retG (rs := [.tmp 4]) ([.bool false]) ((some b26, blk (⟨a1.address, .slice A13 a1.topics.length c14, .slice A18 a1.data.length c19⟩ : LogC).C 63) :: (some b25, blk (⟨a0.address, .slice A1 a0.topics.length c2, .slice A6 a0.data.length c7⟩ : LogC).C 63) :: []) rfl ?_ rfl ?_ ?_ _ (.inl rfl)
      ·exact ⟨rfl, trivial⟩
      ·exact rfl
      ·exact (fun w m => m)
    ·replace hl50 := if_f hl50 h56
     refine CW.is_f rfl (decide_eq_false h56) (CW.exit (QW.then_x (QW.then_x (QW.block_xe ?_))))
     exact QW.join ⟨(Option.some.inj hl50).symm, rfl, rfl⟩ ⟨rfl, rfl, trivial⟩ (fun w m => m.pick [0, 1] 2 rfl rfl)
 ·skip
  refine CW.region (OW.rv (RV.field rfl rfl rfl rfl) rfl (OW.slot (ptr (some b25) 0) rfl (OW.rv (RV.loadAo rfl (List.Mem.tail _ (List.Mem.head _)) rfl rfl rfl rfl (LogC.C_address_all (⟨a0.address, .slice A1 a0.topics.length c2, .slice A6 a0.data.length c7⟩ : LogC)) ((u8s_length _).trans Vector.length_toList)) rfl (OW.rv (RV.field rfl rfl rfl rfl) rfl (OW.slot (ptr (some b26) 0) rfl (OW.rv (RV.loadAo rfl (List.Mem.head _) rfl rfl rfl rfl (LogC.C_address_all (⟨a1.address, .slice A13 a1.topics.length c14, .slice A18 a1.data.length c19⟩ : LogC)) ((u8s_length _).trans Vector.length_toList)) rfl (OW.rv (RV.neA8 rfl rfl rfl rfl rfl rfl (Vector.length_toList) (Vector.length_toList)) rfl ?_)))))))
  refine OW.slot (.bool (!decide (a0.address = a1.address))) (congrArg (fun b => Value.bool (!b)) (decide_eq_decide.2 Vector.toList_inj)) (OW.rv (RV.move rfl) rfl ?_)
  by_cases h70 : a0.address = a1.address
  ·replace hq28 := if_t hq28 h70
   refine OW.slot (.bool false) (congrArg Value.bool (congrArg (fun b => !b) (decide_eq_true h70))) (OW.want rfl (OW.rv (RV.field rfl rfl rfl rfl) rfl (OW.slot (ptr (some b25) 20) rfl (OW.want rfl (OW.rv (RV.load rfl (List.Mem.tail _ (List.Mem.head _)) rfl rfl rfl (LogC.C_topics (⟨a0.address, .slice A1 a0.topics.length c2, .slice A6 a0.data.length c7⟩ : LogC))) rfl (OW.want rfl (OW.rv (RV.len rfl rfl) rfl ?_)))))))
   refine OW.want rfl (OW.rv (RV.field rfl rfl rfl rfl) rfl (OW.slot (ptr (some b26) 20) rfl (OW.want rfl (OW.rv (RV.load rfl (List.Mem.head _) rfl rfl rfl (LogC.C_topics (⟨a1.address, .slice A13 a1.topics.length c14, .slice A18 a1.data.length c19⟩ : LogC))) rfl (OW.want rfl (OW.rv (RV.len rfl rfl) rfl (OW.want rfl ?_)))))))
   refine OW.rv (RV.neq rfl rfl) rfl (OW.slot (.bool (!decide (a0.topics.length = a1.topics.length))) (congrArg (fun b => Value.bool (!b)) (decide_eq_decide.2 (by omega))) (OW.rv (RV.pick_f rfl rfl rfl) rfl (OW.nil ?_)))
   exact QW.join ⟨(!decide (a0.topics.length = a1.topics.length)), (Option.some.inj hq28).symm, rfl, rfl⟩ ⟨rfl, rfl, rfl, trivial⟩ (fun w m => m.pick [0, 1] 2 rfl rfl)
  ·replace hq28 := if_f hq28 h70
   refine OW.slot (.bool true) (congrArg Value.bool (congrArg (fun b => !b) (decide_eq_false h70))) (OW.skip rfl rfl rfl (OW.skip rfl rfl rfl (OW.skip rfl rfl rfl (OW.skip rfl rfl rfl (OW.skip rfl rfl rfl (OW.skip rfl rfl rfl (OW.skip rfl rfl rfl ?_)))))))
   refine OW.rv (RV.pick_t rfl rfl rfl) rfl (OW.nil ?_)
   exact QW.join ⟨true, (Option.some.inj hq28).symm, rfl, rfl⟩ ⟨rfl, rfl, rfl, trivial⟩ (fun w m => m.pick [0, 1] 2 rfl rfl)
theorem waybilllaw17_sameLogs_does (w0 : World) (Φ : Ctx) (N : List Ent) (hΦ : ∀ w, Mem w0 w N → Φ w) (A0_ : Option Addr) (c0_ : Nat) (cs0_ : List Value) (a0 : List (Log)) (A1_ : Option Addr) (c1_ : Nat) (cs1_ : List Value) (a1 : List (Log)) (res0 : Bool) (va0 : View Φ A0_ a0.length c0_ 22 cs0_) (ha0 : Reps (LogRd Φ) cs0_ a0) (va1 : View Φ A1_ a1.length c1_ 22 cs1_) (ha1 : Reps (LogRd Φ) cs1_ a1) (hf : waybilllaw17_sameLogs a0 a1 = some res0) : DoesG Tryd.prog 45 [.slice A0_ a0.length c0_, .slice A1_ a1.length c1_] w0 [] N (fun v G => v = .bool res0) := by
 unfold waybilllaw17_sameLogs at hf
 replace va0 := va0.mono (Ψ := More w0 Φ []) (fun w q => q.1)
 replace va1 := va1.mono (Ψ := More w0 Φ []) (fun w q => q.1)
 replace ha0 := ha0.mono (LogRd.mono (Ψ := More w0 Φ []) (fun w q => q.1))
 replace ha1 := ha1.mono (LogRd.mono (Ψ := More w0 Φ []) (fun w q => q.1))
 have m1 := va0.mx
 have m2 := va1.mx
 refine DoesG.enter Tryd.func45 rfl Tryd.ntmps45 rfl (M := (([] ++ N))) rfl (CW.seq (CW.region (OW.rv (RV.assign rfl) rfl (OW.nil (QW.then_n (CW.seq (CW.seq (CW.region (OW.rv (RV.move rfl) rfl (OW.rv (RV.len rfl rfl) rfl (OW.rv (RV.move rfl) rfl (OW.rv (RV.len rfl rfl) rfl ?_))))))))))))
 refine OW.rv (RV.neq rfl rfl) rfl (OW.slot (.bool (!decide (a0.length = a1.length))) (congrArg (fun b => Value.bool (!b)) (decide_eq_decide.2 (by omega))) (OW.nil (QW.then_n ?_)))
 by_cases h3 : a0.length = a1.length
 ·replace hf := if_t hf h3
  refine CW.is_f rfl (congrArg (fun b => !b) (decide_eq_true h3)) (CW.skip (QW.then_n (CW.seq (CW.seq (CW.region (OW.rv (RV.assign rfl) rfl (OW.nil (QW.then_n ?_))))))))
  obtain ⟨q4, hq5, hf⟩ := some_bind hf
  refine CW.cutJ (fun L' M' => q4 = Lp.go () ∧ L' = [] ∧ M' = (([] ++ N))) ?_ ?_
  ·rintro L7 M8 ⟨e6, e9, e10⟩
   rw [e9, e10]
   clear e9 e10 L7 M8
   clear hq5
   rw [e6] at hf
   clear e6
   try dsimp only at hf
   refine QW.then_n (CW.seq (CW.region (OW.rv (RV.assign rfl) rfl (OW.nil (QW.then_n (CW.ret ?_))))))
   have e0 := Option.some.inj hf
   subst e0
   refine QW.retG (rs := [.tmp 4]) ([.bool true]) ([]) rfl ?_ rfl ?_ ?_ _ (.inl rfl)
   ·exact ⟨rfl, trivial⟩
   ·exact rfl
   ·exact (fun w m => m)
  ·skip
   refine CW.block (CW.loopJ (fun k L' M' => ∃ n11 : Nat, (waybilllaw17_sameLogs.l1 a0 a1 k n11) = some q4 ∧ (n11 ≤ 9223372036854775807) ∧ L' = [(0, .slice A0_ a0.length c0_), (1, .slice A1_ a1.length c1_), (5, .int .i64 ((n11 : Nat) : Int))] ∧ M' = (([] ++ N))) (k0 := (a0.length - 0 + 2)) ⟨0, hq5, (by omega), rfl, rfl⟩ ⟨rfl, rfl, rfl, trivial⟩ (fun w m => m.pick [] 0 rfl rfl) ?_)
   clear hq5
   rintro k13 L16 M17 ⟨n11, hl14, b12, e18, e19⟩
   rw [e18, e19]
   clear e18 e19 L16 M17
   rcases k13 with _ | k13
   ·rw [waybilllaw17_sameLogs.l1] at hl14; cases hl14
   rw [waybilllaw17_sameLogs.l1] at hl14
   refine CW.seq (CW.seq (CW.region (OW.rv (RV.move rfl) rfl (OW.rv (RV.move rfl) rfl (OW.rv (RV.len rfl rfl) rfl (OW.rv (RV.lss rfl rfl) rfl (OW.slot (.bool (decide (n11 < a0.length))) (congrArg Value.bool (decide_eq_decide.2 (by omega))) (OW.nil (QW.then_n ?_)))))))))
   by_cases h20 : n11 < a0.length
   ·replace hl14 := if_t hl14 h20
    refine CW.is_t rfl (decide_eq_true h20) (CW.skip (QW.then_n (CW.seq (CW.block (CW.seq (CW.drawsU 10 mixed (by kernel_rfl) rfl (UW.rv 0 rfl (by kernel_rfl) rfl (RV.move rfl) rfl (UW.rv 1 rfl (by kernel_rfl) rfl (RV.move rfl) rfl ?_))))))))
    obtain ⟨x21, hx22, hl14⟩ := some_bind hl14
    have hl23 := lt_of_at hx22
    refine UW.rv 2 rfl (by kernel_rfl) rfl (RV.idx_rs (n11) rfl rfl rfl rfl rfl (va0.isSome (by decide) hl23) (by omega)) rfl ?_
    obtain ⟨cs24, h25, h26⟩ := ha0.get LogRd.len hx22
    have h36 := h25
    obtain ⟨A27, c28, cs30, A32, c33, e35, v29, h31, v34⟩ := LogRd.opn h25
    subst e35
    have m37 := v29.mx
    have m38 := v34.mx
    refine UW.rv 3 rfl (by kernel_rfl) rfl (RV.loadAs rfl rfl rfl rfl (fun w m => va0.load (More.of hΦ 0 m rfl) h26) (LogC.C_length _)) rfl (UW.rv 4 rfl (by kernel_rfl) rfl (RV.move rfl) rfl (UW.rv 5 rfl (by kernel_rfl) rfl (RV.move rfl) rfl ?_))
    obtain ⟨x39, hx40, hl14⟩ := some_bind hl14
    have hl41 := lt_of_at hx40
    refine UW.rv 6 rfl (by kernel_rfl) rfl (RV.idx_rs (n11) rfl rfl rfl rfl rfl (va1.isSome (by decide) hl41) (by omega)) rfl ?_
    obtain ⟨cs42, h43, h44⟩ := ha1.get LogRd.len hx40
    have h54 := h43
    obtain ⟨A45, c46, cs48, A50, c51, e53, v47, h49, v52⟩ := LogRd.opn h43
    subst e53
    have m55 := v47.mx
    have m56 := v52.mx
    refine UW.rv 7 rfl (by kernel_rfl) rfl (RV.loadAs rfl rfl rfl rfl (fun w m => va1.load (More.of hΦ 0 m rfl) h44) (LogC.C_length _)) rfl ?_
    obtain ⟨x58, hx57, hl14⟩ := some_bind hl14
    refine UW.callG 8 rfl (by kernel_rfl) rfl Tryd.call76 rfl (fun N' hN' => waybilllaw17_sameLog_does w0 (More w0 Φ []) N' (fun w m => More.of hΦ 0 (hN' w m) rfl) (⟨x21.address, .slice A27 x21.topics.length c28, .slice A32 x21.data.length c33⟩ : LogC).C x21 (⟨x39.address, .slice A45 x39.topics.length c46, .slice A50 x39.data.length c51⟩ : LogC).C x39 x58 h36 h54 hx57) rfl ?_
    rintro _ G59 rfl
    refine UW.mem (M' := (([] ++ N))) (fun w m => m.appR) (UW.rv 9 rfl (by kernel_rfl) rfl (RV.assign rfl) rfl (UW.nil (by kernel_rfl) (OW.nil (QW.then_n (CW.seq (CW.region (OW.rv (RV.move rfl) rfl (OW.rv (RV.not rfl) rfl (OW.nil (QW.then_n ?_))))))))))
    by_cases h61 : x58 = true
    ·replace hl14 := if_t hl14 h61
     refine CW.is_f rfl (congrArg (fun b => !b) (h61)) (CW.skip (QW.block_n (QW.then_n (CW.region (OW.rv (RV.move rfl) rfl (OW.rv (RV.add rfl rfl (by omega)) rfl (OW.slot (.int .i64 (((n11 + 1) : Nat) : Int)) (by first | rfl | (congr 1) | (congr 1; omega)) (OW.rv (RV.assign rfl) rfl (OW.nil ?_)))))))))
     exact QW.againJ (k' := k13) (Nat.lt_succ_self _) ⟨(n11 + 1), hl14, (by omega), rfl, rfl⟩ ⟨rfl, rfl, rfl, trivial⟩ (fun w m => m.pick [] 0 rfl rfl)
    ·replace hl14 := if_f hl14 h61
     refine CW.is_t rfl (congrArg (fun b => !b) (Bool.eq_false_iff.2 h61)) (CW.seq (CW.region (OW.rv (RV.assign rfl) rfl (OW.nil (QW.then_n (CW.ret (QW.block_r (QW.then_r (QW.then_r (QW.block_r (QW.then_r ?_)))))))))))
     have hc := Option.some.inj hl14
     subst hc
     try dsimp only at hf
     refine QW.then_r ?_
     have e0 := Option.some.inj hf
     subst e0
     refine QW.retG (rs := [.tmp 4]) ([.bool false]) ([]) rfl ?_ rfl ?_ ?_ _ (.inl rfl)
     ·exact ⟨rfl, trivial⟩
     ·exact rfl
     ·exact (fun w m => m)
   ·replace hl14 := if_f hl14 h20
    refine CW.is_f rfl (decide_eq_false h20) (CW.exit (QW.then_x (QW.then_x (QW.block_xe ?_))))
    exact QW.join ⟨(Option.some.inj hl14).symm, rfl, rfl⟩ trivial (fun w m => m.pick [] 0 rfl rfl)
 ·replace hf := if_f hf h3
  refine CW.is_t rfl (congrArg (fun b => !b) (decide_eq_false h3)) (CW.seq (CW.region (OW.rv (RV.assign rfl) rfl (OW.nil (QW.then_n (CW.ret (QW.then_r ?_)))))))
  have e0 := Option.some.inj hf
  subst e0
  refine QW.retG (rs := [.tmp 4]) ([.bool false]) ([]) rfl ?_ rfl ?_ ?_ _ (.inl rfl)
  ·exact ⟨rfl, trivial⟩
  ·exact rfl
  ·exact (fun w m => m)
theorem waybilllaw17_sameReceipt_does (w0 : World) (Φ : Ctx) (N : List Ent) (hΦ : ∀ w, Mem w0 w N → Φ w) (cs0_ : List Value) (a0 : Rcpt) (cs1_ : List Value) (a1 : Rcpt) (res0 : Bool) (ha0 : RcptRd Φ cs0_ a0) (ha1 : RcptRd Φ cs1_ a1) (hf : waybilllaw17_sameReceipt a0 a1 = some res0) : DoesG Tryd.prog 16 [.agg cs0_.toArray, .agg cs1_.toArray] w0 [] N (fun v G => v = .bool res0) := by
 unfold waybilllaw17_sameReceipt at hf
 replace ha0 := RcptRd.mono (Ψ := More w0 Φ []) (fun w q => q.1) _ _ ha0
 have h8 := ha0
 obtain ⟨A2, c3, cs5, e7, b1, v4, h6⟩ := RcptRd.opn ha0
 subst e7
 have m9 := v4.mx
 replace ha1 := RcptRd.mono (Ψ := More w0 Φ []) (fun w q => q.1) _ _ ha1
 have h17 := ha1
 obtain ⟨A11, c12, cs14, e16, b10, v13, h15⟩ := RcptRd.opn ha1
 subst e16
 have m18 := v13.mx
 refine DoesG.enter Tryd.func16 rfl Tryd.ntmps16 rfl (M := (([] ++ N))) rfl (CW.seq (CW.region (OW.boxA rfl rfl (fun b19 => (OW.boxA rfl rfl (fun b20 => (OW.rv (RV.assign rfl) rfl (OW.nil (QW.then_n (CW.seq (CW.seq ?_)))))))))))
 obtain ⟨q21, hq22, hf⟩ := some_bind hf
 refine CW.cutJ (fun L' M' => ∃ p23 : Bool, q21 = p23 ∧ L' = [(2, ptr (some b19) 0), (3, ptr (some b20) 0), (37, .bool (p23))] ∧ M' = ((some b20, blk (⟨a1.kind, (a1.rooted), a1.root, a1.status, a1.used, a1.bloom, .slice A11 a1.logs.length c12⟩ : RcptC).C 30) :: (some b19, blk (⟨a0.kind, (a0.rooted), a0.root, a0.status, a0.used, a0.bloom, .slice A2 a0.logs.length c3⟩ : RcptC).C 30) :: ([] ++ N))) ?_ ?_
 ·rintro L25 M26 ⟨p23, e24, e27, e28⟩
  rw [e27, e28]
  clear e27 e28 L25 M26
  clear hq22
  rw [e24] at hf
  clear e24
  try dsimp only at hf
  refine QW.then_n ?_
  by_cases h29 : p23 = true
  ·replace hf := if_t hf h29
   refine CW.is_t rfl (h29) (CW.seq (CW.region (OW.rv (RV.assign rfl) rfl (OW.nil (QW.then_n (CW.ret (QW.then_r ?_)))))))
   have e0 := Option.some.inj hf
   subst e0
   refine QW.retG (rs := [.tmp 4]) ([.bool false]) ((some b20, blk (⟨a1.kind, (a1.rooted), a1.root, a1.status, a1.used, a1.bloom, .slice A11 a1.logs.length c12⟩ : RcptC).C 30) :: (some b19, blk (⟨a0.kind, (a0.rooted), a0.root, a0.status, a0.used, a0.bloom, .slice A2 a0.logs.length c3⟩ : RcptC).C 30) :: []) rfl ?_ rfl ?_ ?_ _ (.inl rfl)
   ·exact ⟨rfl, trivial⟩
   ·exact rfl
   ·exact (fun w m => m)
  ·replace hf := if_f hf h29
   refine CW.is_f rfl (Bool.eq_false_iff.2 h29) (CW.skip (QW.then_n (CW.seq ?_)))
   obtain ⟨q30, hq31, hf⟩ := some_bind hf
   refine CW.cutJ (fun L' M' => ∃ p32 : Bool, q30 = p32 ∧ L' = [(4, .bool (p32))] ∧ M' = (([] ++ N))) ?_ ?_
   ·rintro L34 M35 ⟨p32, e33, e36, e37⟩
    rw [e36, e37]
    clear e36 e37 L34 M35
    clear hq31
    rw [e33] at hf
    clear e33
    try dsimp only at hf
    refine QW.then_n (CW.ret ?_)
    have e0 := Option.some.inj hf
    subst e0
    refine QW.retG (rs := [.tmp 4]) ([.bool (p32)]) ([]) rfl ?_ rfl ?_ ?_ _ (.inl rfl)
    ·exact ⟨rfl, trivial⟩
    ·exact rfl
    ·exact (fun w m => m)
   ·skip
    refine CW.region (OW.rv (RV.field rfl rfl rfl rfl) rfl (OW.slot (ptr (some b19) 36) rfl (OW.rv (RV.loadAo rfl (List.Mem.tail _ (List.Mem.head _)) rfl rfl rfl rfl (RcptC.C_bloom_all (⟨a0.kind, (a0.rooted), a0.root, a0.status, a0.used, a0.bloom, .slice A2 a0.logs.length c3⟩ : RcptC)) ((u8s_length _).trans Vector.length_toList)) rfl (OW.rv (RV.field rfl rfl rfl rfl) rfl (OW.slot (ptr (some b20) 36) rfl (OW.rv (RV.loadAo rfl (List.Mem.head _) rfl rfl rfl rfl (RcptC.C_bloom_all (⟨a1.kind, (a1.rooted), a1.root, a1.status, a1.used, a1.bloom, .slice A11 a1.logs.length c12⟩ : RcptC)) ((u8s_length _).trans Vector.length_toList)) rfl (OW.rv (RV.eqA8 rfl rfl rfl rfl rfl rfl (Vector.length_toList) (Vector.length_toList)) rfl ?_)))))))
    refine OW.slot (.bool (decide (a0.bloom = a1.bloom))) (congrArg Value.bool (decide_eq_decide.2 Vector.toList_inj)) (OW.rv (RV.move rfl) rfl ?_)
    by_cases h38 : a0.bloom = a1.bloom
    ·replace hq31 := if_t hq31 h38
     refine OW.slot (.bool true) (congrArg Value.bool (decide_eq_true h38)) (OW.want rfl (OW.rv (RV.field rfl rfl rfl rfl) rfl (OW.slot (ptr (some b19) 292) rfl (OW.want rfl (OW.rv (RV.load rfl (List.Mem.tail _ (List.Mem.head _)) rfl rfl rfl (RcptC.C_logs (⟨a0.kind, (a0.rooted), a0.root, a0.status, a0.used, a0.bloom, .slice A2 a0.logs.length c3⟩ : RcptC))) rfl (OW.want rfl (OW.rv (RV.field rfl rfl rfl rfl) rfl ?_)))))))
     refine OW.slot (ptr (some b20) 292) rfl (OW.want rfl (OW.rv (RV.load rfl (List.Mem.head _) rfl rfl rfl (RcptC.C_logs (⟨a1.kind, (a1.rooted), a1.root, a1.status, a1.used, a1.bloom, .slice A11 a1.logs.length c12⟩ : RcptC))) rfl (OW.want rfl ?_)))
     obtain ⟨x40, hx39, hq31⟩ := some_bind hq31
     refine OW.callG Tryd.call45 rfl (waybilllaw17_sameLogs_does w0 (More w0 Φ []) ((some b20, blk (⟨a1.kind, (a1.rooted), a1.root, a1.status, a1.used, a1.bloom, .slice A11 a1.logs.length c12⟩ : RcptC).C 30) :: (some b19, blk (⟨a0.kind, (a0.rooted), a0.root, a0.status, a0.used, a0.bloom, .slice A2 a0.logs.length c3⟩ : RcptC).C 30) :: ([] ++ N)) (fun w m => More.of hΦ 2 m rfl) A2 c3 cs5 a0.logs A11 c12 cs14 a1.logs x40 v4 h6 v13 h15 hx39) rfl rfl ?_
     rintro _ G41 rfl
     refine OW.mem (M' := ((some b20, blk (⟨a1.kind, (a1.rooted), a1.root, a1.status, a1.used, a1.bloom, .slice A11 a1.logs.length c12⟩ : RcptC).C 30) :: (some b19, blk (⟨a0.kind, (a0.rooted), a0.root, a0.status, a0.used, a0.bloom, .slice A2 a0.logs.length c3⟩ : RcptC).C 30) :: ([] ++ N))) (fun w m => m.appR) (OW.rv (RV.pick_t rfl rfl rfl) rfl (OW.rv (RV.assign rfl) rfl (OW.nil ?_)))
     exact QW.join ⟨(x40), (Option.some.inj hq31).symm, rfl, rfl⟩ ⟨rfl, trivial⟩ (fun w m => m.pick [] 2 rfl rfl)
    ·replace hq31 := if_f hq31 h38
     refine OW.slot (.bool false) (congrArg Value.bool (decide_eq_false h38)) (OW.skip rfl rfl rfl (OW.skip rfl rfl rfl (OW.skip rfl rfl rfl (OW.skip rfl rfl rfl (OW.skip rfl rfl rfl (OW.rv (RV.pick_f rfl rfl rfl) rfl (OW.rv (RV.assign rfl) rfl ?_)))))))
     refine OW.nil ?_
     exact QW.join ⟨false, (Option.some.inj hq31).symm, rfl, rfl⟩ ⟨rfl, trivial⟩ (fun w m => m.pick [] 2 rfl rfl)
 ·skip
  refine CW.region (OW.rv (RV.field rfl rfl rfl rfl) rfl (OW.slot (ptr (some b19) 0) rfl (OW.rv (RV.load rfl (List.Mem.tail _ (List.Mem.head _)) rfl rfl rfl (RcptC.C_kind (⟨a0.kind, (a0.rooted), a0.root, a0.status, a0.used, a0.bloom, .slice A2 a0.logs.length c3⟩ : RcptC))) rfl (OW.rv (RV.field rfl rfl rfl rfl) rfl (OW.slot (ptr (some b20) 0) rfl (OW.rv (RV.load rfl (List.Mem.head _) rfl rfl rfl (RcptC.C_kind (⟨a1.kind, (a1.rooted), a1.root, a1.status, a1.used, a1.bloom, .slice A11 a1.logs.length c12⟩ : RcptC))) rfl (OW.rv (RV.neq rfl rfl) rfl ?_)))))))
  refine OW.rv (RV.move rfl) rfl ?_
  by_cases h43 : a0.kind = a1.kind
  ·replace hq22 := if_t hq22 h43
   refine OW.slot (.bool false) (congrArg Value.bool (congrArg (fun b => !b) (decide_eq_true h43))) (OW.want rfl (OW.rv (RV.field rfl rfl rfl rfl) rfl (OW.slot (ptr (some b19) 1) rfl (OW.want rfl (OW.rv (RV.load rfl (List.Mem.tail _ (List.Mem.head _)) rfl rfl rfl (RcptC.C_rooted (⟨a0.kind, (a0.rooted), a0.root, a0.status, a0.used, a0.bloom, .slice A2 a0.logs.length c3⟩ : RcptC))) rfl (OW.want rfl (OW.rv (RV.field rfl rfl rfl rfl) rfl ?_)))))))
   refine OW.slot (ptr (some b20) 1) rfl (OW.want rfl (OW.rv (RV.load rfl (List.Mem.head _) rfl rfl rfl (RcptC.C_rooted (⟨a1.kind, (a1.rooted), a1.root, a1.status, a1.used, a1.bloom, .slice A11 a1.logs.length c12⟩ : RcptC))) rfl (OW.want rfl (OW.rv (RV.neqB rfl rfl rfl) rfl (OW.slot (.bool (!decide ((a0.rooted) = (a1.rooted)))) (by first | rfl | (congr 1) | simp) (OW.rv (RV.pick_f rfl rfl rfl) rfl (OW.rv (RV.move rfl) rfl ?_)))))))
   by_cases h44 : (a0.rooted) = (a1.rooted)
   ·replace hq22 := if_t hq22 h44
    refine OW.slot (.bool false) (congrArg Value.bool (congrArg (fun b => !b) (decide_eq_true h44))) (OW.want rfl (OW.rv (RV.field rfl rfl rfl rfl) rfl (OW.slot (ptr (some b19) 2) rfl (OW.want rfl (OW.rv (RV.loadAo rfl (List.Mem.tail _ (List.Mem.head _)) rfl rfl rfl rfl (RcptC.C_root_all (⟨a0.kind, (a0.rooted), a0.root, a0.status, a0.used, a0.bloom, .slice A2 a0.logs.length c3⟩ : RcptC)) ((u8s_length _).trans Vector.length_toList)) rfl (OW.want rfl (OW.rv (RV.field rfl rfl rfl rfl) rfl ?_)))))))
    refine OW.slot (ptr (some b20) 2) rfl (OW.want rfl (OW.rv (RV.loadAo rfl (List.Mem.head _) rfl rfl rfl rfl (RcptC.C_root_all (⟨a1.kind, (a1.rooted), a1.root, a1.status, a1.used, a1.bloom, .slice A11 a1.logs.length c12⟩ : RcptC)) ((u8s_length _).trans Vector.length_toList)) rfl (OW.want rfl (OW.rv (RV.neA8 rfl rfl rfl rfl rfl rfl (Vector.length_toList) (Vector.length_toList)) rfl (OW.slot (.bool (!decide (a0.root = a1.root))) (congrArg (fun b => Value.bool (!b)) (decide_eq_decide.2 Vector.toList_inj)) (OW.rv (RV.pick_f rfl rfl rfl) rfl (OW.rv (RV.move rfl) rfl ?_)))))))
    by_cases h45 : a0.root = a1.root
    ·replace hq22 := if_t hq22 h45
     refine OW.slot (.bool false) (congrArg Value.bool (congrArg (fun b => !b) (decide_eq_true h45))) (OW.want rfl (OW.rv (RV.field rfl rfl rfl rfl) rfl (OW.slot (ptr (some b19) 34) rfl (OW.want rfl (OW.rv (RV.load rfl (List.Mem.tail _ (List.Mem.head _)) rfl rfl rfl (RcptC.C_status (⟨a0.kind, (a0.rooted), a0.root, a0.status, a0.used, a0.bloom, .slice A2 a0.logs.length c3⟩ : RcptC))) rfl (OW.want rfl (OW.rv (RV.field rfl rfl rfl rfl) rfl ?_)))))))
     refine OW.slot (ptr (some b20) 34) rfl (OW.want rfl (OW.rv (RV.load rfl (List.Mem.head _) rfl rfl rfl (RcptC.C_status (⟨a1.kind, (a1.rooted), a1.root, a1.status, a1.used, a1.bloom, .slice A11 a1.logs.length c12⟩ : RcptC))) rfl (OW.want rfl (OW.rv (RV.neq64 rfl (by first | rfl | exact lit64 _ rfl) rfl (by first | rfl | exact lit64 _ rfl)) rfl (OW.rv (RV.pick_f rfl rfl rfl) rfl (OW.rv (RV.move rfl) rfl ?_))))))
     by_cases h46 : a0.status = a1.status
     ·replace hq22 := if_t hq22 h46
      refine OW.slot (.bool false) (congrArg Value.bool (congrArg (fun b => !b) (decide_eq_true h46))) (OW.want rfl (OW.rv (RV.field rfl rfl rfl rfl) rfl (OW.slot (ptr (some b19) 35) rfl (OW.want rfl (OW.rv (RV.load rfl (List.Mem.tail _ (List.Mem.head _)) rfl rfl rfl (RcptC.C_used (⟨a0.kind, (a0.rooted), a0.root, a0.status, a0.used, a0.bloom, .slice A2 a0.logs.length c3⟩ : RcptC))) rfl (OW.want rfl (OW.rv (RV.field rfl rfl rfl rfl) rfl ?_)))))))
      refine OW.slot (ptr (some b20) 35) rfl (OW.want rfl (OW.rv (RV.load rfl (List.Mem.head _) rfl rfl rfl (RcptC.C_used (⟨a1.kind, (a1.rooted), a1.root, a1.status, a1.used, a1.bloom, .slice A11 a1.logs.length c12⟩ : RcptC))) rfl (OW.want rfl (OW.rv (RV.neq64 rfl (by first | rfl | exact lit64 _ rfl) rfl (by first | rfl | exact lit64 _ rfl)) rfl (OW.rv (RV.pick_f rfl rfl rfl) rfl (OW.nil ?_))))))
      exact QW.join ⟨(!decide (a0.used = a1.used)), (Option.some.inj hq22).symm, rfl, rfl⟩ ⟨rfl, rfl, rfl, trivial⟩ (fun w m => m.pick [0, 1] 2 rfl rfl)
     ·replace hq22 := if_f hq22 h46
      refine OW.slot (.bool true) (congrArg Value.bool (congrArg (fun b => !b) (decide_eq_false h46))) (OW.skip rfl rfl rfl (OW.skip rfl rfl rfl (OW.skip rfl rfl rfl (OW.skip rfl rfl rfl (OW.skip rfl rfl rfl (OW.rv (RV.pick_t rfl rfl rfl) rfl (OW.nil ?_)))))))
      exact QW.join ⟨true, (Option.some.inj hq22).symm, rfl, rfl⟩ ⟨rfl, rfl, rfl, trivial⟩ (fun w m => m.pick [0, 1] 2 rfl rfl)
    ·replace hq22 := if_f hq22 h45
     refine OW.slot (.bool true) (congrArg Value.bool (congrArg (fun b => !b) (decide_eq_false h45))) (OW.skip rfl rfl rfl (OW.skip rfl rfl rfl (OW.skip rfl rfl rfl (OW.skip rfl rfl rfl (OW.skip rfl rfl rfl (OW.rv (RV.pick_t rfl rfl rfl) rfl (OW.rv (RV.move rfl) rfl ?_)))))))
     refine OW.skip rfl rfl rfl (OW.skip rfl rfl rfl (OW.skip rfl rfl rfl (OW.skip rfl rfl rfl (OW.skip rfl rfl rfl (OW.rv (RV.pick_t rfl rfl rfl) rfl (OW.nil ?_))))))
     exact QW.join ⟨true, (Option.some.inj hq22).symm, rfl, rfl⟩ ⟨rfl, rfl, rfl, trivial⟩ (fun w m => m.pick [0, 1] 2 rfl rfl)
   ·replace hq22 := if_f hq22 h44
    refine OW.slot (.bool true) (congrArg Value.bool (congrArg (fun b => !b) (decide_eq_false h44))) (OW.skip rfl rfl rfl (OW.skip rfl rfl rfl (OW.skip rfl rfl rfl (OW.skip rfl rfl rfl (OW.skip rfl rfl rfl (OW.rv (RV.pick_t rfl rfl rfl) rfl (OW.rv (RV.move rfl) rfl ?_)))))))
    refine OW.skip rfl rfl rfl (OW.skip rfl rfl rfl (OW.skip rfl rfl rfl (OW.skip rfl rfl rfl (OW.skip rfl rfl rfl (OW.rv (RV.pick_t rfl rfl rfl) rfl (OW.rv (RV.move rfl) rfl (OW.skip rfl rfl rfl ?_)))))))
    refine OW.skip rfl rfl rfl (OW.skip rfl rfl rfl (OW.skip rfl rfl rfl (OW.skip rfl rfl rfl (OW.rv (RV.pick_t rfl rfl rfl) rfl (OW.nil ?_)))))
    exact QW.join ⟨true, (Option.some.inj hq22).symm, rfl, rfl⟩ ⟨rfl, rfl, rfl, trivial⟩ (fun w m => m.pick [0, 1] 2 rfl rfl)
  ·replace hq22 := if_f hq22 h43
   refine OW.slot (.bool true) (congrArg Value.bool (congrArg (fun b => !b) (decide_eq_false h43))) (OW.skip rfl rfl rfl (OW.skip rfl rfl rfl (OW.skip rfl rfl rfl (OW.skip rfl rfl rfl (OW.skip rfl rfl rfl (OW.rv (RV.pick_t rfl rfl rfl) rfl (OW.rv (RV.move rfl) rfl ?_)))))))
   refine OW.skip rfl rfl rfl (OW.skip rfl rfl rfl (OW.skip rfl rfl rfl (OW.skip rfl rfl rfl (OW.skip rfl rfl rfl (OW.rv (RV.pick_t rfl rfl rfl) rfl (OW.rv (RV.move rfl) rfl (OW.skip rfl rfl rfl ?_)))))))
   refine OW.skip rfl rfl rfl (OW.skip rfl rfl rfl (OW.skip rfl rfl rfl (OW.skip rfl rfl rfl (OW.rv (RV.pick_t rfl rfl rfl) rfl (OW.rv (RV.move rfl) rfl (OW.skip rfl rfl rfl (OW.skip rfl rfl rfl ?_)))))))
   refine OW.skip rfl rfl rfl (OW.skip rfl rfl rfl (OW.skip rfl rfl rfl (OW.rv (RV.pick_t rfl rfl rfl) rfl (OW.nil ?_))))
   exact QW.join ⟨true, (Option.some.inj hq22).symm, rfl, rfl⟩ ⟨rfl, rfl, rfl, trivial⟩ (fun w m => m.pick [0, 1] 2 rfl rfl)
theorem waybillref17_text_does (w0 : World) (Φ : Ctx) (N : List Ent) (hΦ : ∀ w, Mem w0 w N → Φ w) (A0_ : Option Addr) (c0_ : Nat) (a0 : List (BitVec 8)) (res0 : It) (va0 : View Φ A0_ a0.length c0_ 1 (u8s a0)) (hf : waybillref17_text a0 = some res0) : DoesG Tryd.prog 52 [.slice A0_ a0.length c0_] w0 [] N (fun v G => ∃ B : List Ent, ∃ cr0 : List Value, (ItRd (More w0 Φ B) cr0 res0) ∧ v = .agg cr0.toArray ∧ G = B) := by
 unfold waybillref17_text at hf
 replace va0 := va0.mono (Ψ := More w0 Φ []) (fun w q => q.1)
 have m1 := va0.mx
 refine DoesG.enter Tryd.func52 rfl Tryd.ntmps52 rfl (M := (([] ++ N))) rfl (CW.seq (CW.region (OW.alloc (l := [.bool false, .slice none 0 0, .slice none 0 0]) rfl rfl rfl (fun b2 => (OW.nil (QW.then_n (CW.seq (CW.region (OW.rv (RV.assign rfl) rfl (OW.nil (QW.then_n (CW.seq (CW.region (OW.rv (RV.move rfl) rfl (OW.rv (RV.move rfl) rfl ?_)))))))))))))))
 refine OW.mem (M' := ((none, blk ((u8s ([] : List (BitVec 8))) ++ []) 5) :: (some b2, blk [.bool false, .slice none 0 0, .slice none 0 0] 89) :: ([] ++ N))) (fun w m => m.nil_ent _) (OW.appendOwn (s := 1) rfl rfl rfl rfl rfl rfl OwnS.nil (fun w m => va0.rd w (More.of hΦ 2 m rfl)) va0.n (u8s_one _) (va0.zero (by decide)) (by decide) (by decide) (by first | omega | (simp only [i5, List.length_nil]; omega)) rfl rfl (a0.length) (u8s a0) (Nat.zero_add _) rfl (fun ob3 r4 c5 o6 => ?_))
 have m7 := o6.mx
 refine OW.rv (RV.assign rfl) rfl (OW.nil (QW.then_n (CW.seq (CW.region (OW.rv (RV.move rfl) rfl (OW.rv (RV.buildSt (l := [.bool false, .slice none 0 0, .slice none 0 0]) (cs := [.bool false, sl ob3 0 a0.length c5, .slice none 0 0]) [(1, [sl ob3 0 a0.length c5])] rfl rfl rfl rfl rfl rfl rfl) rfl (OW.rot1 ?_)))))))
 refine OW.sv (SV.storeW rfl rfl rfl (by intro u hu; simp at hu; rcases hu with rfl | rfl | rfl <;> rfl) rfl rfl rfl) ?_
 refine OW.nil (QW.then_n (CW.ret (QW.mem (M' := (some b2, blk [.bool false, sl ob3 0 a0.length c5, .slice none 0 0] 89) :: (((ob3, blk ((u8s a0) ++ r4) 5) :: []) ++ N)) (fun w m => m.pick [0, 1] 2 rfl rfl) ?_)))
 have gq1 : ∀ w, More w0 Φ ((ob3, blk ((u8s a0) ++ r4) 5) :: []) w → More w0 Φ [] w := fun w q => More.mono (fun w m => (m).tail) q
 replace va0 := va0.mono gq1
 have v8 : View (More w0 Φ ((ob3, blk ((u8s a0) ++ r4) 5) :: [])) ((ob3).map fun k => ⟨k, 0, none⟩) a0.length c5 1 (u8s a0) := o6.view (by decide) (fun w q => q.2.sublist (List.singleton_sublist.2 (List.mem_cons_self ..)))
 have e0 := Option.some.inj hf
 subst e0
 have v9 : View (More w0 Φ ((ob3, blk ((u8s a0) ++ r4) 5) :: [])) none ([] : List (It)).length 0 3 [] := View.nil
 refine QW.retG (rs := [.cell 2 89]) ([.agg [.bool false, .slice ((ob3).map fun k => ⟨k, 0, none⟩) a0.length c5, .slice none 0 0].toArray]) (((ob3, blk ((u8s a0) ++ r4) 5) :: [])) rfl ?_ rfl ?_ ?_ _ (.inl rfl)
 ·exact ⟨⟨_, _, _, _, rfl, (List.Mem.head _), rfl, rfl, rfl, rfl⟩, trivial⟩
 ·exact ⟨((ob3, blk ((u8s a0) ++ r4) 5) :: []), [.bool false, .slice ((ob3).map fun k => ⟨k, 0, none⟩) a0.length c5, .slice none 0 0], (ItRd.mk v8 v9 (Reps.nil)), rfl, rfl⟩
 ·exact (fun w m => m.pick [] 1 rfl rfl)
end Go.Fw.Tryd
