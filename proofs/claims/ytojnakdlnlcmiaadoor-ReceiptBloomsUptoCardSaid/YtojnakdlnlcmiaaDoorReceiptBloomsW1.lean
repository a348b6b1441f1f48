/- Part of a proof: rules that its law uses. -/
import Derived.Test.YtojnakdlnlcmiaaDoorTy
import Derived.Test.YtojnakdlnlcmiaaDoorExt
import Derived.Test.YtojnakdlnlcmiaaDoorKecW0
import Derived.Test.YtojnakdlnlcmiaaDoorBloP2
import Derived.Test.YtojnakdlnlcmiaaDoorKecP2
import Derived.Test.YtojnakdlnlcmiaaDoorRecP4
namespace Go.Fw.Tryd
open Go Go.Proofs Go.Fw
set_option maxRecDepth 100000
set_option linter.unusedVariables false
set_option linter.unusedSimpArgs false
set_option maxHeartbeats 1000000
theorem keccak_Sponge_absorb_does (w0 : World) (Φ : Ctx) (N : List Ent) (hΦ : ∀ w, Mem w0 w N → Φ w) (b0_ : Nat) (a0 : Sponge) (new0 : Sponge) (hf : keccak_Sponge_absorb a0 = some new0) : DoesG Tryd.prog 142 [ptr (some b0_) 0] w0 [(some b0_, blk a0.C 186)] N (fun v G => ∃ B : List Ent, v = .tuple #[] ∧ G = (some b0_, blk new0.C 186) :: B) := by
 unfold keccak_Sponge_absorb at hf
 refine DoesG.enter Tryd.func142 rfl Tryd.ntmps142 rfl (M := ((some b0_, blk a0.C 186) :: ([] ++ N))) rfl ?_
 refine CW.seq (CW.seq (CW.region ?_))
 refine OW.rv (RV.move rfl) rfl ?_
 refine OW.rv (RV.nilCheck rfl) rfl ?_
 refine OW.rv (RV.field rfl rfl rfl rfl) rfl ?_
 refine OW.slot (ptr (some b0_) 26) rfl ?_
 refine OW.rv (RV.loadAo rfl (List.Mem.head _) rfl rfl rfl rfl (Sponge.C_part_all _) ((u8s_length _).trans Vector.length_toList)) rfl ?_
 refine OW.rv (RV.move rfl) rfl ?_
 refine OW.nil (QW.then_n ?_)
 obtain ⟨q1, hq2, hf⟩ := some_bind hf
 refine CW.cutJ (fun L' M' => ∃ w3 : Sponge, q1 = w3 ∧ L' = [(0, ptr (some b0_) 0)] ∧ M' = ((some b0_, blk w3.C 186) :: ([] ++ N))) ?_ ?_
 ·rintro L5 M6 ⟨w3, e4, e7, e8⟩
  rw [e7, e8]
  clear e7 e8 L5 M6
  clear hq2
  rw [e4] at hf
  clear e4
  try dsimp only at hf
  refine QW.then_n (CW.seq (CW.region ?_))
  refine OW.rv (RV.move rfl) rfl ?_
  refine OW.rv (RV.move rfl) rfl ?_
  refine OW.rv (RV.nilCheck rfl) rfl ?_
  refine OW.rv (RV.field rfl rfl rfl rfl) rfl ?_
  refine OW.slot (ptr (some b0_) 1) rfl ?_
  refine OW.rv (RV.loadAo rfl (List.Mem.head _) rfl rfl rfl rfl (Sponge.C_lanes_all _) ((u64s_length _).trans Vector.length_toList)) rfl ?_
  obtain ⟨x10, hx9, hf⟩ := some_bind hf
  refine OW.callG Tryd.call149 rfl (keccak_Permute_does w0 (More w0 Φ []) ((some b0_, blk w3.C 186) :: ([] ++ N)) (fun w m => More.of hΦ 1 m rfl) w3.lanes x10 hx9) rfl rfl ?_
  rintro _ G11 rfl
  refine OW.mem (M' := ((some b0_, blk w3.C 186) :: ([] ++ N))) (fun w m => m.appR) ?_
  refine OW.rv (RV.nilCheck rfl) rfl ?_
  refine OW.rv (RV.field rfl rfl rfl rfl) rfl ?_
  refine OW.slot (ptr (some b0_) 1) rfl ?_
  refine OW.sv (SV.storeAs rfl rfl rfl (u64s_one _) rfl ((u64s_length _).trans Vector.length_toList) (by rw [Sponge.C_length]; first | omega | decide)) ?_
  refine OW.cells ({ w3 with lanes := x10 } : Sponge).C (Sponge.C_lanes_spl _ _) ?_
  refine OW.nil (QW.then_n (CW.region ?_))
  refine OW.rv (RV.move rfl) rfl ?_
  refine OW.rv (RV.nilCheck rfl) rfl ?_
  refine OW.rv (RV.field rfl rfl rfl rfl) rfl ?_
  refine OW.slot (ptr (some b0_) 162) rfl ?_
  refine OW.sv (SV.store rfl rfl rfl rfl rfl (by rw [Sponge.C_length]; omega)) ?_
  refine OW.cells ({ ({ w3 with lanes := x10 } : Sponge) with held := (0 : Int) } : Sponge).C (Sponge.C_held_set _ _) ?_
  refine OW.nil ?_
  have e0 := Option.some.inj hf
  subst e0
  refine QW.retG (rs := []) ([]) ((some b0_, blk ({ ({ w3 with lanes := x10 } : Sponge) with held := (0 : Int) } : Sponge).C 186) :: []) rfl ?_ rfl ?_ ?_ _ (.inr rfl)
  ·exact trivial
  ·exact ⟨[], rfl, rfl⟩
  ·exact (fun w m => m.pick [0] 1 rfl rfl)
 ·skip
  refine CW.block ?_
  refine CW.loopJ (fun k L' M' => ∃ n13 : Nat, ∃ w15 : Sponge, (keccak_Sponge_absorb.l1 a0 k n13 w15) = some q1 ∧ (n13 ≤ 9223372036854775807) ∧ L' = [(0, ptr (some b0_) 0), (7, .agg (u8s a0.part.toList).toArray), (8, .int .i64 ((n13 : Nat) : Int))] ∧ M' = ((some b0_, blk w15.C 186) :: ([] ++ N))) (k0 := (136 - 0 + 2)) ⟨0, a0, hq2, (by omega), rfl, rfl⟩ ⟨rfl, rfl, rfl, trivial⟩ (fun w m => m.pick [0] 1 rfl rfl) ?_
  clear hq2
  rintro k16 L19 M20 ⟨n13, w15, hl17, b14, e21, e22⟩
  rw [e21, e22]
  clear e21 e22 L19 M20
  rcases k16 with _ | k16
  ·rw [keccak_Sponge_absorb.l1] at hl17; cases hl17
  rw [keccak_Sponge_absorb.l1] at hl17
  refine CW.seq (CW.region ?_)
  refine OW.rv (RV.lss rfl rfl) rfl ?_
  refine OW.slot (.bool (decide (n13 < 136))) (congrArg Value.bool (decide_eq_decide.2 (by omega))) ?_
  refine OW.nil (QW.then_n (CW.seq ?_))
  by_cases h23 : n13 < 136
  ·replace hl17 := if_t hl17 h23
   refine CW.is_t rfl (decide_eq_true h23) ?_
   refine CW.skip (QW.then_n (CW.seq (CW.block (CW.seq (CW.region ?_)))))
   refine OW.rv (RV.move rfl) rfl ?_
   obtain ⟨x24, hx25, hl17⟩ := some_bind hl17
   have hl26 := (Vector.getElem?_eq_some_iff.1 hx25).1
   refine OW.rv (RV.indexV (n13) rfl rfl rfl rfl rfl rfl rfl (by omega) (u8s_at (vat hx25))) rfl ?_
   refine OW.rv (RV.assign rfl) rfl ?_
   refine OW.rv (RV.assign rfl) rfl ?_
   refine OW.nil (QW.then_n ?_)
   refine CW.drawsX (([] ++ N)) [17] (fun w m => m.pick [] 1 rfl rfl) mixed (by kernel_rfl) ?_
   refine XW.rs 0 rfl (by kernel_rfl) rfl (RV.move rfl) rfl ?_
   refine XW.rs 1 rfl (by kernel_rfl) rfl (RV.move rfl) rfl ?_
   refine XW.rs 2 rfl (by kernel_rfl) rfl (RV.quo rfl rfl (by omega) (by omega) (by omega)) rfl ?_
   refine XW.slot (.int .i64 ((n13 / 8 : Nat) : Int)) (by first | rfl | (congr 1; omega)) ?_
   refine XW.rs 3 rfl (by kernel_rfl) rfl (RV.nilCheck rfl) rfl ?_
   refine XW.rs 4 rfl (by kernel_rfl) rfl (RV.field rfl rfl rfl rfl) rfl ?_
   refine XW.slot (ptr (some b0_) 1) rfl ?_
   obtain ⟨g27, hl17⟩ := some_if hl17
   refine XW.rs 5 rfl (by kernel_rfl) rfl (RV.idx_a ((n13 / 8)) rfl rfl rfl rfl rfl (by omega)) rfl ?_
   obtain ⟨x28, hx29, hl17⟩ := some_bind hl17
   refine XW.rv 6 rfl (by kernel_rfl) rfl (by kernel_rfl) (RV.load rfl (List.Mem.head _) rfl rfl rfl (Sponge.C_lanes _ hx29)) rfl ?_
   refine XW.rs 7 rfl (by kernel_rfl) rfl (RV.move rfl) rfl ?_
   refine XW.rs 8 rfl (by kernel_rfl) rfl (RV.conv8_64 rfl (by first | rfl | exact lit8 _ rfl) rfl rfl) rfl ?_
   refine XW.rs 9 rfl (by kernel_rfl) rfl (RV.move rfl) rfl ?_
   refine XW.rs 10 rfl (by kernel_rfl) rfl (RV.rem rfl rfl (by omega) (by omega)) rfl ?_
   refine XW.slot (.int .i64 ((n13 % 8 : Nat) : Int)) (by first | rfl | (congr 1; omega)) ?_
   refine XW.rs 11 rfl (by kernel_rfl) rfl (RV.mul rfl rfl (by omega)) rfl ?_
   refine XW.slot (.int .i64 (((8 * (n13 % 8)) : Nat) : Int)) (by first | rfl | (congr 1) | (congr 1; omega)) ?_
   refine XW.rs 12 rfl (by kernel_rfl) rfl (RV.shl64 (s := (8 * (n13 % 8))) rfl (by first | rfl | exact lit64 _ rfl) rfl (by first | rfl | (congr 1))) rfl ?_
   refine XW.rs 13 rfl (by kernel_rfl) rfl (RV.xor64 rfl (by first | rfl | exact lit64 _ rfl) rfl (by first | rfl | exact lit64 _ rfl)) rfl ?_
   refine XW.rs 14 rfl (by kernel_rfl) rfl (RV.nilCheck rfl) rfl ?_
   refine XW.rs 15 rfl (by kernel_rfl) rfl (RV.field rfl rfl rfl rfl) rfl ?_
   refine XW.slot (ptr (some b0_) 1) rfl ?_
   refine XW.rs 16 rfl (by kernel_rfl) rfl (RV.idx_a ((n13 / 8)) rfl rfl rfl rfl rfl (by omega)) rfl ?_
   refine XW.sv 17 rfl (by kernel_rfl) (SV.store rfl rfl rfl rfl rfl (by rw [Sponge.C_length]; omega)) (fun w m => m.pick [] 1 rfl rfl) ?_
   refine XW.cells ({ w15 with lanes := w15.lanes.setIfInBounds (n13 / 8) (x28 ^^^ ((x24.setWidth 64) <<< (8 * (n13 % 8)))) } : Sponge).C (Sponge.C_lanes_set _ (by omega) _) ?_
   refine XW.nil (by kernel_rfl) ?_
   refine QW.block_n (QW.then_n (CW.region ?_))
   refine OW.rv (RV.add rfl rfl (by omega)) rfl ?_
   refine OW.slot (.int .i64 (((n13 + 1) : Nat) : Int)) (by first | rfl | (congr 1) | (congr 1; omega)) ?_
   refine OW.rv (RV.move rfl) rfl ?_
   refine OW.nil ?_
   exact QW.againJ (k' := k16) (Nat.lt_succ_self _) ⟨(n13 + 1), ({ w15 with lanes := w15.lanes.setIfInBounds (n13 / 8) (x28 ^^^ ((x24.setWidth 64) <<< (8 * (n13 % 8)))) } : Sponge), hl17, (by omega), rfl, rfl⟩ ⟨rfl, rfl, rfl, trivial⟩ (fun w m => m.pick [0] 1 rfl rfl)
  ·replace hl17 := if_f hl17 h23
   refine CW.is_f rfl (decide_eq_false h23) ?_
   refine CW.exit (QW.then_x (QW.then_x (QW.block_xe ?_)))
   exact QW.join ⟨w15, (Option.some.inj hl17).symm, rfl, rfl⟩ ⟨rfl, trivial⟩ (fun w m => m.pick [0] 1 rfl rfl)
theorem keccak_Sponge_Write_does (w0 : World) (Φ : Ctx) (N : List Ent) (hΦ : ∀ w, Mem w0 w N → Φ w) (b0_ : Nat) (a0 : Sponge) (A1_ : Option Addr) (c1_ : Nat) (a1 : List (BitVec 8)) (new0 : Sponge) (va1 : View Φ A1_ a1.length c1_ 1 (u8s a1)) (hf : keccak_Sponge_Write a0 a1 = some new0) : DoesG Tryd.prog 129 [ptr (some b0_) 0, .slice A1_ a1.length c1_] w0 [(some b0_, blk a0.C 186)] N (fun v G => ∃ B : List Ent, v = .tuple #[] ∧ G = (some b0_, blk new0.C 186) :: B) := by
 unfold keccak_Sponge_Write at hf
 replace va1 := va1.mono (Ψ := More w0 Φ []) (fun w q => q.1)
 have m1 := va1.mx
 refine DoesG.enter Tryd.func129 rfl Tryd.ntmps129 rfl (M := ((some b0_, blk a0.C 186) :: ([] ++ N))) rfl ?_
 refine CW.seq (CW.seq (CW.region ?_))
 refine OW.rv (RV.move rfl) rfl ?_
 refine OW.rv (RV.eqlS rfl rfl rfl) rfl ?_
 refine OW.nil (QW.then_n ?_)
 refine CW.is_f rfl rfl ?_
 refine CW.skip (QW.then_n (CW.seq (CW.region ?_)))
 refine OW.rv (RV.move rfl) rfl ?_
 refine OW.rv (RV.nilCheck rfl) rfl ?_
 refine OW.rv (RV.field rfl rfl rfl rfl) rfl ?_
 refine OW.slot (ptr (some b0_) 163) rfl ?_
 refine OW.rv (RV.load rfl (List.Mem.head _) rfl rfl rfl (Sponge.C_long _)) rfl ?_
 refine OW.rv (RV.move rfl) rfl ?_
 refine OW.rv (RV.len rfl rfl) rfl ?_
 obtain ⟨g2, hf⟩ := some_if hf
 refine OW.rv (RV.add rfl rfl (by omega)) rfl ?_
 refine OW.rv (RV.nilCheck rfl) rfl ?_
 refine OW.rv (RV.field rfl rfl rfl rfl) rfl ?_
 refine OW.slot (ptr (some b0_) 163) rfl ?_
 refine OW.sv (SV.store rfl rfl rfl rfl rfl (by rw [Sponge.C_length]; omega)) ?_
 refine OW.cells ({ a0 with long := (a0.long + ((a1.length : Nat) : Int)) } : Sponge).C (Sponge.C_long_set _ _) ?_
 refine OW.nil (QW.then_n ?_)
 obtain ⟨q3, hq4, hf⟩ := some_bind hf
 refine CW.cutJ (fun L' M' => ∃ w7 : Sponge, ∃ B5 : List Ent, q3 = w7 ∧ (∀ w, Mem w0 w B5 → Mem w0 w []) ∧ L' = [] ∧ M' = ((some b0_, blk w7.C 186) :: (B5 ++ N))) ?_ ?_
 ·rintro L9 M10 ⟨w7, B5, e8, hB6, e11, e12⟩
  rw [e11, e12]
  clear e11 e12 L9 M10
  clear hq4
  rw [e8] at hf
  clear e8
  try dsimp only at hf
  have e0 := Option.some.inj hf
  subst e0
  refine QW.retG (rs := []) ([]) ((some b0_, blk w7.C 186) :: B5) rfl ?_ rfl ?_ ?_ _ (.inr rfl)
  ·exact trivial
  ·exact ⟨B5, rfl, rfl⟩
  ·exact (fun w m => m.pick [0] 1 rfl rfl)
 ·skip
  refine CW.block ?_
  refine CW.loopJ (fun k L' M' => ∃ l15 : List (BitVec 8), ∃ w19 : Sponge, ∃ B13 : List Ent, ∃ A16 : Option Addr, ∃ c17 : Nat, (keccak_Sponge_Write.l1 k l15 w19) = some q3 ∧ (∀ w, Mem w0 w B13 → Mem w0 w []) ∧ (View (More w0 Φ B13) A16 l15.length c17 1 (u8s l15)) ∧ L' = [(0, ptr (some b0_) 0), (1, .slice A16 l15.length c17)] ∧ M' = ((some b0_, blk w19.C 186) :: (B13 ++ N))) (k0 := (a1.length - 0 + 2)) ⟨a1, ({ a0 with long := (a0.long + ((a1.length : Nat) : Int)) } : Sponge), [], A1_, c1_, hq4, (fun w m => m), va1, rfl, rfl⟩ ⟨rfl, rfl, trivial⟩ (fun w m => m.pick [0] 1 rfl rfl) ?_
  clear hq4
  rintro k20 L23 M24 ⟨l15, w19, B13, A16, c17, hl21, hB14, v18, e25, e26⟩
  rw [e25, e26]
  clear e25 e26 L23 M24
  rcases k20 with _ | k20
  ·rw [keccak_Sponge_Write.l1] at hl21; cases hl21
  rw [keccak_Sponge_Write.l1] at hl21
  have m27 := v18.mx
  refine CW.seq (CW.seq (CW.region ?_))
  refine OW.rv (RV.move rfl) rfl ?_
  refine OW.rv (RV.len rfl rfl) rfl ?_
  refine OW.rv (RV.gtr rfl rfl) rfl ?_
  refine OW.slot (.bool (decide (0 < l15.length))) (congrArg Value.bool (decide_eq_decide.2 (by omega))) ?_
  refine OW.nil (QW.then_n ?_)
  by_cases h28 : 0 < l15.length
  ·replace hl21 := if_t hl21 h28
   refine CW.is_t rfl (decide_eq_true h28) ?_
   refine CW.skip (QW.then_n (CW.block (CW.seq ?_)))
   refine CW.drawsU 9 mixed (by kernel_rfl) rfl ?_
   refine UW.rv 0 rfl (by kernel_rfl) rfl (RV.move rfl) rfl ?_
   refine UW.rv 1 rfl (by kernel_rfl) rfl (RV.nilCheck rfl) rfl ?_
   refine UW.rv 2 rfl (by kernel_rfl) rfl (RV.field rfl rfl rfl rfl) rfl ?_
   refine UW.slot (ptr (some b0_) 26) rfl ?_
   refine UW.rv 3 rfl (by kernel_rfl) rfl (RV.move rfl) rfl ?_
   refine UW.rv 4 rfl (by kernel_rfl) rfl (RV.nilCheck rfl) rfl ?_
   refine UW.rv 5 rfl (by kernel_rfl) rfl (RV.field rfl rfl rfl rfl) rfl ?_
   refine UW.slot (ptr (some b0_) 162) rfl ?_
   refine UW.rv 6 rfl (by kernel_rfl) rfl (RV.load rfl (List.Mem.head _) rfl rfl rfl (Sponge.C_held _)) rfl ?_
   obtain ⟨g29, hl21⟩ := some_if hl21
   obtain ⟨g30, hl21⟩ := some_if hl21
   refine UW.rv 7 rfl (by kernel_rfl) rfl (RV.arr_loS ((w19.held).toNat) rfl rfl (by omega) rfl rfl (by omega)) rfl ?_
   refine UW.rv 8 rfl (by kernel_rfl) rfl (RV.move rfl) rfl ?_
   refine UW.nil (by kernel_rfl) ?_
   refine OW.copy (ob := some b0_) (off := 26 + ((w19.held).toNat)) rfl rfl rfl rfl (fun h => nomatch h) (by rw [Sponge.C_length]; omega) (fun w m => v18.rd w (More.of hΦ 1 m rfl)) (u8s_length _) (u8s_one _) (v18.zero (by decide)) rfl ?_
   refine OW.cells ({ w19 with part := cpV w19.part ((w19.held).toNat) (l15.take (min l15.length (136 - ((w19.held).toNat)))) } : Sponge).C (by rw [u8s_take]; exact Sponge.C_part_cpy _ (by rw [List.length_take]; omega)) ?_
   refine OW.rv (RV.assign rfl) rfl ?_
   refine OW.nil (QW.then_n (CW.seq (CW.region ?_)))
   refine OW.rv (RV.move rfl) rfl ?_
   refine OW.rv (RV.move rfl) rfl ?_
   obtain ⟨g32, hl21⟩ := some_if hl21
   refine OW.rv (RV.cut_lo (s := 1) ((min l15.length (136 - ((w19.held).toNat)))) rfl rfl (by omega) rfl rfl (by omega)) rfl ?_
   refine OW.slot (.slice (subA A16 c17 (min l15.length (136 - ((w19.held).toNat))) 1) (l15.drop (min l15.length (136 - ((w19.held).toNat)))).length (c17 - (min l15.length (136 - ((w19.held).toNat))))) (by rw [show ((l15.drop (min l15.length (136 - ((w19.held).toNat))))).length = (l15).length - ((min l15.length (136 - ((w19.held).toNat)))) from List.length_drop]) ?_
   have v31 : View (More w0 Φ B13) (subA A16 c17 (min l15.length (136 - ((w19.held).toNat))) 1) (l15.drop (min l15.length (136 - ((w19.held).toNat)))).length (c17 - (min l15.length (136 - ((w19.held).toNat)))) 1 (u8s (l15.drop (min l15.length (136 - ((w19.held).toNat))))) := v18.lo8 (by omega)
   have m33 := v31.mx
   refine OW.rv (RV.assign rfl) rfl ?_
   refine OW.nil (QW.then_n (CW.seq (CW.region ?_)))
   refine OW.rv (RV.move rfl) rfl ?_
   refine OW.rv (RV.nilCheck rfl) rfl ?_
   refine OW.rv (RV.field rfl rfl rfl rfl) rfl ?_
   refine OW.slot (ptr (some b0_) 162) rfl ?_
   refine OW.rv (RV.load rfl (List.Mem.head _) rfl rfl rfl (Sponge.C_held _)) rfl ?_
   refine OW.rv (RV.move rfl) rfl ?_
   obtain ⟨g34, hl21⟩ := some_if hl21
   refine OW.rv (RV.add rfl rfl (by omega)) rfl ?_
   refine OW.rv (RV.nilCheck rfl) rfl ?_
   refine OW.rv (RV.field rfl rfl rfl rfl) rfl ?_
   refine OW.slot (ptr (some b0_) 162) rfl ?_
   refine OW.sv (SV.store rfl rfl rfl rfl rfl (by rw [Sponge.C_length]; omega)) ?_
   refine OW.cells ({ ({ w19 with part := cpV w19.part ((w19.held).toNat) (l15.take (min l15.length (136 - ((w19.held).toNat)))) } : Sponge) with held := (({ w19 with part := cpV w19.part ((w19.held).toNat) (l15.take (min l15.length (136 - ((w19.held).toNat)))) } : Sponge).held + (((min l15.length (136 - ((w19.held).toNat))) : Nat) : Int)) } : Sponge).C (Sponge.C_held_set _ _) ?_
   refine OW.nil (QW.then_n (CW.seq (CW.region ?_)))
   refine OW.rv (RV.move rfl) rfl ?_
   refine OW.rv (RV.nilCheck rfl) rfl ?_
   refine OW.rv (RV.field rfl rfl rfl rfl) rfl ?_
   refine OW.slot (ptr (some b0_) 162) rfl ?_
   refine OW.rv (RV.load rfl (List.Mem.head _) rfl rfl rfl (Sponge.C_held _)) rfl ?_
   refine OW.rv (RV.eql rfl rfl) rfl ?_
   refine OW.nil (QW.then_n ?_)
   obtain ⟨q35, hq36, hl21⟩ := some_bind hl21
   refine CW.cutJ (fun L' M' => ∃ w39 : Sponge, ∃ B37 : List Ent, q35 = w39 ∧ (∀ w, Mem w0 w B37 → Mem w0 w B13) ∧ L' = [(0, ptr (some b0_) 0), (1, .slice (subA A16 c17 (min l15.length (136 - ((w19.held).toNat))) 1) (l15.drop (min l15.length (136 - ((w19.held).toNat)))).length (c17 - (min l15.length (136 - ((w19.held).toNat)))))] ∧ M' = ((some b0_, blk w39.C 186) :: (B37 ++ N))) ?_ ?_
   ·rintro L41 M42 ⟨w39, B37, e40, hB38, e43, e44⟩
    rw [e43, e44]
    clear e43 e44 L41 M42
    clear hq36
    rw [e40] at hl21
    clear e40
    try dsimp only at hl21
    have gq3 : ∀ w, More w0 Φ B37 w → More w0 Φ B13 w := fun w q => More.mono (fun w m => hB38 w (m)) q
    replace v31 := v31.mono gq3
    refine QW.block_n ?_
    exact QW.againJ (k' := k20) (Nat.lt_succ_self _) ⟨(l15.drop (min l15.length (136 - ((w19.held).toNat)))), w39, B37, (subA A16 c17 (min l15.length (136 - ((w19.held).toNat))) 1), (c17 - (min l15.length (136 - ((w19.held).toNat)))), hl21, (fun w m => hB14 w (hB38 w (m))), v31, rfl, rfl⟩ ⟨rfl, rfl, trivial⟩ (fun w m => m.pick [0] 1 rfl rfl)
   ·skip
    by_cases h45 : ({ ({ w19 with part := cpV w19.part ((w19.held).toNat) (l15.take (min l15.length (136 - ((w19.held).toNat)))) } : Sponge) with held := (({ w19 with part := cpV w19.part ((w19.held).toNat) (l15.take (min l15.length (136 - ((w19.held).toNat)))) } : Sponge).held + (((min l15.length (136 - ((w19.held).toNat))) : Nat) : Int)) } : Sponge).held = (136 : Int)
    ·replace hq36 := if_t hq36 h45
     refine CW.is_t rfl (decide_eq_true h45) ?_
     refine CW.region ?_
     refine OW.rv (RV.move rfl) rfl ?_
     obtain ⟨x47, hx46, hq36⟩ := some_bind hq36
     refine OW.callG Tryd.call142 rfl (keccak_Sponge_absorb_does w0 (More w0 Φ B13) ((B13 ++ N)) (fun w m => More.of hΦ 0 m rfl) b0_ ({ ({ w19 with part := cpV w19.part ((w19.held).toNat) (l15.take (min l15.length (136 - ((w19.held).toNat)))) } : Sponge) with held := (({ w19 with part := cpV w19.part ((w19.held).toNat) (l15.take (min l15.length (136 - ((w19.held).toNat)))) } : Sponge).held + (((min l15.length (136 - ((w19.held).toNat))) : Nat) : Int)) } : Sponge) x47 hx46) rfl rfl ?_
     rintro L49 M50 ⟨B48, e51, e52⟩
     rw [e51, e52]
     clear e51 e52 L49 M50
     refine OW.mem (M' := ((some b0_, blk x47.C 186) :: ((B48 ++ B13) ++ N))) (fun w m => by have h := Mem.sinkAt (A := B48) m 1 0 rfl rfl; exact h) ?_
     have gq4 : ∀ w, More w0 Φ (B48 ++ B13) w → More w0 Φ B13 w := fun w q => More.mono (fun w m => (m).appR) q
     replace v31 := v31.mono gq4
     replace v18 := v18.mono gq4
     refine OW.nil ?_
     exact QW.join ⟨x47, (B48 ++ B13), (Option.some.inj hq36).symm, (fun w m => (m).appR), rfl, rfl⟩ ⟨rfl, rfl, trivial⟩ (fun w m => m.pick [0] 1 rfl rfl)
    ·replace hq36 := if_f hq36 h45
     refine CW.is_f rfl (decide_eq_false h45) ?_
     refine CW.skip ?_
     exact QW.join ⟨({ ({ w19 with part := cpV w19.part ((w19.held).toNat) (l15.take (min l15.length (136 - ((w19.held).toNat)))) } : Sponge) with held := (({ w19 with part := cpV w19.part ((w19.held).toNat) (l15.take (min l15.length (136 - ((w19.held).toNat)))) } : Sponge).held + (((min l15.length (136 - ((w19.held).toNat))) : Nat) : Int)) } : Sponge), B13, (Option.some.inj hq36).symm, (fun w m => m), rfl, rfl⟩ ⟨rfl, rfl, trivial⟩ (fun w m => m.pick [0] 1 rfl rfl)
  ·replace hl21 := if_f hl21 h28
   refine CW.is_f rfl (decide_eq_false h28) ?_
   refine CW.exit (QW.then_x (QW.then_x (QW.block_xe ?_)))
   exact QW.join ⟨w19, B13, (Option.some.inj hl21).symm, (fun w m => hB14 w (m)), rfl, rfl⟩ trivial (fun w m => m.pick [0] 1 rfl rfl)
theorem keccak_Sponge_Sum_does (w0 : World) (Φ : Ctx) (N : List Ent) (hΦ : ∀ w, Mem w0 w N → Φ w) (b0_ : Nat) (a0 : Sponge) (res0 : Vector (BitVec 8) 32) (new0 : Sponge) (hg2 : View Φ (some ⟨2, 0, none⟩) 2 2 1 (u8s firstL)) (hf : keccak_Sponge_Sum a0 = some (res0, new0)) : DoesG Tryd.prog 130 [ptr (some b0_) 0] w0 [(some b0_, blk a0.C 186)] N (fun v G => ∃ B : List Ent, v = .agg (u8s res0.toList).toArray ∧ G = (some b0_, blk new0.C 186) :: B) := by
 unfold keccak_Sponge_Sum at hf
 replace hg2 := hg2.mono (Ψ := More w0 Φ []) (fun w q => q.1)
 refine DoesG.enter Tryd.func130 rfl Tryd.ntmps130 rfl (M := ((some b0_, blk a0.C 186) :: ([] ++ N))) rfl ?_
 refine CW.seq (CW.region ?_)
 refine OW.alloc (l := (u8s (Vector.replicate 32 0#8).toList)) rfl (by rw [Vector.toList_replicate, ← u8s_rep']; rfl) rfl (fun b1 => ?_)
 refine OW.nil (QW.then_n (CW.seq (CW.seq (CW.region ?_))))
 refine OW.rv (RV.move rfl) rfl ?_
 refine OW.rv (RV.eqlS rfl rfl rfl) rfl ?_
 refine OW.nil (QW.then_n ?_)
 refine CW.is_f rfl rfl ?_
 refine CW.skip (QW.then_n (CW.seq (CW.region ?_)))
 refine OW.rv (RV.move rfl) rfl ?_
 refine OW.rv (RV.nilCheck rfl) rfl ?_
 refine OW.rv (RV.loadW rfl (List.Mem.tail _ (List.Mem.head _)) rfl rfl rfl rfl (Sponge.C_length _)) rfl ?_
 refine OW.alloc (l := (⟨0, (Vector.replicate 25 0#64), (Vector.replicate 136 0#8), 0, 0⟩ : Sponge).C) rfl (by kernel_rfl) rfl (fun b2 => ?_)
 refine OW.sv (SV.storeW rfl rfl rfl (Sponge.C_one _) rfl (Sponge.C_length _) (Sponge.C_length _)) ?_
 refine OW.nil (QW.then_n (CW.seq (CW.region ?_)))
 refine OW.rv (RV.field rfl rfl rfl rfl) rfl ?_
 refine OW.slot (ptr (some b2) 26) rfl ?_
 refine OW.rv (RV.field rfl rfl rfl rfl) rfl ?_
 refine OW.slot (ptr (some b2) 162) rfl ?_
 refine OW.rv (RV.load rfl (List.Mem.head _) rfl rfl rfl (Sponge.C_held _)) rfl ?_
 obtain ⟨g3, hf⟩ := some_if hf
 obtain ⟨g4, hf⟩ := some_if hf
 refine OW.rv (RV.arr_loS ((a0.held).toNat) rfl rfl (by omega) rfl rfl (by omega)) rfl ?_
 refine OW.clear (z := .int .u8 0) (b := b2) (off := 26 + ((a0.held).toNat)) rfl rfl rfl rfl rfl (by omega) (by rw [Sponge.C_length]; omega) ?_
 refine OW.cells ({ a0 with part := cpV a0.part ((a0.held).toNat) (List.replicate (136 - ((a0.held).toNat)) 0#8) } : Sponge).C (by rw [u8s_rep0]; exact Sponge.C_part_cpy _ (by rw [List.length_replicate]; omega)) ?_
 refine OW.nil (QW.then_n (CW.seq ?_))
 refine CW.drawsX ((some b1, blk (u8s (Vector.replicate 32 0#8).toList) 24) :: (some b0_, blk a0.C 186) :: ([] ++ N)) [12] (fun w m => m.pick [1, 2] 3 rfl rfl) mixed (by kernel_rfl) ?_
 refine XW.rs 0 rfl (by kernel_rfl) rfl (RV.field rfl rfl rfl rfl) rfl ?_
 refine XW.slot (ptr (some b2) 162) rfl ?_
 refine XW.rv 1 rfl (by kernel_rfl) rfl (by kernel_rfl) (RV.load rfl (List.Mem.head _) rfl rfl rfl (Sponge.C_held _)) rfl ?_
 refine XW.rs 2 rfl (by kernel_rfl) rfl (RV.field rfl rfl rfl rfl) rfl ?_
 refine XW.slot (ptr (some b2) 26) rfl ?_
 obtain ⟨g5, hf⟩ := some_if hf
 obtain ⟨g6, hf⟩ := some_if hf
 refine XW.rs 3 rfl (by kernel_rfl) rfl (RV.idx_a ((({ a0 with part := cpV a0.part ((a0.held).toNat) (List.replicate (136 - ((a0.held).toNat)) 0#8) } : Sponge).held).toNat) rfl rfl (by omega) rfl rfl (by omega)) rfl ?_
 obtain ⟨x7, hx8, hf⟩ := some_bind hf
 refine XW.rv 4 rfl (by kernel_rfl) rfl (by kernel_rfl) (RV.load rfl (List.Mem.head _) rfl rfl rfl (Sponge.C_part _ hx8)) rfl ?_
 refine XW.rs 5 rfl (by kernel_rfl) rfl (RV.field rfl rfl rfl rfl) rfl ?_
 refine XW.slot (ptr (some b2) 0) rfl ?_
 refine XW.rv 6 rfl (by kernel_rfl) rfl (by kernel_rfl) (RV.load rfl (List.Mem.head _) rfl rfl rfl (Sponge.C_kind _)) rfl ?_
 obtain ⟨g9, hf⟩ := some_if hf
 obtain ⟨x10, hx11, hf⟩ := some_bind hf
 have hl12 : (({ a0 with part := cpV a0.part ((a0.held).toNat) (List.replicate (136 - ((a0.held).toNat)) 0#8) } : Sponge).kind).toNat < 2 := lt_of_at hx11
 refine XW.rs 7 rfl (by kernel_rfl) rfl (RV.idx_arr_at (a := ⟨2, 0, none⟩) rfl rfl rfl rfl (by omega) (by omega)) rfl ?_
 refine XW.slot (rptr (some ⟨2, 0, none⟩) ((({ a0 with part := cpV a0.part ((a0.held).toNat) (List.replicate (136 - ((a0.held).toNat)) 0#8) } : Sponge).kind).toNat)) (congrArg (fun k => Value.pointer (some (Addr.add ⟨2, 0, none⟩ k))) (Nat.mul_one _)) ?_
 refine XW.rs 8 rfl (by kernel_rfl) rfl (RV.load_at rfl rfl rfl (fun w m => hg2.cell (More.of hΦ 2 m rfl) (u8s_at hx11))) rfl ?_
 refine XW.rs 9 rfl (by kernel_rfl) rfl (RV.xor8 rfl (by first | rfl | exact lit8 _ rfl) rfl (by first | rfl | exact lit8 _ rfl)) rfl ?_
 refine XW.rs 10 rfl (by kernel_rfl) rfl (RV.field rfl rfl rfl rfl) rfl ?_
 refine XW.slot (ptr (some b2) 26) rfl ?_
 refine XW.rs 11 rfl (by kernel_rfl) rfl (RV.idx_a ((({ a0 with part := cpV a0.part ((a0.held).toNat) (List.replicate (136 - ((a0.held).toNat)) 0#8) } : Sponge).held).toNat) rfl rfl (by omega) rfl rfl (by omega)) rfl ?_
 refine XW.sv 12 rfl (by kernel_rfl) (SV.store rfl rfl rfl rfl rfl (by rw [Sponge.C_length]; omega)) (fun w m => m.pick [1, 2] 3 rfl rfl) ?_
 refine XW.cells ({ ({ a0 with part := cpV a0.part ((a0.held).toNat) (List.replicate (136 - ((a0.held).toNat)) 0#8) } : Sponge) with part := ({ a0 with part := cpV a0.part ((a0.held).toNat) (List.replicate (136 - ((a0.held).toNat)) 0#8) } : Sponge).part.setIfInBounds ((({ a0 with part := cpV a0.part ((a0.held).toNat) (List.replicate (136 - ((a0.held).toNat)) 0#8) } : Sponge).held).toNat) (x7 ^^^ x10) } : Sponge).C (Sponge.C_part_set _ (by omega) _) ?_
 refine XW.nil (by kernel_rfl) ?_
 refine QW.then_n (CW.seq (CW.region ?_))
 refine OW.rv (RV.field rfl rfl rfl rfl) rfl ?_
 refine OW.slot (ptr (some b2) 26) rfl ?_
 refine OW.rv (RV.idx_a (135) rfl rfl rfl rfl rfl (by omega)) rfl ?_
 refine OW.rv (RV.load rfl (List.Mem.head _) rfl rfl rfl (Sponge.C_part _ (Vector.getElem?_eq_getElem (by decide)))) rfl ?_
 refine OW.rv (RV.xor8 rfl (by first | rfl | exact lit8 _ rfl) rfl (by first | rfl | exact lit8 _ rfl)) rfl ?_
 refine OW.rv (RV.field rfl rfl rfl rfl) rfl ?_
 refine OW.slot (ptr (some b2) 26) rfl ?_
 refine OW.rv (RV.idx_a (135) rfl rfl rfl rfl rfl (by omega)) rfl ?_
 refine OW.sv (SV.store rfl rfl rfl rfl rfl (by rw [Sponge.C_length]; omega)) ?_
 refine OW.cells ({ ({ ({ a0 with part := cpV a0.part ((a0.held).toNat) (List.replicate (136 - ((a0.held).toNat)) 0#8) } : Sponge) with part := ({ a0 with part := cpV a0.part ((a0.held).toNat) (List.replicate (136 - ((a0.held).toNat)) 0#8) } : Sponge).part.setIfInBounds ((({ a0 with part := cpV a0.part ((a0.held).toNat) (List.replicate (136 - ((a0.held).toNat)) 0#8) } : Sponge).held).toNat) (x7 ^^^ x10) } : Sponge) with part := ({ ({ a0 with part := cpV a0.part ((a0.held).toNat) (List.replicate (136 - ((a0.held).toNat)) 0#8) } : Sponge) with part := ({ a0 with part := cpV a0.part ((a0.held).toNat) (List.replicate (136 - ((a0.held).toNat)) 0#8) } : Sponge).part.setIfInBounds ((({ a0 with part := cpV a0.part ((a0.held).toNat) (List.replicate (136 - ((a0.held).toNat)) 0#8) } : Sponge).held).toNat) (x7 ^^^ x10) } : Sponge).part.setIfInBounds 135 (({ ({ a0 with part := cpV a0.part ((a0.held).toNat) (List.replicate (136 - ((a0.held).toNat)) 0#8) } : Sponge) with part := ({ a0 with part := cpV a0.part ((a0.held).toNat) (List.replicate (136 - ((a0.held).toNat)) 0#8) } : Sponge).part.setIfInBounds ((({ a0 with part := cpV a0.part ((a0.held).toNat) (List.replicate (136 - ((a0.held).toNat)) 0#8) } : Sponge).held).toNat) (x7 ^^^ x10) } : Sponge).part[135] ^^^ 128#8) } : Sponge).C (Sponge.C_part_set _ (by omega) _) ?_
 refine OW.nil (QW.then_n (CW.seq (CW.region ?_)))
 obtain ⟨x14, hx13, hf⟩ := some_bind hf
 refine OW.callG Tryd.call142 rfl (keccak_Sponge_absorb_does w0 (More w0 Φ []) ((some b1, blk (u8s (Vector.replicate 32 0#8).toList) 24) :: (some b0_, blk a0.C 186) :: ([] ++ N)) (fun w m => More.of hΦ 2 m rfl) b2 ({ ({ ({ a0 with part := cpV a0.part ((a0.held).toNat) (List.replicate (136 - ((a0.held).toNat)) 0#8) } : Sponge) with part := ({ a0 with part := cpV a0.part ((a0.held).toNat) (List.replicate (136 - ((a0.held).toNat)) 0#8) } : Sponge).part.setIfInBounds ((({ a0 with part := cpV a0.part ((a0.held).toNat) (List.replicate (136 - ((a0.held).toNat)) 0#8) } : Sponge).held).toNat) (x7 ^^^ x10) } : Sponge) with part := ({ ({ a0 with part := cpV a0.part ((a0.held).toNat) (List.replicate (136 - ((a0.held).toNat)) 0#8) } : Sponge) with part := ({ a0 with part := cpV a0.part ((a0.held).toNat) (List.replicate (136 - ((a0.held).toNat)) 0#8) } : Sponge).part.setIfInBounds ((({ a0 with part := cpV a0.part ((a0.held).toNat) (List.replicate (136 - ((a0.held).toNat)) 0#8) } : Sponge).held).toNat) (x7 ^^^ x10) } : Sponge).part.setIfInBounds 135 (({ ({ a0 with part := cpV a0.part ((a0.held).toNat) (List.replicate (136 - ((a0.held).toNat)) 0#8) } : Sponge) with part := ({ a0 with part := cpV a0.part ((a0.held).toNat) (List.replicate (136 - ((a0.held).toNat)) 0#8) } : Sponge).part.setIfInBounds ((({ a0 with part := cpV a0.part ((a0.held).toNat) (List.replicate (136 - ((a0.held).toNat)) 0#8) } : Sponge).held).toNat) (x7 ^^^ x10) } : Sponge).part[135] ^^^ 128#8) } : Sponge) x14 hx13) rfl rfl ?_
 rintro L16 M17 ⟨B15, e18, e19⟩
 rw [e18, e19]
 clear e18 e19 L16 M17
 refine OW.mem (M' := ((some b2, blk x14.C 186) :: (some b1, blk (u8s (Vector.replicate 32 0#8).toList) 24) :: (some b0_, blk a0.C 186) :: ((B15 ++ []) ++ N))) (fun w m => by have h := Mem.sinkAt (A := B15) m 1 2 rfl rfl; exact h) ?_
 have gq1 : ∀ w, More w0 Φ (B15 ++ []) w → More w0 Φ [] w := fun w q => More.mono (fun w m => (m).appR) q
 replace hg2 := hg2.mono gq1
 refine OW.nil (QW.then_n (CW.seq (CW.region ?_)))
 refine OW.alloc (l := (u8s (Vector.replicate 32 0#8).toList)) rfl (by rw [Vector.toList_replicate, ← u8s_rep']; rfl) rfl (fun b20 => ?_)
 refine OW.nil (QW.then_n (CW.seq (CW.seq (CW.region ?_))))
 refine OW.rv (RV.move rfl) rfl ?_
 refine OW.nil (QW.then_n ?_)
 obtain ⟨q21, hq22, hf⟩ := some_bind hf
 refine CW.cutJ (fun L' M' => ∃ w23 : Vector (BitVec 8) 32, q21 = w23 ∧ L' = [(2, ptr (some b1) 0), (4, ptr (some b20) 0)] ∧ M' = ((some b20, blk (u8s w23.toList) 24) :: (some b1, blk (u8s (Vector.replicate 32 0#8).toList) 24) :: (some b0_, blk a0.C 186) :: ((B15 ++ []) ++ N))) ?_ ?_
 ·rintro L25 M26 ⟨w23, e24, e27, e28⟩
  rw [e27, e28]
  clear e27 e28 L25 M26
  clear hq22
  rw [e24] at hf
  clear e24
  try dsimp only at hf
  refine QW.then_n (CW.seq (CW.region ?_))
  refine OW.rv (RV.loadW rfl (List.Mem.head _) rfl rfl rfl rfl ((u8s_length _).trans Vector.length_toList)) rfl ?_
  refine OW.rot1 ?_
  refine OW.sv (SV.storeW rfl rfl rfl (u8s_one _) rfl ((u8s_length _).trans Vector.length_toList) ((u8s_length _).trans Vector.length_toList)) ?_
  refine OW.nil (QW.then_n (CW.ret ?_))
  have er0 := Option.some.inj hf
  obtain ⟨e0, er1⟩ := Prod.mk.inj er0
  clear er0
  subst e0
  subst er1
  refine QW.retG (rs := [.cell 2 24]) ([.agg (u8s w23.toList).toArray]) ((some b0_, blk a0.C 186) :: (B15 ++ [])) rfl ?_ rfl ?_ ?_ _ (.inl rfl)
  ·exact ⟨⟨_, _, _, _, rfl, (List.Mem.head _), rfl, rfl, (congrArg some ((u8s_length _).trans Vector.length_toList).symm), rfl⟩, trivial⟩
  ·exact ⟨(B15 ++ []), rfl, rfl⟩
  ·exact (fun w m => m.pick [2] 3 rfl rfl)
 ·skip
  refine CW.block ?_
  refine CW.loopJ (fun k L' M' => ∃ n29 : Nat, ∃ w31 : Vector (BitVec 8) 32, (keccak_Sponge_Sum.l1 x14 k n29 w31) = some q21 ∧ (n29 ≤ 9223372036854775807) ∧ L' = [(2, ptr (some b1) 0), (3, ptr (some b2) 0), (4, ptr (some b20) 0), (35, .int .i64 ((n29 : Nat) : Int))] ∧ M' = ((some b20, blk (u8s w31.toList) 24) :: (some b2, blk x14.C 186) :: (some b1, blk (u8s (Vector.replicate 32 0#8).toList) 24) :: (some b0_, blk a0.C 186) :: ((B15 ++ []) ++ N))) (k0 := (32 - 0 + 2)) ⟨0, (Vector.replicate 32 0#8), hq22, (by omega), rfl, rfl⟩ ⟨rfl, rfl, rfl, rfl, trivial⟩ (fun w m => m.pick [0, 1, 2, 3] 4 rfl rfl) ?_
  clear hq22
  rintro k32 L35 M36 ⟨n29, w31, hl33, b30, e37, e38⟩
  rw [e37, e38]
  clear e37 e38 L35 M36
  rcases k32 with _ | k32
  ·rw [keccak_Sponge_Sum.l1] at hl33; cases hl33
  rw [keccak_Sponge_Sum.l1] at hl33
  refine CW.seq (CW.region ?_)
  refine OW.rv (RV.lss rfl rfl) rfl ?_
  refine OW.slot (.bool (decide (n29 < 32))) (congrArg Value.bool (decide_eq_decide.2 (by omega))) ?_
  refine OW.nil (QW.then_n (CW.seq ?_))
  by_cases h39 : n29 < 32
  ·replace hl33 := if_t hl33 h39
   refine CW.is_t rfl (decide_eq_true h39) ?_
   refine CW.skip (QW.then_n (CW.seq (CW.block (CW.seq (CW.region ?_)))))
   refine OW.rv (RV.move rfl) rfl ?_
   refine OW.rv (RV.assign rfl) rfl ?_
   refine OW.nil (QW.then_n (CW.region ?_))
   refine OW.rv (RV.move rfl) rfl ?_
   refine OW.rv (RV.move rfl) rfl ?_
   refine OW.rv (RV.quo rfl rfl (by omega) (by omega) (by omega)) rfl ?_
   refine OW.slot (.int .i64 ((n29 / 8 : Nat) : Int)) (by first | rfl | (congr 1; omega)) ?_
   refine OW.rv (RV.field rfl rfl rfl rfl) rfl ?_
   refine OW.slot (ptr (some b2) 1) rfl ?_
   obtain ⟨g40, hl33⟩ := some_if hl33
   refine OW.rv (RV.idx_a ((n29 / 8)) rfl rfl rfl rfl rfl (by omega)) rfl ?_
   obtain ⟨x41, hx42, hl33⟩ := some_bind hl33
   refine OW.rv (RV.load rfl (List.Mem.tail _ (List.Mem.head _)) rfl rfl rfl (Sponge.C_lanes _ hx42)) rfl ?_
   refine OW.rv (RV.move rfl) rfl ?_
   refine OW.rv (RV.rem rfl rfl (by omega) (by omega)) rfl ?_
   refine OW.slot (.int .i64 ((n29 % 8 : Nat) : Int)) (by first | rfl | (congr 1; omega)) ?_
   refine OW.rv (RV.mul rfl rfl (by omega)) rfl ?_
   refine OW.slot (.int .i64 (((8 * (n29 % 8)) : Nat) : Int)) (by first | rfl | (congr 1) | (congr 1; omega)) ?_
   refine OW.rv (RV.shr64 (s := (8 * (n29 % 8))) rfl (by first | rfl | exact lit64 _ rfl) rfl (by first | rfl | (congr 1))) rfl ?_
   refine OW.rv (RV.conv64_8 rfl (by first | rfl | exact lit64 _ rfl) rfl rfl) rfl ?_
   refine OW.rv (RV.idx_a (n29) rfl rfl rfl rfl rfl (by omega)) rfl ?_
   refine OW.sv (SV.store rfl rfl rfl rfl rfl (by rw [u8s_length, Vector.length_toList]; omega)) ?_
   refine OW.cells (u8s (w31.setIfInBounds n29 ((x41 >>> (8 * (n29 % 8))).setWidth 8)).toList) (by rw [Nat.zero_add, u8s_set', vset]) ?_
   refine OW.nil (QW.block_n (QW.then_n (CW.region ?_)))
   refine OW.rv (RV.add rfl rfl (by omega)) rfl ?_
   refine OW.slot (.int .i64 (((n29 + 1) : Nat) : Int)) (by first | rfl | (congr 1) | (congr 1; omega)) ?_
   refine OW.rv (RV.move rfl) rfl ?_
   refine OW.nil ?_
   exact QW.againJ (k' := k32) (Nat.lt_succ_self _) ⟨(n29 + 1), (w31.setIfInBounds n29 ((x41 >>> (8 * (n29 % 8))).setWidth 8)), hl33, (by omega), rfl, rfl⟩ ⟨rfl, rfl, rfl, rfl, trivial⟩ (fun w m => m.pick [0, 1, 2, 3] 4 rfl rfl)
  ·replace hl33 := if_f hl33 h39
   refine CW.is_f rfl (decide_eq_false h39) ?_
   refine CW.exit (QW.then_x (QW.then_x (QW.block_xe ?_)))
   exact QW.join ⟨w31, (Option.some.inj hl33).symm, rfl, rfl⟩ ⟨rfl, rfl, trivial⟩ (fun w m => m.pick [0, 2, 3] 4 rfl rfl)
theorem keccak_digest_does (w0 : World) (Φ : Ctx) (N : List Ent) (hΦ : ∀ w, Mem w0 w N → Φ w) (a0 : Int) (A1_ : Option Addr) (c1_ : Nat) (cs1_ : List Value) (a1 : List (List (BitVec 8))) (res0 : Vector (BitVec 8) 32) (ba0 : -9223372036854775808 ≤ a0 ∧ a0 ≤ 9223372036854775807) (va1 : View Φ A1_ a1.length c1_ 1 cs1_) (ha1 : Reps (BsRd Φ) cs1_ a1) (hg2 : View Φ (some ⟨2, 0, none⟩) 2 2 1 (u8s firstL)) (hf : keccak_digest a0 a1 = some res0) : DoesG Tryd.prog 107 [.int .i64 a0, .slice A1_ a1.length c1_] w0 [] N (fun v G => v = .agg (u8s res0.toList).toArray) := by
 unfold keccak_digest at hf
 replace va1 := va1.mono (Ψ := More w0 Φ []) (fun w q => q.1)
 replace hg2 := hg2.mono (Ψ := More w0 Φ []) (fun w q => q.1)
 replace ha1 := ha1.mono (BsRd.mono (Ψ := More w0 Φ []) (fun w q => q.1))
 have m1 := va1.mx
 refine DoesG.enter Tryd.func107 rfl Tryd.ntmps107 rfl (M := (([] ++ N))) rfl ?_
 refine CW.seq (CW.region ?_)
 refine OW.alloc (l := (u8s (Vector.replicate 32 0#8).toList)) rfl (by rw [Vector.toList_replicate, ← u8s_rep']; rfl) rfl (fun b2 => ?_)
 refine OW.nil (QW.then_n (CW.seq (CW.region ?_)))
 refine OW.rv (RV.move rfl) rfl ?_
 refine OW.rv (RV.buildSt (l := (⟨0, (Vector.replicate 25 0#64), (Vector.replicate 136 0#8), 0, 0⟩ : Sponge).C) (cs := ({ (⟨0, (Vector.replicate 25 0#64), (Vector.replicate 136 0#8), 0, 0⟩ : Sponge) with kind := a0 } : Sponge).C) [(0, [.int .i64 a0])] rfl rfl rfl rfl rfl rfl rfl) rfl ?_
 refine OW.alloc (l := (⟨0, (Vector.replicate 25 0#64), (Vector.replicate 136 0#8), 0, 0⟩ : Sponge).C) rfl (by kernel_rfl) rfl (fun b3 => ?_)
 refine OW.sv (SV.storeW rfl rfl rfl (Sponge.C_one _) rfl (Sponge.C_length _) (Sponge.C_length _)) ?_
 refine OW.nil (QW.then_n (CW.seq (CW.seq (CW.region ?_))))
 refine OW.rv (RV.move rfl) rfl ?_
 refine OW.rv (RV.len rfl rfl) rfl ?_
 refine OW.rv (RV.move rfl) rfl ?_
 refine OW.nil (QW.then_n ?_)
 obtain ⟨q4, hq5, hf⟩ := some_bind hf
 refine CW.cutJ (fun L' M' => ∃ w8 : Sponge, ∃ B6 : List Ent, q4 = w8 ∧ (∀ w, Mem w0 w B6 → Mem w0 w []) ∧ L' = [(4, ptr (some b2) 0), (5, ptr (some b3) 0)] ∧ M' = ((some b3, blk w8.C 186) :: (some b2, blk (u8s (Vector.replicate 32 0#8).toList) 24) :: (B6 ++ N))) ?_ ?_
 ·rintro L10 M11 ⟨w8, B6, e9, hB7, e12, e13⟩
  rw [e12, e13]
  clear e12 e13 L10 M11
  clear hq5
  rw [e9] at hf
  clear e9
  try dsimp only at hf
  have gq1 : ∀ w, More w0 Φ B6 w → More w0 Φ [] w := fun w q => More.mono (fun w m => hB7 w (m)) q
  replace hg2 := hg2.mono gq1
  refine QW.then_n (CW.seq (CW.region ?_))
  obtain ⟨⟨x15, x16⟩, hx14, hf⟩ := some_bind hf
  try dsimp only at hf
  refine OW.callG Tryd.call130 rfl (keccak_Sponge_Sum_does w0 (More w0 Φ B6) ((some b2, blk (u8s (Vector.replicate 32 0#8).toList) 24) :: (B6 ++ N)) (fun w m => More.of hΦ 1 m rfl) b3 w8 x15 x16 hg2 hx14) rfl rfl ?_
  rintro L18 M19 ⟨B17, e20, e21⟩
  rw [e20, e21]
  clear e20 e21 L18 M19
  refine OW.mem (M' := ((some b3, blk x16.C 186) :: (some b2, blk (u8s (Vector.replicate 32 0#8).toList) 24) :: ((B17 ++ B6) ++ N))) (fun w m => by have h := Mem.sinkAt (A := B17) m 1 1 rfl rfl; exact h) ?_
  have gq2 : ∀ w, More w0 Φ (B17 ++ B6) w → More w0 Φ B6 w := fun w q => More.mono (fun w m => (m).appR) q
  replace hg2 := hg2.mono gq2
  refine OW.rot1 ?_
  refine OW.sv (SV.storeW rfl rfl rfl (u8s_one _) rfl ((u8s_length _).trans Vector.length_toList) ((u8s_length _).trans Vector.length_toList)) ?_
  refine OW.nil (QW.then_n (CW.ret ?_))
  have e0 := Option.some.inj hf
  subst e0
  refine QW.retG (rs := [.cell 4 24]) ([.agg (u8s x15.toList).toArray]) ((some b2, blk (u8s x15.toList) 24) :: (some b3, blk x16.C 186) :: (B17 ++ B6)) rfl ?_ rfl ?_ ?_ _ (.inl rfl)
  ·exact ⟨⟨_, _, _, _, rfl, (List.Mem.head _), rfl, rfl, (congrArg some ((u8s_length _).trans Vector.length_toList).symm), rfl⟩, trivial⟩
  ·exact rfl
  ·exact (fun w m => m)
 ·skip
  refine CW.block ?_
  refine CW.loopJ (fun k L' M' => ∃ n24 : Nat, ∃ w26 : Sponge, ∃ B22 : List Ent, (keccak_digest.l1 a1 k n24 w26) = some q4 ∧ (∀ w, Mem w0 w B22 → Mem w0 w []) ∧ (n24 ≤ 9223372036854775807) ∧ L' = [(4, ptr (some b2) 0), (5, ptr (some b3) 0), (10, .slice A1_ a1.length c1_), (11, .int .i64 ((a1.length : Nat) : Int)), (12, .int .i64 ((n24 : Nat) : Int))] ∧ M' = ((some b3, blk w26.C 186) :: (some b2, blk (u8s (Vector.replicate 32 0#8).toList) 24) :: (B22 ++ N))) (k0 := (a1.length - 0 + 2)) ⟨0, ({ (⟨0, (Vector.replicate 25 0#64), (Vector.replicate 136 0#8), 0, 0⟩ : Sponge) with kind := a0 } : Sponge), [], hq5, (fun w m => m), (by omega), rfl, rfl⟩ ⟨rfl, rfl, rfl, rfl, rfl, trivial⟩ (fun w m => m.pick [0, 1] 2 rfl rfl) ?_
  clear hq5
  rintro k27 L30 M31 ⟨n24, w26, B22, hl28, hB23, b25, e32, e33⟩
  rw [e32, e33]
  clear e32 e33 L30 M31
  rcases k27 with _ | k27
  ·rw [keccak_digest.l1] at hl28; cases hl28
  rw [keccak_digest.l1] at hl28
  have gq3 : ∀ w, More w0 Φ B22 w → More w0 Φ [] w := fun w q => More.mono (fun w m => hB23 w (m)) q
  replace va1 := va1.mono gq3
  replace ha1 := ha1.mono (BsRd.mono gq3)
  replace hg2 := hg2.mono gq3
  refine CW.seq (CW.region ?_)
  refine OW.rv (RV.lss rfl rfl) rfl ?_
  refine OW.slot (.bool (decide (n24 < a1.length))) (congrArg Value.bool (decide_eq_decide.2 (by omega))) ?_
  refine OW.nil (QW.then_n (CW.seq ?_))
  by_cases h34 : n24 < a1.length
  ·replace hl28 := if_t hl28 h34
   refine CW.is_t rfl (decide_eq_true h34) ?_
   refine CW.skip (QW.then_n (CW.seq (CW.block (CW.seq (CW.region ?_)))))
   obtain ⟨x35, hx36, hl28⟩ := some_bind hl28
   have hl37 := lt_of_at hx36
   refine OW.rv (RV.idx_r (n24) rfl rfl rfl rfl rfl (va1.isSome (by decide) hl37) (by omega)) rfl ?_
   obtain ⟨cs38, h39, h40⟩ := ha1.get BsRd.len hx36
   obtain ⟨A41, c42, e44, v43⟩ := h39
   subst e44
   have m45 := v43.mx
   refine OW.rv (RV.load_at rfl rfl rfl (fun w m => by have := va1.load (More.of hΦ 2 m rfl) h40 0 _ rfl; simpa [Addr.add] using this)) rfl ?_
   refine OW.rv (RV.assign rfl) rfl ?_
   refine OW.nil (QW.then_n (CW.region ?_))
   refine OW.rv (RV.move rfl) rfl ?_
   obtain ⟨x47, hx46, hl28⟩ := some_bind hl28
   refine OW.callG Tryd.call129 rfl (keccak_Sponge_Write_does w0 (More w0 Φ B22) ((some b2, blk (u8s (Vector.replicate 32 0#8).toList) 24) :: (B22 ++ N)) (fun w m => More.of hΦ 1 m rfl) b3 w26 A41 c42 x35 x47 v43 hx46) rfl rfl ?_
   rintro L49 M50 ⟨B48, e51, e52⟩
   rw [e51, e52]
   clear e51 e52 L49 M50
   refine OW.mem (M' := ((some b3, blk x47.C 186) :: (some b2, blk (u8s (Vector.replicate 32 0#8).toList) 24) :: ((B48 ++ B22) ++ N))) (fun w m => by have h := Mem.sinkAt (A := B48) m 1 1 rfl rfl; exact h) ?_
   have gq4 : ∀ w, More w0 Φ (B48 ++ B22) w → More w0 Φ B22 w := fun w q => More.mono (fun w m => (m).appR) q
   replace va1 := va1.mono gq4
   replace ha1 := ha1.mono (BsRd.mono gq4)
   replace v43 := v43.mono gq4
   replace hg2 := hg2.mono gq4
   refine OW.nil (QW.block_n (QW.then_n (CW.region ?_)))
   refine OW.rv (RV.add rfl rfl (by omega)) rfl ?_
   refine OW.slot (.int .i64 (((n24 + 1) : Nat) : Int)) (by first | rfl | (congr 1) | (congr 1; omega)) ?_
   refine OW.rv (RV.move rfl) rfl ?_
   refine OW.nil ?_
   exact QW.againJ (k' := k27) (Nat.lt_succ_self _) ⟨(n24 + 1), x47, (B48 ++ B22), hl28, (fun w m => hB23 w ((m).appR)), (by omega), rfl, rfl⟩ ⟨rfl, rfl, rfl, rfl, rfl, trivial⟩ (fun w m => m.pick [0, 1] 2 rfl rfl)
  ·replace hl28 := if_f hl28 h34
   refine CW.is_f rfl (decide_eq_false h34) ?_
   refine CW.exit (QW.then_x (QW.then_x (QW.block_xe ?_)))
   exact QW.join ⟨w26, B22, (Option.some.inj hl28).symm, (fun w m => hB23 w (m)), rfl, rfl⟩ ⟨rfl, rfl, trivial⟩ (fun w m => m.pick [0, 1] 2 rfl rfl)
theorem keccak_Sum_does (w0 : World) (Φ : Ctx) (N : List Ent) (hΦ : ∀ w, Mem w0 w N → Φ w) (A0_ : Option Addr) (c0_ : Nat) (cs0_ : List Value) (a0 : List (List (BitVec 8))) (res0 : Vector (BitVec 8) 32) (va0 : View Φ A0_ a0.length c0_ 1 cs0_) (ha0 : Reps (BsRd Φ) cs0_ a0) (hg2 : View Φ (some ⟨2, 0, none⟩) 2 2 1 (u8s firstL)) (hf : keccak_Sum a0 = some res0) : DoesG Tryd.prog 80 [.slice A0_ a0.length c0_] w0 [] N (fun v G => v = .agg (u8s res0.toList).toArray) := by
 unfold keccak_Sum at hf
 replace va0 := va0.mono (Ψ := More w0 Φ []) (fun w q => q.1)
 replace hg2 := hg2.mono (Ψ := More w0 Φ []) (fun w q => q.1)
 replace ha0 := ha0.mono (BsRd.mono (Ψ := More w0 Φ []) (fun w q => q.1))
 have m1 := va0.mx
 refine DoesG.enter Tryd.func80 rfl Tryd.ntmps80 rfl (M := (([] ++ N))) rfl ?_
 refine CW.seq (CW.region ?_)
 refine OW.alloc (l := (u8s (Vector.replicate 32 0#8).toList)) rfl (by rw [Vector.toList_replicate, ← u8s_rep']; rfl) rfl (fun b2 => ?_)
 refine OW.nil (QW.then_n (CW.seq (CW.region ?_)))
 refine OW.rv (RV.move rfl) rfl ?_
 obtain ⟨x4, hx3, hf⟩ := some_bind hf
 refine OW.callG Tryd.call107 rfl (keccak_digest_does w0 (More w0 Φ []) ((some b2, blk (u8s (Vector.replicate 32 0#8).toList) 24) :: ([] ++ N)) (fun w m => More.of hΦ 1 m rfl) (0 : Int) A0_ c0_ cs0_ a0 x4 (by omega) va0 ha0 hg2 hx3) rfl rfl ?_
 rintro _ G5 rfl
 refine OW.mem (M' := ((some b2, blk (u8s (Vector.replicate 32 0#8).toList) 24) :: ([] ++ N))) (fun w m => m.appR) ?_
 refine OW.sv (SV.storeW rfl rfl rfl (u8s_one _) rfl ((u8s_length _).trans Vector.length_toList) ((u8s_length _).trans Vector.length_toList)) ?_
 refine OW.nil (QW.then_n (CW.ret ?_))
 have e0 := Option.some.inj hf
 subst e0
 refine QW.retG (rs := [.cell 2 24]) ([.agg (u8s x4.toList).toArray]) ((some b2, blk (u8s x4.toList) 24) :: []) rfl ?_ rfl ?_ ?_ _ (.inl rfl)
 ·exact ⟨⟨_, _, _, _, rfl, (List.Mem.head _), rfl, rfl, (congrArg some ((u8s_length _).trans Vector.length_toList).symm), rfl⟩, trivial⟩
 ·exact rfl
 ·exact (fun w m => m)
theorem bloom_Places_does (w0 : World) (Φ : Ctx) (N : List Ent) (hΦ : ∀ w, Mem w0 w N → Φ w) (A0_ : Option Addr) (c0_ : Nat) (a0 : List (BitVec 8)) (res0 : Vector (Int) 3) (va0 : View Φ A0_ a0.length c0_ 1 (u8s a0)) (hg2 : View Φ (some ⟨2, 0, none⟩) 2 2 1 (u8s firstL)) (hf : bloom_Places a0 = some res0) : DoesG Tryd.prog 57 [.slice A0_ a0.length c0_] w0 [] N (fun v G => v = .agg (i64s res0.toList).toArray) := by
 unfold bloom_Places at hf
 replace va0 := va0.mono (Ψ := More w0 Φ []) (fun w q => q.1)
 replace hg2 := hg2.mono (Ψ := More w0 Φ []) (fun w q => q.1)
 have m1 := va0.mx
 refine DoesG.enter Tryd.func57 rfl Tryd.ntmps57 rfl (M := (([] ++ N))) rfl ?_
 refine CW.seq (CW.region ?_)
 refine OW.alloc (l := (i64s (Vector.replicate 3 0).toList)) rfl (by rw [Vector.toList_replicate, ← i64s_rep]; rfl) rfl (fun b2 => ?_)
 refine OW.nil (QW.then_n (CW.seq (CW.region ?_)))
 refine OW.rv (RV.move rfl) rfl ?_
 refine OW.ofN (NV.bs1 rfl rfl rfl rfl rfl rfl) rfl (fun b3 => ?_)
 have h6 : Reps (BsRd (More w0 Φ [])) (([.slice A0_ a0.length c0_] : List Value)) [a0] := Reps.one (BsRd.mk va0)
 refine OW.mem (M' := (((some b3), blk ((([.slice A0_ a0.length c0_] : List Value)) ++ []) 61) :: (some b2, blk (i64s (Vector.replicate 3 0).toList) 95) :: ([] ++ N))) (fun w m => m) ?_
 have o4 : OwnS (some b3) ([a0] : List (List (BitVec 8))).length 1 1 (([.slice A0_ a0.length c0_] : List Value)) [] := ⟨by simp [BsRd], by simp [BsRd], (fun h => nomatch h), by simp⟩
 refine OW.slot (sl (some b3) 0 ([a0] : List (List (BitVec 8))).length 1) (rfl) ?_
 refine OW.mem (M' := (some b2, blk (i64s (Vector.replicate 3 0).toList) 95) :: ((((some b3), blk ((([.slice A0_ a0.length c0_] : List Value)) ++ []) 61) :: []) ++ N)) (fun w m => m.pick [1, 0] 2 rfl rfl) ?_
 have gq1 : ∀ w, More w0 Φ (((some b3), blk ((([.slice A0_ a0.length c0_] : List Value)) ++ []) 61) :: []) w → More w0 Φ [] w := fun w q => More.mono (fun w m => (m).tail) q
 replace va0 := va0.mono gq1
 replace h6 := h6.mono (BsRd.mono gq1)
 replace hg2 := hg2.mono gq1
 have v7 : View (More w0 Φ (((some b3), blk ((([.slice A0_ a0.length c0_] : List Value)) ++ []) 61) :: [])) (((some b3)).map fun k => ⟨k, 0, none⟩) ([a0] : List (List (BitVec 8))).length 1 1 (([.slice A0_ a0.length c0_] : List Value)) := o4.view (by decide) (fun w q => q.2.sublist (List.singleton_sublist.2 (List.mem_cons_self ..)))
 obtain ⟨x9, hx8, hf⟩ := some_bind hf
 refine OW.callG Tryd.call80 rfl (keccak_Sum_does w0 (More w0 Φ (((some b3), blk ((([.slice A0_ a0.length c0_] : List Value)) ++ []) 61) :: [])) ((some b2, blk (i64s (Vector.replicate 3 0).toList) 95) :: ((((some b3), blk ((([.slice A0_ a0.length c0_] : List Value)) ++ []) 61) :: []) ++ N)) (fun w m => More.of hΦ 1 m rfl) (((some b3)).map fun k => ⟨k, 0, none⟩) 1 (([.slice A0_ a0.length c0_] : List Value)) ([a0] : List (List (BitVec 8))) x9 v7 h6 hg2 hx8) rfl rfl ?_
 rintro _ G10 rfl
 refine OW.mem (M' := ((some b2, blk (i64s (Vector.replicate 3 0).toList) 95) :: ((((some b3), blk ((([.slice A0_ a0.length c0_] : List Value)) ++ []) 61) :: []) ++ N))) (fun w m => m.appR) ?_
 refine OW.alloc (l := (u8s (Vector.replicate 32 0#8).toList)) rfl (by rw [Vector.toList_replicate, ← u8s_rep']; rfl) rfl (fun b12 => ?_)
 refine OW.sv (SV.storeW rfl rfl rfl (u8s_one _) rfl ((u8s_length _).trans Vector.length_toList) ((u8s_length _).trans Vector.length_toList)) ?_
 refine OW.nil (QW.then_n (CW.seq (CW.region ?_)))
 refine OW.alloc (l := (i64s (Vector.replicate 3 0).toList)) rfl (by rw [Vector.toList_replicate, ← i64s_rep]; rfl) rfl (fun b13 => ?_)
 refine OW.nil (QW.then_n (CW.seq (CW.seq (CW.region ?_))))
 refine OW.rv (RV.move rfl) rfl ?_
 refine OW.nil (QW.then_n ?_)
 obtain ⟨q14, hq15, hf⟩ := some_bind hf
 refine CW.cutJ (fun L' M' => ∃ w16 : Vector (Int) 3, q14 = w16 ∧ L' = [(2, ptr (some b2) 0), (4, ptr (some b13) 0)] ∧ M' = ((some b13, blk (i64s w16.toList) 95) :: (some b2, blk (i64s (Vector.replicate 3 0).toList) 95) :: ((((some b3), blk ((([.slice A0_ a0.length c0_] : List Value)) ++ []) 61) :: []) ++ N))) ?_ ?_
 ·rintro L18 M19 ⟨w16, e17, e20, e21⟩
  rw [e20, e21]
  clear e20 e21 L18 M19
  clear hq15
  rw [e17] at hf
  clear e17
  try dsimp only at hf
  refine QW.then_n (CW.seq (CW.region ?_))
  refine OW.rv (RV.loadW rfl (List.Mem.head _) rfl rfl rfl rfl ((i64s_length _).trans Vector.length_toList)) rfl ?_
  refine OW.rot1 ?_
  refine OW.sv (SV.storeW rfl rfl rfl (i64s_one _) rfl ((i64s_length _).trans Vector.length_toList) ((i64s_length _).trans Vector.length_toList)) ?_
  refine OW.nil (QW.then_n (CW.ret ?_))
  have e0 := Option.some.inj hf
  subst e0
  refine QW.retG (rs := [.cell 2 95]) ([.agg (i64s w16.toList).toArray]) ((some b2, blk (i64s w16.toList) 95) :: (some b13, blk (i64s w16.toList) 95) :: (((some b3), blk ((([.slice A0_ a0.length c0_] : List Value)) ++ []) 61) :: [])) rfl ?_ rfl ?_ ?_ _ (.inl rfl)
  ·exact ⟨⟨_, _, _, _, rfl, (List.Mem.head _), rfl, rfl, (congrArg some ((i64s_length _).trans Vector.length_toList).symm), rfl⟩, trivial⟩
  ·exact rfl
  ·exact (fun w m => m)
 ·skip
  refine CW.block ?_
  refine CW.loopJ (fun k L' M' => ∃ n22 : Nat, ∃ w24 : Vector (Int) 3, (bloom_Places.l1 x9 k n22 w24) = some q14 ∧ (n22 ≤ 9223372036854775807) ∧ L' = [(2, ptr (some b2) 0), (3, ptr (some b12) 0), (4, ptr (some b13) 0), (9, .int .i64 ((n22 : Nat) : Int))] ∧ M' = ((some b13, blk (i64s w24.toList) 95) :: (some b12, blk (u8s x9.toList) 24) :: (some b2, blk (i64s (Vector.replicate 3 0).toList) 95) :: ((((some b3), blk ((([.slice A0_ a0.length c0_] : List Value)) ++ []) 61) :: []) ++ N))) (k0 := (3 - 0 + 2)) ⟨0, (Vector.replicate 3 0), hq15, (by omega), rfl, rfl⟩ ⟨rfl, rfl, rfl, rfl, trivial⟩ (fun w m => m.pick [0, 1, 2] 3 rfl rfl) ?_
  clear hq15
  rintro k25 L28 M29 ⟨n22, w24, hl26, b23, e30, e31⟩
  rw [e30, e31]
  clear e30 e31 L28 M29
  rcases k25 with _ | k25
  ·rw [bloom_Places.l1] at hl26; cases hl26
  rw [bloom_Places.l1] at hl26
  refine CW.seq (CW.region ?_)
  refine OW.rv (RV.lss rfl rfl) rfl ?_
  refine OW.slot (.bool (decide (n22 < 3))) (congrArg Value.bool (decide_eq_decide.2 (by omega))) ?_
  refine OW.nil (QW.then_n (CW.seq ?_))
  by_cases h32 : n22 < 3
  ·replace hl26 := if_t hl26 h32
   refine CW.is_t rfl (decide_eq_true h32) ?_
   refine CW.skip (QW.then_n (CW.seq (CW.block (CW.seq (CW.region ?_)))))
   refine OW.rv (RV.move rfl) rfl ?_
   refine OW.rv (RV.assign rfl) rfl ?_
   refine OW.nil (QW.then_n ?_)
   refine CW.drawsX ((some b12, blk (u8s x9.toList) 24) :: (some b2, blk (i64s (Vector.replicate 3 0).toList) 95) :: ((((some b3), blk ((([.slice A0_ a0.length c0_] : List Value)) ++ []) 61) :: []) ++ N)) [16] (fun w m => m.pick [1, 2] 3 rfl rfl) mixed (by kernel_rfl) ?_
   refine XW.rs 0 rfl (by kernel_rfl) rfl (RV.move rfl) rfl ?_
   refine XW.rs 1 rfl (by kernel_rfl) rfl (RV.move rfl) rfl ?_
   refine XW.rs 2 rfl (by kernel_rfl) rfl (RV.mul rfl rfl (by omega)) rfl ?_
   refine XW.slot (.int .i64 (((2 * n22) : Nat) : Int)) (by first | rfl | (congr 1) | (congr 1; omega)) ?_
   obtain ⟨g33, hl26⟩ := some_if hl26
   refine XW.rs 3 rfl (by kernel_rfl) rfl (RV.idx_a ((2 * n22)) rfl rfl rfl rfl rfl (by omega)) rfl ?_
   obtain ⟨x34, hx35, hl26⟩ := some_bind hl26
   refine XW.rs 4 rfl (by kernel_rfl) rfl (RV.load rfl (List.Mem.head _) rfl rfl rfl (by rw [Nat.zero_add]; exact u8s_at (vat hx35))) rfl ?_
   refine XW.rs 5 rfl (by kernel_rfl) rfl (RV.conv8_i rfl (by first | rfl | exact lit8 _ rfl) rfl rfl) rfl ?_
   have m36 := (x34).isLt
   refine XW.rs 6 rfl (by kernel_rfl) rfl (RV.mul rfl rfl (by omega)) rfl ?_
   refine XW.slot (.int .i64 (((256 * x34.toNat) : Nat) : Int)) (by first | rfl | (congr 1) | (congr 1; omega)) ?_
   refine XW.rs 7 rfl (by kernel_rfl) rfl (RV.move rfl) rfl ?_
   refine XW.rs 8 rfl (by kernel_rfl) rfl (RV.mul rfl rfl (by omega)) rfl ?_
   refine XW.slot (.int .i64 (((2 * n22) : Nat) : Int)) (by first | rfl | (congr 1) | (congr 1; omega)) ?_
   refine XW.rs 9 rfl (by kernel_rfl) rfl (RV.add rfl rfl (by omega)) rfl ?_
   refine XW.slot (.int .i64 ((((2 * n22) + 1) : Nat) : Int)) (by first | rfl | (congr 1) | (congr 1; omega)) ?_
   obtain ⟨g37, hl26⟩ := some_if hl26
   refine XW.rs 10 rfl (by kernel_rfl) rfl (RV.idx_a (((2 * n22) + 1)) rfl rfl rfl rfl rfl (by omega)) rfl ?_
   obtain ⟨x38, hx39, hl26⟩ := some_bind hl26
   refine XW.rs 11 rfl (by kernel_rfl) rfl (RV.load rfl (List.Mem.head _) rfl rfl rfl (by rw [Nat.zero_add]; exact u8s_at (vat hx39))) rfl ?_
   refine XW.rs 12 rfl (by kernel_rfl) rfl (RV.conv8_i rfl (by first | rfl | exact lit8 _ rfl) rfl rfl) rfl ?_
   have m40 := (x38).isLt
   refine XW.rs 13 rfl (by kernel_rfl) rfl (RV.add rfl rfl (by omega)) rfl ?_
   refine XW.slot (.int .i64 ((((256 * x34.toNat) + x38.toNat) : Nat) : Int)) (by first | rfl | (congr 1) | (congr 1; omega)) ?_
   refine XW.rs 14 rfl (by kernel_rfl) rfl (RV.rem rfl rfl (by omega) (by omega)) rfl ?_
   refine XW.slot (.int .i64 ((((256 * x34.toNat) + x38.toNat) % 2048 : Nat) : Int)) (by first | rfl | (congr 1; omega)) ?_
   refine XW.rs 15 rfl (by kernel_rfl) rfl (RV.idx_a (n22) rfl rfl rfl rfl rfl (by omega)) rfl ?_
   refine XW.sv 16 rfl (by kernel_rfl) (SV.store rfl rfl rfl rfl rfl (by rw [i64s_length, Vector.length_toList]; omega)) (fun w m => m.pick [1, 2] 3 rfl rfl) ?_
   refine XW.cells (i64s (w24.setIfInBounds n22 ((((256 * x34.toNat) + x38.toNat) % 2048 : Nat) : Int)).toList) (by rw [Nat.zero_add, i64s_set, vset]) ?_
   refine XW.nil (by kernel_rfl) ?_
   refine QW.block_n (QW.then_n (CW.region ?_))
   refine OW.rv (RV.add rfl rfl (by omega)) rfl ?_
   refine OW.slot (.int .i64 (((n22 + 1) : Nat) : Int)) (by first | rfl | (congr 1) | (congr 1; omega)) ?_
   refine OW.rv (RV.move rfl) rfl ?_
   refine OW.nil ?_
   exact QW.againJ (k' := k25) (Nat.lt_succ_self _) ⟨(n22 + 1), (w24.setIfInBounds n22 ((((256 * x34.toNat) + x38.toNat) % 2048 : Nat) : Int)), hl26, (by omega), rfl, rfl⟩ ⟨rfl, rfl, rfl, rfl, trivial⟩ (fun w m => m.pick [0, 1, 2] 3 rfl rfl)
  ·replace hl26 := if_f hl26 h32
   refine CW.is_f rfl (decide_eq_false h32) ?_
   refine CW.exit (QW.then_x (QW.then_x (QW.block_xe ?_)))
   exact QW.join ⟨w24, (Option.some.inj hl26).symm, rfl, rfl⟩ ⟨rfl, rfl, trivial⟩ (fun w m => m.pick [0, 2] 3 rfl rfl)
theorem bloom_set_does (w0 : World) (Φ : Ctx) (N : List Ent) (hΦ : ∀ w, Mem w0 w N → Φ w) (a0 : Vector (BitVec 8) 256) (a1 : Int) (res0 : Vector (BitVec 8) 256) (ba1 : -9223372036854775808 ≤ a1 ∧ a1 ≤ 9223372036854775807) (hf : bloom_set a0 a1 = some res0) : DoesG Tryd.prog 104 [.agg (u8s a0.toList).toArray, .int .i64 a1] w0 [] N (fun v G => v = .agg (u8s res0.toList).toArray) := by
 unfold bloom_set at hf
 refine DoesG.enter Tryd.func104 rfl Tryd.ntmps104 rfl (M := (([] ++ N))) rfl ?_
 refine CW.seq (CW.region ?_)
 refine OW.boxA rfl rfl (fun b1 => ?_)
 refine OW.alloc (l := (u8s (Vector.replicate 256 0#8).toList)) rfl (by rw [Vector.toList_replicate, ← u8s_rep']; rfl) rfl (fun b2 => ?_)
 refine OW.nil (QW.then_n (CW.seq ?_))
 refine CW.drawsX ((some b2, blk (u8s (Vector.replicate 256 0#8).toList) 27) :: ([] ++ N)) [10] (fun w m => m.pick [0] 2 rfl rfl) mixed (by kernel_rfl) ?_
 refine XW.rs 0 rfl (by kernel_rfl) rfl (RV.move rfl) rfl ?_
 obtain ⟨g3, hf⟩ := some_if hf
 refine XW.rs 1 rfl (by kernel_rfl) rfl (RV.quo rfl rfl (by omega) (by omega) (by omega)) rfl ?_
 refine XW.slot (.int .i64 (((a1).toNat / 8 : Nat) : Int)) (by first | rfl | (congr 1; omega)) ?_
 refine XW.rs 2 rfl (by kernel_rfl) rfl (RV.sub rfl rfl (by omega)) rfl ?_
 obtain ⟨g4, hf⟩ := some_if hf
 obtain ⟨g5, hf⟩ := some_if hf
 refine XW.rs 3 rfl (by kernel_rfl) rfl (RV.idx_a ((((255 : Int) - (((a1).toNat / 8 : Nat) : Int))).toNat) rfl rfl (by omega) rfl rfl (by omega)) rfl ?_
 obtain ⟨x6, hx7, hf⟩ := some_bind hf
 refine XW.rv 4 rfl (by kernel_rfl) rfl (by kernel_rfl) (RV.load rfl (List.Mem.tail _ (List.Mem.head _)) rfl rfl rfl (by rw [Nat.zero_add]; exact u8s_at (vat hx7))) rfl ?_
 refine XW.rs 5 rfl (by kernel_rfl) rfl (RV.move rfl) rfl ?_
 refine XW.rs 6 rfl (by kernel_rfl) rfl (RV.rem rfl rfl (by omega) (by omega)) rfl ?_
 refine XW.slot (.int .i64 (((a1).toNat % 8 : Nat) : Int)) (by first | rfl | (congr 1; omega)) ?_
 refine XW.rs 7 rfl (by kernel_rfl) rfl (RV.shl8 (s := ((a1).toNat % 8)) rfl (by first | rfl | exact lit8 _ rfl) rfl (by first | rfl | (congr 1))) rfl ?_
 refine XW.rs 8 rfl (by kernel_rfl) rfl (RV.or8 rfl (by first | rfl | exact lit8 _ rfl) rfl (by first | rfl | exact lit8 _ rfl)) rfl ?_
 refine XW.rs 9 rfl (by kernel_rfl) rfl (RV.idx_a ((((255 : Int) - (((a1).toNat / 8 : Nat) : Int))).toNat) rfl rfl (by omega) rfl rfl (by omega)) rfl ?_
 refine XW.mem (M' := ((some b1, blk (u8s a0.toList) 27) :: (some b2, blk (u8s (Vector.replicate 256 0#8).toList) 27) :: ([] ++ N))) (fun w m => m.pick [1, 0] 2 rfl rfl) (fun w m => m.pick [1] 2 rfl rfl) ?_
 refine XW.sv 10 rfl (by kernel_rfl) (SV.store rfl rfl rfl rfl rfl (by rw [u8s_length, Vector.length_toList]; omega)) (fun w m => m.pick [1] 2 rfl rfl) ?_
 refine XW.cells (u8s (a0.setIfInBounds ((((255 : Int) - (((a1).toNat / 8 : Nat) : Int))).toNat) (x6 ||| (1#8 <<< ((a1).toNat % 8)))).toList) (by rw [Nat.zero_add, u8s_set', vset]) ?_
 refine XW.nil (by kernel_rfl) ?_
 refine QW.then_n (CW.seq (CW.region ?_))
 refine OW.rv (RV.loadW rfl (List.Mem.head _) rfl rfl rfl rfl ((u8s_length _).trans Vector.length_toList)) rfl ?_
 refine OW.rot1 ?_
 refine OW.sv (SV.storeW rfl rfl rfl (u8s_one _) rfl ((u8s_length _).trans Vector.length_toList) ((u8s_length _).trans Vector.length_toList)) ?_
 refine OW.nil (QW.then_n (CW.ret ?_))
 have e0 := Option.some.inj hf
 subst e0
 refine QW.retG (rs := [.cell 4 27]) ([.agg (u8s (a0.setIfInBounds ((((255 : Int) - (((a1).toNat / 8 : Nat) : Int))).toNat) (x6 ||| (1#8 <<< ((a1).toNat % 8)))).toList).toArray]) ((some b2, blk (u8s (a0.setIfInBounds ((((255 : Int) - (((a1).toNat / 8 : Nat) : Int))).toNat) (x6 ||| (1#8 <<< ((a1).toNat % 8)))).toList) 27) :: (some b1, blk (u8s (a0.setIfInBounds ((((255 : Int) - (((a1).toNat / 8 : Nat) : Int))).toNat) (x6 ||| (1#8 <<< ((a1).toNat % 8)))).toList) 27) :: []) rfl ?_ rfl ?_ ?_ _ (.inl rfl)
 ·exact ⟨⟨_, _, _, _, rfl, (List.Mem.head _), rfl, rfl, (congrArg some ((u8s_length _).trans Vector.length_toList).symm), rfl⟩, trivial⟩
 ·exact rfl
 ·exact (fun w m => m)
theorem bloom_has_does (w0 : World) (Φ : Ctx) (N : List Ent) (hΦ : ∀ w, Mem w0 w N → Φ w) (a0 : Vector (BitVec 8) 256) (a1 : Int) (res0 : Bool) (ba1 : -9223372036854775808 ≤ a1 ∧ a1 ≤ 9223372036854775807) (hf : bloom_has a0 a1 = some res0) : DoesG Tryd.prog 58 [.agg (u8s a0.toList).toArray, .int .i64 a1] w0 [] N (fun v G => v = .bool res0) := by
 unfold bloom_has at hf
 refine DoesG.enter Tryd.func58 rfl Tryd.ntmps58 rfl (M := (([] ++ N))) rfl ?_
 refine CW.seq (CW.region ?_)
 refine OW.boxA rfl rfl (fun b1 => ?_)
 refine OW.rv (RV.assign rfl) rfl ?_
 refine OW.nil (QW.then_n (CW.seq (CW.region ?_)))
 refine OW.rv (RV.move rfl) rfl ?_
 obtain ⟨g2, hf⟩ := some_if hf
 refine OW.rv (RV.quo rfl rfl (by omega) (by omega) (by omega)) rfl ?_
 refine OW.slot (.int .i64 (((a1).toNat / 8 : Nat) : Int)) (by first | rfl | (congr 1; omega)) ?_
 refine OW.rv (RV.sub rfl rfl (by omega)) rfl ?_
 obtain ⟨g3, hf⟩ := some_if hf
 obtain ⟨g4, hf⟩ := some_if hf
 refine OW.rv (RV.idx_a ((((255 : Int) - (((a1).toNat / 8 : Nat) : Int))).toNat) rfl rfl (by omega) rfl rfl (by omega)) rfl ?_
 obtain ⟨x5, hx6, hf⟩ := some_bind hf
 refine OW.rv (RV.load rfl (List.Mem.head _) rfl rfl rfl (by rw [Nat.zero_add]; exact u8s_at (vat hx6))) rfl ?_
 refine OW.rv (RV.move rfl) rfl ?_
 refine OW.rv (RV.rem rfl rfl (by omega) (by omega)) rfl ?_
 refine OW.slot (.int .i64 (((a1).toNat % 8 : Nat) : Int)) (by first | rfl | (congr 1; omega)) ?_
 refine OW.rv (RV.shr8 (s := ((a1).toNat % 8)) rfl (by first | rfl | exact lit8 _ rfl) rfl (by first | rfl | (congr 1))) rfl ?_
 refine OW.rv (RV.and8 rfl (by first | rfl | exact lit8 _ rfl) rfl (by first | rfl | exact lit8 _ rfl)) rfl ?_
 refine OW.rv (RV.eql8 rfl (by first | rfl | exact lit8 _ rfl) rfl (by first | rfl | exact lit8 _ rfl)) rfl ?_
 refine OW.rv (RV.assign rfl) rfl ?_
 refine OW.nil (QW.then_n (CW.ret ?_))
 have e0 := Option.some.inj hf
 subst e0
 refine QW.retG (rs := [.tmp 4]) ([.bool (decide (((x5 >>> ((a1).toNat % 8)) &&& 1#8) = 1#8))]) ((some b1, blk (u8s a0.toList) 27) :: []) rfl ?_ rfl ?_ ?_ _ (.inl rfl)
 ·exact ⟨rfl, trivial⟩
 ·exact rfl
 ·exact (fun w m => m)
theorem bloom_Add_does (w0 : World) (Φ : Ctx) (N : List Ent) (hΦ : ∀ w, Mem w0 w N → Φ w) (a0 : Vector (BitVec 8) 256) (A1_ : Option Addr) (c1_ : Nat) (a1 : List (BitVec 8)) (res0 : Vector (BitVec 8) 256) (va1 : View Φ A1_ a1.length c1_ 1 (u8s a1)) (hg2 : View Φ (some ⟨2, 0, none⟩) 2 2 1 (u8s firstL)) (hf : bloom_Add a0 a1 = some res0) : DoesG Tryd.prog 78 [.agg (u8s a0.toList).toArray, .slice A1_ a1.length c1_] w0 [] N (fun v G => v = .agg (u8s res0.toList).toArray) := by
 unfold bloom_Add at hf
 replace va1 := va1.mono (Ψ := More w0 Φ []) (fun w q => q.1)
 replace hg2 := hg2.mono (Ψ := More w0 Φ []) (fun w q => q.1)
 have m1 := va1.mx
 refine DoesG.enter Tryd.func78 rfl Tryd.ntmps78 rfl (M := (([] ++ N))) rfl ?_
 refine CW.seq (CW.region ?_)
 refine OW.boxA rfl rfl (fun b2 => ?_)
 refine OW.alloc (l := (u8s (Vector.replicate 256 0#8).toList)) rfl (by rw [Vector.toList_replicate, ← u8s_rep']; rfl) rfl (fun b3 => ?_)
 refine OW.nil (QW.then_n (CW.seq (CW.seq (CW.region ?_))))
 refine OW.rv (RV.move rfl) rfl ?_
 obtain ⟨x5, hx4, hf⟩ := some_bind hf
 refine OW.callG Tryd.call57 rfl (bloom_Places_does w0 (More w0 Φ []) ((some b3, blk (u8s (Vector.replicate 256 0#8).toList) 27) :: (some b2, blk (u8s a0.toList) 27) :: ([] ++ N)) (fun w m => More.of hΦ 2 m rfl) A1_ c1_ a1 x5 va1 hg2 hx4) rfl rfl ?_
 rintro _ G6 rfl
 refine OW.mem (M' := ((some b3, blk (u8s (Vector.replicate 256 0#8).toList) 27) :: (some b2, blk (u8s a0.toList) 27) :: ([] ++ N))) (fun w m => m.appR) ?_
 refine OW.rv (RV.move rfl) rfl ?_
 refine OW.nil (QW.then_n ?_)
 obtain ⟨q8, hq9, hf⟩ := some_bind hf
 refine CW.cutJ (fun L' M' => ∃ w10 : Vector (BitVec 8) 256, q8 = w10 ∧ L' = [(2, ptr (some b2) 0), (4, ptr (some b3) 0)] ∧ M' = ((some b3, blk (u8s (Vector.replicate 256 0#8).toList) 27) :: (some b2, blk (u8s w10.toList) 27) :: ([] ++ N))) ?_ ?_
 ·rintro L12 M13 ⟨w10, e11, e14, e15⟩
  rw [e14, e15]
  clear e14 e15 L12 M13
  clear hq9
  rw [e11] at hf
  clear e11
  try dsimp only at hf
  refine QW.then_n (CW.seq (CW.region ?_))
  refine OW.rv (RV.loadW rfl (List.Mem.tail _ (List.Mem.head _)) rfl rfl rfl rfl ((u8s_length _).trans Vector.length_toList)) rfl ?_
  refine OW.sv (SV.storeW rfl rfl rfl (u8s_one _) rfl ((u8s_length _).trans Vector.length_toList) ((u8s_length _).trans Vector.length_toList)) ?_
  refine OW.nil (QW.then_n (CW.ret ?_))
  have e0 := Option.some.inj hf
  subst e0
  refine QW.retG (rs := [.cell 4 27]) ([.agg (u8s w10.toList).toArray]) ((some b3, blk (u8s w10.toList) 27) :: (some b2, blk (u8s w10.toList) 27) :: []) rfl ?_ rfl ?_ ?_ _ (.inl rfl)
  ·exact ⟨⟨_, _, _, _, rfl, (List.Mem.head _), rfl, rfl, (congrArg some ((u8s_length _).trans Vector.length_toList).symm), rfl⟩, trivial⟩
  ·exact rfl
  ·exact (fun w m => m)
 ·skip
  refine CW.block ?_
  refine CW.loopJ (fun k L' M' => ∃ n16 : Nat, ∃ w18 : Vector (BitVec 8) 256, (bloom_Add.l1 x5 k n16 w18) = some q8 ∧ (n16 ≤ 9223372036854775807) ∧ L' = [(2, ptr (some b2) 0), (4, ptr (some b3) 0), (8, .agg (i64s x5.toList).toArray), (9, .int .i64 ((n16 : Nat) : Int))] ∧ M' = ((some b3, blk (u8s (Vector.replicate 256 0#8).toList) 27) :: (some b2, blk (u8s w18.toList) 27) :: ([] ++ N))) (k0 := (3 - 0 + 2)) ⟨0, a0, hq9, (by omega), rfl, rfl⟩ ⟨rfl, rfl, rfl, rfl, trivial⟩ (fun w m => m.pick [0, 1] 2 rfl rfl) ?_
  clear hq9
  rintro k19 L22 M23 ⟨n16, w18, hl20, b17, e24, e25⟩
  rw [e24, e25]
  clear e24 e25 L22 M23
  rcases k19 with _ | k19
  ·rw [bloom_Add.l1] at hl20; cases hl20
  rw [bloom_Add.l1] at hl20
  refine CW.seq (CW.region ?_)
  refine OW.rv (RV.lss rfl rfl) rfl ?_
  refine OW.slot (.bool (decide (n16 < 3))) (congrArg Value.bool (decide_eq_decide.2 (by omega))) ?_
  refine OW.nil (QW.then_n (CW.seq ?_))
  by_cases h26 : n16 < 3
  ·replace hl20 := if_t hl20 h26
   refine CW.is_t rfl (decide_eq_true h26) ?_
   refine CW.skip (QW.then_n (CW.seq (CW.block (CW.seq (CW.region ?_)))))
   obtain ⟨x27, hx28, hl20⟩ := some_bind hl20
   have hl29 := (Vector.getElem?_eq_some_iff.1 hx28).1
   refine OW.rv (RV.indexV (n16) rfl rfl rfl rfl rfl rfl rfl (by omega) (i64s_at (vat hx28))) rfl ?_
   refine OW.rv (RV.assign rfl) rfl ?_
   refine OW.nil (QW.then_n (CW.region ?_))
   refine OW.rv (RV.loadW rfl (List.Mem.tail _ (List.Mem.head _)) rfl rfl rfl rfl ((u8s_length _).trans Vector.length_toList)) rfl ?_
   refine OW.rv (RV.move rfl) rfl ?_
   obtain ⟨g30, hl20⟩ := some_if hl20
   obtain ⟨x32, hx31, hl20⟩ := some_bind hl20
   refine OW.callG Tryd.call104 rfl (bloom_set_does w0 (More w0 Φ []) ((some b3, blk (u8s (Vector.replicate 256 0#8).toList) 27) :: (some b2, blk (u8s w18.toList) 27) :: ([] ++ N)) (fun w m => More.of hΦ 2 m rfl) w18 x27 x32 (by omega) hx31) rfl rfl ?_
   rintro _ G33 rfl
   refine OW.mem (M' := ((some b3, blk (u8s (Vector.replicate 256 0#8).toList) 27) :: (some b2, blk (u8s w18.toList) 27) :: ([] ++ N))) (fun w m => m.appR) ?_
   refine OW.rot1 ?_
   refine OW.sv (SV.storeW rfl rfl rfl (u8s_one _) rfl ((u8s_length _).trans Vector.length_toList) ((u8s_length _).trans Vector.length_toList)) ?_
   refine OW.nil (QW.block_n (QW.then_n (CW.region ?_)))
   refine OW.rv (RV.add rfl rfl (by omega)) rfl ?_
   refine OW.slot (.int .i64 (((n16 + 1) : Nat) : Int)) (by first | rfl | (congr 1) | (congr 1; omega)) ?_
   refine OW.rv (RV.move rfl) rfl ?_
   refine OW.nil ?_
   exact QW.againJ (k' := k19) (Nat.lt_succ_self _) ⟨(n16 + 1), x32, hl20, (by omega), rfl, rfl⟩ ⟨rfl, rfl, rfl, rfl, trivial⟩ (fun w m => m.pick [1, 0] 2 rfl rfl)
  ·replace hl20 := if_f hl20 h26
   refine CW.is_f rfl (decide_eq_false h26) ?_
   refine CW.exit (QW.then_x (QW.then_x (QW.block_xe ?_)))
   exact QW.join ⟨w18, (Option.some.inj hl20).symm, rfl, rfl⟩ ⟨rfl, rfl, trivial⟩ (fun w m => m.pick [0, 1] 2 rfl rfl)
theorem bloom_Of_does (w0 : World) (Φ : Ctx) (N : List Ent) (hΦ : ∀ w, Mem w0 w N → Φ w) (A0_ : Option Addr) (c0_ : Nat) (cs0_ : List Value) (a0 : List (List (BitVec 8))) (res0 : Vector (BitVec 8) 256) (va0 : View Φ A0_ a0.length c0_ 1 cs0_) (ha0 : Reps (BsRd Φ) cs0_ a0) (hg2 : View Φ (some ⟨2, 0, none⟩) 2 2 1 (u8s firstL)) (hf : bloom_Of a0 = some res0) : DoesG Tryd.prog 51 [.slice A0_ a0.length c0_] w0 [] N (fun v G => v = .agg (u8s res0.toList).toArray) := by
 unfold bloom_Of at hf
 replace va0 := va0.mono (Ψ := More w0 Φ []) (fun w q => q.1)
 replace hg2 := hg2.mono (Ψ := More w0 Φ []) (fun w q => q.1)
 replace ha0 := ha0.mono (BsRd.mono (Ψ := More w0 Φ []) (fun w q => q.1))
 have m1 := va0.mx
 refine DoesG.enter Tryd.func51 rfl Tryd.ntmps51 rfl (M := (([] ++ N))) rfl ?_
 refine CW.seq (CW.region ?_)
 refine OW.alloc (l := (u8s (Vector.replicate 256 0#8).toList)) rfl (by rw [Vector.toList_replicate, ← u8s_rep']; rfl) rfl (fun b2 => ?_)
 refine OW.nil (QW.then_n (CW.seq (CW.region ?_)))
 refine OW.alloc (l := (u8s (Vector.replicate 256 0#8).toList)) rfl (by rw [Vector.toList_replicate, ← u8s_rep']; rfl) rfl (fun b3 => ?_)
 refine OW.nil (QW.then_n (CW.seq (CW.seq (CW.region ?_))))
 refine OW.rv (RV.move rfl) rfl ?_
 refine OW.rv (RV.len rfl rfl) rfl ?_
 refine OW.rv (RV.move rfl) rfl ?_
 refine OW.nil (QW.then_n ?_)
 obtain ⟨q4, hq5, hf⟩ := some_bind hf
 refine CW.cutJ (fun L' M' => ∃ w6 : Vector (BitVec 8) 256, q4 = w6 ∧ L' = [(2, ptr (some b2) 0), (3, ptr (some b3) 0)] ∧ M' = ((some b3, blk (u8s w6.toList) 27) :: (some b2, blk (u8s (Vector.replicate 256 0#8).toList) 27) :: ([] ++ N))) ?_ ?_
 ·rintro L8 M9 ⟨w6, e7, e10, e11⟩
  rw [e10, e11]
  clear e10 e11 L8 M9
  clear hq5
  rw [e7] at hf
  clear e7
  try dsimp only at hf
  refine QW.then_n (CW.seq (CW.region ?_))
  refine OW.rv (RV.loadW rfl (List.Mem.head _) rfl rfl rfl rfl ((u8s_length _).trans Vector.length_toList)) rfl ?_
  refine OW.rot1 ?_
  refine OW.sv (SV.storeW rfl rfl rfl (u8s_one _) rfl ((u8s_length _).trans Vector.length_toList) ((u8s_length _).trans Vector.length_toList)) ?_
  refine OW.nil (QW.then_n (CW.ret ?_))
  have e0 := Option.some.inj hf
  subst e0
  refine QW.retG (rs := [.cell 2 27]) ([.agg (u8s w6.toList).toArray]) ((some b2, blk (u8s w6.toList) 27) :: (some b3, blk (u8s w6.toList) 27) :: []) rfl ?_ rfl ?_ ?_ _ (.inl rfl)
  ·exact ⟨⟨_, _, _, _, rfl, (List.Mem.head _), rfl, rfl, (congrArg some ((u8s_length _).trans Vector.length_toList).symm), rfl⟩, trivial⟩
  ·exact rfl
  ·exact (fun w m => m)
 ·skip
  refine CW.block ?_
  refine CW.loopJ (fun k L' M' => ∃ n12 : Nat, ∃ w14 : Vector (BitVec 8) 256, (bloom_Of.l1 a0 k n12 w14) = some q4 ∧ (n12 ≤ 9223372036854775807) ∧ L' = [(2, ptr (some b2) 0), (3, ptr (some b3) 0), (6, .slice A0_ a0.length c0_), (7, .int .i64 ((a0.length : Nat) : Int)), (8, .int .i64 ((n12 : Nat) : Int))] ∧ M' = ((some b3, blk (u8s w14.toList) 27) :: (some b2, blk (u8s (Vector.replicate 256 0#8).toList) 27) :: ([] ++ N))) (k0 := (a0.length - 0 + 2)) ⟨0, (Vector.replicate 256 0#8), hq5, (by omega), rfl, rfl⟩ ⟨rfl, rfl, rfl, rfl, rfl, trivial⟩ (fun w m => m.pick [0, 1] 2 rfl rfl) ?_
  clear hq5
  rintro k15 L18 M19 ⟨n12, w14, hl16, b13, e20, e21⟩
  rw [e20, e21]
  clear e20 e21 L18 M19
  rcases k15 with _ | k15
  ·rw [bloom_Of.l1] at hl16; cases hl16
  rw [bloom_Of.l1] at hl16
  refine CW.seq (CW.region ?_)
  refine OW.rv (RV.lss rfl rfl) rfl ?_
  refine OW.slot (.bool (decide (n12 < a0.length))) (congrArg Value.bool (decide_eq_decide.2 (by omega))) ?_
  refine OW.nil (QW.then_n (CW.seq ?_))
  by_cases h22 : n12 < a0.length
  ·replace hl16 := if_t hl16 h22
   refine CW.is_t rfl (decide_eq_true h22) ?_
   refine CW.skip (QW.then_n (CW.seq (CW.block (CW.seq (CW.region ?_)))))
   obtain ⟨x23, hx24, hl16⟩ := some_bind hl16
   have hl25 := lt_of_at hx24
   refine OW.rv (RV.idx_r (n12) rfl rfl rfl rfl rfl (va0.isSome (by decide) hl25) (by omega)) rfl ?_
   obtain ⟨cs26, h27, h28⟩ := ha0.get BsRd.len hx24
   obtain ⟨A29, c30, e32, v31⟩ := h27
   subst e32
   have m33 := v31.mx
   refine OW.rv (RV.load_at rfl rfl rfl (fun w m => by have := va0.load (More.of hΦ 2 m rfl) h28 0 _ rfl; simpa [Addr.add] using this)) rfl ?_
   refine OW.rv (RV.assign rfl) rfl ?_
   refine OW.nil (QW.then_n (CW.region ?_))
   refine OW.rv (RV.loadW rfl (List.Mem.head _) rfl rfl rfl rfl ((u8s_length _).trans Vector.length_toList)) rfl ?_
   refine OW.rv (RV.move rfl) rfl ?_
   obtain ⟨x35, hx34, hl16⟩ := some_bind hl16
   refine OW.callG Tryd.call78 rfl (bloom_Add_does w0 (More w0 Φ []) ((some b3, blk (u8s w14.toList) 27) :: (some b2, blk (u8s (Vector.replicate 256 0#8).toList) 27) :: ([] ++ N)) (fun w m => More.of hΦ 2 m rfl) w14 A29 c30 x23 x35 v31 hg2 hx34) rfl rfl ?_
   rintro _ G36 rfl
   refine OW.mem (M' := ((some b3, blk (u8s w14.toList) 27) :: (some b2, blk (u8s (Vector.replicate 256 0#8).toList) 27) :: ([] ++ N))) (fun w m => m.appR) ?_
   refine OW.sv (SV.storeW rfl rfl rfl (u8s_one _) rfl ((u8s_length _).trans Vector.length_toList) ((u8s_length _).trans Vector.length_toList)) ?_
   refine OW.nil (QW.block_n (QW.then_n (CW.region ?_)))
   refine OW.rv (RV.add rfl rfl (by omega)) rfl ?_
   refine OW.slot (.int .i64 (((n12 + 1) : Nat) : Int)) (by first | rfl | (congr 1) | (congr 1; omega)) ?_
   refine OW.rv (RV.move rfl) rfl ?_
   refine OW.nil ?_
   exact QW.againJ (k' := k15) (Nat.lt_succ_self _) ⟨(n12 + 1), x35, hl16, (by omega), rfl, rfl⟩ ⟨rfl, rfl, rfl, rfl, rfl, trivial⟩ (fun w m => m.pick [0, 1] 2 rfl rfl)
  ·replace hl16 := if_f hl16 h22
   refine CW.is_f rfl (decide_eq_false h22) ?_
   refine CW.exit (QW.then_x (QW.then_x (QW.block_xe ?_)))
   exact QW.join ⟨w14, (Option.some.inj hl16).symm, rfl, rfl⟩ ⟨rfl, rfl, trivial⟩ (fun w m => m.pick [0, 1] 2 rfl rfl)
theorem bloom_Has_does (w0 : World) (Φ : Ctx) (N : List Ent) (hΦ : ∀ w, Mem w0 w N → Φ w) (a0 : Vector (BitVec 8) 256) (A1_ : Option Addr) (c1_ : Nat) (a1 : List (BitVec 8)) (res0 : Bool) (va1 : View Φ A1_ a1.length c1_ 1 (u8s a1)) (hg2 : View Φ (some ⟨2, 0, none⟩) 2 2 1 (u8s firstL)) (hf : bloom_Has a0 a1 = some res0) : DoesG Tryd.prog 32 [.agg (u8s a0.toList).toArray, .slice A1_ a1.length c1_] w0 [] N (fun v G => v = .bool res0) := by
 unfold bloom_Has at hf
 replace va1 := va1.mono (Ψ := More w0 Φ []) (fun w q => q.1)
 replace hg2 := hg2.mono (Ψ := More w0 Φ []) (fun w q => q.1)
 have m1 := va1.mx
 refine DoesG.enter Tryd.func32 rfl Tryd.ntmps32 rfl (M := (([] ++ N))) rfl ?_
 refine CW.seq (CW.region ?_)
 refine OW.boxA rfl rfl (fun b2 => ?_)
 refine OW.rv (RV.assign rfl) rfl ?_
 refine OW.nil (QW.then_n (CW.seq (CW.seq (CW.region ?_))))
 refine OW.rv (RV.move rfl) rfl ?_
 obtain ⟨x4, hx3, hf⟩ := some_bind hf
 refine OW.callG Tryd.call57 rfl (bloom_Places_does w0 (More w0 Φ []) ((some b2, blk (u8s a0.toList) 27) :: ([] ++ N)) (fun w m => More.of hΦ 1 m rfl) A1_ c1_ a1 x4 va1 hg2 hx3) rfl rfl ?_
 rintro _ G5 rfl
 refine OW.mem (M' := ((some b2, blk (u8s a0.toList) 27) :: ([] ++ N))) (fun w m => m.appR) ?_
 refine OW.rv (RV.move rfl) rfl ?_
 refine OW.nil (QW.then_n ?_)
 obtain ⟨q7, hq8, hf⟩ := some_bind hf
 refine CW.cutJ (fun L' M' => q7 = Lp.go () ∧ L' = [] ∧ M' = (([] ++ N))) ?_ ?_
 ·rintro L10 M11 ⟨e9, e12, e13⟩
  rw [e12, e13]
  clear e12 e13 L10 M11
  clear hq8
  rw [e9] at hf
  clear e9
  try dsimp only at hf
  refine QW.then_n (CW.seq (CW.region ?_))
  refine OW.rv (RV.assign rfl) rfl ?_
  refine OW.nil (QW.then_n (CW.ret ?_))
  have e0 := Option.some.inj hf
  subst e0
  refine QW.retG (rs := [.tmp 4]) ([.bool true]) ([]) rfl ?_ rfl ?_ ?_ _ (.inl rfl)
  ·exact ⟨rfl, trivial⟩
  ·exact rfl
  ·exact (fun w m => m)
 ·skip
  refine CW.block ?_
  refine CW.loopJ (fun k L' M' => ∃ n14 : Nat, (bloom_Has.l1 a0 x4 k n14) = some q7 ∧ (n14 ≤ 9223372036854775807) ∧ L' = [(2, ptr (some b2) 0), (8, .agg (i64s x4.toList).toArray), (9, .int .i64 ((n14 : Nat) : Int))] ∧ M' = ((some b2, blk (u8s a0.toList) 27) :: ([] ++ N))) (k0 := (3 - 0 + 2)) ⟨0, hq8, (by omega), rfl, rfl⟩ ⟨rfl, rfl, rfl, trivial⟩ (fun w m => m.pick [0] 1 rfl rfl) ?_
  clear hq8
  rintro k16 L19 M20 ⟨n14, hl17, b15, e21, e22⟩
  rw [e21, e22]
  clear e21 e22 L19 M20
  rcases k16 with _ | k16
  ·rw [bloom_Has.l1] at hl17; cases hl17
  rw [bloom_Has.l1] at hl17
  refine CW.seq (CW.region ?_)
  refine OW.rv (RV.lss rfl rfl) rfl ?_
  refine OW.slot (.bool (decide (n14 < 3))) (congrArg Value.bool (decide_eq_decide.2 (by omega))) ?_
  refine OW.nil (QW.then_n (CW.seq ?_))
  by_cases h23 : n14 < 3
  ·replace hl17 := if_t hl17 h23
   refine CW.is_t rfl (decide_eq_true h23) ?_
   refine CW.skip (QW.then_n (CW.seq (CW.block (CW.seq (CW.region ?_)))))
   obtain ⟨x24, hx25, hl17⟩ := some_bind hl17
   have hl26 := (Vector.getElem?_eq_some_iff.1 hx25).1
   refine OW.rv (RV.indexV (n14) rfl rfl rfl rfl rfl rfl rfl (by omega) (i64s_at (vat hx25))) rfl ?_
   refine OW.rv (RV.assign rfl) rfl ?_
   refine OW.nil (QW.then_n (CW.seq (CW.region ?_)))
   refine OW.rv (RV.loadW rfl (List.Mem.head _) rfl rfl rfl rfl ((u8s_length _).trans Vector.length_toList)) rfl ?_
   refine OW.rv (RV.move rfl) rfl ?_
   obtain ⟨g27, hl17⟩ := some_if hl17
   obtain ⟨x29, hx28, hl17⟩ := some_bind hl17
   refine OW.callG Tryd.call58 rfl (bloom_has_does w0 (More w0 Φ []) ((some b2, blk (u8s a0.toList) 27) :: ([] ++ N)) (fun w m => More.of hΦ 1 m rfl) a0 x24 x29 (by omega) hx28) rfl rfl ?_
   rintro _ G30 rfl
   refine OW.mem (M' := ((some b2, blk (u8s a0.toList) 27) :: ([] ++ N))) (fun w m => m.appR) ?_
   refine OW.rv (RV.not rfl) rfl ?_
   refine OW.nil (QW.then_n ?_)
   by_cases h32 : x29 = true
   ·replace hl17 := if_t hl17 h32
    refine CW.is_f rfl (congrArg (fun b => !b) (h32)) ?_
    refine CW.skip (QW.block_n (QW.then_n (CW.region ?_)))
    refine OW.rv (RV.add rfl rfl (by omega)) rfl ?_
    refine OW.slot (.int .i64 (((n14 + 1) : Nat) : Int)) (by first | rfl | (congr 1) | (congr 1; omega)) ?_
    refine OW.rv (RV.move rfl) rfl ?_
    refine OW.nil ?_
    exact QW.againJ (k' := k16) (Nat.lt_succ_self _) ⟨(n14 + 1), hl17, (by omega), rfl, rfl⟩ ⟨rfl, rfl, rfl, trivial⟩ (fun w m => m.pick [0] 1 rfl rfl)
   ·replace hl17 := if_f hl17 h32
    refine CW.is_t rfl (congrArg (fun b => !b) (Bool.eq_false_iff.2 h32)) ?_
    refine CW.seq (CW.region ?_)
    refine OW.rv (RV.assign rfl) rfl ?_
    refine OW.nil (QW.then_n (CW.ret (QW.block_r (QW.then_r (QW.then_r (QW.block_r (QW.then_r ?_)))))))
    have hc := Option.some.inj hl17
    subst hc
    try dsimp only at hf
    refine QW.then_r ?_
    have e0 := Option.some.inj hf
    subst e0
    refine QW.retG (rs := [.tmp 4]) ([.bool false]) ((some b2, blk (u8s a0.toList) 27) :: []) rfl ?_ rfl ?_ ?_ _ (.inl rfl)
    ·exact ⟨rfl, trivial⟩
    ·exact rfl
    ·exact (fun w m => m)
  ·replace hl17 := if_f hl17 h23
   refine CW.is_f rfl (decide_eq_false h23) ?_
   refine CW.exit (QW.then_x (QW.then_x (QW.block_xe ?_)))
   exact QW.join ⟨(Option.some.inj hl17).symm, rfl, rfl⟩ trivial (fun w m => m.pick [] 1 rfl rfl)
theorem bloom_Union_does (w0 : World) (Φ : Ctx) (N : List Ent) (hΦ : ∀ w, Mem w0 w N → Φ w) (A0_ : Option Addr) (c0_ : Nat) (cs0_ : List Value) (a0 : List (Vector (BitVec 8) 256)) (res0 : Vector (BitVec 8) 256) (va0 : View Φ A0_ a0.length c0_ 256 cs0_) (ha0 : Reps (Ar8Rd Φ) cs0_ a0) (hf : bloom_Union a0 = some res0) : DoesG Tryd.prog 31 [.slice A0_ a0.length c0_] w0 [] N (fun v G => v = .agg (u8s res0.toList).toArray) := by
 unfold bloom_Union at hf
 replace va0 := va0.mono (Ψ := More w0 Φ []) (fun w q => q.1)
 replace ha0 := ha0.mono (Ar8Rd.mono (Ψ := More w0 Φ []) (fun w q => q.1))
 have m1 := va0.mx
 refine DoesG.enter Tryd.func31 rfl Tryd.ntmps31 rfl (M := (([] ++ N))) rfl ?_
 refine CW.seq (CW.region ?_)
 refine OW.alloc (l := (u8s (Vector.replicate 256 0#8).toList)) rfl (by rw [Vector.toList_replicate, ← u8s_rep']; rfl) rfl (fun b2 => ?_)
 refine OW.nil (QW.then_n (CW.seq (CW.region ?_)))
 refine OW.alloc (l := (u8s (Vector.replicate 256 0#8).toList)) rfl (by rw [Vector.toList_replicate, ← u8s_rep']; rfl) rfl (fun b3 => ?_)
 refine OW.nil (QW.then_n (CW.seq (CW.seq (CW.region ?_))))
 refine OW.rv (RV.move rfl) rfl ?_
 refine OW.rv (RV.len rfl rfl) rfl ?_
 refine OW.rv (RV.move rfl) rfl ?_
 refine OW.nil (QW.then_n ?_)
 obtain ⟨q4, hq5, hf⟩ := some_bind hf
 refine CW.cutJ (fun L' M' => ∃ w6 : Vector (BitVec 8) 256, q4 = w6 ∧ L' = [(2, ptr (some b2) 0), (3, ptr (some b3) 0)] ∧ M' = ((some b3, blk (u8s w6.toList) 27) :: (some b2, blk (u8s (Vector.replicate 256 0#8).toList) 27) :: ([] ++ N))) ?_ ?_
 ·rintro L8 M9 ⟨w6, e7, e10, e11⟩
  rw [e10, e11]
  clear e10 e11 L8 M9
  clear hq5
  rw [e7] at hf
  clear e7
  try dsimp only at hf
  refine QW.then_n (CW.seq (CW.region ?_))
  refine OW.rv (RV.loadW rfl (List.Mem.head _) rfl rfl rfl rfl ((u8s_length _).trans Vector.length_toList)) rfl ?_
  refine OW.rot1 ?_
  refine OW.sv (SV.storeW rfl rfl rfl (u8s_one _) rfl ((u8s_length _).trans Vector.length_toList) ((u8s_length _).trans Vector.length_toList)) ?_
  refine OW.nil (QW.then_n (CW.ret ?_))
  have e0 := Option.some.inj hf
  subst e0
  refine QW.retG (rs := [.cell 2 27]) ([.agg (u8s w6.toList).toArray]) ((some b2, blk (u8s w6.toList) 27) :: (some b3, blk (u8s w6.toList) 27) :: []) rfl ?_ rfl ?_ ?_ _ (.inl rfl)
  ·exact ⟨⟨_, _, _, _, rfl, (List.Mem.head _), rfl, rfl, (congrArg some ((u8s_length _).trans Vector.length_toList).symm), rfl⟩, trivial⟩
  ·exact rfl
  ·exact (fun w m => m)
 ·skip
  refine CW.block ?_
  refine CW.loopJ (fun k L' M' => ∃ n12 : Nat, ∃ w14 : Vector (BitVec 8) 256, (bloom_Union.l1 a0 k n12 w14) = some q4 ∧ (n12 ≤ 9223372036854775807) ∧ L' = [(2, ptr (some b2) 0), (3, ptr (some b3) 0), (7, .slice A0_ a0.length c0_), (8, .int .i64 ((a0.length : Nat) : Int)), (9, .int .i64 ((n12 : Nat) : Int))] ∧ M' = ((some b3, blk (u8s w14.toList) 27) :: (some b2, blk (u8s (Vector.replicate 256 0#8).toList) 27) :: ([] ++ N))) (k0 := (a0.length - 0 + 2)) ⟨0, (Vector.replicate 256 0#8), hq5, (by omega), rfl, rfl⟩ ⟨rfl, rfl, rfl, rfl, rfl, trivial⟩ (fun w m => m.pick [0, 1] 2 rfl rfl) ?_
  clear hq5
  rintro k15 L18 M19 ⟨n12, w14, hl16, b13, e20, e21⟩
  rw [e20, e21]
  clear e20 e21 L18 M19
  rcases k15 with _ | k15
  ·rw [bloom_Union.l1] at hl16; cases hl16
  rw [bloom_Union.l1] at hl16
  refine CW.seq (CW.region ?_)
  refine OW.rv (RV.lss rfl rfl) rfl ?_
  refine OW.slot (.bool (decide (n12 < a0.length))) (congrArg Value.bool (decide_eq_decide.2 (by omega))) ?_
  refine OW.nil (QW.then_n (CW.seq ?_))
  by_cases h22 : n12 < a0.length
  ·replace hl16 := if_t hl16 h22
   refine CW.is_t rfl (decide_eq_true h22) ?_
   refine CW.skip (QW.then_n (CW.seq (CW.block (CW.seq (CW.region ?_)))))
   obtain ⟨x23, hx24, hl16⟩ := some_bind hl16
   have hl25 := lt_of_at hx24
   refine OW.rv (RV.idx_rs (n12) rfl rfl rfl rfl rfl (va0.isSome (by decide) hl25) (by omega)) rfl ?_
   obtain ⟨cs26, h27, h28⟩ := ha0.get Ar8Rd.len hx24
   have h27a := h27
   subst h27a
   refine OW.rv (RV.loadAs rfl rfl rfl rfl (fun w m => va0.load (More.of hΦ 2 m rfl) h28) ((u8s_length _).trans Vector.length_toList)) rfl ?_
   refine OW.alloc (l := (u8s (Vector.replicate 256 0#8).toList)) rfl (by rw [Vector.toList_replicate, ← u8s_rep']; rfl) rfl (fun b29 => ?_)
   refine OW.sv (SV.storeW rfl rfl rfl (u8s_one _) rfl ((u8s_length _).trans Vector.length_toList) ((u8s_length _).trans Vector.length_toList)) ?_
   refine OW.nil (QW.then_n (CW.seq (CW.region ?_)))
   refine OW.rv (RV.move rfl) rfl ?_
   refine OW.nil (QW.then_n ?_)
   obtain ⟨q30, hq31, hl16⟩ := some_bind hl16
   refine CW.cutJ (fun L' M' => ∃ w32 : Vector (BitVec 8) 256, q30 = w32 ∧ L' = [(2, ptr (some b2) 0), (3, ptr (some b3) 0), (7, .slice A0_ a0.length c0_), (8, .int .i64 ((a0.length : Nat) : Int)), (9, .int .i64 ((n12 : Nat) : Int))] ∧ M' = ((some b3, blk (u8s w32.toList) 27) :: (some b2, blk (u8s (Vector.replicate 256 0#8).toList) 27) :: ([] ++ N))) ?_ ?_
   ·rintro L34 M35 ⟨w32, e33, e36, e37⟩
    rw [e36, e37]
    clear e36 e37 L34 M35
    clear hq31
    rw [e33] at hl16
    clear e33
    try dsimp only at hl16
    refine QW.block_n (QW.then_n (CW.region ?_))
    refine OW.rv (RV.add rfl rfl (by omega)) rfl ?_
    refine OW.slot (.int .i64 (((n12 + 1) : Nat) : Int)) (by first | rfl | (congr 1) | (congr 1; omega)) ?_
    refine OW.rv (RV.move rfl) rfl ?_
    refine OW.nil ?_
    exact QW.againJ (k' := k15) (Nat.lt_succ_self _) ⟨(n12 + 1), w32, hl16, (by omega), rfl, rfl⟩ ⟨rfl, rfl, rfl, rfl, rfl, trivial⟩ (fun w m => m.pick [0, 1] 2 rfl rfl)
   ·skip
    refine CW.block ?_
    refine CW.loopJ (fun k L' M' => ∃ n38 : Nat, ∃ w40 : Vector (BitVec 8) 256, (bloom_Union.l2 x23 k n38 w40) = some q30 ∧ (n38 ≤ 9223372036854775807) ∧ L' = [(2, ptr (some b2) 0), (3, ptr (some b3) 0), (5, ptr (some b29) 0), (7, .slice A0_ a0.length c0_), (8, .int .i64 ((a0.length : Nat) : Int)), (9, .int .i64 ((n12 : Nat) : Int)), (13, .int .i64 ((n38 : Nat) : Int))] ∧ M' = ((some b29, blk (u8s x23.toList) 27) :: (some b3, blk (u8s w40.toList) 27) :: (some b2, blk (u8s (Vector.replicate 256 0#8).toList) 27) :: ([] ++ N))) (k0 := (256 - 0 + 2)) ⟨0, w14, hq31, (by omega), rfl, rfl⟩ ⟨rfl, rfl, rfl, rfl, rfl, rfl, rfl, trivial⟩ (fun w m => m.pick [0, 1, 2] 3 rfl rfl) ?_
    clear hq31
    rintro k41 L44 M45 ⟨n38, w40, hl42, b39, e46, e47⟩
    rw [e46, e47]
    clear e46 e47 L44 M45
    rcases k41 with _ | k41
    ·rw [bloom_Union.l2] at hl42; cases hl42
    rw [bloom_Union.l2] at hl42
    refine CW.seq (CW.region ?_)
    refine OW.rv (RV.lss rfl rfl) rfl ?_
    refine OW.slot (.bool (decide (n38 < 256))) (congrArg Value.bool (decide_eq_decide.2 (by omega))) ?_
    refine OW.nil (QW.then_n (CW.seq ?_))
    by_cases h48 : n38 < 256
    ·replace hl42 := if_t hl42 h48
     refine CW.is_t rfl (decide_eq_true h48) ?_
     refine CW.skip (QW.then_n (CW.seq (CW.block (CW.seq (CW.region ?_)))))
     refine OW.rv (RV.move rfl) rfl ?_
     refine OW.rv (RV.assign rfl) rfl ?_
     refine OW.nil (QW.then_n ?_)
     refine CW.drawsX ((some b29, blk (u8s x23.toList) 27) :: (some b2, blk (u8s (Vector.replicate 256 0#8).toList) 27) :: ([] ++ N)) [8] (fun w m => m.pick [0, 2] 3 rfl rfl) mixed (by kernel_rfl) ?_
     refine XW.rs 0 rfl (by kernel_rfl) rfl (RV.move rfl) rfl ?_
     refine XW.rs 1 rfl (by kernel_rfl) rfl (RV.idx_a (n38) rfl rfl rfl rfl rfl (by omega)) rfl ?_
     obtain ⟨x49, hx50, hl42⟩ := some_bind hl42
     refine XW.rv 2 rfl (by kernel_rfl) rfl (by kernel_rfl) (RV.load rfl (List.Mem.tail _ (List.Mem.head _)) rfl rfl rfl (by rw [Nat.zero_add]; exact u8s_at (vat hx50))) rfl ?_
     refine XW.rs 3 rfl (by kernel_rfl) rfl (RV.move rfl) rfl ?_
     refine XW.rs 4 rfl (by kernel_rfl) rfl (RV.idx_a (n38) rfl rfl rfl rfl rfl (by omega)) rfl ?_
     obtain ⟨x51, hx52, hl42⟩ := some_bind hl42
     refine XW.rs 5 rfl (by kernel_rfl) rfl (RV.load rfl (List.Mem.head _) rfl rfl rfl (by rw [Nat.zero_add]; exact u8s_at (vat hx52))) rfl ?_
     refine XW.rs 6 rfl (by kernel_rfl) rfl (RV.or8 rfl (by first | rfl | exact lit8 _ rfl) rfl (by first | rfl | exact lit8 _ rfl)) rfl ?_
     refine XW.rs 7 rfl (by kernel_rfl) rfl (RV.idx_a (n38) rfl rfl rfl rfl rfl (by omega)) rfl ?_
     refine XW.mem (M' := ((some b3, blk (u8s w40.toList) 27) :: (some b29, blk (u8s x23.toList) 27) :: (some b2, blk (u8s (Vector.replicate 256 0#8).toList) 27) :: ([] ++ N))) (fun w m => m.pick [1, 0] 2 rfl rfl) (fun w m => m.pick [1, 2] 3 rfl rfl) ?_
     refine XW.sv 8 rfl (by kernel_rfl) (SV.store rfl rfl rfl rfl rfl (by rw [u8s_length, Vector.length_toList]; omega)) (fun w m => m.pick [1, 2] 3 rfl rfl) ?_
     refine XW.cells (u8s (w40.setIfInBounds n38 (x49 ||| x51)).toList) (by rw [Nat.zero_add, u8s_set', vset]) ?_
     refine XW.nil (by kernel_rfl) ?_
     refine QW.block_n (QW.then_n (CW.region ?_))
     refine OW.rv (RV.add rfl rfl (by omega)) rfl ?_
     refine OW.slot (.int .i64 (((n38 + 1) : Nat) : Int)) (by first | rfl | (congr 1) | (congr 1; omega)) ?_
     refine OW.rv (RV.move rfl) rfl ?_
     refine OW.nil ?_
     exact QW.againJ (k' := k41) (Nat.lt_succ_self _) ⟨(n38 + 1), (w40.setIfInBounds n38 (x49 ||| x51)), hl42, (by omega), rfl, rfl⟩ ⟨rfl, rfl, rfl, rfl, rfl, rfl, rfl, trivial⟩ (fun w m => m.pick [1, 0, 2] 3 rfl rfl)
    ·replace hl42 := if_f hl42 h48
     refine CW.is_f rfl (decide_eq_false h48) ?_
     refine CW.exit (QW.then_x (QW.then_x (QW.block_xe ?_)))
     exact QW.join ⟨w40, (Option.some.inj hl42).symm, rfl, rfl⟩ ⟨rfl, rfl, rfl, rfl, rfl, trivial⟩ (fun w m => m.pick [1, 2] 3 rfl rfl)
  ·replace hl16 := if_f hl16 h22
   refine CW.is_f rfl (decide_eq_false h22) ?_
   refine CW.exit (QW.then_x (QW.then_x (QW.block_xe ?_)))
   exact QW.join ⟨w14, (Option.some.inj hl16).symm, rfl, rfl⟩ ⟨rfl, rfl, trivial⟩ (fun w m => m.pick [0, 1] 2 rfl rfl)
theorem receipt_BloomOf_does (w0 : World) (Φ : Ctx) (N : List Ent) (hΦ : ∀ w, Mem w0 w N → Φ w) (A0_ : Option Addr) (c0_ : Nat) (cs0_ : List Value) (a0 : List (Log)) (res0 : Vector (BitVec 8) 256) (va0 : View Φ A0_ a0.length c0_ 22 cs0_) (ha0 : Reps (LogRd Φ) cs0_ a0) (hg2 : View Φ (some ⟨2, 0, none⟩) 2 2 1 (u8s firstL)) (hf : receipt_BloomOf a0 = some res0) : DoesG Tryd.prog 28 [.slice A0_ a0.length c0_] w0 [] N (fun v G => v = .agg (u8s res0.toList).toArray) := by
 unfold receipt_BloomOf at hf
 replace va0 := va0.mono (Ψ := More w0 Φ []) (fun w q => q.1)
 replace hg2 := hg2.mono (Ψ := More w0 Φ []) (fun w q => q.1)
 replace ha0 := ha0.mono (LogRd.mono (Ψ := More w0 Φ []) (fun w q => q.1))
 have m1 := va0.mx
 refine DoesG.enter Tryd.func28 rfl Tryd.ntmps28 rfl (M := (([] ++ N))) rfl ?_
 refine CW.seq (CW.region ?_)
 refine OW.alloc (l := (u8s (Vector.replicate 256 0#8).toList)) rfl (by rw [Vector.toList_replicate, ← u8s_rep']; rfl) rfl (fun b2 => ?_)
 refine OW.nil (QW.then_n (CW.seq (CW.region ?_)))
 refine OW.rv (RV.assign rfl) rfl ?_
 refine OW.nil (QW.then_n (CW.seq (CW.seq (CW.region ?_))))
 refine OW.rv (RV.move rfl) rfl ?_
 refine OW.rv (RV.len rfl rfl) rfl ?_
 refine OW.rv (RV.move rfl) rfl ?_
 refine OW.nil (QW.then_n ?_)
 obtain ⟨q3, hq4, hf⟩ := some_bind hf
 refine CW.cutJ (fun L' M' => ∃ l5 : List (List (BitVec 8)), ∃ cs6 : List Value, ∃ ob8 : Option Nat, ∃ c9 : Nat, ∃ r10 : List Value, q3 = l5 ∧ (Reps (BsRd (More w0 Φ [])) cs6 l5) ∧ (OwnS ob8 l5.length c9 1 cs6 r10) ∧ L' = [(2, ptr (some b2) 0), (3, sl ob8 0 l5.length c9)] ∧ M' = ((ob8, blk (cs6 ++ r10) 61) :: (some b2, blk (u8s (Vector.replicate 256 0#8).toList) 27) :: ([] ++ N))) ?_ ?_
 ·rintro L13 M14 ⟨l5, cs6, ob8, c9, r10, e12, h7, o11, e15, e16⟩
  rw [e15, e16]
  clear e15 e16 L13 M14
  clear hq4
  rw [e12] at hf
  clear e12
  try dsimp only at hf
  have m17 := o11.mx
  refine QW.then_n (CW.seq (CW.region ?_))
  refine OW.rv (RV.move rfl) rfl ?_
  refine OW.mem (M' := (some b2, blk (u8s (Vector.replicate 256 0#8).toList) 27) :: (((ob8, blk (cs6 ++ r10) 61) :: []) ++ N)) (fun w m => m.pick [1, 0] 2 rfl rfl) ?_
  have gq1 : ∀ w, More w0 Φ ((ob8, blk (cs6 ++ r10) 61) :: []) w → More w0 Φ [] w := fun w q => More.mono (fun w m => (m).tail) q
  replace h7 := h7.mono (BsRd.mono gq1)
  replace hg2 := hg2.mono gq1
  have v18 : View (More w0 Φ ((ob8, blk (cs6 ++ r10) 61) :: [])) ((ob8).map fun k => ⟨k, 0, none⟩) l5.length c9 1 cs6 := o11.view (by decide) (fun w q => q.2.sublist (List.singleton_sublist.2 (List.mem_cons_self ..)))
  obtain ⟨x20, hx19, hf⟩ := some_bind hf
  refine OW.callG Tryd.call51 rfl (bloom_Of_does w0 (More w0 Φ ((ob8, blk (cs6 ++ r10) 61) :: [])) ((some b2, blk (u8s (Vector.replicate 256 0#8).toList) 27) :: (((ob8, blk (cs6 ++ r10) 61) :: []) ++ N)) (fun w m => More.of hΦ 1 m rfl) ((ob8).map fun k => ⟨k, 0, none⟩) c9 cs6 l5 x20 v18 h7 hg2 hx19) rfl rfl ?_
  rintro _ G21 rfl
  refine OW.mem (M' := ((some b2, blk (u8s (Vector.replicate 256 0#8).toList) 27) :: (((ob8, blk (cs6 ++ r10) 61) :: []) ++ N))) (fun w m => m.appR) ?_
  refine OW.sv (SV.storeW rfl rfl rfl (u8s_one _) rfl ((u8s_length _).trans Vector.length_toList) ((u8s_length _).trans Vector.length_toList)) ?_
  refine OW.nil (QW.then_n (CW.ret ?_))
  have e0 := Option.some.inj hf
  subst e0
  refine QW.retG (rs := [.cell 2 27]) ([.agg (u8s x20.toList).toArray]) ((some b2, blk (u8s x20.toList) 27) :: ((ob8, blk (cs6 ++ r10) 61) :: [])) rfl ?_ rfl ?_ ?_ _ (.inl rfl)
  ·exact ⟨⟨_, _, _, _, rfl, (List.Mem.head _), rfl, rfl, (congrArg some ((u8s_length _).trans Vector.length_toList).symm), rfl⟩, trivial⟩
  ·exact rfl
  ·exact (fun w m => m)
 ·skip
  refine CW.block ?_
  refine CW.mem (M' := ((none, blk ([] ++ []) 61) :: (some b2, blk (u8s (Vector.replicate 256 0#8).toList) 27) :: ([] ++ N))) (fun w m => m.nil_ent _) ?_
  refine CW.loopJ (fun k L' M' => ∃ l23 : List (List (BitVec 8)), ∃ n30 : Nat, ∃ cs24 : List Value, ∃ ob26 : Option Nat, ∃ c27 : Nat, ∃ r28 : List Value, (receipt_BloomOf.l1 a0 k l23 n30) = some q3 ∧ (Reps (BsRd (More w0 Φ [])) cs24 l23) ∧ (OwnS ob26 l23.length c27 1 cs24 r28) ∧ (n30 ≤ 9223372036854775807) ∧ L' = [(0, .slice A0_ a0.length c0_), (2, ptr (some b2) 0), (3, sl ob26 0 l23.length c27), (7, .int .i64 ((a0.length : Nat) : Int)), (8, .int .i64 ((n30 : Nat) : Int))] ∧ M' = ((ob26, blk (cs24 ++ r28) 61) :: (some b2, blk (u8s (Vector.replicate 256 0#8).toList) 27) :: ([] ++ N))) (k0 := (a0.length - 0 + 2)) ⟨([] : List (List (BitVec 8))), 0, [], none, 0, [], hq4, Reps.nil, OwnS.nil, (by omega), rfl, rfl⟩ ⟨rfl, rfl, rfl, rfl, rfl, trivial⟩ (fun w m => m.pick [0, 1] 2 rfl rfl) ?_
  clear hq4
  rintro k32 L35 M36 ⟨l23, n30, cs24, ob26, c27, r28, hl33, h25, o29, b31, e37, e38⟩
  rw [e37, e38]
  clear e37 e38 L35 M36
  rcases k32 with _ | k32
  ·rw [receipt_BloomOf.l1] at hl33; cases hl33
  rw [receipt_BloomOf.l1] at hl33
  have m39 := o29.mx
  refine CW.seq (CW.region ?_)
  refine OW.rv (RV.lss rfl rfl) rfl ?_
  refine OW.slot (.bool (decide (n30 < a0.length))) (congrArg Value.bool (decide_eq_decide.2 (by omega))) ?_
  refine OW.nil (QW.then_n (CW.seq ?_))
  by_cases h40 : n30 < a0.length
  ·replace hl33 := if_t hl33 h40
   refine CW.is_t rfl (decide_eq_true h40) ?_
   refine CW.skip (QW.then_n (CW.seq (CW.block (CW.seq (CW.region ?_)))))
   refine OW.rv (RV.move rfl) rfl ?_
   refine OW.rv (RV.assign rfl) rfl ?_
   refine OW.nil (QW.then_n (CW.seq (CW.region ?_)))
   refine OW.rv (RV.move rfl) rfl ?_
   refine OW.rv (RV.move rfl) rfl ?_
   refine OW.rv (RV.move rfl) rfl ?_
   obtain ⟨x41, hx42, hl33⟩ := some_bind hl33
   have hl43 := lt_of_at hx42
   refine OW.rv (RV.idx_rs (n30) rfl rfl rfl rfl rfl (va0.isSome (by decide) hl43) (by omega)) rfl ?_
   obtain ⟨cs44, h45, h46⟩ := ha0.get LogRd.len hx42
   have h56 := h45
   obtain ⟨A47, c48, cs50, A52, c53, e55, v49, h51, v54⟩ := LogRd.opn h45
   subst e55
   have m57 := v49.mx
   have m58 := v54.mx
   refine OW.rv (RV.field_at rfl rfl rfl rfl) rfl ?_
   refine OW.rv (RV.arr_all rfl rfl rfl) rfl ?_
   refine OW.slot (.slice (some ((((A0_).getD default).add (n30 * 22)).add 0)) x41.address.toList.length 20) (by rw [Vector.length_toList]; try rfl) ?_
   have v59 : View (More w0 Φ []) (some ((((A0_).getD default).add (n30 * 22)).add 0)) x41.address.toList.length 20 1 (u8s x41.address.toList) := View.part va0 h46 (LogC.C_address_all (⟨x41.address, .slice A47 x41.topics.length c48, .slice A52 x41.data.length c53⟩ : LogC)) (by decide)
   refine OW.ofN (NV.bs1 rfl rfl rfl rfl rfl rfl) rfl (fun b60 => ?_)
   have h63 : Reps (BsRd (More w0 Φ [])) (([.slice (some ((((A0_).getD default).add (n30 * 22)).add 0)) x41.address.toList.length 20] : List Value)) [x41.address.toList] := Reps.one (BsRd.mk v59)
   refine OW.mem (M' := (((some b60), blk ((([.slice (some ((((A0_).getD default).add (n30 * 22)).add 0)) x41.address.toList.length 20] : List Value)) ++ []) 61) :: (ob26, blk (cs24 ++ r28) 61) :: (some b2, blk (u8s (Vector.replicate 256 0#8).toList) 27) :: ([] ++ N))) (fun w m => m) ?_
   have o61 : OwnS (some b60) ([x41.address.toList] : List (List (BitVec 8))).length 1 1 (([.slice (some ((((A0_).getD default).add (n30 * 22)).add 0)) x41.address.toList.length 20] : List Value)) [] := ⟨by simp [BsRd], by simp [BsRd], (fun h => nomatch h), by simp⟩
   refine OW.slot (sl (some b60) 0 ([x41.address.toList] : List (List (BitVec 8))).length 1) (rfl) ?_
   refine OW.rot1 ?_
   obtain ⟨g64, hl33⟩ := some_if hl33
   have h69 := h25.app h63
   refine OW.appendOwn (s := 1) rfl rfl rfl rfl rfl rfl o29 (fun w m => m.rd0 (List.Mem.tail _ (List.Mem.head _)) (fun e => o61.nilc (by decide) e)) o61.n (h63.cell1 BsRd.one) (o61.zeroO (by decide)) (by decide) (by decide) (by first | omega | (simp only [i61, List.length_nil]; omega)) rfl rfl ((l23 ++ ([x41.address.toList] : List (List (BitVec 8)))).length) (cs24 ++ (([.slice (some ((((A0_).getD default).add (n30 * 22)).add 0)) x41.address.toList.length 20] : List Value))) (List.length_append ..).symm rfl (fun ob65 r66 c67 o68 => ?_)
   have m70 := o68.mx
   refine OW.rv (RV.assign rfl) rfl ?_
   refine OW.nil (QW.then_n (CW.seq (CW.region ?_)))
   refine OW.rv (RV.move rfl) rfl ?_
   refine OW.rv (RV.move rfl) rfl ?_
   obtain ⟨x71, hx72, hl33⟩ := some_bind hl33
   have hl73 := lt_of_at hx72
   refine OW.rv (RV.idx_rs (n30) rfl rfl rfl rfl rfl (va0.isSome (by decide) hl73) (by omega)) rfl ?_
   obtain ⟨cs74, h75, h76⟩ := ha0.get LogRd.len hx72
   have h86 := h75
   obtain ⟨A77, c78, cs80, A82, c83, e85, v79, h81, v84⟩ := LogRd.opn h75
   subst e85
   have m87 := v79.mx
   have m88 := v84.mx
   refine OW.rv (RV.field_at rfl rfl rfl rfl) rfl ?_
   refine OW.rv (RV.load_at rfl rfl rfl (fun w m => va0.load_fld (More.of hΦ 3 m rfl) h76 (LogC.C_topics (⟨x71.address, .slice A77 x71.topics.length c78, .slice A82 x71.data.length c83⟩ : LogC)))) rfl ?_
   refine OW.rv (RV.len rfl rfl) rfl ?_
   refine OW.rv (RV.move rfl) rfl ?_
   refine OW.nil (QW.then_n ?_)
   obtain ⟨q89, hq90, hl33⟩ := some_bind hl33
   refine CW.cutJ (fun L' M' => ∃ l91 : List (List (BitVec 8)), ∃ cs92 : List Value, ∃ ob94 : Option Nat, ∃ c95 : Nat, ∃ r96 : List Value, q89 = l91 ∧ (Reps (BsRd (More w0 Φ [])) cs92 l91) ∧ (OwnS ob94 l91.length c95 1 cs92 r96) ∧ L' = [(0, .slice A0_ a0.length c0_), (2, ptr (some b2) 0), (3, sl ob94 0 l91.length c95), (7, .int .i64 ((a0.length : Nat) : Int)), (8, .int .i64 ((n30 : Nat) : Int))] ∧ M' = ((ob94, blk (cs92 ++ r96) 61) :: (some b2, blk (u8s (Vector.replicate 256 0#8).toList) 27) :: ([] ++ N))) ?_ ?_
   ·rintro L99 M100 ⟨l91, cs92, ob94, c95, r96, e98, h93, o97, e101, e102⟩
    rw [e101, e102]
    clear e101 e102 L99 M100
    clear hq90
    rw [e98] at hl33
    clear e98
    try dsimp only at hl33
    have m103 := o97.mx
    refine QW.block_n (QW.then_n (CW.region ?_))
    refine OW.rv (RV.add rfl rfl (by omega)) rfl ?_
    refine OW.slot (.int .i64 (((n30 + 1) : Nat) : Int)) (by first | rfl | (congr 1) | (congr 1; omega)) ?_
    refine OW.rv (RV.move rfl) rfl ?_
    refine OW.nil ?_
    exact QW.againJ (k' := k32) (Nat.lt_succ_self _) ⟨l91, (n30 + 1), cs92, ob94, c95, r96, hl33, h93, o97, (by omega), rfl, rfl⟩ ⟨rfl, rfl, rfl, rfl, rfl, trivial⟩ (fun w m => m.pick [0, 1] 2 rfl rfl)
   ·skip
    refine CW.block ?_
    refine CW.loopJ (fun k L' M' => ∃ l104 : List (List (BitVec 8)), ∃ n111 : Nat, ∃ cs105 : List Value, ∃ ob107 : Option Nat, ∃ c108 : Nat, ∃ r109 : List Value, (receipt_BloomOf.l2 a0 n30 x71 k l104 n111) = some q89 ∧ (Reps (BsRd (More w0 Φ [])) cs105 l104) ∧ (OwnS ob107 l104.length c108 1 cs105 r109) ∧ (n111 ≤ 9223372036854775807) ∧ L' = [(0, .slice A0_ a0.length c0_), (2, ptr (some b2) 0), (3, sl ob107 0 l104.length c108), (4, .int .i64 ((n30 : Nat) : Int)), (7, .int .i64 ((a0.length : Nat) : Int)), (8, .int .i64 ((n30 : Nat) : Int)), (24, .int .i64 ((x71.topics.length : Nat) : Int)), (25, .int .i64 ((n111 : Nat) : Int))] ∧ M' = ((ob107, blk (cs105 ++ r109) 61) :: (some b2, blk (u8s (Vector.replicate 256 0#8).toList) 27) :: ([] ++ N))) (k0 := (x71.topics.length - 0 + 2)) ⟨(l23 ++ ([x41.address.toList] : List (List (BitVec 8)))), 0, (cs24 ++ (([.slice (some ((((A0_).getD default).add (n30 * 22)).add 0)) x41.address.toList.length 20] : List Value))), ob65, c67, r66, hq90, h69, o68, (by omega), rfl, rfl⟩ ⟨rfl, rfl, rfl, rfl, rfl, rfl, rfl, rfl, trivial⟩ (fun w m => m.pick [0, 2] 3 rfl rfl) ?_
    clear hq90
    rintro k113 L116 M117 ⟨l104, n111, cs105, ob107, c108, r109, hl114, h106, o110, b112, e118, e119⟩
    rw [e118, e119]
    clear e118 e119 L116 M117
    rcases k113 with _ | k113
    ·rw [receipt_BloomOf.l2] at hl114; cases hl114
    rw [receipt_BloomOf.l2] at hl114
    have m120 := o110.mx
    refine CW.seq (CW.region ?_)
    refine OW.rv (RV.lss rfl rfl) rfl ?_
    refine OW.slot (.bool (decide (n111 < x71.topics.length))) (congrArg Value.bool (decide_eq_decide.2 (by omega))) ?_
    refine OW.nil (QW.then_n (CW.seq ?_))
    by_cases h121 : n111 < x71.topics.length
    ·replace hl114 := if_t hl114 h121
     refine CW.is_t rfl (decide_eq_true h121) ?_
     refine CW.skip (QW.then_n (CW.seq (CW.block (CW.seq (CW.region ?_)))))
     refine OW.rv (RV.move rfl) rfl ?_
     refine OW.rv (RV.assign rfl) rfl ?_
     refine OW.nil (QW.then_n (CW.region ?_))
     refine OW.rv (RV.move rfl) rfl ?_
     refine OW.rv (RV.move rfl) rfl ?_
     refine OW.rv (RV.move rfl) rfl ?_
     obtain ⟨x122, hx123, hl114⟩ := some_bind hl114
     have hl124 := lt_of_at hx123
     refine OW.rv (RV.idx_rs (n30) rfl rfl rfl rfl rfl (va0.isSome (by decide) hl124) (by omega)) rfl ?_
     obtain ⟨cs125, h126, h127⟩ := ha0.get LogRd.len hx123
     have h137 := h126
     obtain ⟨A128, c129, cs131, A133, c134, e136, v130, h132, v135⟩ := LogRd.opn h126
     subst e136
     have m138 := v130.mx
     have m139 := v135.mx
     refine OW.rv (RV.field_at rfl rfl rfl rfl) rfl ?_
     refine OW.rv (RV.load_at rfl rfl rfl (fun w m => va0.load_fld (More.of hΦ 2 m rfl) h127 (LogC.C_topics (⟨x122.address, .slice A128 x122.topics.length c129, .slice A133 x122.data.length c134⟩ : LogC)))) rfl ?_
     refine OW.rv (RV.move rfl) rfl ?_
     obtain ⟨x140, hx141, hl114⟩ := some_bind hl114
     have hl142 := lt_of_at hx141
     refine OW.rv (RV.idx_rs (n111) rfl rfl rfl rfl rfl (v130.isSome (by decide) hl142) (by omega)) rfl ?_
     obtain ⟨cs143, h144, h145⟩ := h132.get Ar8Rd.len hx141
     have h144a := h144
     subst h144a
     refine OW.rv (RV.arr_all rfl rfl rfl) rfl ?_
     refine OW.slot (.slice (some (((A128).getD default).add (n111 * 32))) x140.toList.length 32) (by rw [Vector.length_toList]; try rfl) ?_
     have v146 : View (More w0 Φ []) (some (((A128).getD default).add (n111 * 32))) x140.toList.length 32 1 (u8s x140.toList) := View.elem v130 h145 (by decide)
     refine OW.ofN (NV.bs1 rfl rfl rfl rfl rfl rfl) rfl (fun b147 => ?_)
     have h150 : Reps (BsRd (More w0 Φ [])) (([.slice (some (((A128).getD default).add (n111 * 32))) x140.toList.length 32] : List Value)) [x140.toList] := Reps.one (BsRd.mk v146)
     refine OW.mem (M' := (((some b147), blk ((([.slice (some (((A128).getD default).add (n111 * 32))) x140.toList.length 32] : List Value)) ++ []) 61) :: (ob107, blk (cs105 ++ r109) 61) :: (some b2, blk (u8s (Vector.replicate 256 0#8).toList) 27) :: ([] ++ N))) (fun w m => m) ?_
     have o148 : OwnS (some b147) ([x140.toList] : List (List (BitVec 8))).length 1 1 (([.slice (some (((A128).getD default).add (n111 * 32))) x140.toList.length 32] : List Value)) [] := ⟨by simp [BsRd], by simp [BsRd], (fun h => nomatch h), by simp⟩
     refine OW.slot (sl (some b147) 0 ([x140.toList] : List (List (BitVec 8))).length 1) (rfl) ?_
     refine OW.rot1 ?_
     obtain ⟨g151, hl114⟩ := some_if hl114
     have h156 := h106.app h150
     refine OW.appendOwn (s := 1) rfl rfl rfl rfl rfl rfl o110 (fun w m => m.rd0 (List.Mem.tail _ (List.Mem.head _)) (fun e => o148.nilc (by decide) e)) o148.n (h150.cell1 BsRd.one) (o148.zeroO (by decide)) (by decide) (by decide) (by first | omega | (simp only [i61, List.length_nil]; omega)) rfl rfl ((l104 ++ ([x140.toList] : List (List (BitVec 8)))).length) (cs105 ++ (([.slice (some (((A128).getD default).add (n111 * 32))) x140.toList.length 32] : List Value))) (List.length_append ..).symm rfl (fun ob152 r153 c154 o155 => ?_)
     have m157 := o155.mx
     refine OW.rv (RV.assign rfl) rfl ?_
     refine OW.nil (QW.block_n (QW.then_n (CW.region ?_)))
     refine OW.rv (RV.add rfl rfl (by omega)) rfl ?_
     refine OW.slot (.int .i64 (((n111 + 1) : Nat) : Int)) (by first | rfl | (congr 1) | (congr 1; omega)) ?_
     refine OW.rv (RV.move rfl) rfl ?_
     refine OW.nil ?_
     exact QW.againJ (k' := k113) (Nat.lt_succ_self _) ⟨(l104 ++ ([x140.toList] : List (List (BitVec 8)))), (n111 + 1), (cs105 ++ (([.slice (some (((A128).getD default).add (n111 * 32))) x140.toList.length 32] : List Value))), ob152, c154, r153, hl114, h156, o155, (by omega), rfl, rfl⟩ ⟨rfl, rfl, rfl, rfl, rfl, rfl, rfl, rfl, trivial⟩ (fun w m => m.pick [0, 2] 3 rfl rfl)
    ·replace hl114 := if_f hl114 h121
     refine CW.is_f rfl (decide_eq_false h121) ?_
     refine CW.exit (QW.then_x (QW.then_x (QW.block_xe ?_)))
     exact QW.join ⟨l104, cs105, ob107, c108, r109, (Option.some.inj hl114).symm, h106, o110, rfl, rfl⟩ ⟨rfl, rfl, rfl, rfl, rfl, trivial⟩ (fun w m => m.pick [0, 1] 2 rfl rfl)
  ·replace hl33 := if_f hl33 h40
   refine CW.is_f rfl (decide_eq_false h40) ?_
   refine CW.exit (QW.then_x (QW.then_x (QW.block_xe ?_)))
   exact QW.join ⟨l23, cs24, ob26, c27, r28, (Option.some.inj hl33).symm, h25, o29, rfl, rfl⟩ ⟨rfl, rfl, trivial⟩ (fun w m => m.pick [0, 1] 2 rfl rfl)
theorem receipt_among_Address_does (w0 : World) (Φ : Ctx) (N : List Ent) (hΦ : ∀ w, Mem w0 w N → Φ w) (A0_ : Option Addr) (c0_ : Nat) (cs0_ : List Value) (a0 : List (Vector (BitVec 8) 20)) (a1 : Vector (BitVec 8) 20) (res0 : Bool) (va0 : View Φ A0_ a0.length c0_ 20 cs0_) (ha0 : Reps (Ar8Rd Φ) cs0_ a0) (hf : receipt_among_Address a0 a1 = some res0) : DoesG Tryd.prog 47 [.slice A0_ a0.length c0_, .agg (u8s a1.toList).toArray] w0 [] N (fun v G => v = .bool res0) := by
 unfold receipt_among_Address at hf
 replace va0 := va0.mono (Ψ := More w0 Φ []) (fun w q => q.1)
 replace ha0 := ha0.mono (Ar8Rd.mono (Ψ := More w0 Φ []) (fun w q => q.1))
 have m1 := va0.mx
 refine DoesG.enter Tryd.func47 rfl Tryd.ntmps47 rfl (M := (([] ++ N))) rfl ?_
 refine CW.seq (CW.region ?_)
 refine OW.boxA rfl rfl (fun b2 => ?_)
 refine OW.rv (RV.assign rfl) rfl ?_
 refine OW.nil (QW.then_n (CW.seq (CW.seq (CW.region ?_))))
 refine OW.rv (RV.move rfl) rfl ?_
 refine OW.rv (RV.len rfl rfl) rfl ?_
 refine OW.rv (RV.move rfl) rfl ?_
 refine OW.nil (QW.then_n ?_)
 obtain ⟨q3, hq4, hf⟩ := some_bind hf
 refine CW.cutJ (fun L' M' => q3 = Lp.go () ∧ L' = [] ∧ M' = (([] ++ N))) ?_ ?_
 ·rintro L6 M7 ⟨e5, e8, e9⟩
  rw [e8, e9]
  clear e8 e9 L6 M7
  clear hq4
  rw [e5] at hf
  clear e5
  try dsimp only at hf
  refine QW.then_n (CW.seq (CW.region ?_))
  refine OW.rv (RV.assign rfl) rfl ?_
  refine OW.nil (QW.then_n (CW.ret ?_))
  have e0 := Option.some.inj hf
  subst e0
  refine QW.retG (rs := [.tmp 4]) ([.bool false]) ([]) rfl ?_ rfl ?_ ?_ _ (.inl rfl)
  ·exact ⟨rfl, trivial⟩
  ·exact rfl
  ·exact (fun w m => m)
 ·skip
  refine CW.block ?_
  refine CW.loopJ (fun k L' M' => ∃ n10 : Nat, (receipt_among_Address.l1 a0 a1 k n10) = some q3 ∧ (n10 ≤ 9223372036854775807) ∧ L' = [(3, ptr (some b2) 0), (7, .slice A0_ a0.length c0_), (8, .int .i64 ((a0.length : Nat) : Int)), (9, .int .i64 ((n10 : Nat) : Int))] ∧ M' = ((some b2, blk (u8s a1.toList) 60) :: ([] ++ N))) (k0 := (a0.length - 0 + 2)) ⟨0, hq4, (by omega), rfl, rfl⟩ ⟨rfl, rfl, rfl, rfl, trivial⟩ (fun w m => m.pick [0] 1 rfl rfl) ?_
  clear hq4
  rintro k12 L15 M16 ⟨n10, hl13, b11, e17, e18⟩
  rw [e17, e18]
  clear e17 e18 L15 M16
  rcases k12 with _ | k12
  ·rw [receipt_among_Address.l1] at hl13; cases hl13
  rw [receipt_among_Address.l1] at hl13
  refine CW.seq (CW.region ?_)
  refine OW.rv (RV.lss rfl rfl) rfl ?_
  refine OW.slot (.bool (decide (n10 < a0.length))) (congrArg Value.bool (decide_eq_decide.2 (by omega))) ?_
  refine OW.nil (QW.then_n (CW.seq ?_))
  by_cases h19 : n10 < a0.length
  ·replace hl13 := if_t hl13 h19
   refine CW.is_t rfl (decide_eq_true h19) ?_
   refine CW.skip (QW.then_n (CW.seq (CW.block (CW.seq (CW.region ?_)))))
   obtain ⟨x20, hx21, hl13⟩ := some_bind hl13
   have hl22 := lt_of_at hx21
   refine OW.rv (RV.idx_rs (n10) rfl rfl rfl rfl rfl (va0.isSome (by decide) hl22) (by omega)) rfl ?_
   obtain ⟨cs23, h24, h25⟩ := ha0.get Ar8Rd.len hx21
   have h24a := h24
   subst h24a
   refine OW.rv (RV.loadAs rfl rfl rfl rfl (fun w m => va0.load (More.of hΦ 1 m rfl) h25) ((u8s_length _).trans Vector.length_toList)) rfl ?_
   refine OW.alloc (l := (u8s (Vector.replicate 20 0#8).toList)) rfl (by rw [Vector.toList_replicate, ← u8s_rep']; rfl) rfl (fun b26 => ?_)
   refine OW.sv (SV.storeW rfl rfl rfl (u8s_one _) rfl ((u8s_length _).trans Vector.length_toList) ((u8s_length _).trans Vector.length_toList)) ?_
   refine OW.nil (QW.then_n (CW.seq (CW.region ?_)))
   refine OW.rv (RV.loadW rfl (List.Mem.tail _ (List.Mem.head _)) rfl rfl rfl rfl ((u8s_length _).trans Vector.length_toList)) rfl ?_
   refine OW.rv (RV.loadW rfl (List.Mem.head _) rfl rfl rfl rfl ((u8s_length _).trans Vector.length_toList)) rfl ?_
   refine OW.rv (RV.eqA8 rfl rfl rfl rfl rfl rfl (Vector.length_toList) (Vector.length_toList)) rfl ?_
   refine OW.slot (.bool (decide (a1 = x20))) (congrArg Value.bool (decide_eq_decide.2 Vector.toList_inj)) ?_
   refine OW.nil (QW.then_n ?_)
   by_cases h27 : a1 = x20
   ·replace hl13 := if_t hl13 h27
    refine CW.is_t rfl (decide_eq_true h27) ?_
    refine CW.seq (CW.region ?_)
    refine OW.rv (RV.assign rfl) rfl ?_
    refine OW.nil (QW.then_n (CW.ret (QW.block_r (QW.then_r (QW.then_r (QW.block_r (QW.then_r ?_)))))))
    have hc := Option.some.inj hl13
    subst hc
    try dsimp only at hf
    refine QW.then_r ?_
    have e0 := Option.some.inj hf
    subst e0
    refine QW.retG (rs := [.tmp 4]) ([.bool true]) ((some b26, blk (u8s x20.toList) 60) :: (some b2, blk (u8s a1.toList) 60) :: []) rfl ?_ rfl ?_ ?_ _ (.inl rfl)
    ·exact ⟨rfl, trivial⟩
    ·exact rfl
    ·exact (fun w m => m)
   ·replace hl13 := if_f hl13 h27
    refine CW.is_f rfl (decide_eq_false h27) ?_
    refine CW.skip (QW.block_n (QW.then_n (CW.region ?_)))
    refine OW.rv (RV.add rfl rfl (by omega)) rfl ?_
    refine OW.slot (.int .i64 (((n10 + 1) : Nat) : Int)) (by first | rfl | (congr 1) | (congr 1; omega)) ?_
    refine OW.rv (RV.move rfl) rfl ?_
    refine OW.nil ?_
    exact QW.againJ (k' := k12) (Nat.lt_succ_self _) ⟨(n10 + 1), hl13, (by omega), rfl, rfl⟩ ⟨rfl, rfl, rfl, rfl, trivial⟩ (fun w m => m.pick [1] 2 rfl rfl)
  ·replace hl13 := if_f hl13 h19
   refine CW.is_f rfl (decide_eq_false h19) ?_
   refine CW.exit (QW.then_x (QW.then_x (QW.block_xe ?_)))
   exact QW.join ⟨(Option.some.inj hl13).symm, rfl, rfl⟩ trivial (fun w m => m.pick [] 1 rfl rfl)
theorem receipt_among_Hash_does (w0 : World) (Φ : Ctx) (N : List Ent) (hΦ : ∀ w, Mem w0 w N → Φ w) (A0_ : Option Addr) (c0_ : Nat) (cs0_ : List Value) (a0 : List (Vector (BitVec 8) 32)) (a1 : Vector (BitVec 8) 32) (res0 : Bool) (va0 : View Φ A0_ a0.length c0_ 32 cs0_) (ha0 : Reps (Ar8Rd Φ) cs0_ a0) (hf : receipt_among_Hash a0 a1 = some res0) : DoesG Tryd.prog 48 [.slice A0_ a0.length c0_, .agg (u8s a1.toList).toArray] w0 [] N (fun v G => v = .bool res0) := by
 unfold receipt_among_Hash at hf
 replace va0 := va0.mono (Ψ := More w0 Φ []) (fun w q => q.1)
 replace ha0 := ha0.mono (Ar8Rd.mono (Ψ := More w0 Φ []) (fun w q => q.1))
 have m1 := va0.mx
 refine DoesG.enter Tryd.func48 rfl Tryd.ntmps48 rfl (M := (([] ++ N))) rfl ?_
 refine CW.seq (CW.region ?_)
 refine OW.boxA rfl rfl (fun b2 => ?_)
 refine OW.rv (RV.assign rfl) rfl ?_
 refine OW.nil (QW.then_n (CW.seq (CW.seq (CW.region ?_))))
 refine OW.rv (RV.move rfl) rfl ?_
 refine OW.rv (RV.len rfl rfl) rfl ?_
 refine OW.rv (RV.move rfl) rfl ?_
 refine OW.nil (QW.then_n ?_)
 obtain ⟨q3, hq4, hf⟩ := some_bind hf
 refine CW.cutJ (fun L' M' => q3 = Lp.go () ∧ L' = [] ∧ M' = (([] ++ N))) ?_ ?_
 ·rintro L6 M7 ⟨e5, e8, e9⟩
  rw [e8, e9]
  clear e8 e9 L6 M7
  clear hq4
  rw [e5] at hf
  clear e5
  try dsimp only at hf
  refine QW.then_n (CW.seq (CW.region ?_))
  refine OW.rv (RV.assign rfl) rfl ?_
  refine OW.nil (QW.then_n (CW.ret ?_))
  have e0 := Option.some.inj hf
  subst e0
  refine QW.retG (rs := [.tmp 4]) ([.bool false]) ([]) rfl ?_ rfl ?_ ?_ _ (.inl rfl)
  ·exact ⟨rfl, trivial⟩
  ·exact rfl
  ·exact (fun w m => m)
 ·skip
  refine CW.block ?_
  refine CW.loopJ (fun k L' M' => ∃ n10 : Nat, (receipt_among_Hash.l1 a0 a1 k n10) = some q3 ∧ (n10 ≤ 9223372036854775807) ∧ L' = [(3, ptr (some b2) 0), (7, .slice A0_ a0.length c0_), (8, .int .i64 ((a0.length : Nat) : Int)), (9, .int .i64 ((n10 : Nat) : Int))] ∧ M' = ((some b2, blk (u8s a1.toList) 24) :: ([] ++ N))) (k0 := (a0.length - 0 + 2)) ⟨0, hq4, (by omega), rfl, rfl⟩ ⟨rfl, rfl, rfl, rfl, trivial⟩ (fun w m => m.pick [0] 1 rfl rfl) ?_
  clear hq4
  rintro k12 L15 M16 ⟨n10, hl13, b11, e17, e18⟩
  rw [e17, e18]
  clear e17 e18 L15 M16
  rcases k12 with _ | k12
  ·rw [receipt_among_Hash.l1] at hl13; cases hl13
  rw [receipt_among_Hash.l1] at hl13
  refine CW.seq (CW.region ?_)
  refine OW.rv (RV.lss rfl rfl) rfl ?_
  refine OW.slot (.bool (decide (n10 < a0.length))) (congrArg Value.bool (decide_eq_decide.2 (by omega))) ?_
  refine OW.nil (QW.then_n (CW.seq ?_))
  by_cases h19 : n10 < a0.length
  ·replace hl13 := if_t hl13 h19
   refine CW.is_t rfl (decide_eq_true h19) ?_
   refine CW.skip (QW.then_n (CW.seq (CW.block (CW.seq (CW.region ?_)))))
   obtain ⟨x20, hx21, hl13⟩ := some_bind hl13
   have hl22 := lt_of_at hx21
   refine OW.rv (RV.idx_rs (n10) rfl rfl rfl rfl rfl (va0.isSome (by decide) hl22) (by omega)) rfl ?_
   obtain ⟨cs23, h24, h25⟩ := ha0.get Ar8Rd.len hx21
   have h24a := h24
   subst h24a
   refine OW.rv (RV.loadAs rfl rfl rfl rfl (fun w m => va0.load (More.of hΦ 1 m rfl) h25) ((u8s_length _).trans Vector.length_toList)) rfl ?_
   refine OW.alloc (l := (u8s (Vector.replicate 32 0#8).toList)) rfl (by rw [Vector.toList_replicate, ← u8s_rep']; rfl) rfl (fun b26 => ?_)
   refine OW.sv (SV.storeW rfl rfl rfl (u8s_one _) rfl ((u8s_length _).trans Vector.length_toList) ((u8s_length _).trans Vector.length_toList)) ?_
   refine OW.nil (QW.then_n (CW.seq (CW.region ?_)))
   refine OW.rv (RV.loadW rfl (List.Mem.tail _ (List.Mem.head _)) rfl rfl rfl rfl ((u8s_length _).trans Vector.length_toList)) rfl ?_
   refine OW.rv (RV.loadW rfl (List.Mem.head _) rfl rfl rfl rfl ((u8s_length _).trans Vector.length_toList)) rfl ?_
   refine OW.rv (RV.eqA8 rfl rfl rfl rfl rfl rfl (Vector.length_toList) (Vector.length_toList)) rfl ?_
   refine OW.slot (.bool (decide (a1 = x20))) (congrArg Value.bool (decide_eq_decide.2 Vector.toList_inj)) ?_
   refine OW.nil (QW.then_n ?_)
   by_cases h27 : a1 = x20
   ·replace hl13 := if_t hl13 h27
    refine CW.is_t rfl (decide_eq_true h27) ?_
    refine CW.seq (CW.region ?_)
    refine OW.rv (RV.assign rfl) rfl ?_
    refine OW.nil (QW.then_n (CW.ret (QW.block_r (QW.then_r (QW.then_r (QW.block_r (QW.then_r ?_)))))))
    have hc := Option.some.inj hl13
    subst hc
    try dsimp only at hf
    refine QW.then_r ?_
    have e0 := Option.some.inj hf
    subst e0
    refine QW.retG (rs := [.tmp 4]) ([.bool true]) ((some b26, blk (u8s x20.toList) 24) :: (some b2, blk (u8s a1.toList) 24) :: []) rfl ?_ rfl ?_ ?_ _ (.inl rfl)
    ·exact ⟨rfl, trivial⟩
    ·exact rfl
    ·exact (fun w m => m)
   ·replace hl13 := if_f hl13 h27
    refine CW.is_f rfl (decide_eq_false h27) ?_
    refine CW.skip (QW.block_n (QW.then_n (CW.region ?_)))
    refine OW.rv (RV.add rfl rfl (by omega)) rfl ?_
    refine OW.slot (.int .i64 (((n10 + 1) : Nat) : Int)) (by first | rfl | (congr 1) | (congr 1; omega)) ?_
    refine OW.rv (RV.move rfl) rfl ?_
    refine OW.nil ?_
    exact QW.againJ (k' := k12) (Nat.lt_succ_self _) ⟨(n10 + 1), hl13, (by omega), rfl, rfl⟩ ⟨rfl, rfl, rfl, rfl, trivial⟩ (fun w m => m.pick [1] 2 rfl rfl)
  ·replace hl13 := if_f hl13 h19
   refine CW.is_f rfl (decide_eq_false h19) ?_
   refine CW.exit (QW.then_x (QW.then_x (QW.block_xe ?_)))
   exact QW.join ⟨(Option.some.inj hl13).symm, rfl, rfl⟩ trivial (fun w m => m.pick [] 1 rfl rfl)
theorem receipt_Find_does (w0 : World) (Φ : Ctx) (N : List Ent) (hΦ : ∀ w, Mem w0 w N → Φ w) (A0_ : Option Addr) (c0_ : Nat) (cs0_ : List Value) (a0 : List (Log)) (A1_ : Option Addr) (c1_ : Nat) (cs1_ : List Value) (a1 : List (Vector (BitVec 8) 20)) (A2_ : Option Addr) (c2_ : Nat) (cs2_ : List Value) (a2 : List (List (Vector (BitVec 8) 32))) (res0 : List (Int)) (va0 : View Φ A0_ a0.length c0_ 22 cs0_) (ha0 : Reps (LogRd Φ) cs0_ a0) (va1 : View Φ A1_ a1.length c1_ 20 cs1_) (ha1 : Reps (Ar8Rd Φ) cs1_ a1) (va2 : View Φ A2_ a2.length c2_ 1 cs2_) (ha2 : Reps (HsRd Φ) cs2_ a2) (hf : receipt_Find a0 a1 a2 = some res0) : DoesG Tryd.prog 21 [.slice A0_ a0.length c0_, .slice A1_ a1.length c1_, .slice A2_ a2.length c2_] w0 [] N (fun v G => ∃ B : List Ent, ∃ or0 : Option Nat, ∃ kr0 : Nat, ∃ rr0 : List Value, (OwnS or0 res0.length kr0 1 (i64s res0) rr0) ∧ v = sl or0 0 res0.length kr0 ∧ G = (or0, blk ((i64s res0) ++ rr0) 3) :: B) := by
 unfold receipt_Find at hf
 replace va0 := va0.mono (Ψ := More w0 Φ []) (fun w q => q.1)
 replace va1 := va1.mono (Ψ := More w0 Φ []) (fun w q => q.1)
 replace va2 := va2.mono (Ψ := More w0 Φ []) (fun w q => q.1)
 replace ha0 := ha0.mono (LogRd.mono (Ψ := More w0 Φ []) (fun w q => q.1))
 replace ha1 := ha1.mono (Ar8Rd.mono (Ψ := More w0 Φ []) (fun w q => q.1))
 replace ha2 := ha2.mono (HsRd.mono (Ψ := More w0 Φ []) (fun w q => q.1))
 have m1 := va0.mx
 have m2 := va1.mx
 have m3 := va2.mx
 refine DoesG.enter Tryd.func21 rfl Tryd.ntmps21 rfl (M := (([] ++ N))) rfl ?_
 refine CW.seq (CW.region ?_)
 refine OW.rv (RV.assign rfl) rfl ?_
 refine OW.nil (QW.then_n ?_)
 refine CW.scope0 ?_
 refine CW.seq (CW.region ?_)
 refine OW.rv (RV.assign rfl) rfl ?_
 refine OW.nil (QW.then_n (CW.seq ?_))
 refine CW.label ?_
 refine QW.then_n (CW.seq (CW.seq (CW.region ?_)))
 refine OW.rv (RV.move rfl) rfl ?_
 refine OW.rv (RV.len rfl rfl) rfl ?_
 refine OW.rv (RV.move rfl) rfl ?_
 refine OW.nil (QW.then_n ?_)
 obtain ⟨q4, hq5, hf⟩ := some_bind hf
 refine CW.cutJ (fun L' M' => ∃ l6 : List (Int), ∃ ob7 : Option Nat, ∃ c8 : Nat, ∃ r9 : List Value, q4 = l6 ∧ (OwnS ob7 l6.length c8 1 (i64s l6) r9) ∧ L' = [(7, sl ob7 0 l6.length c8)] ∧ M' = ((ob7, blk ((i64s l6) ++ r9) 3) :: ([] ++ N))) ?_ ?_
 ·rintro L12 M13 ⟨l6, ob7, c8, r9, e11, o10, e14, e15⟩
  rw [e14, e15]
  clear e14 e15 L12 M13
  clear hq5
  rw [e11] at hf
  clear e11
  try dsimp only at hf
  have m16 := o10.mx
  refine QW.then_n (CW.seq (CW.region ?_))
  refine OW.rv (RV.move rfl) rfl ?_
  refine OW.rv (RV.assign rfl) rfl ?_
  refine OW.nil (QW.then_n (CW.ret ?_))
  refine QW.scope_r ?_
  have e0 := Option.some.inj hf
  subst e0
  refine QW.retG (rs := [.tmp 6]) ([sl ob7 0 l6.length c8]) ((ob7, blk ((i64s l6) ++ r9) 3) :: []) rfl ?_ rfl ?_ ?_ _ (.inl rfl)
  ·exact ⟨rfl, trivial⟩
  ·exact ⟨[], ob7, c8, r9, o10, rfl, rfl⟩
  ·exact (fun w m => m.pick [0] 1 rfl rfl)
 ·skip
  refine CW.block ?_
  refine CW.mem (M' := ((none, blk ((i64s ([] : List (Int))) ++ []) 3) :: ([] ++ N))) (fun w m => m.nil_ent _) ?_
  refine CW.loopJ (fun k L' M' => ∃ l17 : List (Int), ∃ n22 : Nat, ∃ ob18 : Option Nat, ∃ c19 : Nat, ∃ r20 : List Value, (receipt_Find.l1 a0 a1 a2 k l17 n22) = some q4 ∧ (OwnS ob18 l17.length c19 1 (i64s l17) r20) ∧ (n22 ≤ 9223372036854775807) ∧ L' = [(1, .slice A1_ a1.length c1_), (2, .slice A2_ a2.length c2_), (7, sl ob18 0 l17.length c19), (12, .slice A0_ a0.length c0_), (13, .int .i64 ((a0.length : Nat) : Int)), (14, .int .i64 ((n22 : Nat) : Int))] ∧ M' = ((ob18, blk ((i64s l17) ++ r20) 3) :: ([] ++ N))) (k0 := (a0.length - 0 + 2)) ⟨([] : List (Int)), 0, none, 0, [], hq5, OwnS.nil, (by omega), rfl, rfl⟩ ⟨rfl, rfl, rfl, rfl, rfl, rfl, trivial⟩ (fun w m => m.pick [0] 1 rfl rfl) ?_
  clear hq5
  rintro k24 L27 M28 ⟨l17, n22, ob18, c19, r20, hl25, o21, b23, e29, e30⟩
  rw [e29, e30]
  clear e29 e30 L27 M28
  rcases k24 with _ | k24
  ·rw [receipt_Find.l1] at hl25; cases hl25
  rw [receipt_Find.l1] at hl25
  have m31 := o21.mx
  refine CW.seq (CW.region ?_)
  refine OW.rv (RV.lss rfl rfl) rfl ?_
  refine OW.slot (.bool (decide (n22 < a0.length))) (congrArg Value.bool (decide_eq_decide.2 (by omega))) ?_
  refine OW.nil (QW.then_n (CW.seq ?_))
  by_cases h32 : n22 < a0.length
  ·replace hl25 := if_t hl25 h32
   refine CW.is_t rfl (decide_eq_true h32) ?_
   refine CW.skip (QW.then_n (CW.seq (CW.block (CW.seq (CW.region ?_)))))
   refine OW.rv (RV.move rfl) rfl ?_
   obtain ⟨x33, hx34, hl25⟩ := some_bind hl25
   have hl35 := lt_of_at hx34
   refine OW.rv (RV.idx_rs (n22) rfl rfl rfl rfl rfl (va0.isSome (by decide) hl35) (by omega)) rfl ?_
   obtain ⟨cs36, h37, h38⟩ := ha0.get LogRd.len hx34
   have h48 := h37
   obtain ⟨A39, c40, cs42, A44, c45, e47, v41, h43, v46⟩ := LogRd.opn h37
   subst e47
   have m49 := v41.mx
   have m50 := v46.mx
   refine OW.rv (RV.loadAs rfl rfl rfl rfl (fun w m => va0.load (More.of hΦ 1 m rfl) h38) (LogC.C_length _)) rfl ?_
   refine OW.alloc (l := (⟨(Vector.replicate 20 0#8), .slice none 0 0, .slice none 0 0⟩ : LogC).C) rfl (by kernel_rfl) rfl (fun b51 => ?_)
   refine OW.rv (RV.assign rfl) rfl ?_
   refine OW.sv (SV.storeW rfl rfl rfl (LogC.C_one _ rfl rfl) rfl (LogC.C_length _) (LogC.C_length _)) ?_
   refine OW.nil (QW.then_n (CW.seq (CW.seq ?_)))
   obtain ⟨q52, hq53, hl25⟩ := some_bind hl25
   refine CW.cutJ (fun L' M' => ∃ p54 : Bool, q52 = p54 ∧ L' = [(1, .slice A1_ a1.length c1_), (2, .slice A2_ a2.length c2_), (7, sl ob18 0 l17.length c19), (8, .int .i64 ((n22 : Nat) : Int)), (9, ptr (some b51) 0), (12, .slice A0_ a0.length c0_), (13, .int .i64 ((a0.length : Nat) : Int)), (14, .int .i64 ((n22 : Nat) : Int)), (36, .bool (p54))] ∧ M' = ((some b51, blk (⟨x33.address, .slice A39 x33.topics.length c40, .slice A44 x33.data.length c45⟩ : LogC).C 63) :: (ob18, blk ((i64s l17) ++ r20) 3) :: ([] ++ N))) ?_ ?_
   ·rintro L56 M57 ⟨p54, e55, e58, e59⟩
    rw [e58, e59]
    clear e58 e59 L56 M57
    clear hq53
    rw [e55] at hl25
    clear e55
    try dsimp only at hl25
    have m60 := o21.mx
    refine QW.then_n ?_
    by_cases h61 : p54 = true
    ·replace hl25 := if_t hl25 h61
     refine CW.is_t rfl (h61) ?_
     refine CW.exit (QW.then_x (QW.block_xe (QW.then_n (CW.region ?_))))
     refine OW.rv (RV.add rfl rfl (by omega)) rfl ?_
     refine OW.slot (.int .i64 (((n22 + 1) : Nat) : Int)) (by first | rfl | (congr 1) | (congr 1; omega)) ?_
     refine OW.rv (RV.move rfl) rfl ?_
     refine OW.nil ?_
     exact QW.againJ (k' := k24) (Nat.lt_succ_self _) ⟨l17, (n22 + 1), ob18, c19, r20, hl25, o21, (by omega), rfl, rfl⟩ ⟨rfl, rfl, rfl, rfl, rfl, rfl, trivial⟩ (fun w m => m.pick [1] 2 rfl rfl)
    ·replace hl25 := if_f hl25 h61
     refine CW.is_f rfl (Bool.eq_false_iff.2 h61) ?_
     refine CW.skip (QW.then_n (CW.seq (CW.seq (CW.region ?_))))
     refine OW.rv (RV.move rfl) rfl ?_
     refine OW.rv (RV.len rfl rfl) rfl ?_
     refine OW.rv (RV.move rfl) rfl ?_
     refine OW.nil (QW.then_n ?_)
     obtain ⟨q62, hq63, hl25⟩ := some_bind hl25
     refine CW.cutJ (fun L' M' => q62 = Lq.go () ∧ L' = [(1, .slice A1_ a1.length c1_), (2, .slice A2_ a2.length c2_), (7, sl ob18 0 l17.length c19), (8, .int .i64 ((n22 : Nat) : Int)), (12, .slice A0_ a0.length c0_), (13, .int .i64 ((a0.length : Nat) : Int)), (14, .int .i64 ((n22 : Nat) : Int))] ∧ M' = ((ob18, blk ((i64s l17) ++ r20) 3) :: ([] ++ N))) ?_ ?_
     ·rintro L65 M66 ⟨e64, e67, e68⟩
      rw [e67, e68]
      clear e67 e68 L65 M66
      clear hq63
      rw [e64] at hl25
      clear e64
      try dsimp only at hl25
      have m69 := o21.mx
      refine QW.then_n (CW.region ?_)
      refine OW.rv (RV.move rfl) rfl ?_
      refine OW.rv (RV.move rfl) rfl ?_
      refine OW.ofN (NV.bs1 rfl rfl rfl rfl rfl rfl) rfl (fun b70 => ?_)
      refine OW.mem (M' := (((some b70), blk ((i64s ([n22] : List (Int))) ++ []) 3) :: (ob18, blk ((i64s l17) ++ r20) 3) :: ([] ++ N))) (fun w m => by first | exact m | simpa [i64s] using m) ?_
      have o71 : OwnS (some b70) ([n22] : List (Int)).length 1 1 (i64s ([n22] : List (Int))) [] := ⟨by simp [i64s], by simp [i64s], (fun h => nomatch h), by simp⟩
      refine OW.slot (sl (some b70) 0 ([n22] : List (Int)).length 1) (rfl) ?_
      refine OW.rot1 ?_
      obtain ⟨g72, hl25⟩ := some_if hl25
      refine OW.appendOwn (s := 1) rfl rfl rfl rfl rfl rfl o21 (fun w m => m.rd0 (List.Mem.tail _ (List.Mem.head _)) (fun e => o71.nilc (by decide) e)) o71.n (i64s_one _) (o71.zeroO (by decide)) (by decide) (by decide) (by first | omega | (simp only [i3, List.length_nil]; omega)) rfl rfl ((l17 ++ ([n22] : List (Int))).length) (i64s (l17 ++ ([n22] : List (Int)))) (List.length_append ..).symm (i64s_app _ _) (fun ob73 r74 c75 o76 => ?_)
      have m77 := o76.mx
      refine OW.rv (RV.assign rfl) rfl ?_
      refine OW.nil (QW.block_n (QW.then_n (CW.region ?_)))
      refine OW.rv (RV.add rfl rfl (by omega)) rfl ?_
      refine OW.slot (.int .i64 (((n22 + 1) : Nat) : Int)) (by first | rfl | (congr 1) | (congr 1; omega)) ?_
      refine OW.rv (RV.move rfl) rfl ?_
      refine OW.nil ?_
      exact QW.againJ (k' := k24) (Nat.lt_succ_self _) ⟨(l17 ++ ([n22] : List (Int))), (n22 + 1), ob73, c75, r74, hl25, o76, (by omega), rfl, rfl⟩ ⟨rfl, rfl, rfl, rfl, rfl, rfl, trivial⟩ (fun w m => m.pick [0] 2 rfl rfl)
     ·skip
      refine CW.block ?_
      refine CW.loopJ (fun k L' M' => ∃ n78 : Nat, (receipt_Find.l2 a2 x33 k n78) = some q62 ∧ (n78 ≤ 9223372036854775807) ∧ L' = [(1, .slice A1_ a1.length c1_), (2, .slice A2_ a2.length c2_), (7, sl ob18 0 l17.length c19), (8, .int .i64 ((n22 : Nat) : Int)), (9, ptr (some b51) 0), (12, .slice A0_ a0.length c0_), (13, .int .i64 ((a0.length : Nat) : Int)), (14, .int .i64 ((n22 : Nat) : Int)), (37, .slice A2_ a2.length c2_), (38, .int .i64 ((a2.length : Nat) : Int)), (39, .int .i64 ((n78 : Nat) : Int))] ∧ M' = ((some b51, blk (⟨x33.address, .slice A39 x33.topics.length c40, .slice A44 x33.data.length c45⟩ : LogC).C 63) :: (ob18, blk ((i64s l17) ++ r20) 3) :: ([] ++ N))) (k0 := (a2.length - 0 + 2)) ⟨0, hq63, (by omega), rfl, rfl⟩ ⟨rfl, rfl, rfl, rfl, rfl, rfl, rfl, rfl, rfl, rfl, rfl, trivial⟩ (fun w m => m.pick [0, 1] 2 rfl rfl) ?_
      clear hq63
      rintro k80 L83 M84 ⟨n78, hl81, b79, e85, e86⟩
      rw [e85, e86]
      clear e85 e86 L83 M84
      rcases k80 with _ | k80
      ·rw [receipt_Find.l2] at hl81; cases hl81
      rw [receipt_Find.l2] at hl81
      have m87 := o21.mx
      refine CW.seq (CW.region ?_)
      refine OW.rv (RV.lss rfl rfl) rfl ?_
      refine OW.slot (.bool (decide (n78 < a2.length))) (congrArg Value.bool (decide_eq_decide.2 (by omega))) ?_
      refine OW.nil (QW.then_n (CW.seq ?_))
      by_cases h88 : n78 < a2.length
      ·replace hl81 := if_t hl81 h88
       refine CW.is_t rfl (decide_eq_true h88) ?_
       refine CW.skip (QW.then_n (CW.seq (CW.block (CW.seq (CW.region ?_)))))
       refine OW.rv (RV.move rfl) rfl ?_
       obtain ⟨x89, hx90, hl81⟩ := some_bind hl81
       have hl91 := lt_of_at hx90
       refine OW.rv (RV.idx_r (n78) rfl rfl rfl rfl rfl (va2.isSome (by decide) hl91) (by omega)) rfl ?_
       obtain ⟨cs92, h93, h94⟩ := ha2.get HsRd.len hx90
       obtain ⟨A95, c96, cs97, e100, v98, h99⟩ := h93
       subst e100
       have m101 := v98.mx
       refine OW.rv (RV.load_at rfl rfl rfl (fun w m => by have := va2.load (More.of hΦ 2 m rfl) h94 0 _ rfl; simpa [Addr.add] using this)) rfl ?_
       refine OW.rv (RV.assign rfl) rfl ?_
       refine OW.rv (RV.assign rfl) rfl ?_
       refine OW.nil (QW.then_n (CW.seq ?_))
       obtain ⟨q102, hq103, hl81⟩ := some_bind hl81
       refine CW.cutJ (fun L' M' => ∃ p104 : Bool, q102 = p104 ∧ L' = [(1, .slice A1_ a1.length c1_), (2, .slice A2_ a2.length c2_), (7, sl ob18 0 l17.length c19), (8, .int .i64 ((n22 : Nat) : Int)), (9, ptr (some b51) 0), (12, .slice A0_ a0.length c0_), (13, .int .i64 ((a0.length : Nat) : Int)), (14, .int .i64 ((n22 : Nat) : Int)), (37, .slice A2_ a2.length c2_), (38, .int .i64 ((a2.length : Nat) : Int)), (39, .int .i64 ((n78 : Nat) : Int)), (56, .bool (p104))] ∧ M' = ((some b51, blk (⟨x33.address, .slice A39 x33.topics.length c40, .slice A44 x33.data.length c45⟩ : LogC).C 63) :: (ob18, blk ((i64s l17) ++ r20) 3) :: ([] ++ N))) ?_ ?_
       ·rintro L106 M107 ⟨p104, e105, e108, e109⟩
        rw [e108, e109]
        clear e108 e109 L106 M107
        clear hq103
        rw [e105] at hl81
        clear e105
        try dsimp only at hl81
        have m110 := o21.mx
        refine QW.then_n ?_
        by_cases h111 : p104 = true
        ·replace hl81 := if_t hl81 h111
         refine CW.is_t rfl (h111) ?_
         refine CW.exit ?_
         refine QW.block_xn rfl ?_
         refine QW.then_x (QW.then_x ?_)
         refine QW.block_xn rfl ?_
         refine QW.then_x ?_
         have hc := Option.some.inj hl81
         subst hc
         try dsimp only at hl25
         refine QW.then_x (QW.block_xe (QW.then_n (CW.region ?_)))
         refine OW.rv (RV.add rfl rfl (by omega)) rfl ?_
         refine OW.slot (.int .i64 (((n22 + 1) : Nat) : Int)) (by first | rfl | (congr 1) | (congr 1; omega)) ?_
         refine OW.rv (RV.move rfl) rfl ?_
         refine OW.nil ?_
         exact QW.againJ (k' := k24) (Nat.lt_succ_self _) ⟨l17, (n22 + 1), ob18, c19, r20, hl25, o21, (by omega), rfl, rfl⟩ ⟨rfl, rfl, rfl, rfl, rfl, rfl, trivial⟩ (fun w m => m.pick [1] 2 rfl rfl)
        ·replace hl81 := if_f hl81 h111
         refine CW.is_f rfl (Bool.eq_false_iff.2 h111) ?_
         refine CW.skip (QW.block_n (QW.then_n (CW.region ?_)))
         refine OW.rv (RV.add rfl rfl (by omega)) rfl ?_
         refine OW.slot (.int .i64 (((n78 + 1) : Nat) : Int)) (by first | rfl | (congr 1) | (congr 1; omega)) ?_
         refine OW.rv (RV.move rfl) rfl ?_
         refine OW.nil ?_
         exact QW.againJ (k' := k80) (Nat.lt_succ_self _) ⟨(n78 + 1), hl81, (by omega), rfl, rfl⟩ ⟨rfl, rfl, rfl, rfl, rfl, rfl, rfl, rfl, rfl, rfl, rfl, trivial⟩ (fun w m => m.pick [0, 1] 2 rfl rfl)
       ·skip
        refine CW.region ?_
        refine OW.rv (RV.move rfl) rfl ?_
        refine OW.rv (RV.len rfl rfl) rfl ?_
        refine OW.rv (RV.gtr rfl rfl) rfl ?_
        refine OW.slot (.bool (decide (0 < x89.length))) (congrArg Value.bool (decide_eq_decide.2 (by omega))) ?_
        refine OW.rv (RV.move rfl) rfl ?_
        by_cases h112 : 0 < x89.length
        ·replace hq103 := if_t hq103 h112
         refine OW.slot (.bool true) (congrArg Value.bool (decide_eq_true h112)) ?_
         refine OW.want rfl ?_
         refine OW.rv (RV.move rfl) rfl ?_
         refine OW.want rfl ?_
         refine OW.rv (RV.field rfl rfl rfl rfl) rfl ?_
         refine OW.slot (ptr (some b51) 20) rfl ?_
         refine OW.want rfl ?_
         refine OW.rv (RV.load rfl (List.Mem.head _) rfl rfl rfl (LogC.C_topics (⟨x33.address, .slice A39 x33.topics.length c40, .slice A44 x33.data.length c45⟩ : LogC))) rfl ?_
         refine OW.want rfl ?_
         refine OW.rv (RV.move rfl) rfl ?_
         refine OW.want rfl ?_
         obtain ⟨x113, hx114, hq103⟩ := some_bind hq103
         have hl115 := lt_of_at hx114
         refine OW.rv (RV.idx_rs (n78) rfl rfl rfl rfl rfl (v41.isSome (by decide) hl115) (by omega)) rfl ?_
         obtain ⟨cs116, h117, h118⟩ := h43.get Ar8Rd.len hx114
         have h117a := h117
         subst h117a
         refine OW.want rfl ?_
         refine OW.rv (RV.loadAs rfl rfl rfl rfl (fun w m => v41.load (More.of hΦ 2 m rfl) h118) ((u8s_length _).trans Vector.length_toList)) rfl ?_
         refine OW.want rfl ?_
         obtain ⟨x120, hx119, hq103⟩ := some_bind hq103
         refine OW.callG Tryd.call48 rfl (receipt_among_Hash_does w0 (More w0 Φ []) ((some b51, blk (⟨x33.address, .slice A39 x33.topics.length c40, .slice A44 x33.data.length c45⟩ : LogC).C 63) :: (ob18, blk ((i64s l17) ++ r20) 3) :: ([] ++ N)) (fun w m => More.of hΦ 2 m rfl) A95 c96 cs97 x89 x113 x120 v98 h99 hx119) rfl rfl ?_
         rintro _ G121 rfl
         refine OW.mem (M' := ((some b51, blk (⟨x33.address, .slice A39 x33.topics.length c40, .slice A44 x33.data.length c45⟩ : LogC).C 63) :: (ob18, blk ((i64s l17) ++ r20) 3) :: ([] ++ N))) (fun w m => m.appR) ?_
         refine OW.want rfl ?_
         refine OW.rv (RV.not rfl) rfl ?_
         refine OW.rv (RV.pick_t rfl rfl rfl) rfl ?_
         refine OW.nil ?_
         exact QW.join ⟨(!x120), (Option.some.inj hq103).symm, rfl, rfl⟩ ⟨rfl, rfl, rfl, rfl, rfl, rfl, rfl, rfl, rfl, rfl, rfl, rfl, trivial⟩ (fun w m => m.pick [0, 1] 2 rfl rfl)
        ·replace hq103 := if_f hq103 h112
         refine OW.slot (.bool false) (congrArg Value.bool (decide_eq_false h112)) ?_
         refine OW.skip rfl rfl rfl ?_
         refine OW.skip rfl rfl rfl ?_
         refine OW.skip rfl rfl rfl ?_
         refine OW.skip rfl rfl rfl ?_
         refine OW.skip rfl rfl rfl ?_
         refine OW.skip rfl rfl rfl ?_
         refine OW.skip rfl rfl rfl ?_
         refine OW.skip rfl rfl rfl ?_
         refine OW.rv (RV.pick_f rfl rfl rfl) rfl ?_
         refine OW.nil ?_
         exact QW.join ⟨false, (Option.some.inj hq103).symm, rfl, rfl⟩ ⟨rfl, rfl, rfl, rfl, rfl, rfl, rfl, rfl, rfl, rfl, rfl, rfl, trivial⟩ (fun w m => m.pick [0, 1] 2 rfl rfl)
      ·replace hl81 := if_f hl81 h88
       refine CW.is_f rfl (decide_eq_false h88) ?_
       refine CW.exit (QW.then_x (QW.then_x (QW.block_xe ?_)))
       exact QW.join ⟨(Option.some.inj hl81).symm, rfl, rfl⟩ ⟨rfl, rfl, rfl, rfl, rfl, rfl, rfl, trivial⟩ (fun w m => m.pick [1] 2 rfl rfl)
   ·skip
    refine CW.region ?_
    refine OW.rv (RV.field rfl rfl rfl rfl) rfl ?_
    refine OW.slot (ptr (some b51) 20) rfl ?_
    refine OW.rv (RV.load rfl (List.Mem.head _) rfl rfl rfl (LogC.C_topics (⟨x33.address, .slice A39 x33.topics.length c40, .slice A44 x33.data.length c45⟩ : LogC))) rfl ?_
    refine OW.rv (RV.len rfl rfl) rfl ?_
    refine OW.rv (RV.move rfl) rfl ?_
    refine OW.rv (RV.len rfl rfl) rfl ?_
    refine OW.rv (RV.lss rfl rfl) rfl ?_
    refine OW.slot (.bool (decide (x33.topics.length < a2.length))) (congrArg Value.bool (decide_eq_decide.2 (by omega))) ?_
    refine OW.rv (RV.move rfl) rfl ?_
    by_cases h123 : x33.topics.length < a2.length
    ·replace hq53 := if_t hq53 h123
     refine OW.slot (.bool true) (congrArg Value.bool (decide_eq_true h123)) ?_
     refine OW.skip rfl rfl rfl ?_
     refine OW.skip rfl rfl rfl ?_
     refine OW.skip rfl rfl rfl ?_
     refine OW.skip rfl rfl rfl ?_
     refine OW.skip rfl rfl rfl ?_
     refine OW.skip rfl rfl rfl ?_
     refine OW.skip rfl rfl rfl ?_
     refine OW.skip rfl rfl rfl ?_
     refine OW.skip rfl rfl rfl ?_
     refine OW.skip rfl rfl rfl ?_
     refine OW.rv (RV.pick_t rfl rfl rfl) rfl ?_
     refine OW.nil ?_
     exact QW.join ⟨true, (Option.some.inj hq53).symm, rfl, rfl⟩ ⟨rfl, rfl, rfl, rfl, rfl, rfl, rfl, rfl, rfl, trivial⟩ (fun w m => m.pick [0, 1] 2 rfl rfl)
    ·replace hq53 := if_f hq53 h123
     refine OW.slot (.bool false) (congrArg Value.bool (decide_eq_false h123)) ?_
     refine OW.want rfl ?_
     refine OW.rv (RV.move rfl) rfl ?_
     refine OW.want rfl ?_
     refine OW.rv (RV.len rfl rfl) rfl ?_
     refine OW.want rfl ?_
     refine OW.rv (RV.gtr rfl rfl) rfl ?_
     refine OW.slot (.bool (decide (0 < a1.length))) (congrArg Value.bool (decide_eq_decide.2 (by omega))) ?_
     refine OW.want rfl ?_
     refine OW.rv (RV.move rfl) rfl ?_
     by_cases h124 : 0 < a1.length
     ·replace hq53 := if_t hq53 h124
      refine OW.slot (.bool true) (congrArg Value.bool (decide_eq_true h124)) ?_
      refine OW.want rfl ?_
      refine OW.rv (RV.move rfl) rfl ?_
      refine OW.want rfl ?_
      refine OW.rv (RV.field rfl rfl rfl rfl) rfl ?_
      refine OW.slot (ptr (some b51) 0) rfl ?_
      refine OW.want rfl ?_
      refine OW.rv (RV.loadAo rfl (List.Mem.head _) rfl rfl rfl rfl (LogC.C_address_all (⟨x33.address, .slice A39 x33.topics.length c40, .slice A44 x33.data.length c45⟩ : LogC)) ((u8s_length _).trans Vector.length_toList)) rfl ?_
      refine OW.want rfl ?_
      obtain ⟨x126, hx125, hq53⟩ := some_bind hq53
      refine OW.callG Tryd.call47 rfl (receipt_among_Address_does w0 (More w0 Φ []) ((some b51, blk (⟨x33.address, .slice A39 x33.topics.length c40, .slice A44 x33.data.length c45⟩ : LogC).C 63) :: (ob18, blk ((i64s l17) ++ r20) 3) :: ([] ++ N)) (fun w m => More.of hΦ 2 m rfl) A1_ c1_ cs1_ a1 x33.address x126 va1 ha1 hx125) rfl rfl ?_
      rintro _ G127 rfl
      refine OW.mem (M' := ((some b51, blk (⟨x33.address, .slice A39 x33.topics.length c40, .slice A44 x33.data.length c45⟩ : LogC).C 63) :: (ob18, blk ((i64s l17) ++ r20) 3) :: ([] ++ N))) (fun w m => m.appR) ?_
      refine OW.want rfl ?_
      refine OW.rv (RV.not rfl) rfl ?_
      refine OW.want rfl ?_
      refine OW.rv (RV.pick_t rfl rfl rfl) rfl ?_
      refine OW.rv (RV.pick_f rfl rfl rfl) rfl ?_
      refine OW.nil ?_
      exact QW.join ⟨(!x126), (Option.some.inj hq53).symm, rfl, rfl⟩ ⟨rfl, rfl, rfl, rfl, rfl, rfl, rfl, rfl, rfl, trivial⟩ (fun w m => m.pick [0, 1] 2 rfl rfl)
     ·replace hq53 := if_f hq53 h124
      refine OW.slot (.bool false) (congrArg Value.bool (decide_eq_false h124)) ?_
      refine OW.skip rfl rfl rfl ?_
      refine OW.skip rfl rfl rfl ?_
      refine OW.skip rfl rfl rfl ?_
      refine OW.skip rfl rfl rfl ?_
      refine OW.skip rfl rfl rfl ?_
      refine OW.want rfl ?_
      refine OW.rv (RV.pick_f rfl rfl rfl) rfl ?_
      refine OW.rv (RV.pick_f rfl rfl rfl) rfl ?_
      refine OW.nil ?_
      exact QW.join ⟨false, (Option.some.inj hq53).symm, rfl, rfl⟩ ⟨rfl, rfl, rfl, rfl, rfl, rfl, rfl, rfl, rfl, trivial⟩ (fun w m => m.pick [0, 1] 2 rfl rfl)
  ·replace hl25 := if_f hl25 h32
   refine CW.is_f rfl (decide_eq_false h32) ?_
   refine CW.exit (QW.then_x (QW.then_x (QW.block_xe ?_)))
   exact QW.join ⟨l17, ob18, c19, r20, (Option.some.inj hl25).symm, o21, rfl, rfl⟩ ⟨rfl, trivial⟩ (fun w m => m.pick [0] 1 rfl rfl)
theorem waybilllaw17_ReceiptBlooms_does (w0 : World) (Φ : Ctx) (N : List Ent) (hΦ : ∀ w, Mem w0 w N → Φ w) (A0_ : Option Addr) (c0_ : Nat) (cs0_ : List Value) (a0 : List (Log)) (a1 : Vector (BitVec 8) 20) (a2 : Vector (BitVec 8) 32) (res0 : Bool) (va0 : View Φ A0_ a0.length c0_ 22 cs0_) (ha0 : Reps (LogRd Φ) cs0_ a0) (hg2 : View Φ (some ⟨2, 0, none⟩) 2 2 1 (u8s firstL)) (hf : waybilllaw17_ReceiptBlooms a0 a1 a2 = some res0) : DoesG Tryd.prog 6 [.slice A0_ a0.length c0_, .agg (u8s a1.toList).toArray, .agg (u8s a2.toList).toArray] w0 [] N (fun v G => v = .bool res0) := by
 unfold waybilllaw17_ReceiptBlooms at hf
 replace va0 := va0.mono (Ψ := More w0 Φ []) (fun w q => q.1)
 replace hg2 := hg2.mono (Ψ := More w0 Φ []) (fun w q => q.1)
 replace ha0 := ha0.mono (LogRd.mono (Ψ := More w0 Φ []) (fun w q => q.1))
 have m1 := va0.mx
 refine DoesG.enter Tryd.func6 rfl Tryd.ntmps6 rfl (M := (([] ++ N))) rfl ?_
 refine CW.seq (CW.region ?_)
 refine OW.boxA rfl rfl (fun b2 => ?_)
 refine OW.boxA rfl rfl (fun b3 => ?_)
 refine OW.rv (RV.assign rfl) rfl ?_
 refine OW.nil (QW.then_n (CW.seq (CW.region ?_)))
 refine OW.rv (RV.move rfl) rfl ?_
 obtain ⟨x5, hx4, hf⟩ := some_bind hf
 refine OW.callG Tryd.call28 rfl (receipt_BloomOf_does w0 (More w0 Φ []) ((some b3, blk (u8s a2.toList) 24) :: (some b2, blk (u8s a1.toList) 60) :: ([] ++ N)) (fun w m => More.of hΦ 2 m rfl) A0_ c0_ cs0_ a0 x5 va0 ha0 hg2 hx4) rfl rfl ?_
 rintro _ G6 rfl
 refine OW.mem (M' := ((some b3, blk (u8s a2.toList) 24) :: (some b2, blk (u8s a1.toList) 60) :: ([] ++ N))) (fun w m => m.appR) ?_
 refine OW.alloc (l := (u8s (Vector.replicate 256 0#8).toList)) rfl (by rw [Vector.toList_replicate, ← u8s_rep']; rfl) rfl (fun b8 => ?_)
 refine OW.sv (SV.storeW rfl rfl rfl (u8s_one _) rfl ((u8s_length _).trans Vector.length_toList) ((u8s_length _).trans Vector.length_toList)) ?_
 refine OW.nil (QW.then_n (CW.seq (CW.region ?_)))
 refine OW.rv (RV.build0 (l := (u8s (Vector.replicate 256 0#8).toList)) rfl rfl rfl (by rw [Vector.toList_replicate, ← u8s_rep']; rfl)) rfl ?_
 refine OW.alloc (l := (u8s (Vector.replicate 256 0#8).toList)) rfl (by rw [Vector.toList_replicate, ← u8s_rep']; rfl) rfl (fun b9 => ?_)
 refine OW.sv (SV.storeW rfl rfl rfl (u8s_one _) rfl ((u8s_length _).trans Vector.length_toList) ((u8s_length _).trans Vector.length_toList)) ?_
 refine OW.nil (QW.then_n (CW.seq (CW.seq (CW.region ?_))))
 refine OW.rv (RV.move rfl) rfl ?_
 refine OW.rv (RV.len rfl rfl) rfl ?_
 refine OW.rv (RV.sub rfl rfl (by omega)) rfl ?_
 refine OW.rv (RV.assign rfl) rfl ?_
 refine OW.nil (QW.then_n ?_)
 obtain ⟨q10, hq11, hf⟩ := some_bind hf
 refine CW.cutJ (fun L' M' => ∃ w14 : Vector (BitVec 8) 256, ∃ B12 : List Ent, q10 = Lp.go w14 ∧ (∀ w, Mem w0 w B12 → Mem w0 w []) ∧ L' = [(0, .slice A0_ a0.length c0_), (4, ptr (some b2) 0), (5, ptr (some b3) 0), (7, ptr (some b8) 0), (8, ptr (some b9) 0)] ∧ M' = ((some b9, blk (u8s w14.toList) 27) :: (some b8, blk (u8s x5.toList) 27) :: (some b3, blk (u8s a2.toList) 24) :: (some b2, blk (u8s a1.toList) 60) :: (B12 ++ N))) ?_ ?_
 ·rintro L16 M17 ⟨w14, B12, e15, hB13, e18, e19⟩
  rw [e18, e19]
  clear e18 e19 L16 M17
  clear hq11
  rw [e15] at hf
  clear e15
  try dsimp only at hf
  have gq1 : ∀ w, More w0 Φ B12 w → More w0 Φ [] w := fun w q => More.mono (fun w m => hB13 w (m)) q
  replace va0 := va0.mono gq1
  replace ha0 := ha0.mono (LogRd.mono gq1)
  replace hg2 := hg2.mono gq1
  refine QW.then_n (CW.seq (CW.region ?_))
  refine OW.rv (RV.move rfl) rfl ?_
  refine OW.rv (RV.loadW rfl (List.Mem.tail _ (List.Mem.tail _ (List.Mem.tail _ (List.Mem.head _)))) rfl rfl rfl rfl ((u8s_length _).trans Vector.length_toList)) rfl ?_
  refine OW.ofN (NV.bsA rfl rfl (by intro x hx; simp at hx; subst hx; exact (u8s_length _).trans Vector.length_toList) rfl rfl rfl (by decide) (by decide) rfl) rfl (fun b20 => ?_)
  have h23 : Reps (Ar8Rd (More w0 Φ B12)) (((u8s a1.toList) : List Value)) [a1] := Reps.one Ar8Rd.mk
  refine OW.mem (M' := (((some b20), blk ((((u8s a1.toList) : List Value)) ++ []) 60) :: (some b9, blk (u8s w14.toList) 27) :: (some b8, blk (u8s x5.toList) 27) :: (some b3, blk (u8s a2.toList) 24) :: (some b2, blk (u8s a1.toList) 60) :: (B12 ++ N))) (fun w m => by simpa only [List.flatten_cons, List.flatten_nil, List.append_nil, List.append_assoc] using m) ?_
  have o21 : OwnS (some b20) ([a1] : List (Vector (BitVec 8) 20)).length 1 20 (((u8s a1.toList) : List Value)) [] := ⟨by simp [Ar8Rd], by simp [Ar8Rd], (fun h => nomatch h), by simp⟩
  refine OW.slot (sl (some b20) 0 ([a1] : List (Vector (BitVec 8) 20)).length 1) (rfl) ?_
  refine OW.rv (RV.loadW rfl (List.Mem.tail _ (List.Mem.tail _ (List.Mem.tail _ (List.Mem.head _)))) rfl rfl rfl rfl ((u8s_length _).trans Vector.length_toList)) rfl ?_
  refine OW.ofN (NV.bsA rfl rfl (by intro x hx; simp at hx; subst hx; exact (u8s_length _).trans Vector.length_toList) rfl rfl rfl (by decide) (by decide) rfl) rfl (fun b24 => ?_)
  have h27 : Reps (Ar8Rd (More w0 Φ B12)) (((u8s a2.toList) : List Value)) [a2] := Reps.one Ar8Rd.mk
  refine OW.mem (M' := (((some b24), blk ((((u8s a2.toList) : List Value)) ++ []) 24) :: ((some b20), blk ((((u8s a1.toList) : List Value)) ++ []) 60) :: (some b9, blk (u8s w14.toList) 27) :: (some b8, blk (u8s x5.toList) 27) :: (some b3, blk (u8s a2.toList) 24) :: (some b2, blk (u8s a1.toList) 60) :: (B12 ++ N))) (fun w m => by simpa only [List.flatten_cons, List.flatten_nil, List.append_nil, List.append_assoc] using m) ?_
  have o25 : OwnS (some b24) ([a2] : List (Vector (BitVec 8) 32)).length 1 32 (((u8s a2.toList) : List Value)) [] := ⟨by simp [Ar8Rd], by simp [Ar8Rd], (fun h => nomatch h), by simp⟩
  refine OW.slot (sl (some b24) 0 ([a2] : List (Vector (BitVec 8) 32)).length 1) (rfl) ?_
  refine OW.mem (M' := ((some b20), blk ((((u8s a1.toList) : List Value)) ++ []) 60) :: (some b9, blk (u8s w14.toList) 27) :: (some b8, blk (u8s x5.toList) 27) :: (some b3, blk (u8s a2.toList) 24) :: (some b2, blk (u8s a1.toList) 60) :: ((((some b24), blk ((((u8s a2.toList) : List Value)) ++ []) 24) :: B12) ++ N)) (fun w m => m.pick [1, 2, 3, 4, 5, 0] 6 rfl rfl) ?_
  have gq2 : ∀ w, More w0 Φ (((some b24), blk ((((u8s a2.toList) : List Value)) ++ []) 24) :: B12) w → More w0 Φ B12 w := fun w q => More.mono (fun w m => (m).tail) q
  replace va0 := va0.mono gq2
  replace ha0 := ha0.mono (LogRd.mono gq2)
  replace h23 := h23.mono (Ar8Rd.mono gq2)
  replace h27 := h27.mono (Ar8Rd.mono gq2)
  replace hg2 := hg2.mono gq2
  have v30 : View (More w0 Φ (((some b24), blk ((((u8s a2.toList) : List Value)) ++ []) 24) :: B12)) (((some b24)).map fun k => ⟨k, 0, none⟩) ([a2] : List (Vector (BitVec 8) 32)).length 1 32 (((u8s a2.toList) : List Value)) := o25.view (by decide) (fun w q => q.2.sublist (List.singleton_sublist.2 (List.mem_cons_self ..)))
  refine OW.ofN (NV.bs1 rfl rfl rfl rfl rfl rfl) rfl (fun b28 => ?_)
  have h32 : Reps (HsRd (More w0 Φ (((some b24), blk ((((u8s a2.toList) : List Value)) ++ []) 24) :: B12))) (([.slice (((some b24)).map fun k => ⟨k, 0, none⟩) ([a2] : List (Vector (BitVec 8) 32)).length 1] : List Value)) [([a2] : List (Vector (BitVec 8) 32))] := Reps.one (HsRd.mk v30 h27)
  refine OW.mem (M' := (((some b28), blk ((([.slice (((some b24)).map fun k => ⟨k, 0, none⟩) ([a2] : List (Vector (BitVec 8) 32)).length 1] : List Value)) ++ []) 45) :: ((some b20), blk ((((u8s a1.toList) : List Value)) ++ []) 60) :: (some b9, blk (u8s w14.toList) 27) :: (some b8, blk (u8s x5.toList) 27) :: (some b3, blk (u8s a2.toList) 24) :: (some b2, blk (u8s a1.toList) 60) :: ((((some b24), blk ((((u8s a2.toList) : List Value)) ++ []) 24) :: B12) ++ N))) (fun w m => m) ?_
  have o29 : OwnS (some b28) ([([a2] : List (Vector (BitVec 8) 32))] : List (List (Vector (BitVec 8) 32))).length 1 1 (([.slice (((some b24)).map fun k => ⟨k, 0, none⟩) ([a2] : List (Vector (BitVec 8) 32)).length 1] : List Value)) [] := ⟨by simp [HsRd], by simp [HsRd], (fun h => nomatch h), by simp⟩
  refine OW.slot (sl (some b28) 0 ([([a2] : List (Vector (BitVec 8) 32))] : List (List (Vector (BitVec 8) 32))).length 1) (rfl) ?_
  refine OW.mem (M' := ((some b28), blk ((([.slice (((some b24)).map fun k => ⟨k, 0, none⟩) ([a2] : List (Vector (BitVec 8) 32)).length 1] : List Value)) ++ []) 45) :: (some b9, blk (u8s w14.toList) 27) :: (some b8, blk (u8s x5.toList) 27) :: (some b3, blk (u8s a2.toList) 24) :: (some b2, blk (u8s a1.toList) 60) :: ((((some b20), blk ((((u8s a1.toList) : List Value)) ++ []) 60) :: (((some b24), blk ((((u8s a2.toList) : List Value)) ++ []) 24) :: B12)) ++ N)) (fun w m => m.pick [0, 2, 3, 4, 5, 1] 6 rfl rfl) ?_
  have gq3 : ∀ w, More w0 Φ (((some b20), blk ((((u8s a1.toList) : List Value)) ++ []) 60) :: (((some b24), blk ((((u8s a2.toList) : List Value)) ++ []) 24) :: B12)) w → More w0 Φ (((some b24), blk ((((u8s a2.toList) : List Value)) ++ []) 24) :: B12) w := fun w q => More.mono (fun w m => (m).tail) q
  replace va0 := va0.mono gq3
  replace ha0 := ha0.mono (LogRd.mono gq3)
  replace h23 := h23.mono (Ar8Rd.mono gq3)
  replace v30 := v30.mono gq3
  replace h27 := h27.mono (Ar8Rd.mono gq3)
  replace h32 := h32.mono (HsRd.mono gq3)
  replace hg2 := hg2.mono gq3
  have v33 : View (More w0 Φ (((some b20), blk ((((u8s a1.toList) : List Value)) ++ []) 60) :: (((some b24), blk ((((u8s a2.toList) : List Value)) ++ []) 24) :: B12))) (((some b20)).map fun k => ⟨k, 0, none⟩) ([a1] : List (Vector (BitVec 8) 20)).length 1 20 (((u8s a1.toList) : List Value)) := o21.view (by decide) (fun w q => q.2.sublist (List.singleton_sublist.2 (List.mem_cons_self ..)))
  refine OW.mem (M' := (some b9, blk (u8s w14.toList) 27) :: (some b8, blk (u8s x5.toList) 27) :: (some b3, blk (u8s a2.toList) 24) :: (some b2, blk (u8s a1.toList) 60) :: ((((some b28), blk ((([.slice (((some b24)).map fun k => ⟨k, 0, none⟩) ([a2] : List (Vector (BitVec 8) 32)).length 1] : List Value)) ++ []) 45) :: (((some b20), blk ((((u8s a1.toList) : List Value)) ++ []) 60) :: (((some b24), blk ((((u8s a2.toList) : List Value)) ++ []) 24) :: B12))) ++ N)) (fun w m => m.pick [1, 2, 3, 4, 0] 5 rfl rfl) ?_
  have gq4 : ∀ w, More w0 Φ (((some b28), blk ((([.slice (((some b24)).map fun k => ⟨k, 0, none⟩) ([a2] : List (Vector (BitVec 8) 32)).length 1] : List Value)) ++ []) 45) :: (((some b20), blk ((((u8s a1.toList) : List Value)) ++ []) 60) :: (((some b24), blk ((((u8s a2.toList) : List Value)) ++ []) 24) :: B12))) w → More w0 Φ (((some b20), blk ((((u8s a1.toList) : List Value)) ++ []) 60) :: (((some b24), blk ((((u8s a2.toList) : List Value)) ++ []) 24) :: B12)) w := fun w q => More.mono (fun w m => (m).tail) q
  replace va0 := va0.mono gq4
  replace ha0 := ha0.mono (LogRd.mono gq4)
  replace v33 := v33.mono gq4
  replace h23 := h23.mono (Ar8Rd.mono gq4)
  replace v30 := v30.mono gq4
  replace h27 := h27.mono (Ar8Rd.mono gq4)
  replace h32 := h32.mono (HsRd.mono gq4)
  replace hg2 := hg2.mono gq4
  have v34 : View (More w0 Φ (((some b28), blk ((([.slice (((some b24)).map fun k => ⟨k, 0, none⟩) ([a2] : List (Vector (BitVec 8) 32)).length 1] : List Value)) ++ []) 45) :: (((some b20), blk ((((u8s a1.toList) : List Value)) ++ []) 60) :: (((some b24), blk ((((u8s a2.toList) : List Value)) ++ []) 24) :: B12)))) (((some b28)).map fun k => ⟨k, 0, none⟩) ([([a2] : List (Vector (BitVec 8) 32))] : List (List (Vector (BitVec 8) 32))).length 1 1 (([.slice (((some b24)).map fun k => ⟨k, 0, none⟩) ([a2] : List (Vector (BitVec 8) 32)).length 1] : List Value)) := o29.view (by decide) (fun w q => q.2.sublist (List.singleton_sublist.2 (List.mem_cons_self ..)))
  obtain ⟨x36, hx35, hf⟩ := some_bind hf
  refine OW.callG Tryd.call21 rfl (receipt_Find_does w0 (More w0 Φ (((some b28), blk ((([.slice (((some b24)).map fun k => ⟨k, 0, none⟩) ([a2] : List (Vector (BitVec 8) 32)).length 1] : List Value)) ++ []) 45) :: (((some b20), blk ((((u8s a1.toList) : List Value)) ++ []) 60) :: (((some b24), blk ((((u8s a2.toList) : List Value)) ++ []) 24) :: B12)))) ((some b9, blk (u8s w14.toList) 27) :: (some b8, blk (u8s x5.toList) 27) :: (some b3, blk (u8s a2.toList) 24) :: (some b2, blk (u8s a1.toList) 60) :: ((((some b28), blk ((([.slice (((some b24)).map fun k => ⟨k, 0, none⟩) ([a2] : List (Vector (BitVec 8) 32)).length 1] : List Value)) ++ []) 45) :: (((some b20), blk ((((u8s a1.toList) : List Value)) ++ []) 60) :: (((some b24), blk ((((u8s a2.toList) : List Value)) ++ []) 24) :: B12))) ++ N)) (fun w m => More.of hΦ 4 m rfl) A0_ c0_ cs0_ a0 (((some b20)).map fun k => ⟨k, 0, none⟩) 1 (((u8s a1.toList) : List Value)) ([a1] : List (Vector (BitVec 8) 20)) (((some b28)).map fun k => ⟨k, 0, none⟩) 1 (([.slice (((some b24)).map fun k => ⟨k, 0, none⟩) ([a2] : List (Vector (BitVec 8) 32)).length 1] : List Value)) ([([a2] : List (Vector (BitVec 8) 32))] : List (List (Vector (BitVec 8) 32))) x36 va0 ha0 v33 h23 v34 h32 hx35) rfl rfl ?_
  rintro L42 M43 ⟨B37, ob38, c39, r40, o41, e44, e45⟩
  rw [e44, e45]
  clear e44 e45 L42 M43
  refine OW.mem (M' := ((ob38, blk ((i64s x36) ++ r40) 3) :: (some b9, blk (u8s w14.toList) 27) :: (some b8, blk (u8s x5.toList) 27) :: (some b3, blk (u8s a2.toList) 24) :: (some b2, blk (u8s a1.toList) 60) :: ((B37 ++ (((some b28), blk ((([.slice (((some b24)).map fun k => ⟨k, 0, none⟩) ([a2] : List (Vector (BitVec 8) 32)).length 1] : List Value)) ++ []) 45) :: (((some b20), blk ((((u8s a1.toList) : List Value)) ++ []) 60) :: (((some b24), blk ((((u8s a2.toList) : List Value)) ++ []) 24) :: B12)))) ++ N))) (fun w m => by have h := Mem.sinkAt (A := B37) m 1 4 rfl rfl; exact h) ?_
  have gq5 : ∀ w, More w0 Φ (B37 ++ (((some b28), blk ((([.slice (((some b24)).map fun k => ⟨k, 0, none⟩) ([a2] : List (Vector (BitVec 8) 32)).length 1] : List Value)) ++ []) 45) :: (((some b20), blk ((((u8s a1.toList) : List Value)) ++ []) 60) :: (((some b24), blk ((((u8s a2.toList) : List Value)) ++ []) 24) :: B12)))) w → More w0 Φ (((some b28), blk ((([.slice (((some b24)).map fun k => ⟨k, 0, none⟩) ([a2] : List (Vector (BitVec 8) 32)).length 1] : List Value)) ++ []) 45) :: (((some b20), blk ((((u8s a1.toList) : List Value)) ++ []) 60) :: (((some b24), blk ((((u8s a2.toList) : List Value)) ++ []) 24) :: B12))) w := fun w q => More.mono (fun w m => (m).appR) q
  replace va0 := va0.mono gq5
  replace ha0 := ha0.mono (LogRd.mono gq5)
  replace v33 := v33.mono gq5
  replace h23 := h23.mono (Ar8Rd.mono gq5)
  replace v30 := v30.mono gq5
  replace h27 := h27.mono (Ar8Rd.mono gq5)
  replace v34 := v34.mono gq5
  replace h32 := h32.mono (HsRd.mono gq5)
  replace hg2 := hg2.mono gq5
  have m46 := o41.mx
  refine OW.rv (RV.assign rfl) rfl ?_
  refine OW.nil (QW.then_n (CW.seq (CW.seq ?_)))
  obtain ⟨q47, hq48, hf⟩ := some_bind hf
  refine CW.cutJ (fun L' M' => ∃ p51 : Bool, ∃ B49 : List Ent, q47 = p51 ∧ (∀ w, Mem w0 w B49 → Mem w0 w (B37 ++ (((some b28), blk ((([.slice (((some b24)).map fun k => ⟨k, 0, none⟩) ([a2] : List (Vector (BitVec 8) 32)).length 1] : List Value)) ++ []) 45) :: (((some b20), blk ((((u8s a1.toList) : List Value)) ++ []) 60) :: (((some b24), blk ((((u8s a2.toList) : List Value)) ++ []) 24) :: B12))))) ∧ L' = [(7, ptr (some b8) 0), (8, ptr (some b9) 0), (80, .bool (p51))] ∧ M' = ((some b9, blk (u8s w14.toList) 27) :: (some b8, blk (u8s x5.toList) 27) :: (B49 ++ N))) ?_ ?_
  ·rintro L53 M54 ⟨p51, B49, e52, hB50, e55, e56⟩
   rw [e55, e56]
   clear e55 e56 L53 M54
   clear hq48
   rw [e52] at hf
   clear e52
   try dsimp only at hf
   have gq6 : ∀ w, More w0 Φ B49 w → More w0 Φ (B37 ++ (((some b28), blk ((([.slice (((some b24)).map fun k => ⟨k, 0, none⟩) ([a2] : List (Vector (BitVec 8) 32)).length 1] : List Value)) ++ []) 45) :: (((some b20), blk ((((u8s a1.toList) : List Value)) ++ []) 60) :: (((some b24), blk ((((u8s a2.toList) : List Value)) ++ []) 24) :: B12)))) w := fun w q => More.mono (fun w m => hB50 w (m)) q
   replace hg2 := hg2.mono gq6
   refine QW.then_n ?_
   by_cases h57 : p51 = true
   ·replace hf := if_t hf h57
    refine CW.is_t rfl (h57) ?_
    refine CW.seq (CW.region ?_)
    refine OW.rv (RV.assign rfl) rfl ?_
    refine OW.nil (QW.then_n (CW.ret (QW.then_r ?_)))
    have e0 := Option.some.inj hf
    subst e0
    refine QW.retG (rs := [.tmp 6]) ([.bool false]) ((some b9, blk (u8s w14.toList) 27) :: (some b8, blk (u8s x5.toList) 27) :: B49) rfl ?_ rfl ?_ ?_ _ (.inl rfl)
    ·exact ⟨rfl, trivial⟩
    ·exact rfl
    ·exact (fun w m => m)
   ·replace hf := if_f hf h57
    refine CW.is_f rfl (Bool.eq_false_iff.2 h57) ?_
    refine CW.skip (QW.then_n (CW.seq ?_))
    obtain ⟨q58, hq59, hf⟩ := some_bind hf
    refine CW.cutJ (fun L' M' => ∃ p62 : Bool, ∃ B60 : List Ent, q58 = p62 ∧ (∀ w, Mem w0 w B60 → Mem w0 w B49) ∧ L' = [(6, .bool (p62))] ∧ M' = ((B60 ++ N))) ?_ ?_
    ·rintro L64 M65 ⟨p62, B60, e63, hB61, e66, e67⟩
     rw [e66, e67]
     clear e66 e67 L64 M65
     clear hq59
     rw [e63] at hf
     clear e63
     try dsimp only at hf
     have gq7 : ∀ w, More w0 Φ B60 w → More w0 Φ B49 w := fun w q => More.mono (fun w m => hB61 w (m)) q
     replace hg2 := hg2.mono gq7
     refine QW.then_n (CW.ret ?_)
     have e0 := Option.some.inj hf
     subst e0
     refine QW.retG (rs := [.tmp 6]) ([.bool (p62)]) (B60) rfl ?_ rfl ?_ ?_ _ (.inl rfl)
     ·exact ⟨rfl, trivial⟩
     ·exact rfl
     ·exact (fun w m => m)
    ·skip
     refine CW.region ?_
     refine OW.rv (RV.loadW rfl (List.Mem.tail _ (List.Mem.head _)) rfl rfl rfl rfl ((u8s_length _).trans Vector.length_toList)) rfl ?_
     refine OW.rv (RV.loadW rfl (List.Mem.head _) rfl rfl rfl rfl ((u8s_length _).trans Vector.length_toList)) rfl ?_
     refine OW.rv (RV.eqA8 rfl rfl rfl rfl rfl rfl (Vector.length_toList) (Vector.length_toList)) rfl ?_
     refine OW.slot (.bool (decide (x5 = w14))) (congrArg Value.bool (decide_eq_decide.2 Vector.toList_inj)) ?_
     refine OW.rv (RV.move rfl) rfl ?_
     by_cases h68 : x5 = w14
     ·replace hq59 := if_t hq59 h68
      refine OW.slot (.bool true) (congrArg Value.bool (decide_eq_true h68)) ?_
      refine OW.want rfl ?_
      obtain ⟨x70, hx69, hq59⟩ := some_bind hq59
      refine OW.callG Tryd.call28 rfl (receipt_BloomOf_does w0 (More w0 Φ B49) ((some b9, blk (u8s w14.toList) 27) :: (some b8, blk (u8s x5.toList) 27) :: (B49 ++ N)) (fun w m => More.of hΦ 2 m rfl) none 0 [] [] x70 View.nil .nil hg2 hx69) rfl rfl ?_
      rintro _ G71 rfl
      refine OW.mem (M' := ((some b9, blk (u8s w14.toList) 27) :: (some b8, blk (u8s x5.toList) 27) :: (B49 ++ N))) (fun w m => m.appR) ?_
      refine OW.want rfl ?_
      refine OW.rv (RV.build0 (l := (u8s (Vector.replicate 256 0#8).toList)) rfl rfl rfl (by rw [Vector.toList_replicate, ← u8s_rep']; rfl)) rfl ?_
      refine OW.want rfl ?_
      refine OW.rv (RV.eqA8 rfl rfl rfl rfl rfl rfl (Vector.length_toList) (Vector.length_toList)) rfl ?_
      refine OW.slot (.bool (decide (x70 = (Vector.replicate 256 0#8)))) (congrArg Value.bool (decide_eq_decide.2 Vector.toList_inj)) ?_
      refine OW.rv (RV.pick_t rfl rfl rfl) rfl ?_
      refine OW.rv (RV.move rfl) rfl ?_
      by_cases h73 : x70 = (Vector.replicate 256 0#8)
      ·replace hq59 := if_t hq59 h73
       refine OW.slot (.bool true) (congrArg Value.bool (decide_eq_true h73)) ?_
       refine OW.want rfl ?_
       refine OW.rv (RV.buildSt (l := (⟨(Vector.replicate 20 0#8), .slice none 0 0, .slice none 0 0⟩ : LogC).C) (cs := (⟨(Vector.replicate 20 0#8), .slice none 0 0, .slice none 0 0⟩ : LogC).C) [] rfl rfl rfl (by kernel_rfl) rfl rfl rfl) rfl ?_
       refine OW.want rfl ?_
       refine OW.ofN (NV.bsA rfl rfl (by intro x hx; simp at hx; subst hx; exact (LogC.C_length _)) rfl rfl rfl (by decide) (by decide) rfl) rfl (fun b74 => ?_)
       have v78 : View (More w0 Φ B49) none ([] : List (Vector (BitVec 8) 32)).length 0 32 [] := View.nil
       have v79 : View (More w0 Φ B49) none ([] : List (BitVec 8)).length 0 1 (u8s []) := View.nil
       have v80 : View (More w0 Φ B49) none ([] : List (Vector (BitVec 8) 32)).length 0 32 [] := View.nil
       have v81 : View (More w0 Φ B49) none ([] : List (BitVec 8)).length 0 1 (u8s []) := View.nil
       have h77 : Reps (LogRd (More w0 Φ B49)) (((⟨(Vector.replicate 20 0#8), .slice none 0 0, .slice none 0 0⟩ : LogC).C : List Value)) [(Log.mk (Vector.replicate 20 0#8) ([] : List (Vector (BitVec 8) 32)) ([] : List (BitVec 8)))] := Reps.one (LogRd.mk v80 (Reps.nil) v81)
       refine OW.mem (M' := (((some b74), blk ((((⟨(Vector.replicate 20 0#8), .slice none 0 0, .slice none 0 0⟩ : LogC).C : List Value)) ++ []) 63) :: (some b9, blk (u8s w14.toList) 27) :: (some b8, blk (u8s x5.toList) 27) :: (B49 ++ N))) (fun w m => m) ?_
       have o75 : OwnS (some b74) ([(Log.mk (Vector.replicate 20 0#8) ([] : List (Vector (BitVec 8) 32)) ([] : List (BitVec 8)))] : List (Log)).length 1 22 (((⟨(Vector.replicate 20 0#8), .slice none 0 0, .slice none 0 0⟩ : LogC).C : List Value)) [] := ⟨by simp [LogC.C_length], by simp [LogC.C_length], (fun h => nomatch h), by simp⟩
       refine OW.slot (sl (some b74) 0 ([(Log.mk (Vector.replicate 20 0#8) ([] : List (Vector (BitVec 8) 32)) ([] : List (BitVec 8)))] : List (Log)).length 1) (rfl) ?_
       refine OW.want rfl ?_
       refine OW.mem (M' := (some b9, blk (u8s w14.toList) 27) :: (some b8, blk (u8s x5.toList) 27) :: ((((some b74), blk ((((⟨(Vector.replicate 20 0#8), .slice none 0 0, .slice none 0 0⟩ : LogC).C : List Value)) ++ []) 63) :: B49) ++ N)) (fun w m => m.pick [1, 2, 0] 3 rfl rfl) ?_
       have gq8 : ∀ w, More w0 Φ (((some b74), blk ((((⟨(Vector.replicate 20 0#8), .slice none 0 0, .slice none 0 0⟩ : LogC).C : List Value)) ++ []) 63) :: B49) w → More w0 Φ B49 w := fun w q => More.mono (fun w m => (m).tail) q
       replace h77 := h77.mono (LogRd.mono gq8)
       replace hg2 := hg2.mono gq8
       have v82 : View (More w0 Φ (((some b74), blk ((((⟨(Vector.replicate 20 0#8), .slice none 0 0, .slice none 0 0⟩ : LogC).C : List Value)) ++ []) 63) :: B49)) (((some b74)).map fun k => ⟨k, 0, none⟩) ([(Log.mk (Vector.replicate 20 0#8) ([] : List (Vector (BitVec 8) 32)) ([] : List (BitVec 8)))] : List (Log)).length 1 22 (((⟨(Vector.replicate 20 0#8), .slice none 0 0, .slice none 0 0⟩ : LogC).C : List Value)) := o75.view (by decide) (fun w q => q.2.sublist (List.singleton_sublist.2 (List.mem_cons_self ..)))
       obtain ⟨x84, hx83, hq59⟩ := some_bind hq59
       refine OW.callG Tryd.call28 rfl (receipt_BloomOf_does w0 (More w0 Φ (((some b74), blk ((((⟨(Vector.replicate 20 0#8), .slice none 0 0, .slice none 0 0⟩ : LogC).C : List Value)) ++ []) 63) :: B49)) ((some b9, blk (u8s w14.toList) 27) :: (some b8, blk (u8s x5.toList) 27) :: ((((some b74), blk ((((⟨(Vector.replicate 20 0#8), .slice none 0 0, .slice none 0 0⟩ : LogC).C : List Value)) ++ []) 63) :: B49) ++ N)) (fun w m => More.of hΦ 2 m rfl) (((some b74)).map fun k => ⟨k, 0, none⟩) 1 (((⟨(Vector.replicate 20 0#8), .slice none 0 0, .slice none 0 0⟩ : LogC).C : List Value)) ([(Log.mk (Vector.replicate 20 0#8) ([] : List (Vector (BitVec 8) 32)) ([] : List (BitVec 8)))] : List (Log)) x84 v82 h77 hg2 hx83) rfl rfl ?_
       rintro _ G85 rfl
       refine OW.mem (M' := ((some b9, blk (u8s w14.toList) 27) :: (some b8, blk (u8s x5.toList) 27) :: ((((some b74), blk ((((⟨(Vector.replicate 20 0#8), .slice none 0 0, .slice none 0 0⟩ : LogC).C : List Value)) ++ []) 63) :: B49) ++ N))) (fun w m => m.appR) ?_
       refine OW.want rfl ?_
       refine OW.rv (RV.build0 (l := (u8s (Vector.replicate 256 0#8).toList)) rfl rfl rfl (by rw [Vector.toList_replicate, ← u8s_rep']; rfl)) rfl ?_
       refine OW.want rfl ?_
       refine OW.rv (RV.neA8 rfl rfl rfl rfl rfl rfl (Vector.length_toList) (Vector.length_toList)) rfl ?_
       refine OW.slot (.bool (!decide (x84 = (Vector.replicate 256 0#8)))) (congrArg (fun b => Value.bool (!b)) (decide_eq_decide.2 Vector.toList_inj)) ?_
       refine OW.rv (RV.pick_t rfl rfl rfl) rfl ?_
       refine OW.rv (RV.assign rfl) rfl ?_
       refine OW.nil ?_
       exact QW.join ⟨(!decide (x84 = (Vector.replicate 256 0#8))), (((some b74), blk ((((⟨(Vector.replicate 20 0#8), .slice none 0 0, .slice none 0 0⟩ : LogC).C : List Value)) ++ []) 63) :: B49), (Option.some.inj hq59).symm, (fun w m => (m).tail), rfl, rfl⟩ ⟨rfl, trivial⟩ (fun w m => m.pick [] 2 rfl rfl)
      ·replace hq59 := if_f hq59 h73
       refine OW.slot (.bool false) (congrArg Value.bool (decide_eq_false h73)) ?_
       refine OW.skip rfl rfl rfl ?_
       refine OW.skip rfl rfl rfl ?_
       refine OW.skip rfl rfl rfl ?_
       refine OW.skip rfl rfl rfl ?_
       refine OW.skip rfl rfl rfl ?_
       refine OW.rv (RV.pick_f rfl rfl rfl) rfl ?_
       refine OW.rv (RV.assign rfl) rfl ?_
       refine OW.nil ?_
       exact QW.join ⟨false, B49, (Option.some.inj hq59).symm, (fun w m => m), rfl, rfl⟩ ⟨rfl, trivial⟩ (fun w m => m.pick [] 2 rfl rfl)
     ·replace hq59 := if_f hq59 h68
      refine OW.slot (.bool false) (congrArg Value.bool (decide_eq_false h68)) ?_
      refine OW.skip rfl rfl rfl ?_
      refine OW.skip rfl rfl rfl ?_
      refine OW.skip rfl rfl rfl ?_
      refine OW.rv (RV.pick_f rfl rfl rfl) rfl ?_
      refine OW.rv (RV.move rfl) rfl ?_
      refine OW.skip rfl rfl rfl ?_
      refine OW.skip rfl rfl rfl ?_
      refine OW.skip rfl rfl rfl ?_
      refine OW.skip rfl rfl rfl ?_
      refine OW.skip rfl rfl rfl ?_
      refine OW.rv (RV.pick_f rfl rfl rfl) rfl ?_
      refine OW.rv (RV.assign rfl) rfl ?_
      refine OW.nil ?_
      exact QW.join ⟨false, B49, (Option.some.inj hq59).symm, (fun w m => m), rfl, rfl⟩ ⟨rfl, trivial⟩ (fun w m => m.pick [] 2 rfl rfl)
  ·skip
   refine CW.drawsU 15 mixed (by kernel_rfl) rfl ?_
   refine UW.rv 0 rfl (by kernel_rfl) rfl (RV.move rfl) rfl ?_
   refine UW.rv 1 rfl (by kernel_rfl) rfl (RV.len rfl rfl) rfl ?_
   refine UW.rv 2 rfl (by kernel_rfl) rfl (RV.gtr rfl rfl) rfl ?_
   refine UW.slot (.bool (decide (0 < x36.length))) (congrArg Value.bool (decide_eq_decide.2 (by omega))) ?_
   refine UW.rv 3 rfl (by kernel_rfl) rfl (RV.move rfl) rfl ?_
   by_cases h87 : 0 < x36.length
   ·replace hq48 := if_t hq48 h87
    refine UW.slot (.bool true) (congrArg Value.bool (decide_eq_true h87)) ?_
    refine UW.rv 4 rfl (by kernel_rfl) rfl (RV.loadW rfl (List.Mem.tail _ (List.Mem.tail _ (List.Mem.head _))) rfl rfl rfl rfl ((u8s_length _).trans Vector.length_toList)) rfl ?_
    refine UW.mem (M' := (ob38, blk ((i64s x36) ++ r40) 3) :: (some b9, blk (u8s w14.toList) 27) :: (some b8, blk (u8s x5.toList) 27) :: (some b3, blk (u8s a2.toList) 24) :: (((some b2, blk (u8s a1.toList) 60) :: (B37 ++ (((some b28), blk ((([.slice (((some b24)).map fun k => ⟨k, 0, none⟩) ([a2] : List (Vector (BitVec 8) 32)).length 1] : List Value)) ++ []) 45) :: (((some b20), blk ((((u8s a1.toList) : List Value)) ++ []) 60) :: (((some b24), blk ((((u8s a2.toList) : List Value)) ++ []) 24) :: B12))))) ++ N)) (fun w m => m.pick [0, 1, 2, 3, 4] 5 rfl rfl) ?_
    have gq9 : ∀ w, More w0 Φ ((some b2, blk (u8s a1.toList) 60) :: (B37 ++ (((some b28), blk ((([.slice (((some b24)).map fun k => ⟨k, 0, none⟩) ([a2] : List (Vector (BitVec 8) 32)).length 1] : List Value)) ++ []) 45) :: (((some b20), blk ((((u8s a1.toList) : List Value)) ++ []) 60) :: (((some b24), blk ((((u8s a2.toList) : List Value)) ++ []) 24) :: B12))))) w → More w0 Φ (B37 ++ (((some b28), blk ((([.slice (((some b24)).map fun k => ⟨k, 0, none⟩) ([a2] : List (Vector (BitVec 8) 32)).length 1] : List Value)) ++ []) 45) :: (((some b20), blk ((((u8s a1.toList) : List Value)) ++ []) 60) :: (((some b24), blk ((((u8s a2.toList) : List Value)) ++ []) 24) :: B12)))) w := fun w q => More.mono (fun w m => (m).tail) q
    replace va0 := va0.mono gq9
    replace ha0 := ha0.mono (LogRd.mono gq9)
    replace v33 := v33.mono gq9
    replace h23 := h23.mono (Ar8Rd.mono gq9)
    replace v30 := v30.mono gq9
    replace h27 := h27.mono (Ar8Rd.mono gq9)
    replace v34 := v34.mono gq9
    replace h32 := h32.mono (HsRd.mono gq9)
    replace hg2 := hg2.mono gq9
    have v88 : View (More w0 Φ ((some b2, blk (u8s a1.toList) 60) :: (B37 ++ (((some b28), blk ((([.slice (((some b24)).map fun k => ⟨k, 0, none⟩) ([a2] : List (Vector (BitVec 8) 32)).length 1] : List Value)) ++ []) 45) :: (((some b20), blk ((((u8s a1.toList) : List Value)) ++ []) 60) :: (((some b24), blk ((((u8s a2.toList) : List Value)) ++ []) 24) :: B12)))))) (some ⟨b2, 0, none⟩) a1.toList.length 20 1 (u8s a1.toList) := View.arr (w0 := w0) (te := 60) (fun w q => q.2.sublist (List.singleton_sublist.2 (List.mem_cons_self ..))) (by decide)
    refine UW.rv 5 rfl (by kernel_rfl) rfl (RV.arr_all rfl rfl rfl) rfl ?_
    refine UW.slot (.slice (some ⟨b2, 0, none⟩) a1.toList.length 20) (by rw [Vector.length_toList]; try rfl) ?_
    have v89 := v88
    have m90 := v89.mx
    obtain ⟨x92, hx91, hq48⟩ := some_bind hq48
    refine UW.callG 6 rfl (by kernel_rfl) rfl Tryd.call32 rfl (fun N' hN' => bloom_Has_does w0 (More w0 Φ ((some b2, blk (u8s a1.toList) 60) :: (B37 ++ (((some b28), blk ((([.slice (((some b24)).map fun k => ⟨k, 0, none⟩) ([a2] : List (Vector (BitVec 8) 32)).length 1] : List Value)) ++ []) 45) :: (((some b20), blk ((((u8s a1.toList) : List Value)) ++ []) 60) :: (((some b24), blk ((((u8s a2.toList) : List Value)) ++ []) 24) :: B12)))))) N' (fun w m => More.of hΦ 4 (hN' w m) rfl) x5 (some ⟨b2, 0, none⟩) 20 a1.toList x92 v89 hg2 hx91) rfl ?_
    rintro _ G93 rfl
    refine UW.mem (M' := ((ob38, blk ((i64s x36) ++ r40) 3) :: (some b9, blk (u8s w14.toList) 27) :: (some b8, blk (u8s x5.toList) 27) :: (some b3, blk (u8s a2.toList) 24) :: (((some b2, blk (u8s a1.toList) 60) :: (B37 ++ (((some b28), blk ((([.slice (((some b24)).map fun k => ⟨k, 0, none⟩) ([a2] : List (Vector (BitVec 8) 32)).length 1] : List Value)) ++ []) 45) :: (((some b20), blk ((((u8s a1.toList) : List Value)) ++ []) 60) :: (((some b24), blk ((((u8s a2.toList) : List Value)) ++ []) 24) :: B12))))) ++ N))) (fun w m => m.appR) ?_
    refine UW.rv 7 rfl (by kernel_rfl) rfl (RV.not rfl) rfl ?_
    refine UW.rv 8 rfl (by kernel_rfl) rfl (RV.move rfl) rfl ?_
    by_cases h95 : x92 = true
    ·replace hq48 := if_t hq48 h95
     refine UW.slot (.bool false) (congrArg Value.bool (congrArg (fun b => !b) (h95))) ?_
     refine UW.rv 9 rfl (by kernel_rfl) rfl (RV.loadW rfl (List.Mem.tail _ (List.Mem.tail _ (List.Mem.head _))) rfl rfl rfl rfl ((u8s_length _).trans Vector.length_toList)) rfl ?_
     refine UW.mem (M' := (ob38, blk ((i64s x36) ++ r40) 3) :: (some b9, blk (u8s w14.toList) 27) :: (some b8, blk (u8s x5.toList) 27) :: (((some b3, blk (u8s a2.toList) 24) :: ((some b2, blk (u8s a1.toList) 60) :: (B37 ++ (((some b28), blk ((([.slice (((some b24)).map fun k => ⟨k, 0, none⟩) ([a2] : List (Vector (BitVec 8) 32)).length 1] : List Value)) ++ []) 45) :: (((some b20), blk ((((u8s a1.toList) : List Value)) ++ []) 60) :: (((some b24), blk ((((u8s a2.toList) : List Value)) ++ []) 24) :: B12)))))) ++ N)) (fun w m => m.pick [0, 1, 2, 3] 4 rfl rfl) ?_
     have gq10 : ∀ w, More w0 Φ ((some b3, blk (u8s a2.toList) 24) :: ((some b2, blk (u8s a1.toList) 60) :: (B37 ++ (((some b28), blk ((([.slice (((some b24)).map fun k => ⟨k, 0, none⟩) ([a2] : List (Vector (BitVec 8) 32)).length 1] : List Value)) ++ []) 45) :: (((some b20), blk ((((u8s a1.toList) : List Value)) ++ []) 60) :: (((some b24), blk ((((u8s a2.toList) : List Value)) ++ []) 24) :: B12)))))) w → More w0 Φ ((some b2, blk (u8s a1.toList) 60) :: (B37 ++ (((some b28), blk ((([.slice (((some b24)).map fun k => ⟨k, 0, none⟩) ([a2] : List (Vector (BitVec 8) 32)).length 1] : List Value)) ++ []) 45) :: (((some b20), blk ((((u8s a1.toList) : List Value)) ++ []) 60) :: (((some b24), blk ((((u8s a2.toList) : List Value)) ++ []) 24) :: B12))))) w := fun w q => More.mono (fun w m => (m).tail) q
     replace va0 := va0.mono gq10
     replace ha0 := ha0.mono (LogRd.mono gq10)
     replace v33 := v33.mono gq10
     replace h23 := h23.mono (Ar8Rd.mono gq10)
     replace v30 := v30.mono gq10
     replace h27 := h27.mono (Ar8Rd.mono gq10)
     replace v34 := v34.mono gq10
     replace h32 := h32.mono (HsRd.mono gq10)
     replace v89 := v89.mono gq10
     replace hg2 := hg2.mono gq10
     have v96 : View (More w0 Φ ((some b3, blk (u8s a2.toList) 24) :: ((some b2, blk (u8s a1.toList) 60) :: (B37 ++ (((some b28), blk ((([.slice (((some b24)).map fun k => ⟨k, 0, none⟩) ([a2] : List (Vector (BitVec 8) 32)).length 1] : List Value)) ++ []) 45) :: (((some b20), blk ((((u8s a1.toList) : List Value)) ++ []) 60) :: (((some b24), blk ((((u8s a2.toList) : List Value)) ++ []) 24) :: B12))))))) (some ⟨b3, 0, none⟩) a2.toList.length 32 1 (u8s a2.toList) := View.arr (w0 := w0) (te := 24) (fun w q => q.2.sublist (List.singleton_sublist.2 (List.mem_cons_self ..))) (by decide)
     refine UW.rv 10 rfl (by kernel_rfl) rfl (RV.arr_all rfl rfl rfl) rfl ?_
     refine UW.slot (.slice (some ⟨b3, 0, none⟩) a2.toList.length 32) (by rw [Vector.length_toList]; try rfl) ?_
     have v97 := v96
     have m98 := v97.mx
     obtain ⟨x100, hx99, hq48⟩ := some_bind hq48
     refine UW.callG 11 rfl (by kernel_rfl) rfl Tryd.call32 rfl (fun N' hN' => bloom_Has_does w0 (More w0 Φ ((some b3, blk (u8s a2.toList) 24) :: ((some b2, blk (u8s a1.toList) 60) :: (B37 ++ (((some b28), blk ((([.slice (((some b24)).map fun k => ⟨k, 0, none⟩) ([a2] : List (Vector (BitVec 8) 32)).length 1] : List Value)) ++ []) 45) :: (((some b20), blk ((((u8s a1.toList) : List Value)) ++ []) 60) :: (((some b24), blk ((((u8s a2.toList) : List Value)) ++ []) 24) :: B12))))))) N' (fun w m => More.of hΦ 3 (hN' w m) rfl) x5 (some ⟨b3, 0, none⟩) 32 a2.toList x100 v97 hg2 hx99) rfl ?_
     rintro _ G101 rfl
     refine UW.mem (M' := ((ob38, blk ((i64s x36) ++ r40) 3) :: (some b9, blk (u8s w14.toList) 27) :: (some b8, blk (u8s x5.toList) 27) :: (((some b3, blk (u8s a2.toList) 24) :: ((some b2, blk (u8s a1.toList) 60) :: (B37 ++ (((some b28), blk ((([.slice (((some b24)).map fun k => ⟨k, 0, none⟩) ([a2] : List (Vector (BitVec 8) 32)).length 1] : List Value)) ++ []) 45) :: (((some b20), blk ((((u8s a1.toList) : List Value)) ++ []) 60) :: (((some b24), blk ((((u8s a2.toList) : List Value)) ++ []) 24) :: B12)))))) ++ N))) (fun w m => m.appR) ?_
     refine UW.rv 12 rfl (by kernel_rfl) rfl (RV.not rfl) rfl ?_
     refine UW.rv 13 rfl (by kernel_rfl) rfl (RV.pick_f rfl rfl rfl) rfl ?_
     refine UW.rv 14 rfl (by kernel_rfl) rfl (RV.pick_t rfl rfl rfl) rfl ?_
     refine UW.nil (by kernel_rfl) ?_
     refine OW.nil ?_
     exact QW.join ⟨(!x100), ((some b3, blk (u8s a2.toList) 24) :: ((some b2, blk (u8s a1.toList) 60) :: (B37 ++ (((some b28), blk ((([.slice (((some b24)).map fun k => ⟨k, 0, none⟩) ([a2] : List (Vector (BitVec 8) 32)).length 1] : List Value)) ++ []) 45) :: (((some b20), blk ((((u8s a1.toList) : List Value)) ++ []) 60) :: (((some b24), blk ((((u8s a2.toList) : List Value)) ++ []) 24) :: B12)))))), (Option.some.inj hq48).symm, (fun w m => ((m).tail).tail), rfl, rfl⟩ ⟨rfl, rfl, rfl, trivial⟩ (fun w m => m.pick [1, 2] 3 rfl rfl)
    ·replace hq48 := if_f hq48 h95
     refine UW.slot (.bool true) (congrArg Value.bool (congrArg (fun b => !b) (Bool.eq_false_iff.2 h95))) ?_
     refine UW.skip 9 rfl (by kernel_rfl) rfl rfl ?_
     refine UW.skip 10 rfl (by kernel_rfl) rfl rfl ?_
     refine UW.skip 11 rfl (by kernel_rfl) rfl rfl ?_
     refine UW.skip 12 rfl (by kernel_rfl) rfl rfl ?_
     refine UW.rv 13 rfl (by kernel_rfl) rfl (RV.pick_t rfl rfl rfl) rfl ?_
     refine UW.rv 14 rfl (by kernel_rfl) rfl (RV.pick_t rfl rfl rfl) rfl ?_
     refine UW.nil (by kernel_rfl) ?_
     refine OW.nil ?_
     exact QW.join ⟨true, ((some b2, blk (u8s a1.toList) 60) :: (B37 ++ (((some b28), blk ((([.slice (((some b24)).map fun k => ⟨k, 0, none⟩) ([a2] : List (Vector (BitVec 8) 32)).length 1] : List Value)) ++ []) 45) :: (((some b20), blk ((((u8s a1.toList) : List Value)) ++ []) 60) :: (((some b24), blk ((((u8s a2.toList) : List Value)) ++ []) 24) :: B12))))), (Option.some.inj hq48).symm, (fun w m => (m).tail), rfl, rfl⟩ ⟨rfl, rfl, rfl, trivial⟩ (fun w m => m.pick [1, 2] 4 rfl rfl)
   ·replace hq48 := if_f hq48 h87
    refine UW.slot (.bool false) (congrArg Value.bool (decide_eq_false h87)) ?_
    refine UW.skip 4 rfl (by kernel_rfl) rfl rfl ?_
    refine UW.skip 5 rfl (by kernel_rfl) rfl rfl ?_
    refine UW.skip 6 rfl (by kernel_rfl) rfl rfl ?_
    refine UW.skip 7 rfl (by kernel_rfl) rfl rfl ?_
    refine UW.skip 8 rfl (by kernel_rfl) rfl rfl ?_
    refine UW.skip 9 rfl (by kernel_rfl) rfl rfl ?_
    refine UW.skip 10 rfl (by kernel_rfl) rfl rfl ?_
    refine UW.skip 11 rfl (by kernel_rfl) rfl rfl ?_
    refine UW.skip 12 rfl (by kernel_rfl) rfl rfl ?_
    refine UW.skip 13 rfl (by kernel_rfl) rfl rfl ?_
    refine UW.rv 14 rfl (by kernel_rfl) rfl (RV.pick_f rfl rfl rfl) rfl ?_
    refine UW.nil (by kernel_rfl) ?_
    refine OW.nil ?_
    exact QW.join ⟨false, (B37 ++ (((some b28), blk ((([.slice (((some b24)).map fun k => ⟨k, 0, none⟩) ([a2] : List (Vector (BitVec 8) 32)).length 1] : List Value)) ++ []) 45) :: (((some b20), blk ((((u8s a1.toList) : List Value)) ++ []) 60) :: (((some b24), blk ((((u8s a2.toList) : List Value)) ++ []) 24) :: B12)))), (Option.some.inj hq48).symm, (fun w m => m), rfl, rfl⟩ ⟨rfl, rfl, rfl, trivial⟩ (fun w m => m.pick [1, 2] 5 rfl rfl)
 ·skip
  refine CW.block ?_
  refine CW.loopJ (fun k L' M' => ∃ z105 : Int, ∃ w107 : Vector (BitVec 8) 256, ∃ B103 : List Ent, (waybilllaw17_ReceiptBlooms.l1 a0 x5 k z105 w107) = some q10 ∧ (∀ w, Mem w0 w B103 → Mem w0 w []) ∧ (-9223372036854775808 ≤ z105 ∧ z105 ≤ 9223372036854775807) ∧ L' = [(0, .slice A0_ a0.length c0_), (4, ptr (some b2) 0), (5, ptr (some b3) 0), (7, ptr (some b8) 0), (8, ptr (some b9) 0), (9, .int .i64 z105)] ∧ M' = ((some b9, blk (u8s w107.toList) 27) :: (some b8, blk (u8s x5.toList) 27) :: (some b3, blk (u8s a2.toList) 24) :: (some b2, blk (u8s a1.toList) 60) :: (B103 ++ N))) (k0 := (((((a0.length : Nat) : Int) - (1 : Int))) - ((0 : Int)) + 2).toNat) ⟨(((a0.length : Nat) : Int) - (1 : Int)), (Vector.replicate 256 0#8), [], hq11, (fun w m => m), (by omega), rfl, rfl⟩ ⟨rfl, rfl, rfl, rfl, rfl, rfl, trivial⟩ (fun w m => m.pick [0, 1, 2, 3] 4 rfl rfl) ?_
  clear hq11
  rintro k108 L111 M112 ⟨z105, w107, B103, hl109, hB104, b106, e113, e114⟩
  rw [e113, e114]
  clear e113 e114 L111 M112
  rcases k108 with _ | k108
  ·rw [waybilllaw17_ReceiptBlooms.l1] at hl109; cases hl109
  rw [waybilllaw17_ReceiptBlooms.l1] at hl109
  have gq11 : ∀ w, More w0 Φ B103 w → More w0 Φ [] w := fun w q => More.mono (fun w m => hB104 w (m)) q
  replace va0 := va0.mono gq11
  replace ha0 := ha0.mono (LogRd.mono gq11)
  replace hg2 := hg2.mono gq11
  refine CW.seq (CW.seq (CW.region ?_))
  refine OW.rv (RV.move rfl) rfl ?_
  refine OW.rv (RV.geq rfl rfl) rfl ?_
  refine OW.nil (QW.then_n ?_)
  by_cases h115 : (0 : Int) ≤ z105
  ·replace hl109 := if_t hl109 h115
   refine CW.is_t rfl (decide_eq_true h115) ?_
   refine CW.skip (QW.then_n (CW.seq (CW.block (CW.seq (CW.region ?_)))))
   refine OW.rv (RV.move rfl) rfl ?_
   refine OW.rv (RV.move rfl) rfl ?_
   obtain ⟨x116, hx117, hl109⟩ := some_bind hl109
   have hl118 := lt_of_at hx117
   refine OW.rv (RV.idx_rs ((z105).toNat) rfl rfl (by omega) rfl rfl (va0.isSome (by decide) hl118) (by omega)) rfl ?_
   obtain ⟨cs119, h120, h121⟩ := ha0.get LogRd.len hx117
   have h131 := h120
   obtain ⟨A122, c123, cs125, A127, c128, e130, v124, h126, v129⟩ := LogRd.opn h120
   subst e130
   have m132 := v124.mx
   have m133 := v129.mx
   refine OW.rv (RV.loadAs rfl rfl rfl rfl (fun w m => va0.load (More.of hΦ 4 m rfl) h121) (LogC.C_length _)) rfl ?_
   refine OW.alloc (l := (⟨(Vector.replicate 20 0#8), .slice none 0 0, .slice none 0 0⟩ : LogC).C) rfl (by kernel_rfl) rfl (fun b134 => ?_)
   refine OW.sv (SV.storeW rfl rfl rfl (LogC.C_one _ rfl rfl) rfl (LogC.C_length _) (LogC.C_length _)) ?_
   refine OW.nil (QW.then_n (CW.seq (CW.region ?_)))
   refine OW.rv (RV.move rfl) rfl ?_
   refine OW.rv (RV.conv_i8 rfl rfl rfl) rfl ?_
   refine OW.ofN (NV.bs1 rfl rfl rfl rfl rfl rfl) rfl (fun b135 => ?_)
   refine OW.mem (M' := (((some b135), blk ((u8s ([(BitVec.ofInt 8 z105)] : List (BitVec 8))) ++ []) 5) :: (some b134, blk (⟨x116.address, .slice A122 x116.topics.length c123, .slice A127 x116.data.length c128⟩ : LogC).C 63) :: (some b9, blk (u8s w107.toList) 27) :: (some b8, blk (u8s x5.toList) 27) :: (some b3, blk (u8s a2.toList) 24) :: (some b2, blk (u8s a1.toList) 60) :: (B103 ++ N))) (fun w m => by first | exact m | simpa [u8s] using m) ?_
   have o136 : OwnS (some b135) ([(BitVec.ofInt 8 z105)] : List (BitVec 8)).length 1 1 (u8s ([(BitVec.ofInt 8 z105)] : List (BitVec 8))) [] := ⟨by simp [u8s], by simp [u8s], (fun h => nomatch h), by simp⟩
   refine OW.slot (sl (some b135) 0 ([(BitVec.ofInt 8 z105)] : List (BitVec 8)).length 1) (rfl) ?_
   refine OW.rv (RV.field rfl rfl rfl rfl) rfl ?_
   refine OW.slot (ptr (some b134) 21) rfl ?_
   refine OW.rot1 ?_
   refine OW.sv (SV.store rfl rfl rfl rfl rfl (by rw [LogC.C_length]; omega)) ?_
   refine OW.cells (⟨x116.address, .slice A122 x116.topics.length c123, sl (some b135) 0 ([(BitVec.ofInt 8 z105)] : List (BitVec 8)).length 1⟩ : LogC).C (LogC.C_data_set _ _) ?_
   refine OW.nil (QW.then_n (CW.seq ?_))
   refine CW.mem (M' := (some b134, blk (⟨x116.address, .slice A122 x116.topics.length c123, sl (some b135) 0 ([(BitVec.ofInt 8 z105)] : List (BitVec 8)).length 1⟩ : LogC).C 63) :: (some b9, blk (u8s w107.toList) 27) :: (some b8, blk (u8s x5.toList) 27) :: (some b3, blk (u8s a2.toList) 24) :: (some b2, blk (u8s a1.toList) 60) :: ((((some b135), blk ((u8s ([(BitVec.ofInt 8 z105)] : List (BitVec 8))) ++ []) 5) :: B103) ++ N)) (fun w m => m.pick [0, 2, 3, 4, 5, 1] 6 rfl rfl) ?_
   have gq12 : ∀ w, More w0 Φ (((some b135), blk ((u8s ([(BitVec.ofInt 8 z105)] : List (BitVec 8))) ++ []) 5) :: B103) w → More w0 Φ B103 w := fun w q => More.mono (fun w m => (m).tail) q
   replace va0 := va0.mono gq12
   replace ha0 := ha0.mono (LogRd.mono gq12)
   replace h131 := LogRd.mono gq12 _ _ h131
   replace v124 := v124.mono gq12
   replace h126 := h126.mono (Ar8Rd.mono gq12)
   replace v129 := v129.mono gq12
   replace hg2 := hg2.mono gq12
   have v137 : View (More w0 Φ (((some b135), blk ((u8s ([(BitVec.ofInt 8 z105)] : List (BitVec 8))) ++ []) 5) :: B103)) (((some b135)).map fun k => ⟨k, 0, none⟩) ([(BitVec.ofInt 8 z105)] : List (BitVec 8)).length 1 1 (u8s ([(BitVec.ofInt 8 z105)] : List (BitVec 8))) := o136.view (by decide) (fun w q => q.2.sublist (List.singleton_sublist.2 (List.mem_cons_self ..)))
   refine CW.drawsX ((some b134, blk (⟨x116.address, .slice A122 x116.topics.length c123, .slice (((some b135)).map fun k => ⟨k, 0, none⟩) ([(BitVec.ofInt 8 z105)] : List (BitVec 8)).length 1⟩ : LogC).C 63) :: (some b8, blk (u8s x5.toList) 27) :: (some b3, blk (u8s a2.toList) 24) :: (some b2, blk (u8s a1.toList) 60) :: ((((some b135), blk ((u8s ([(BitVec.ofInt 8 z105)] : List (BitVec 8))) ++ []) 5) :: B103) ++ N)) [6] (fun w m => m.pick [0, 2, 3, 4] 5 rfl rfl) mixed (by kernel_rfl) ?_
   refine XW.rv 0 rfl (by kernel_rfl) rfl (by kernel_rfl) (RV.loadW rfl (List.Mem.tail _ (List.Mem.head _)) rfl rfl rfl rfl ((u8s_length _).trans Vector.length_toList)) rfl ?_
   refine XW.rs 1 rfl (by kernel_rfl) rfl (RV.loadW rfl (List.Mem.head _) rfl rfl rfl rfl (LogC.C_length _)) rfl ?_
   refine XW.new 2 rfl (by kernel_rfl) rfl (NV.bsA rfl rfl (by intro x hx; simp at hx; subst hx; exact (LogC.C_length _)) rfl rfl rfl (by decide) (by decide) rfl) rfl (fun b138 => ?_)
   have h141 : Reps (LogRd (More w0 Φ (((some b135), blk ((u8s ([(BitVec.ofInt 8 z105)] : List (BitVec 8))) ++ []) 5) :: B103))) (((⟨x116.address, .slice A122 x116.topics.length c123, .slice (((some b135)).map fun k => ⟨k, 0, none⟩) ([(BitVec.ofInt 8 z105)] : List (BitVec 8)).length 1⟩ : LogC).C : List Value)) [(Log.mk x116.address x116.topics ([(BitVec.ofInt 8 z105)] : List (BitVec 8)))] := Reps.one (LogRd.mk v124 h126 v137)
   refine XW.mem (M' := (((some b138), blk ((((⟨x116.address, .slice A122 x116.topics.length c123, .slice (((some b135)).map fun k => ⟨k, 0, none⟩) ([(BitVec.ofInt 8 z105)] : List (BitVec 8)).length 1⟩ : LogC).C : List Value)) ++ []) 63) :: (some b134, blk (⟨x116.address, .slice A122 x116.topics.length c123, .slice (((some b135)).map fun k => ⟨k, 0, none⟩) ([(BitVec.ofInt 8 z105)] : List (BitVec 8)).length 1⟩ : LogC).C 63) :: (some b9, blk (u8s w107.toList) 27) :: (some b8, blk (u8s x5.toList) 27) :: (some b3, blk (u8s a2.toList) 24) :: (some b2, blk (u8s a1.toList) 60) :: ((((some b135), blk ((u8s ([(BitVec.ofInt 8 z105)] : List (BitVec 8))) ++ []) 5) :: B103) ++ N))) (fun w m => m) (fun w m => m.pick [1, 3, 4, 5] 6 rfl rfl) ?_
   have o139 : OwnS (some b138) ([(Log.mk x116.address x116.topics ([(BitVec.ofInt 8 z105)] : List (BitVec 8)))] : List (Log)).length 1 22 (((⟨x116.address, .slice A122 x116.topics.length c123, .slice (((some b135)).map fun k => ⟨k, 0, none⟩) ([(BitVec.ofInt 8 z105)] : List (BitVec 8)).length 1⟩ : LogC).C : List Value)) [] := ⟨by simp [LogC.C_length], by simp [LogC.C_length], (fun h => nomatch h), by simp⟩
   refine XW.slot (sl (some b138) 0 ([(Log.mk x116.address x116.topics ([(BitVec.ofInt 8 z105)] : List (BitVec 8)))] : List (Log)).length 1) (rfl) ?_
   refine XW.mem (M' := (some b134, blk (⟨x116.address, .slice A122 x116.topics.length c123, .slice (((some b135)).map fun k => ⟨k, 0, none⟩) ([(BitVec.ofInt 8 z105)] : List (BitVec 8)).length 1⟩ : LogC).C 63) :: (some b9, blk (u8s w107.toList) 27) :: (some b8, blk (u8s x5.toList) 27) :: (some b3, blk (u8s a2.toList) 24) :: (some b2, blk (u8s a1.toList) 60) :: ((((some b138), blk ((((⟨x116.address, .slice A122 x116.topics.length c123, .slice (((some b135)).map fun k => ⟨k, 0, none⟩) ([(BitVec.ofInt 8 z105)] : List (BitVec 8)).length 1⟩ : LogC).C : List Value)) ++ []) 63) :: (((some b135), blk ((u8s ([(BitVec.ofInt 8 z105)] : List (BitVec 8))) ++ []) 5) :: B103)) ++ N)) (fun w m => m.pick [1, 2, 3, 4, 5, 0] 6 rfl rfl) (fun w m => by have h := Mem.shrink (B := (((some b135), blk ((u8s ([(BitVec.ofInt 8 z105)] : List (BitVec 8))) ++ []) 5) :: B103)) (B' := (((some b138), blk ((((⟨x116.address, .slice A122 x116.topics.length c123, .slice (((some b135)).map fun k => ⟨k, 0, none⟩) ([(BitVec.ofInt 8 z105)] : List (BitVec 8)).length 1⟩ : LogC).C : List Value)) ++ []) 63) :: (((some b135), blk ((u8s ([(BitVec.ofInt 8 z105)] : List (BitVec 8))) ++ []) 5) :: B103))) (List.sublist_cons_self _ _) (m.pick [0, 2, 3, 4] 5 rfl rfl) 4 rfl; exact h) ?_
   have gq13 : ∀ w, More w0 Φ (((some b138), blk ((((⟨x116.address, .slice A122 x116.topics.length c123, .slice (((some b135)).map fun k => ⟨k, 0, none⟩) ([(BitVec.ofInt 8 z105)] : List (BitVec 8)).length 1⟩ : LogC).C : List Value)) ++ []) 63) :: (((some b135), blk ((u8s ([(BitVec.ofInt 8 z105)] : List (BitVec 8))) ++ []) 5) :: B103)) w → More w0 Φ (((some b135), blk ((u8s ([(BitVec.ofInt 8 z105)] : List (BitVec 8))) ++ []) 5) :: B103) w := fun w q => More.mono (fun w m => (m).tail) q
   replace va0 := va0.mono gq13
   replace ha0 := ha0.mono (LogRd.mono gq13)
   replace h131 := LogRd.mono gq13 _ _ h131
   replace v124 := v124.mono gq13
   replace h126 := h126.mono (Ar8Rd.mono gq13)
   replace v129 := v129.mono gq13
   replace v137 := v137.mono gq13
   replace h141 := h141.mono (LogRd.mono gq13)
   replace hg2 := hg2.mono gq13
   have v142 : View (More w0 Φ (((some b138), blk ((((⟨x116.address, .slice A122 x116.topics.length c123, .slice (((some b135)).map fun k => ⟨k, 0, none⟩) ([(BitVec.ofInt 8 z105)] : List (BitVec 8)).length 1⟩ : LogC).C : List Value)) ++ []) 63) :: (((some b135), blk ((u8s ([(BitVec.ofInt 8 z105)] : List (BitVec 8))) ++ []) 5) :: B103))) (((some b138)).map fun k => ⟨k, 0, none⟩) ([(Log.mk x116.address x116.topics ([(BitVec.ofInt 8 z105)] : List (BitVec 8)))] : List (Log)).length 1 22 (((⟨x116.address, .slice A122 x116.topics.length c123, .slice (((some b135)).map fun k => ⟨k, 0, none⟩) ([(BitVec.ofInt 8 z105)] : List (BitVec 8)).length 1⟩ : LogC).C : List Value)) := o139.view (by decide) (fun w q => q.2.sublist (List.singleton_sublist.2 (List.mem_cons_self ..)))
   obtain ⟨x144, hx143, hl109⟩ := some_bind hl109
   refine XW.callG 3 rfl (by kernel_rfl) rfl Tryd.call28 rfl (fun N' hN' => receipt_BloomOf_does w0 (More w0 Φ (((some b138), blk ((((⟨x116.address, .slice A122 x116.topics.length c123, .slice (((some b135)).map fun k => ⟨k, 0, none⟩) ([(BitVec.ofInt 8 z105)] : List (BitVec 8)).length 1⟩ : LogC).C : List Value)) ++ []) 63) :: (((some b135), blk ((u8s ([(BitVec.ofInt 8 z105)] : List (BitVec 8))) ++ []) 5) :: B103))) N' (fun w m => More.of hΦ 5 (hN' w m) rfl) (((some b138)).map fun k => ⟨k, 0, none⟩) 1 (((⟨x116.address, .slice A122 x116.topics.length c123, .slice (((some b135)).map fun k => ⟨k, 0, none⟩) ([(BitVec.ofInt 8 z105)] : List (BitVec 8)).length 1⟩ : LogC).C : List Value)) ([(Log.mk x116.address x116.topics ([(BitVec.ofInt 8 z105)] : List (BitVec 8)))] : List (Log)) x144 v142 h141 hg2 hx143) rfl ?_
   rintro _ G145 rfl
   refine XW.mem (M' := ((some b134, blk (⟨x116.address, .slice A122 x116.topics.length c123, .slice (((some b135)).map fun k => ⟨k, 0, none⟩) ([(BitVec.ofInt 8 z105)] : List (BitVec 8)).length 1⟩ : LogC).C 63) :: (some b9, blk (u8s w107.toList) 27) :: (some b8, blk (u8s x5.toList) 27) :: (some b3, blk (u8s a2.toList) 24) :: (some b2, blk (u8s a1.toList) 60) :: ((((some b138), blk ((((⟨x116.address, .slice A122 x116.topics.length c123, .slice (((some b135)).map fun k => ⟨k, 0, none⟩) ([(BitVec.ofInt 8 z105)] : List (BitVec 8)).length 1⟩ : LogC).C : List Value)) ++ []) 63) :: (((some b135), blk ((u8s ([(BitVec.ofInt 8 z105)] : List (BitVec 8))) ++ []) 5) :: B103)) ++ N))) (fun w m => m.appR) (fun w m => by have h := Mem.shrink (B := (((some b135), blk ((u8s ([(BitVec.ofInt 8 z105)] : List (BitVec 8))) ++ []) 5) :: B103)) (B' := (((some b138), blk ((((⟨x116.address, .slice A122 x116.topics.length c123, .slice (((some b135)).map fun k => ⟨k, 0, none⟩) ([(BitVec.ofInt 8 z105)] : List (BitVec 8)).length 1⟩ : LogC).C : List Value)) ++ []) 63) :: (((some b135), blk ((u8s ([(BitVec.ofInt 8 z105)] : List (BitVec 8))) ++ []) 5) :: B103))) (List.sublist_cons_self _ _) (m.pick [0, 2, 3, 4] 5 rfl rfl) 4 rfl; exact h) ?_
   refine XW.new 4 rfl (by kernel_rfl) rfl (NV.bsA rfl rfl (by intro x hx; simp at hx; rcases hx with rfl | rfl <;> exact (u8s_length _).trans Vector.length_toList) rfl rfl rfl (by decide) (by decide) rfl) rfl (fun b147 => ?_)
   have h150 : Reps (Ar8Rd (More w0 Φ (((some b138), blk ((((⟨x116.address, .slice A122 x116.topics.length c123, .slice (((some b135)).map fun k => ⟨k, 0, none⟩) ([(BitVec.ofInt 8 z105)] : List (BitVec 8)).length 1⟩ : LogC).C : List Value)) ++ []) 63) :: (((some b135), blk ((u8s ([(BitVec.ofInt 8 z105)] : List (BitVec 8))) ++ []) 5) :: B103)))) (((u8s w107.toList) : List Value) ++ ((u8s x144.toList) : List Value)) [w107, x144] := by simpa using (show Reps (Ar8Rd (More w0 Φ (((some b138), blk ((((⟨x116.address, .slice A122 x116.topics.length c123, .slice (((some b135)).map fun k => ⟨k, 0, none⟩) ([(BitVec.ofInt 8 z105)] : List (BitVec 8)).length 1⟩ : LogC).C : List Value)) ++ []) 63) :: (((some b135), blk ((u8s ([(BitVec.ofInt 8 z105)] : List (BitVec 8))) ++ []) 5) :: B103)))) _ [w107, x144] from (.cons Ar8Rd.mk (.cons Ar8Rd.mk .nil)))
   refine XW.mem (M' := (((some b147), blk ((((u8s w107.toList) : List Value) ++ ((u8s x144.toList) : List Value)) ++ []) 27) :: (some b134, blk (⟨x116.address, .slice A122 x116.topics.length c123, .slice (((some b135)).map fun k => ⟨k, 0, none⟩) ([(BitVec.ofInt 8 z105)] : List (BitVec 8)).length 1⟩ : LogC).C 63) :: (some b9, blk (u8s w107.toList) 27) :: (some b8, blk (u8s x5.toList) 27) :: (some b3, blk (u8s a2.toList) 24) :: (some b2, blk (u8s a1.toList) 60) :: ((((some b138), blk ((((⟨x116.address, .slice A122 x116.topics.length c123, .slice (((some b135)).map fun k => ⟨k, 0, none⟩) ([(BitVec.ofInt 8 z105)] : List (BitVec 8)).length 1⟩ : LogC).C : List Value)) ++ []) 63) :: (((some b135), blk ((u8s ([(BitVec.ofInt 8 z105)] : List (BitVec 8))) ++ []) 5) :: B103)) ++ N))) (fun w m => by simpa only [List.flatten_cons, List.flatten_nil, List.append_nil, List.append_assoc] using m) (fun w m => by have h := Mem.shrink (B := (((some b135), blk ((u8s ([(BitVec.ofInt 8 z105)] : List (BitVec 8))) ++ []) 5) :: B103)) (B' := (((some b138), blk ((((⟨x116.address, .slice A122 x116.topics.length c123, .slice (((some b135)).map fun k => ⟨k, 0, none⟩) ([(BitVec.ofInt 8 z105)] : List (BitVec 8)).length 1⟩ : LogC).C : List Value)) ++ []) 63) :: (((some b135), blk ((u8s ([(BitVec.ofInt 8 z105)] : List (BitVec 8))) ++ []) 5) :: B103))) (List.sublist_cons_self _ _) (m.pick [1, 3, 4, 5] 6 rfl rfl) 4 rfl; exact h) ?_
   have o148 : OwnS (some b147) ([w107, x144] : List (Vector (BitVec 8) 256)).length 2 256 (((u8s w107.toList) : List Value) ++ ((u8s x144.toList) : List Value)) [] := ⟨by simp [Ar8Rd], by simp [Ar8Rd], (fun h => nomatch h), by simp⟩
   refine XW.slot (sl (some b147) 0 ([w107, x144] : List (Vector (BitVec 8) 256)).length 2) (rfl) ?_
   refine XW.mem (M' := (some b134, blk (⟨x116.address, .slice A122 x116.topics.length c123, .slice (((some b135)).map fun k => ⟨k, 0, none⟩) ([(BitVec.ofInt 8 z105)] : List (BitVec 8)).length 1⟩ : LogC).C 63) :: (some b9, blk (u8s w107.toList) 27) :: (some b8, blk (u8s x5.toList) 27) :: (some b3, blk (u8s a2.toList) 24) :: (some b2, blk (u8s a1.toList) 60) :: ((((some b147), blk ((((u8s w107.toList) : List Value) ++ ((u8s x144.toList) : List Value)) ++ []) 27) :: (((some b138), blk ((((⟨x116.address, .slice A122 x116.topics.length c123, .slice (((some b135)).map fun k => ⟨k, 0, none⟩) ([(BitVec.ofInt 8 z105)] : List (BitVec 8)).length 1⟩ : LogC).C : List Value)) ++ []) 63) :: (((some b135), blk ((u8s ([(BitVec.ofInt 8 z105)] : List (BitVec 8))) ++ []) 5) :: B103))) ++ N)) (fun w m => m.pick [1, 2, 3, 4, 5, 0] 6 rfl rfl) (fun w m => by have h := Mem.shrink (B := (((some b135), blk ((u8s ([(BitVec.ofInt 8 z105)] : List (BitVec 8))) ++ []) 5) :: B103)) (B' := (((some b147), blk ((((u8s w107.toList) : List Value) ++ ((u8s x144.toList) : List Value)) ++ []) 27) :: (((some b138), blk ((((⟨x116.address, .slice A122 x116.topics.length c123, .slice (((some b135)).map fun k => ⟨k, 0, none⟩) ([(BitVec.ofInt 8 z105)] : List (BitVec 8)).length 1⟩ : LogC).C : List Value)) ++ []) 63) :: (((some b135), blk ((u8s ([(BitVec.ofInt 8 z105)] : List (BitVec 8))) ++ []) 5) :: B103)))) ((List.sublist_cons_self _ _).trans (List.sublist_cons_self _ _)) (m.pick [0, 2, 3, 4] 5 rfl rfl) 4 rfl; exact h) ?_
   have gq14 : ∀ w, More w0 Φ (((some b147), blk ((((u8s w107.toList) : List Value) ++ ((u8s x144.toList) : List Value)) ++ []) 27) :: (((some b138), blk ((((⟨x116.address, .slice A122 x116.topics.length c123, .slice (((some b135)).map fun k => ⟨k, 0, none⟩) ([(BitVec.ofInt 8 z105)] : List (BitVec 8)).length 1⟩ : LogC).C : List Value)) ++ []) 63) :: (((some b135), blk ((u8s ([(BitVec.ofInt 8 z105)] : List (BitVec 8))) ++ []) 5) :: B103))) w → More w0 Φ (((some b138), blk ((((⟨x116.address, .slice A122 x116.topics.length c123, .slice (((some b135)).map fun k => ⟨k, 0, none⟩) ([(BitVec.ofInt 8 z105)] : List (BitVec 8)).length 1⟩ : LogC).C : List Value)) ++ []) 63) :: (((some b135), blk ((u8s ([(BitVec.ofInt 8 z105)] : List (BitVec 8))) ++ []) 5) :: B103)) w := fun w q => More.mono (fun w m => (m).tail) q
   replace va0 := va0.mono gq14
   replace ha0 := ha0.mono (LogRd.mono gq14)
   replace h131 := LogRd.mono gq14 _ _ h131
   replace v124 := v124.mono gq14
   replace h126 := h126.mono (Ar8Rd.mono gq14)
   replace v129 := v129.mono gq14
   replace v137 := v137.mono gq14
   replace v142 := v142.mono gq14
   replace h141 := h141.mono (LogRd.mono gq14)
   replace h150 := h150.mono (Ar8Rd.mono gq14)
   replace hg2 := hg2.mono gq14
   have v151 : View (More w0 Φ (((some b147), blk ((((u8s w107.toList) : List Value) ++ ((u8s x144.toList) : List Value)) ++ []) 27) :: (((some b138), blk ((((⟨x116.address, .slice A122 x116.topics.length c123, .slice (((some b135)).map fun k => ⟨k, 0, none⟩) ([(BitVec.ofInt 8 z105)] : List (BitVec 8)).length 1⟩ : LogC).C : List Value)) ++ []) 63) :: (((some b135), blk ((u8s ([(BitVec.ofInt 8 z105)] : List (BitVec 8))) ++ []) 5) :: B103)))) (((some b147)).map fun k => ⟨k, 0, none⟩) ([w107, x144] : List (Vector (BitVec 8) 256)).length 2 256 (((u8s w107.toList) : List Value) ++ ((u8s x144.toList) : List Value)) := o148.view (by decide) (fun w q => q.2.sublist (List.singleton_sublist.2 (List.mem_cons_self ..)))
   obtain ⟨x153, hx152, hl109⟩ := some_bind hl109
   refine XW.callG 5 rfl (by kernel_rfl) rfl Tryd.call31 rfl (fun N' hN' => bloom_Union_does w0 (More w0 Φ (((some b147), blk ((((u8s w107.toList) : List Value) ++ ((u8s x144.toList) : List Value)) ++ []) 27) :: (((some b138), blk ((((⟨x116.address, .slice A122 x116.topics.length c123, .slice (((some b135)).map fun k => ⟨k, 0, none⟩) ([(BitVec.ofInt 8 z105)] : List (BitVec 8)).length 1⟩ : LogC).C : List Value)) ++ []) 63) :: (((some b135), blk ((u8s ([(BitVec.ofInt 8 z105)] : List (BitVec 8))) ++ []) 5) :: B103)))) N' (fun w m => More.of hΦ 5 (hN' w m) rfl) (((some b147)).map fun k => ⟨k, 0, none⟩) 2 (((u8s w107.toList) : List Value) ++ ((u8s x144.toList) : List Value)) ([w107, x144] : List (Vector (BitVec 8) 256)) x153 v151 h150 hx152) rfl ?_
   rintro _ G154 rfl
   refine XW.mem (M' := ((some b134, blk (⟨x116.address, .slice A122 x116.topics.length c123, .slice (((some b135)).map fun k => ⟨k, 0, none⟩) ([(BitVec.ofInt 8 z105)] : List (BitVec 8)).length 1⟩ : LogC).C 63) :: (some b9, blk (u8s w107.toList) 27) :: (some b8, blk (u8s x5.toList) 27) :: (some b3, blk (u8s a2.toList) 24) :: (some b2, blk (u8s a1.toList) 60) :: ((((some b147), blk ((((u8s w107.toList) : List Value) ++ ((u8s x144.toList) : List Value)) ++ []) 27) :: (((some b138), blk ((((⟨x116.address, .slice A122 x116.topics.length c123, .slice (((some b135)).map fun k => ⟨k, 0, none⟩) ([(BitVec.ofInt 8 z105)] : List (BitVec 8)).length 1⟩ : LogC).C : List Value)) ++ []) 63) :: (((some b135), blk ((u8s ([(BitVec.ofInt 8 z105)] : List (BitVec 8))) ++ []) 5) :: B103))) ++ N))) (fun w m => m.appR) (fun w m => by have h := Mem.shrink (B := (((some b135), blk ((u8s ([(BitVec.ofInt 8 z105)] : List (BitVec 8))) ++ []) 5) :: B103)) (B' := (((some b147), blk ((((u8s w107.toList) : List Value) ++ ((u8s x144.toList) : List Value)) ++ []) 27) :: (((some b138), blk ((((⟨x116.address, .slice A122 x116.topics.length c123, .slice (((some b135)).map fun k => ⟨k, 0, none⟩) ([(BitVec.ofInt 8 z105)] : List (BitVec 8)).length 1⟩ : LogC).C : List Value)) ++ []) 63) :: (((some b135), blk ((u8s ([(BitVec.ofInt 8 z105)] : List (BitVec 8))) ++ []) 5) :: B103)))) ((List.sublist_cons_self _ _).trans (List.sublist_cons_self _ _)) (m.pick [0, 2, 3, 4] 5 rfl rfl) 4 rfl; exact h) ?_
   refine XW.mem (M' := ((some b9, blk (u8s w107.toList) 27) :: (some b134, blk (⟨x116.address, .slice A122 x116.topics.length c123, .slice (((some b135)).map fun k => ⟨k, 0, none⟩) ([(BitVec.ofInt 8 z105)] : List (BitVec 8)).length 1⟩ : LogC).C 63) :: (some b8, blk (u8s x5.toList) 27) :: (some b3, blk (u8s a2.toList) 24) :: (some b2, blk (u8s a1.toList) 60) :: ((((some b147), blk ((((u8s w107.toList) : List Value) ++ ((u8s x144.toList) : List Value)) ++ []) 27) :: (((some b138), blk ((((⟨x116.address, .slice A122 x116.topics.length c123, .slice (((some b135)).map fun k => ⟨k, 0, none⟩) ([(BitVec.ofInt 8 z105)] : List (BitVec 8)).length 1⟩ : LogC).C : List Value)) ++ []) 63) :: (((some b135), blk ((u8s ([(BitVec.ofInt 8 z105)] : List (BitVec 8))) ++ []) 5) :: B103))) ++ N))) (fun w m => m.pick [1, 0] 2 rfl rfl) (fun w m => by have h := Mem.shrink (B := (((some b135), blk ((u8s ([(BitVec.ofInt 8 z105)] : List (BitVec 8))) ++ []) 5) :: B103)) (B' := (((some b147), blk ((((u8s w107.toList) : List Value) ++ ((u8s x144.toList) : List Value)) ++ []) 27) :: (((some b138), blk ((((⟨x116.address, .slice A122 x116.topics.length c123, .slice (((some b135)).map fun k => ⟨k, 0, none⟩) ([(BitVec.ofInt 8 z105)] : List (BitVec 8)).length 1⟩ : LogC).C : List Value)) ++ []) 63) :: (((some b135), blk ((u8s ([(BitVec.ofInt 8 z105)] : List (BitVec 8))) ++ []) 5) :: B103)))) ((List.sublist_cons_self _ _).trans (List.sublist_cons_self _ _)) (m.pick [1, 2, 3, 4] 5 rfl rfl) 4 rfl; exact h) ?_
   refine XW.sv 6 rfl (by kernel_rfl) (SV.storeW rfl rfl rfl (u8s_one _) rfl ((u8s_length _).trans Vector.length_toList) ((u8s_length _).trans Vector.length_toList)) (fun w m => by have h := Mem.shrink (B := (((some b135), blk ((u8s ([(BitVec.ofInt 8 z105)] : List (BitVec 8))) ++ []) 5) :: B103)) (B' := (((some b147), blk ((((u8s w107.toList) : List Value) ++ ((u8s x144.toList) : List Value)) ++ []) 27) :: (((some b138), blk ((((⟨x116.address, .slice A122 x116.topics.length c123, .slice (((some b135)).map fun k => ⟨k, 0, none⟩) ([(BitVec.ofInt 8 z105)] : List (BitVec 8)).length 1⟩ : LogC).C : List Value)) ++ []) 63) :: (((some b135), blk ((u8s ([(BitVec.ofInt 8 z105)] : List (BitVec 8))) ++ []) 5) :: B103)))) ((List.sublist_cons_self _ _).trans (List.sublist_cons_self _ _)) (m.pick [1, 2, 3, 4] 5 rfl rfl) 4 rfl; exact h) ?_
   refine XW.nil (by kernel_rfl) ?_
   refine QW.then_n (CW.seq (CW.seq ?_))
   refine CW.drawsU 5 mixed (by kernel_rfl) rfl ?_
   refine UW.rv 0 rfl (by kernel_rfl) rfl (RV.loadW rfl (List.Mem.tail _ (List.Mem.tail _ (List.Mem.head _))) rfl rfl rfl rfl ((u8s_length _).trans Vector.length_toList)) rfl ?_
   refine UW.rv 1 rfl (by kernel_rfl) rfl (RV.field rfl rfl rfl rfl) rfl ?_
   refine UW.slot (ptr (some b134) 0) rfl ?_
   refine UW.mem (M' := (some b9, blk (u8s x153.toList) 27) :: (some b8, blk (u8s x5.toList) 27) :: (some b3, blk (u8s a2.toList) 24) :: (some b2, blk (u8s a1.toList) 60) :: (((some b134, blk (⟨x116.address, .slice A122 x116.topics.length c123, .slice (((some b135)).map fun k => ⟨k, 0, none⟩) ([(BitVec.ofInt 8 z105)] : List (BitVec 8)).length 1⟩ : LogC).C 63) :: (((some b147), blk ((((u8s w107.toList) : List Value) ++ ((u8s x144.toList) : List Value)) ++ []) 27) :: (((some b138), blk ((((⟨x116.address, .slice A122 x116.topics.length c123, .slice (((some b135)).map fun k => ⟨k, 0, none⟩) ([(BitVec.ofInt 8 z105)] : List (BitVec 8)).length 1⟩ : LogC).C : List Value)) ++ []) 63) :: (((some b135), blk ((u8s ([(BitVec.ofInt 8 z105)] : List (BitVec 8))) ++ []) 5) :: B103)))) ++ N)) (fun w m => m.pick [0, 2, 3, 4, 1] 5 rfl rfl) ?_
   have gq15 : ∀ w, More w0 Φ ((some b134, blk (⟨x116.address, .slice A122 x116.topics.length c123, .slice (((some b135)).map fun k => ⟨k, 0, none⟩) ([(BitVec.ofInt 8 z105)] : List (BitVec 8)).length 1⟩ : LogC).C 63) :: (((some b147), blk ((((u8s w107.toList) : List Value) ++ ((u8s x144.toList) : List Value)) ++ []) 27) :: (((some b138), blk ((((⟨x116.address, .slice A122 x116.topics.length c123, .slice (((some b135)).map fun k => ⟨k, 0, none⟩) ([(BitVec.ofInt 8 z105)] : List (BitVec 8)).length 1⟩ : LogC).C : List Value)) ++ []) 63) :: (((some b135), blk ((u8s ([(BitVec.ofInt 8 z105)] : List (BitVec 8))) ++ []) 5) :: B103)))) w → More w0 Φ (((some b147), blk ((((u8s w107.toList) : List Value) ++ ((u8s x144.toList) : List Value)) ++ []) 27) :: (((some b138), blk ((((⟨x116.address, .slice A122 x116.topics.length c123, .slice (((some b135)).map fun k => ⟨k, 0, none⟩) ([(BitVec.ofInt 8 z105)] : List (BitVec 8)).length 1⟩ : LogC).C : List Value)) ++ []) 63) :: (((some b135), blk ((u8s ([(BitVec.ofInt 8 z105)] : List (BitVec 8))) ++ []) 5) :: B103))) w := fun w q => More.mono (fun w m => (m).tail) q
   replace va0 := va0.mono gq15
   replace ha0 := ha0.mono (LogRd.mono gq15)
   replace h131 := LogRd.mono gq15 _ _ h131
   replace v124 := v124.mono gq15
   replace h126 := h126.mono (Ar8Rd.mono gq15)
   replace v129 := v129.mono gq15
   replace v137 := v137.mono gq15
   replace v142 := v142.mono gq15
   replace h141 := h141.mono (LogRd.mono gq15)
   replace v151 := v151.mono gq15
   replace h150 := h150.mono (Ar8Rd.mono gq15)
   replace hg2 := hg2.mono gq15
   have hH157 : Held w0 (More w0 Φ ((some b134, blk (⟨x116.address, .slice A122 x116.topics.length c123, .slice (((some b135)).map fun k => ⟨k, 0, none⟩) ([(BitVec.ofInt 8 z105)] : List (BitVec 8)).length 1⟩ : LogC).C 63) :: (((some b147), blk ((((u8s w107.toList) : List Value) ++ ((u8s x144.toList) : List Value)) ++ []) 27) :: (((some b138), blk ((((⟨x116.address, .slice A122 x116.topics.length c123, .slice (((some b135)).map fun k => ⟨k, 0, none⟩) ([(BitVec.ofInt 8 z105)] : List (BitVec 8)).length 1⟩ : LogC).C : List Value)) ++ []) 63) :: (((some b135), blk ((u8s ([(BitVec.ofInt 8 z105)] : List (BitVec 8))) ++ []) 5) :: B103))))) b134 (⟨x116.address, .slice A122 x116.topics.length c123, .slice (((some b135)).map fun k => ⟨k, 0, none⟩) ([(BitVec.ofInt 8 z105)] : List (BitVec 8)).length 1⟩ : LogC).C 63 := fun w q => q.2.sublist (List.singleton_sublist.2 (List.mem_cons_self ..))
   refine UW.rv 2 rfl (by kernel_rfl) rfl (RV.arr_all rfl rfl rfl) rfl ?_
   refine UW.slot (.slice (some ⟨b134, 0, none⟩) x116.address.toList.length 20) (by rw [Vector.length_toList]; try rfl) ?_
   have v156 : View (More w0 Φ ((some b134, blk (⟨x116.address, .slice A122 x116.topics.length c123, .slice (((some b135)).map fun k => ⟨k, 0, none⟩) ([(BitVec.ofInt 8 z105)] : List (BitVec 8)).length 1⟩ : LogC).C 63) :: (((some b147), blk ((((u8s w107.toList) : List Value) ++ ((u8s x144.toList) : List Value)) ++ []) 27) :: (((some b138), blk ((((⟨x116.address, .slice A122 x116.topics.length c123, .slice (((some b135)).map fun k => ⟨k, 0, none⟩) ([(BitVec.ofInt 8 z105)] : List (BitVec 8)).length 1⟩ : LogC).C : List Value)) ++ []) 63) :: (((some b135), blk ((u8s ([(BitVec.ofInt 8 z105)] : List (BitVec 8))) ++ []) 5) :: B103))))) (some ⟨b134, 0, none⟩) x116.address.toList.length 20 1 (u8s x116.address.toList) := Held.part hH157 (LogC.C_address_all (⟨x116.address, .slice A122 x116.topics.length c123, .slice (((some b135)).map fun k => ⟨k, 0, none⟩) ([(BitVec.ofInt 8 z105)] : List (BitVec 8)).length 1⟩ : LogC)) (by decide)
   obtain ⟨x159, hx158, hl109⟩ := some_bind hl109
   refine UW.callG 3 rfl (by kernel_rfl) rfl Tryd.call32 rfl (fun N' hN' => bloom_Has_does w0 (More w0 Φ ((some b134, blk (⟨x116.address, .slice A122 x116.topics.length c123, .slice (((some b135)).map fun k => ⟨k, 0, none⟩) ([(BitVec.ofInt 8 z105)] : List (BitVec 8)).length 1⟩ : LogC).C 63) :: (((some b147), blk ((((u8s w107.toList) : List Value) ++ ((u8s x144.toList) : List Value)) ++ []) 27) :: (((some b138), blk ((((⟨x116.address, .slice A122 x116.topics.length c123, .slice (((some b135)).map fun k => ⟨k, 0, none⟩) ([(BitVec.ofInt 8 z105)] : List (BitVec 8)).length 1⟩ : LogC).C : List Value)) ++ []) 63) :: (((some b135), blk ((u8s ([(BitVec.ofInt 8 z105)] : List (BitVec 8))) ++ []) 5) :: B103))))) N' (fun w m => More.of hΦ 4 (hN' w m) rfl) x5 (some ⟨b134, 0, none⟩) 20 x116.address.toList x159 v156 hg2 hx158) rfl ?_
   rintro _ G160 rfl
   refine UW.mem (M' := ((some b9, blk (u8s x153.toList) 27) :: (some b8, blk (u8s x5.toList) 27) :: (some b3, blk (u8s a2.toList) 24) :: (some b2, blk (u8s a1.toList) 60) :: (((some b134, blk (⟨x116.address, .slice A122 x116.topics.length c123, .slice (((some b135)).map fun k => ⟨k, 0, none⟩) ([(BitVec.ofInt 8 z105)] : List (BitVec 8)).length 1⟩ : LogC).C 63) :: (((some b147), blk ((((u8s w107.toList) : List Value) ++ ((u8s x144.toList) : List Value)) ++ []) 27) :: (((some b138), blk ((((⟨x116.address, .slice A122 x116.topics.length c123, .slice (((some b135)).map fun k => ⟨k, 0, none⟩) ([(BitVec.ofInt 8 z105)] : List (BitVec 8)).length 1⟩ : LogC).C : List Value)) ++ []) 63) :: (((some b135), blk ((u8s ([(BitVec.ofInt 8 z105)] : List (BitVec 8))) ++ []) 5) :: B103)))) ++ N))) (fun w m => m.appR) ?_
   refine UW.rv 4 rfl (by kernel_rfl) rfl (RV.not rfl) rfl ?_
   refine UW.nil (by kernel_rfl) ?_
   refine OW.nil (QW.then_n ?_)
   by_cases h162 : x159 = true
   ·replace hl109 := if_t hl109 h162
    refine CW.is_f rfl (congrArg (fun b => !b) (h162)) ?_
    refine CW.skip (QW.then_n (CW.seq (CW.region ?_)))
    refine OW.rv (RV.assign rfl) rfl ?_
    refine OW.nil (QW.then_n ?_)
    obtain ⟨q163, hq164, hl109⟩ := some_bind hl109
    refine CW.cutJ (fun L' M' => ∃ B165 : List Ent, q163 = Lp.go () ∧ (∀ w, Mem w0 w B165 → Mem w0 w ((some b134, blk (⟨x116.address, .slice A122 x116.topics.length c123, .slice (((some b135)).map fun k => ⟨k, 0, none⟩) ([(BitVec.ofInt 8 z105)] : List (BitVec 8)).length 1⟩ : LogC).C 63) :: (((some b147), blk ((((u8s w107.toList) : List Value) ++ ((u8s x144.toList) : List Value)) ++ []) 27) :: (((some b138), blk ((((⟨x116.address, .slice A122 x116.topics.length c123, .slice (((some b135)).map fun k => ⟨k, 0, none⟩) ([(BitVec.ofInt 8 z105)] : List (BitVec 8)).length 1⟩ : LogC).C : List Value)) ++ []) 63) :: (((some b135), blk ((u8s ([(BitVec.ofInt 8 z105)] : List (BitVec 8))) ++ []) 5) :: B103))))) ∧ L' = [(0, .slice A0_ a0.length c0_), (4, ptr (some b2) 0), (5, ptr (some b3) 0), (7, ptr (some b8) 0), (8, ptr (some b9) 0), (9, .int .i64 z105)] ∧ M' = ((some b9, blk (u8s x153.toList) 27) :: (some b8, blk (u8s x5.toList) 27) :: (some b3, blk (u8s a2.toList) 24) :: (some b2, blk (u8s a1.toList) 60) :: (B165 ++ N))) ?_ ?_
    ·rintro L168 M169 ⟨B165, e167, hB166, e170, e171⟩
     rw [e170, e171]
     clear e170 e171 L168 M169
     clear hq164
     rw [e167] at hl109
     clear e167
     try dsimp only at hl109
     have gq16 : ∀ w, More w0 Φ B165 w → More w0 Φ ((some b134, blk (⟨x116.address, .slice A122 x116.topics.length c123, .slice (((some b135)).map fun k => ⟨k, 0, none⟩) ([(BitVec.ofInt 8 z105)] : List (BitVec 8)).length 1⟩ : LogC).C 63) :: (((some b147), blk ((((u8s w107.toList) : List Value) ++ ((u8s x144.toList) : List Value)) ++ []) 27) :: (((some b138), blk ((((⟨x116.address, .slice A122 x116.topics.length c123, .slice (((some b135)).map fun k => ⟨k, 0, none⟩) ([(BitVec.ofInt 8 z105)] : List (BitVec 8)).length 1⟩ : LogC).C : List Value)) ++ []) 63) :: (((some b135), blk ((u8s ([(BitVec.ofInt 8 z105)] : List (BitVec 8))) ++ []) 5) :: B103)))) w := fun w q => More.mono (fun w m => hB166 w (m)) q
     replace va0 := va0.mono gq16
     replace ha0 := ha0.mono (LogRd.mono gq16)
     replace hg2 := hg2.mono gq16
     refine QW.block_n (QW.then_n (CW.region ?_))
     refine OW.rv (RV.move rfl) rfl ?_
     obtain ⟨g172, hl109⟩ := some_if hl109
     refine OW.rv (RV.sub rfl rfl (by omega)) rfl ?_
     refine OW.rv (RV.assign rfl) rfl ?_
     refine OW.nil ?_
     exact QW.againJ (k' := k108) (Nat.lt_succ_self _) ⟨(z105 - (1 : Int)), x153, B165, hl109, (fun w m => hB104 w (((((hB166 w (m)).tail).tail).tail).tail)), (by omega), rfl, rfl⟩ ⟨rfl, rfl, rfl, rfl, rfl, rfl, trivial⟩ (fun w m => m.pick [0, 1, 2, 3] 4 rfl rfl)
    ·skip
     refine CW.block ?_
     refine CW.loopJ (fun k L' M' => ∃ n175 : Nat, ∃ B173 : List Ent, (waybilllaw17_ReceiptBlooms.l2 x5 x116 k n175) = some q163 ∧ (∀ w, Mem w0 w B173 → Mem w0 w ((some b134, blk (⟨x116.address, .slice A122 x116.topics.length c123, .slice (((some b135)).map fun k => ⟨k, 0, none⟩) ([(BitVec.ofInt 8 z105)] : List (BitVec 8)).length 1⟩ : LogC).C 63) :: (((some b147), blk ((((u8s w107.toList) : List Value) ++ ((u8s x144.toList) : List Value)) ++ []) 27) :: (((some b138), blk ((((⟨x116.address, .slice A122 x116.topics.length c123, .slice (((some b135)).map fun k => ⟨k, 0, none⟩) ([(BitVec.ofInt 8 z105)] : List (BitVec 8)).length 1⟩ : LogC).C : List Value)) ++ []) 63) :: (((some b135), blk ((u8s ([(BitVec.ofInt 8 z105)] : List (BitVec 8))) ++ []) 5) :: B103))))) ∧ (n175 ≤ 9223372036854775807) ∧ L' = [(0, .slice A0_ a0.length c0_), (4, ptr (some b2) 0), (5, ptr (some b3) 0), (7, ptr (some b8) 0), (8, ptr (some b9) 0), (9, .int .i64 z105), (10, ptr (some b134) 0), (11, .int .i64 ((n175 : Nat) : Int))] ∧ M' = ((some b9, blk (u8s x153.toList) 27) :: (some b8, blk (u8s x5.toList) 27) :: (some b3, blk (u8s a2.toList) 24) :: (some b2, blk (u8s a1.toList) 60) :: (B173 ++ N))) (k0 := (x116.topics.length - 0 + 2)) ⟨0, ((some b134, blk (⟨x116.address, .slice A122 x116.topics.length c123, .slice (((some b135)).map fun k => ⟨k, 0, none⟩) ([(BitVec.ofInt 8 z105)] : List (BitVec 8)).length 1⟩ : LogC).C 63) :: (((some b147), blk ((((u8s w107.toList) : List Value) ++ ((u8s x144.toList) : List Value)) ++ []) 27) :: (((some b138), blk ((((⟨x116.address, .slice A122 x116.topics.length c123, .slice (((some b135)).map fun k => ⟨k, 0, none⟩) ([(BitVec.ofInt 8 z105)] : List (BitVec 8)).length 1⟩ : LogC).C : List Value)) ++ []) 63) :: (((some b135), blk ((u8s ([(BitVec.ofInt 8 z105)] : List (BitVec 8))) ++ []) 5) :: B103)))), hq164, (fun w m => m), (by omega), rfl, rfl⟩ ⟨rfl, rfl, rfl, rfl, rfl, rfl, rfl, rfl, trivial⟩ (fun w m => m.pick [0, 1, 2, 3] 4 rfl rfl) ?_
     clear hq164
     rintro k177 L180 M181 ⟨n175, B173, hl178, hB174, b176, e182, e183⟩
     rw [e182, e183]
     clear e182 e183 L180 M181
     rcases k177 with _ | k177
     ·rw [waybilllaw17_ReceiptBlooms.l2] at hl178; cases hl178
     rw [waybilllaw17_ReceiptBlooms.l2] at hl178
     have gq17 : ∀ w, More w0 Φ B173 w → More w0 Φ ((some b134, blk (⟨x116.address, .slice A122 x116.topics.length c123, .slice (((some b135)).map fun k => ⟨k, 0, none⟩) ([(BitVec.ofInt 8 z105)] : List (BitVec 8)).length 1⟩ : LogC).C 63) :: (((some b147), blk ((((u8s w107.toList) : List Value) ++ ((u8s x144.toList) : List Value)) ++ []) 27) :: (((some b138), blk ((((⟨x116.address, .slice A122 x116.topics.length c123, .slice (((some b135)).map fun k => ⟨k, 0, none⟩) ([(BitVec.ofInt 8 z105)] : List (BitVec 8)).length 1⟩ : LogC).C : List Value)) ++ []) 63) :: (((some b135), blk ((u8s ([(BitVec.ofInt 8 z105)] : List (BitVec 8))) ++ []) 5) :: B103)))) w := fun w q => More.mono (fun w m => hB174 w (m)) q
     replace va0 := va0.mono gq17
     replace ha0 := ha0.mono (LogRd.mono gq17)
     replace hH157 := hH157.mono gq17
     replace v124 := v124.mono gq17
     replace h126 := h126.mono (Ar8Rd.mono gq17)
     replace v137 := v137.mono gq17
     replace hg2 := hg2.mono gq17
     refine CW.seq (CW.seq (CW.region ?_))
     refine OW.rv (RV.move rfl) rfl ?_
     refine OW.rv (RV.field rfl rfl rfl rfl) rfl ?_
     refine OW.slot (ptr (some b134) 20) rfl ?_
     refine OW.rv (RV.loadH rfl hH157 (fun w m => More.of hΦ 4 m rfl) rfl rfl (LogC.C_topics (⟨x116.address, .slice A122 x116.topics.length c123, .slice (((some b135)).map fun k => ⟨k, 0, none⟩) ([(BitVec.ofInt 8 z105)] : List (BitVec 8)).length 1⟩ : LogC))) rfl ?_
     refine OW.rv (RV.len rfl rfl) rfl ?_
     refine OW.rv (RV.lss rfl rfl) rfl ?_
     refine OW.slot (.bool (decide (n175 < x116.topics.length))) (congrArg Value.bool (decide_eq_decide.2 (by omega))) ?_
     refine OW.nil (QW.then_n ?_)
     by_cases h184 : n175 < x116.topics.length
     ·replace hl178 := if_t hl178 h184
      refine CW.is_t rfl (decide_eq_true h184) ?_
      refine CW.skip (QW.then_n (CW.seq (CW.block (CW.seq (CW.region ?_)))))
      refine OW.rv (RV.field rfl rfl rfl rfl) rfl ?_
      refine OW.slot (ptr (some b134) 20) rfl ?_
      refine OW.rv (RV.loadH rfl hH157 (fun w m => More.of hΦ 4 m rfl) rfl rfl (LogC.C_topics (⟨x116.address, .slice A122 x116.topics.length c123, .slice (((some b135)).map fun k => ⟨k, 0, none⟩) ([(BitVec.ofInt 8 z105)] : List (BitVec 8)).length 1⟩ : LogC))) rfl ?_
      refine OW.rv (RV.move rfl) rfl ?_
      obtain ⟨x185, hx186, hl178⟩ := some_bind hl178
      have hl187 := lt_of_at hx186
      refine OW.rv (RV.idx_rs (n175) rfl rfl rfl rfl rfl (v124.isSome (by decide) hl187) (by omega)) rfl ?_
      obtain ⟨cs188, h189, h190⟩ := h126.get Ar8Rd.len hx186
      have h189a := h189
      subst h189a
      refine OW.rv (RV.loadAs rfl rfl rfl rfl (fun w m => v124.load (More.of hΦ 4 m rfl) h190) ((u8s_length _).trans Vector.length_toList)) rfl ?_
      refine OW.alloc (l := (u8s (Vector.replicate 32 0#8).toList)) rfl (by rw [Vector.toList_replicate, ← u8s_rep']; rfl) rfl (fun b191 => ?_)
      refine OW.sv (SV.storeW rfl rfl rfl (u8s_one _) rfl ((u8s_length _).trans Vector.length_toList) ((u8s_length _).trans Vector.length_toList)) ?_
      refine OW.nil (QW.then_n (CW.seq ?_))
      refine CW.drawsU 4 mixed (by kernel_rfl) rfl ?_
      refine UW.rv 0 rfl (by kernel_rfl) rfl (RV.loadW rfl (List.Mem.tail _ (List.Mem.tail _ (List.Mem.head _))) rfl rfl rfl rfl ((u8s_length _).trans Vector.length_toList)) rfl ?_
      refine UW.mem (M' := (some b9, blk (u8s x153.toList) 27) :: (some b8, blk (u8s x5.toList) 27) :: (some b3, blk (u8s a2.toList) 24) :: (some b2, blk (u8s a1.toList) 60) :: (((some b191, blk (u8s x185.toList) 24) :: B173) ++ N)) (fun w m => m.pick [1, 2, 3, 4, 0] 5 rfl rfl) ?_
      have gq18 : ∀ w, More w0 Φ ((some b191, blk (u8s x185.toList) 24) :: B173) w → More w0 Φ B173 w := fun w q => More.mono (fun w m => (m).tail) q
      replace va0 := va0.mono gq18
      replace ha0 := ha0.mono (LogRd.mono gq18)
      replace hH157 := hH157.mono gq18
      replace v124 := v124.mono gq18
      replace h126 := h126.mono (Ar8Rd.mono gq18)
      replace v137 := v137.mono gq18
      replace hg2 := hg2.mono gq18
      have v192 : View (More w0 Φ ((some b191, blk (u8s x185.toList) 24) :: B173)) (some ⟨b191, 0, none⟩) x185.toList.length 32 1 (u8s x185.toList) := View.arr (w0 := w0) (te := 24) (fun w q => q.2.sublist (List.singleton_sublist.2 (List.mem_cons_self ..))) (by decide)
      refine UW.rv 1 rfl (by kernel_rfl) rfl (RV.arr_all rfl rfl rfl) rfl ?_
      refine UW.slot (.slice (some ⟨b191, 0, none⟩) x185.toList.length 32) (by rw [Vector.length_toList]; try rfl) ?_
      have v193 := v192
      have m194 := v193.mx
      obtain ⟨x196, hx195, hl178⟩ := some_bind hl178
      refine UW.callG 2 rfl (by kernel_rfl) rfl Tryd.call32 rfl (fun N' hN' => bloom_Has_does w0 (More w0 Φ ((some b191, blk (u8s x185.toList) 24) :: B173)) N' (fun w m => More.of hΦ 4 (hN' w m) rfl) x5 (some ⟨b191, 0, none⟩) 32 x185.toList x196 v193 hg2 hx195) rfl ?_
      rintro _ G197 rfl
      refine UW.mem (M' := ((some b9, blk (u8s x153.toList) 27) :: (some b8, blk (u8s x5.toList) 27) :: (some b3, blk (u8s a2.toList) 24) :: (some b2, blk (u8s a1.toList) 60) :: (((some b191, blk (u8s x185.toList) 24) :: B173) ++ N))) (fun w m => m.appR) ?_
      refine UW.rv 3 rfl (by kernel_rfl) rfl (RV.not rfl) rfl ?_
      refine UW.nil (by kernel_rfl) ?_
      refine OW.nil (QW.then_n ?_)
      by_cases h199 : x196 = true
      ·replace hl178 := if_t hl178 h199
       refine CW.is_f rfl (congrArg (fun b => !b) (h199)) ?_
       refine CW.skip (QW.block_n (QW.then_n (CW.region ?_)))
       refine OW.rv (RV.move rfl) rfl ?_
       refine OW.rv (RV.add rfl rfl (by omega)) rfl ?_
       refine OW.slot (.int .i64 (((n175 + 1) : Nat) : Int)) (by first | rfl | (congr 1) | (congr 1; omega)) ?_
       refine OW.rv (RV.assign rfl) rfl ?_
       refine OW.nil ?_
       exact QW.againJ (k' := k177) (Nat.lt_succ_self _) ⟨(n175 + 1), ((some b191, blk (u8s x185.toList) 24) :: B173), hl178, (fun w m => hB174 w ((m).tail)), (by omega), rfl, rfl⟩ ⟨rfl, rfl, rfl, rfl, rfl, rfl, rfl, rfl, trivial⟩ (fun w m => m.pick [0, 1, 2, 3] 4 rfl rfl)
      ·replace hl178 := if_f hl178 h199
       refine CW.is_t rfl (congrArg (fun b => !b) (Bool.eq_false_iff.2 h199)) ?_
       refine CW.seq (CW.region ?_)
       refine OW.rv (RV.assign rfl) rfl ?_
       refine OW.nil (QW.then_n (CW.ret (QW.block_r (QW.then_r (QW.then_r (QW.block_r (QW.then_r ?_)))))))
       have hc := Option.some.inj hl178
       subst hc
       try dsimp only at hl109
       refine QW.block_r (QW.then_r (QW.then_r (QW.block_r (QW.then_r ?_))))
       have hc := Option.some.inj hl109
       subst hc
       try dsimp only at hf
       refine QW.then_r ?_
       have e0 := Option.some.inj hf
       subst e0
       refine QW.retG (rs := [.tmp 6]) ([.bool false]) ((some b9, blk (u8s x153.toList) 27) :: (some b8, blk (u8s x5.toList) 27) :: (some b3, blk (u8s a2.toList) 24) :: (some b2, blk (u8s a1.toList) 60) :: ((some b191, blk (u8s x185.toList) 24) :: B173)) rfl ?_ rfl ?_ ?_ _ (.inl rfl)
       ·exact ⟨rfl, trivial⟩
       ·exact rfl
       ·exact (fun w m => m)
     ·replace hl178 := if_f hl178 h184
      refine CW.is_f rfl (decide_eq_false h184) ?_
      refine CW.exit (QW.then_x (QW.then_x (QW.block_xe ?_)))
      exact QW.join ⟨B173, (Option.some.inj hl178).symm, (fun w m => hB174 w (m)), rfl, rfl⟩ ⟨rfl, rfl, rfl, rfl, rfl, rfl, trivial⟩ (fun w m => m.pick [0, 1, 2, 3] 4 rfl rfl)
   ·replace hl109 := if_f hl109 h162
    refine CW.is_t rfl (congrArg (fun b => !b) (Bool.eq_false_iff.2 h162)) ?_
    refine CW.seq (CW.region ?_)
    refine OW.rv (RV.assign rfl) rfl ?_
    refine OW.nil (QW.then_n (CW.ret (QW.then_r (QW.block_r (QW.then_r (QW.then_r (QW.block_r (QW.then_r ?_))))))))
    have hc := Option.some.inj hl109
    subst hc
    try dsimp only at hf
    refine QW.then_r ?_
    have e0 := Option.some.inj hf
    subst e0
    refine QW.retG (rs := [.tmp 6]) ([.bool false]) ((some b9, blk (u8s x153.toList) 27) :: (some b8, blk (u8s x5.toList) 27) :: (some b3, blk (u8s a2.toList) 24) :: (some b2, blk (u8s a1.toList) 60) :: ((some b134, blk (⟨x116.address, .slice A122 x116.topics.length c123, .slice (((some b135)).map fun k => ⟨k, 0, none⟩) ([(BitVec.ofInt 8 z105)] : List (BitVec 8)).length 1⟩ : LogC).C 63) :: (((some b147), blk ((((u8s w107.toList) : List Value) ++ ((u8s x144.toList) : List Value)) ++ []) 27) :: (((some b138), blk ((((⟨x116.address, .slice A122 x116.topics.length c123, .slice (((some b135)).map fun k => ⟨k, 0, none⟩) ([(BitVec.ofInt 8 z105)] : List (BitVec 8)).length 1⟩ : LogC).C : List Value)) ++ []) 63) :: (((some b135), blk ((u8s ([(BitVec.ofInt 8 z105)] : List (BitVec 8))) ++ []) 5) :: B103))))) rfl ?_ rfl ?_ ?_ _ (.inl rfl)
    ·exact ⟨rfl, trivial⟩
    ·exact rfl
    ·exact (fun w m => m)
  ·replace hl109 := if_f hl109 h115
   refine CW.is_f rfl (decide_eq_false h115) ?_
   refine CW.exit (QW.then_x (QW.then_x (QW.block_xe ?_)))
   exact QW.join ⟨w107, B103, (Option.some.inj hl109).symm, (fun w m => hB104 w (m)), rfl, rfl⟩ ⟨rfl, rfl, rfl, rfl, rfl, trivial⟩ (fun w m => m.pick [0, 1, 2, 3] 4 rfl rfl)
end Go.Fw.Tryd
