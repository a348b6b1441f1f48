/- Part of a proof: rules that its law uses. -/
import Derived.Test.YtogfjkomkpbjpaaDoorTy
import Derived.Test.YtogfjkomkpbjpaaDoorExt
import Derived.Test.YtogfjkomkpbjpaaDoorKecW0
import Derived.Test.YtogfjkomkpbjpaaDoorKecWR
import Derived.Test.YtogfjkomkpbjpaaDoorLent02
import Derived.Test.YtogfjkomkpbjpaaDoorFw35
import Derived.Test.YtogfjkomkpbjpaaDoorKecP2
import Derived.Test.YtogfjkomkpbjpaaDoorKecP3
import Derived.Test.YtogfjkomkpbjpaaDoorKecP5
import Derived.Test.YtogfjkomkpbjpaaDoorKecP6
import Derived.Test.YtogfjkomkpbjpaaDoorKecQ2
namespace Go.Fw.Tryd
open Go Go.Proofs Go.Fw
set_option maxRecDepth 100000
set_option linter.unusedVariables false
set_option linter.unusedSimpArgs false
set_option maxHeartbeats 1000000
theorem keccak_Sponge_absorb_does (w0 : World) (Φ : Ctx) (N : List Ent) (hΦ : ∀ w, Mem w0 w N → Φ w) (b0_ : Nat) (a0 : Sponge) (new0 : Sponge) (hf : keccak_Sponge_absorb a0 = some new0) : DoesG Tryd.prog 43 [ptr (some b0_) 0] w0 [(some b0_, blk a0.C 73)] N (fun v G => ∃ B : List Ent, v = .tuple #[] ∧ G = (some b0_, blk new0.C 73) :: B) := by
 unfold keccak_Sponge_absorb at hf
 refine DoesG.enter Tryd.func43 rfl Tryd.ntmps43 rfl (M := ((some b0_, blk a0.C 73) :: ([] ++ N))) rfl ?_
 refine CW.seq (CW.seq (CW.region ?_))
 refine OW.rv (RV.move rfl) rfl ?_
 refine OW.rv (RV.nilCheck rfl) rfl ?_
 refine OW.rv (RV.field rfl rfl rfl rfl) rfl ?_
 refine OW.slot (ptr (some b0_) 26) rfl ?_
 refine OW.rv (RV.loadAo rfl (List.Mem.head _) rfl rfl rfl rfl (Sponge.C_part_all _) ((u8s_length _).trans Vector.length_toList)) rfl ?_
 refine OW.rv (RV.move rfl) rfl ?_
 refine OW.nil (QW.then_n ?_)
 obtain ⟨q1, hq2, hf⟩ := some_bind hf
 refine CW.cutJ (fun L' M' => ∃ w3 : Sponge, q1 = w3 ∧ L' = [(0, ptr (some b0_) 0)] ∧ M' = ((some b0_, blk w3.C 73) :: ([] ++ N))) ?_ ?_
 ·rintro L5 M6 ⟨w3, e4, e7, e8⟩
  rw [e7, e8]
  clear e7 e8 L5 M6
  clear hq2
  rw [e4] at hf
  clear e4
  try dsimp only at hf
  refine QW.then_n (CW.seq (CW.region ?_))
  refine OW.rv (RV.move rfl) rfl ?_
  refine OW.rv (RV.move rfl) rfl ?_
  refine OW.rv (RV.nilCheck rfl) rfl ?_
  refine OW.rv (RV.field rfl rfl rfl rfl) rfl ?_
  refine OW.slot (ptr (some b0_) 1) rfl ?_
  refine OW.rv (RV.loadAo rfl (List.Mem.head _) rfl rfl rfl rfl (Sponge.C_lanes_all _) ((u64s_length _).trans Vector.length_toList)) rfl ?_
  obtain ⟨x10, hx9, hf⟩ := some_bind hf
  refine OW.callG Tryd.call9 rfl (keccak_Permute_does w0 (More w0 Φ []) ((some b0_, blk w3.C 73) :: ([] ++ N)) (fun w m => More.of hΦ 1 m rfl) w3.lanes x10 hx9) rfl rfl ?_
  rintro _ G11 rfl
  refine OW.mem (M' := ((some b0_, blk w3.C 73) :: ([] ++ N))) (fun w m => m.appR) ?_
  refine OW.rv (RV.nilCheck rfl) rfl ?_
  refine OW.rv (RV.field rfl rfl rfl rfl) rfl ?_
  refine OW.slot (ptr (some b0_) 1) rfl ?_
  refine OW.sv (SV.storeAs rfl rfl rfl (u64s_one _) rfl ((u64s_length _).trans Vector.length_toList) (by rw [Sponge.C_length]; first | omega | decide)) ?_
  refine OW.cells ({ w3 with lanes := x10 } : Sponge).C (Sponge.C_lanes_spl _ _) ?_
  refine OW.nil (QW.then_n (CW.region ?_))
  refine OW.rv (RV.move rfl) rfl ?_
  refine OW.rv (RV.nilCheck rfl) rfl ?_
  refine OW.rv (RV.field rfl rfl rfl rfl) rfl ?_
  refine OW.slot (ptr (some b0_) 162) rfl ?_
  refine OW.sv (SV.store rfl rfl rfl rfl rfl (by rw [Sponge.C_length]; omega)) ?_
  refine OW.cells ({ ({ w3 with lanes := x10 } : Sponge) with held := (0 : Int) } : Sponge).C (Sponge.C_held_set _ _) ?_
  refine OW.nil ?_
  have e0 := Option.some.inj hf
  subst e0
  refine QW.retG (rs := []) ([]) ((some b0_, blk ({ ({ w3 with lanes := x10 } : Sponge) with held := (0 : Int) } : Sponge).C 73) :: []) rfl ?_ rfl ?_ ?_ _ (.inr rfl)
  ·exact trivial
  ·exact ⟨[], rfl, rfl⟩
  ·exact (fun w m => m.pick [0] 1 rfl rfl)
 ·skip
  refine CW.block ?_
  refine CW.loopJ (fun k L' M' => ∃ n13 : Nat, ∃ w15 : Sponge, (keccak_Sponge_absorb.l1 a0 k n13 w15) = some q1 ∧ (n13 ≤ 9223372036854775807) ∧ L' = [(0, ptr (some b0_) 0), (7, .agg (u8s a0.part.toList).toArray), (8, .int .i64 ((n13 : Nat) : Int))] ∧ M' = ((some b0_, blk w15.C 73) :: ([] ++ N))) (k0 := (136 - 0 + 2)) ⟨0, a0, hq2, (by omega), rfl, rfl⟩ ⟨rfl, rfl, rfl, trivial⟩ (fun w m => m.pick [0] 1 rfl rfl) ?_
  clear hq2
  rintro k16 L19 M20 ⟨n13, w15, hl17, b14, e21, e22⟩
  rw [e21, e22]
  clear e21 e22 L19 M20
  rcases k16 with _ | k16
  ·rw [keccak_Sponge_absorb.l1] at hl17; cases hl17
  rw [keccak_Sponge_absorb.l1] at hl17
  refine CW.seq (CW.region ?_)
  refine OW.rv (RV.lss rfl rfl) rfl ?_
  refine OW.slot (.bool (decide (n13 < 136))) (congrArg Value.bool (decide_eq_decide.2 (by omega))) ?_
  refine OW.nil (QW.then_n (CW.seq ?_))
  by_cases h23 : n13 < 136
  ·replace hl17 := if_t hl17 h23
   refine CW.is_t rfl (decide_eq_true h23) ?_
   refine CW.skip (QW.then_n (CW.seq (CW.block (CW.seq (CW.region ?_)))))
   refine OW.rv (RV.move rfl) rfl ?_
   obtain ⟨x24, hx25, hl17⟩ := some_bind hl17
   have hl26 := (Vector.getElem?_eq_some_iff.1 hx25).1
   refine OW.rv (RV.indexV (n13) rfl rfl rfl rfl rfl rfl rfl (by omega) (u8s_at (vat hx25))) rfl ?_
   refine OW.rv (RV.assign rfl) rfl ?_
   refine OW.rv (RV.assign rfl) rfl ?_
   refine OW.nil (QW.then_n ?_)
   refine CW.drawsX (([] ++ N)) [17] (fun w m => m.pick [] 1 rfl rfl) mixed (by kernel_rfl) ?_
   refine XW.rs 0 rfl (by kernel_rfl) rfl (RV.move rfl) rfl ?_
   refine XW.rs 1 rfl (by kernel_rfl) rfl (RV.move rfl) rfl ?_
   refine XW.rs 2 rfl (by kernel_rfl) rfl (RV.quo rfl rfl (by omega) (by omega) (by omega)) rfl ?_
   refine XW.slot (.int .i64 ((n13 / 8 : Nat) : Int)) (by first | rfl | (congr 1; omega)) ?_
   refine XW.rs 3 rfl (by kernel_rfl) rfl (RV.nilCheck rfl) rfl ?_
   refine XW.rs 4 rfl (by kernel_rfl) rfl (RV.field rfl rfl rfl rfl) rfl ?_
   refine XW.slot (ptr (some b0_) 1) rfl ?_
   obtain ⟨g27, hl17⟩ := some_if hl17
   refine XW.rs 5 rfl (by kernel_rfl) rfl (RV.idx_a ((n13 / 8)) rfl rfl rfl rfl rfl (by omega)) rfl ?_
   obtain ⟨x28, hx29, hl17⟩ := some_bind hl17
   refine XW.rv 6 rfl (by kernel_rfl) rfl (by kernel_rfl) (RV.load rfl (List.Mem.head _) rfl rfl rfl (Sponge.C_lanes _ hx29)) rfl ?_
   refine XW.rs 7 rfl (by kernel_rfl) rfl (RV.move rfl) rfl ?_
   refine XW.rs 8 rfl (by kernel_rfl) rfl (RV.conv8_64 rfl (by first | rfl | exact lit8 _ rfl) rfl rfl) rfl ?_
   refine XW.rs 9 rfl (by kernel_rfl) rfl (RV.move rfl) rfl ?_
   refine XW.rs 10 rfl (by kernel_rfl) rfl (RV.rem rfl rfl (by omega) (by omega)) rfl ?_
   refine XW.slot (.int .i64 ((n13 % 8 : Nat) : Int)) (by first | rfl | (congr 1; omega)) ?_
   refine XW.rs 11 rfl (by kernel_rfl) rfl (RV.mul rfl rfl (by omega)) rfl ?_
   refine XW.slot (.int .i64 (((8 * (n13 % 8)) : Nat) : Int)) (by first | rfl | (congr 1) | (congr 1; omega)) ?_
   refine XW.rs 12 rfl (by kernel_rfl) rfl (RV.shl64 (s := (8 * (n13 % 8))) rfl (by first | rfl | exact lit64 _ rfl) rfl (by first | rfl | (congr 1))) rfl ?_
   refine XW.rs 13 rfl (by kernel_rfl) rfl (RV.xor64 rfl (by first | rfl | exact lit64 _ rfl) rfl (by first | rfl | exact lit64 _ rfl)) rfl ?_
   refine XW.rs 14 rfl (by kernel_rfl) rfl (RV.nilCheck rfl) rfl ?_
   refine XW.rs 15 rfl (by kernel_rfl) rfl (RV.field rfl rfl rfl rfl) rfl ?_
   refine XW.slot (ptr (some b0_) 1) rfl ?_
   refine XW.rs 16 rfl (by kernel_rfl) rfl (RV.idx_a ((n13 / 8)) rfl rfl rfl rfl rfl (by omega)) rfl ?_
   refine XW.sv 17 rfl (by kernel_rfl) (SV.store rfl rfl rfl rfl rfl (by rw [Sponge.C_length]; omega)) (fun w m => m.pick [] 1 rfl rfl) ?_
   refine XW.cells ({ w15 with lanes := w15.lanes.setIfInBounds (n13 / 8) (x28 ^^^ ((x24.setWidth 64) <<< (8 * (n13 % 8)))) } : Sponge).C (Sponge.C_lanes_set _ (by omega) _) ?_
   refine XW.nil (by kernel_rfl) ?_
   refine QW.block_n (QW.then_n (CW.region ?_))
   refine OW.rv (RV.add rfl rfl (by omega)) rfl ?_
   refine OW.slot (.int .i64 (((n13 + 1) : Nat) : Int)) (by first | rfl | (congr 1) | (congr 1; omega)) ?_
   refine OW.rv (RV.move rfl) rfl ?_
   refine OW.nil ?_
   exact QW.againJ (k' := k16) (Nat.lt_succ_self _) ⟨(n13 + 1), ({ w15 with lanes := w15.lanes.setIfInBounds (n13 / 8) (x28 ^^^ ((x24.setWidth 64) <<< (8 * (n13 % 8)))) } : Sponge), hl17, (by omega), rfl, rfl⟩ ⟨rfl, rfl, rfl, trivial⟩ (fun w m => m.pick [0] 1 rfl rfl)
  ·replace hl17 := if_f hl17 h23
   refine CW.is_f rfl (decide_eq_false h23) ?_
   refine CW.exit (QW.then_x (QW.then_x (QW.block_xe ?_)))
   exact QW.join ⟨w15, (Option.some.inj hl17).symm, rfl, rfl⟩ ⟨rfl, trivial⟩ (fun w m => m.pick [0] 1 rfl rfl)
theorem keccak_Sponge_Write_does (w0 : World) (Φ : Ctx) (N : List Ent) (hΦ : ∀ w, Mem w0 w N → Φ w) (b0_ : Nat) (a0 : Sponge) (A1_ : Option Addr) (c1_ : Nat) (a1 : List (BitVec 8)) (new0 : Sponge) (va1 : View Φ A1_ a1.length c1_ 1 (u8s a1)) (hf : keccak_Sponge_Write a0 a1 = some new0) : DoesG Tryd.prog 22 [ptr (some b0_) 0, .slice A1_ a1.length c1_] w0 [(some b0_, blk a0.C 73)] N (fun v G => ∃ B : List Ent, v = .tuple #[] ∧ G = (some b0_, blk new0.C 73) :: B) := by
 unfold keccak_Sponge_Write at hf
 replace va1 := va1.mono (Ψ := More w0 Φ []) (fun w q => q.1)
 have m1 := va1.mx
 refine DoesG.enter Tryd.func22 rfl Tryd.ntmps22 rfl (M := ((some b0_, blk a0.C 73) :: ([] ++ N))) rfl ?_
 refine CW.seq (CW.seq (CW.region ?_))
 refine OW.rv (RV.move rfl) rfl ?_
 refine OW.rv (RV.eqlS rfl rfl rfl) rfl ?_
 refine OW.nil (QW.then_n ?_)
 refine CW.is_f rfl rfl ?_
 refine CW.skip (QW.then_n (CW.seq (CW.region ?_)))
 refine OW.rv (RV.move rfl) rfl ?_
 refine OW.rv (RV.nilCheck rfl) rfl ?_
 refine OW.rv (RV.field rfl rfl rfl rfl) rfl ?_
 refine OW.slot (ptr (some b0_) 163) rfl ?_
 refine OW.rv (RV.load rfl (List.Mem.head _) rfl rfl rfl (Sponge.C_long _)) rfl ?_
 refine OW.rv (RV.move rfl) rfl ?_
 refine OW.rv (RV.len rfl rfl) rfl ?_
 obtain ⟨g2, hf⟩ := some_if hf
 refine OW.rv (RV.add rfl rfl (by omega)) rfl ?_
 refine OW.rv (RV.nilCheck rfl) rfl ?_
 refine OW.rv (RV.field rfl rfl rfl rfl) rfl ?_
 refine OW.slot (ptr (some b0_) 163) rfl ?_
 refine OW.sv (SV.store rfl rfl rfl rfl rfl (by rw [Sponge.C_length]; omega)) ?_
 refine OW.cells ({ a0 with long := (a0.long + ((a1.length : Nat) : Int)) } : Sponge).C (Sponge.C_long_set _ _) ?_
 refine OW.nil (QW.then_n ?_)
 obtain ⟨q3, hq4, hf⟩ := some_bind hf
 refine CW.cutJ (fun L' M' => ∃ w7 : Sponge, ∃ B5 : List Ent, q3 = w7 ∧ (∀ w, Mem w0 w B5 → Mem w0 w []) ∧ L' = [] ∧ M' = ((some b0_, blk w7.C 73) :: (B5 ++ N))) ?_ ?_
 ·rintro L9 M10 ⟨w7, B5, e8, hB6, e11, e12⟩
  rw [e11, e12]
  clear e11 e12 L9 M10
  clear hq4
  rw [e8] at hf
  clear e8
  try dsimp only at hf
  have e0 := Option.some.inj hf
  subst e0
  refine QW.retG (rs := []) ([]) ((some b0_, blk w7.C 73) :: B5) rfl ?_ rfl ?_ ?_ _ (.inr rfl)
  ·exact trivial
  ·exact ⟨B5, rfl, rfl⟩
  ·exact (fun w m => m.pick [0] 1 rfl rfl)
 ·skip
  refine CW.block ?_
  refine CW.loopJ (fun k L' M' => ∃ l15 : List (BitVec 8), ∃ w19 : Sponge, ∃ B13 : List Ent, ∃ A16 : Option Addr, ∃ c17 : Nat, (keccak_Sponge_Write.l1 k l15 w19) = some q3 ∧ (∀ w, Mem w0 w B13 → Mem w0 w []) ∧ (View (More w0 Φ B13) A16 l15.length c17 1 (u8s l15)) ∧ L' = [(0, ptr (some b0_) 0), (1, .slice A16 l15.length c17)] ∧ M' = ((some b0_, blk w19.C 73) :: (B13 ++ N))) (k0 := (a1.length - 0 + 2)) ⟨a1, ({ a0 with long := (a0.long + ((a1.length : Nat) : Int)) } : Sponge), [], A1_, c1_, hq4, (fun w m => m), va1, rfl, rfl⟩ ⟨rfl, rfl, trivial⟩ (fun w m => m.pick [0] 1 rfl rfl) ?_
  clear hq4
  rintro k20 L23 M24 ⟨l15, w19, B13, A16, c17, hl21, hB14, v18, e25, e26⟩
  rw [e25, e26]
  clear e25 e26 L23 M24
  rcases k20 with _ | k20
  ·rw [keccak_Sponge_Write.l1] at hl21; cases hl21
  rw [keccak_Sponge_Write.l1] at hl21
  have m27 := v18.mx
  refine CW.seq (CW.seq (CW.region ?_))
  refine OW.rv (RV.move rfl) rfl ?_
  refine OW.rv (RV.len rfl rfl) rfl ?_
  refine OW.rv (RV.gtr rfl rfl) rfl ?_
  refine OW.slot (.bool (decide (0 < l15.length))) (congrArg Value.bool (decide_eq_decide.2 (by omega))) ?_
  refine OW.nil (QW.then_n ?_)
  by_cases h28 : 0 < l15.length
  ·replace hl21 := if_t hl21 h28
   refine CW.is_t rfl (decide_eq_true h28) ?_
   refine CW.skip (QW.then_n (CW.block (CW.seq ?_)))
   refine CW.drawsU 9 mixed (by kernel_rfl) rfl ?_
   refine UW.rv 0 rfl (by kernel_rfl) rfl (RV.move rfl) rfl ?_
   refine UW.rv 1 rfl (by kernel_rfl) rfl (RV.nilCheck rfl) rfl ?_
   refine UW.rv 2 rfl (by kernel_rfl) rfl (RV.field rfl rfl rfl rfl) rfl ?_
   refine UW.slot (ptr (some b0_) 26) rfl ?_
   refine UW.rv 3 rfl (by kernel_rfl) rfl (RV.move rfl) rfl ?_
   refine UW.rv 4 rfl (by kernel_rfl) rfl (RV.nilCheck rfl) rfl ?_
   refine UW.rv 5 rfl (by kernel_rfl) rfl (RV.field rfl rfl rfl rfl) rfl ?_
   refine UW.slot (ptr (some b0_) 162) rfl ?_
   refine UW.rv 6 rfl (by kernel_rfl) rfl (RV.load rfl (List.Mem.head _) rfl rfl rfl (Sponge.C_held _)) rfl ?_
   obtain ⟨g29, hl21⟩ := some_if hl21
   obtain ⟨g30, hl21⟩ := some_if hl21
   refine UW.rv 7 rfl (by kernel_rfl) rfl (RV.arr_loS ((w19.held).toNat) rfl rfl (by omega) rfl rfl (by omega)) rfl ?_
   refine UW.rv 8 rfl (by kernel_rfl) rfl (RV.move rfl) rfl ?_
   refine UW.nil (by kernel_rfl) ?_
   refine OW.copy (ob := some b0_) (off := 26 + ((w19.held).toNat)) rfl rfl rfl rfl (fun h => nomatch h) (by rw [Sponge.C_length]; omega) (fun w m => v18.rd w (More.of hΦ 1 m rfl)) (u8s_length _) (u8s_one _) (v18.zero (by decide)) rfl ?_
   refine OW.cells ({ w19 with part := cpV w19.part ((w19.held).toNat) (l15.take (min l15.length (136 - ((w19.held).toNat)))) } : Sponge).C (by rw [u8s_take]; exact Sponge.C_part_cpy _ (by rw [List.length_take]; omega)) ?_
   refine OW.rv (RV.assign rfl) rfl ?_
   refine OW.nil (QW.then_n (CW.seq (CW.region ?_)))
   refine OW.rv (RV.move rfl) rfl ?_
   refine OW.rv (RV.move rfl) rfl ?_
   obtain ⟨g32, hl21⟩ := some_if hl21
   refine OW.rv (RV.cut_lo (s := 1) ((min l15.length (136 - ((w19.held).toNat)))) rfl rfl (by omega) rfl rfl (by omega)) rfl ?_
   refine OW.slot (.slice (subA A16 c17 (min l15.length (136 - ((w19.held).toNat))) 1) (l15.drop (min l15.length (136 - ((w19.held).toNat)))).length (c17 - (min l15.length (136 - ((w19.held).toNat))))) (by rw [show ((l15.drop (min l15.length (136 - ((w19.held).toNat))))).length = (l15).length - ((min l15.length (136 - ((w19.held).toNat)))) from List.length_drop]) ?_
   have v31 : View (More w0 Φ B13) (subA A16 c17 (min l15.length (136 - ((w19.held).toNat))) 1) (l15.drop (min l15.length (136 - ((w19.held).toNat)))).length (c17 - (min l15.length (136 - ((w19.held).toNat)))) 1 (u8s (l15.drop (min l15.length (136 - ((w19.held).toNat))))) := v18.lo8 (by omega)
   have m33 := v31.mx
   refine OW.rv (RV.assign rfl) rfl ?_
   refine OW.nil (QW.then_n (CW.seq (CW.region ?_)))
   refine OW.rv (RV.move rfl) rfl ?_
   refine OW.rv (RV.nilCheck rfl) rfl ?_
   refine OW.rv (RV.field rfl rfl rfl rfl) rfl ?_
   refine OW.slot (ptr (some b0_) 162) rfl ?_
   refine OW.rv (RV.load rfl (List.Mem.head _) rfl rfl rfl (Sponge.C_held _)) rfl ?_
   refine OW.rv (RV.move rfl) rfl ?_
   obtain ⟨g34, hl21⟩ := some_if hl21
   refine OW.rv (RV.add rfl rfl (by omega)) rfl ?_
   refine OW.rv (RV.nilCheck rfl) rfl ?_
   refine OW.rv (RV.field rfl rfl rfl rfl) rfl ?_
   refine OW.slot (ptr (some b0_) 162) rfl ?_
   refine OW.sv (SV.store rfl rfl rfl rfl rfl (by rw [Sponge.C_length]; omega)) ?_
   refine OW.cells ({ ({ w19 with part := cpV w19.part ((w19.held).toNat) (l15.take (min l15.length (136 - ((w19.held).toNat)))) } : Sponge) with held := (({ w19 with part := cpV w19.part ((w19.held).toNat) (l15.take (min l15.length (136 - ((w19.held).toNat)))) } : Sponge).held + (((min l15.length (136 - ((w19.held).toNat))) : Nat) : Int)) } : Sponge).C (Sponge.C_held_set _ _) ?_
   refine OW.nil (QW.then_n (CW.seq (CW.region ?_)))
   refine OW.rv (RV.move rfl) rfl ?_
   refine OW.rv (RV.nilCheck rfl) rfl ?_
   refine OW.rv (RV.field rfl rfl rfl rfl) rfl ?_
   refine OW.slot (ptr (some b0_) 162) rfl ?_
   refine OW.rv (RV.load rfl (List.Mem.head _) rfl rfl rfl (Sponge.C_held _)) rfl ?_
   refine OW.rv (RV.eql rfl rfl) rfl ?_
   refine OW.nil (QW.then_n ?_)
   obtain ⟨q35, hq36, hl21⟩ := some_bind hl21
   refine CW.cutJ (fun L' M' => ∃ w39 : Sponge, ∃ B37 : List Ent, q35 = w39 ∧ (∀ w, Mem w0 w B37 → Mem w0 w B13) ∧ L' = [(0, ptr (some b0_) 0), (1, .slice (subA A16 c17 (min l15.length (136 - ((w19.held).toNat))) 1) (l15.drop (min l15.length (136 - ((w19.held).toNat)))).length (c17 - (min l15.length (136 - ((w19.held).toNat)))))] ∧ M' = ((some b0_, blk w39.C 73) :: (B37 ++ N))) ?_ ?_
   ·rintro L41 M42 ⟨w39, B37, e40, hB38, e43, e44⟩
    rw [e43, e44]
    clear e43 e44 L41 M42
    clear hq36
    rw [e40] at hl21
    clear e40
    try dsimp only at hl21
    have gq3 : ∀ w, More w0 Φ B37 w → More w0 Φ B13 w := fun w q => More.mono (fun w m => hB38 w (m)) q
    replace v31 := v31.mono gq3
    refine QW.block_n ?_
    exact QW.againJ (k' := k20) (Nat.lt_succ_self _) ⟨(l15.drop (min l15.length (136 - ((w19.held).toNat)))), w39, B37, (subA A16 c17 (min l15.length (136 - ((w19.held).toNat))) 1), (c17 - (min l15.length (136 - ((w19.held).toNat)))), hl21, (fun w m => hB14 w (hB38 w (m))), v31, rfl, rfl⟩ ⟨rfl, rfl, trivial⟩ (fun w m => m.pick [0] 1 rfl rfl)
   ·skip
    by_cases h45 : ({ ({ w19 with part := cpV w19.part ((w19.held).toNat) (l15.take (min l15.length (136 - ((w19.held).toNat)))) } : Sponge) with held := (({ w19 with part := cpV w19.part ((w19.held).toNat) (l15.take (min l15.length (136 - ((w19.held).toNat)))) } : Sponge).held + (((min l15.length (136 - ((w19.held).toNat))) : Nat) : Int)) } : Sponge).held = (136 : Int)
    ·replace hq36 := if_t hq36 h45
     refine CW.is_t rfl (decide_eq_true h45) ?_
     refine CW.region ?_
     refine OW.rv (RV.move rfl) rfl ?_
     obtain ⟨x47, hx46, hq36⟩ := some_bind hq36
     refine OW.callG Tryd.call43 rfl (keccak_Sponge_absorb_does w0 (More w0 Φ B13) ((B13 ++ N)) (fun w m => More.of hΦ 0 m rfl) b0_ ({ ({ w19 with part := cpV w19.part ((w19.held).toNat) (l15.take (min l15.length (136 - ((w19.held).toNat)))) } : Sponge) with held := (({ w19 with part := cpV w19.part ((w19.held).toNat) (l15.take (min l15.length (136 - ((w19.held).toNat)))) } : Sponge).held + (((min l15.length (136 - ((w19.held).toNat))) : Nat) : Int)) } : Sponge) x47 hx46) rfl rfl ?_
     rintro L49 M50 ⟨B48, e51, e52⟩
     rw [e51, e52]
     clear e51 e52 L49 M50
     refine OW.mem (M' := ((some b0_, blk x47.C 73) :: ((B48 ++ B13) ++ N))) (fun w m => by have h := Mem.sinkAt (A := B48) m 1 0 rfl rfl; exact h) ?_
     have gq4 : ∀ w, More w0 Φ (B48 ++ B13) w → More w0 Φ B13 w := fun w q => More.mono (fun w m => (m).appR) q
     replace v31 := v31.mono gq4
     replace v18 := v18.mono gq4
     refine OW.nil ?_
     exact QW.join ⟨x47, (B48 ++ B13), (Option.some.inj hq36).symm, (fun w m => (m).appR), rfl, rfl⟩ ⟨rfl, rfl, trivial⟩ (fun w m => m.pick [0] 1 rfl rfl)
    ·replace hq36 := if_f hq36 h45
     refine CW.is_f rfl (decide_eq_false h45) ?_
     refine CW.skip ?_
     exact QW.join ⟨({ ({ w19 with part := cpV w19.part ((w19.held).toNat) (l15.take (min l15.length (136 - ((w19.held).toNat)))) } : Sponge) with held := (({ w19 with part := cpV w19.part ((w19.held).toNat) (l15.take (min l15.length (136 - ((w19.held).toNat)))) } : Sponge).held + (((min l15.length (136 - ((w19.held).toNat))) : Nat) : Int)) } : Sponge), B13, (Option.some.inj hq36).symm, (fun w m => m), rfl, rfl⟩ ⟨rfl, rfl, trivial⟩ (fun w m => m.pick [0] 1 rfl rfl)
  ·replace hl21 := if_f hl21 h28
   refine CW.is_f rfl (decide_eq_false h28) ?_
   refine CW.exit (QW.then_x (QW.then_x (QW.block_xe ?_)))
   exact QW.join ⟨w19, B13, (Option.some.inj hl21).symm, (fun w m => hB14 w (m)), rfl, rfl⟩ trivial (fun w m => m.pick [0] 1 rfl rfl)
theorem keccak_Sponge_Sum_does (w0 : World) (Φ : Ctx) (N : List Ent) (hΦ : ∀ w, Mem w0 w N → Φ w) (b0_ : Nat) (a0 : Sponge) (res0 : Vector (BitVec 8) 32) (new0 : Sponge) (hg1 : View Φ (some ⟨1, 0, none⟩) 2 2 1 (u8s firstL)) (hf : keccak_Sponge_Sum a0 = some (res0, new0)) : DoesG Tryd.prog 23 [ptr (some b0_) 0] w0 [(some b0_, blk a0.C 73)] N (fun v G => ∃ B : List Ent, v = .agg (u8s res0.toList).toArray ∧ G = (some b0_, blk new0.C 73) :: B) := by
 unfold keccak_Sponge_Sum at hf
 replace hg1 := hg1.mono (Ψ := More w0 Φ []) (fun w q => q.1)
 refine DoesG.enter Tryd.func23 rfl Tryd.ntmps23 rfl (M := ((some b0_, blk a0.C 73) :: ([] ++ N))) rfl ?_
 refine CW.seq (CW.region ?_)
 refine OW.alloc (l := (u8s (Vector.replicate 32 0#8).toList)) rfl (by rw [Vector.toList_replicate, ← u8s_rep']; rfl) rfl (fun b1 => ?_)
 refine OW.nil (QW.then_n (CW.seq (CW.seq (CW.region ?_))))
 refine OW.rv (RV.move rfl) rfl ?_
 refine OW.rv (RV.eqlS rfl rfl rfl) rfl ?_
 refine OW.nil (QW.then_n ?_)
 refine CW.is_f rfl rfl ?_
 refine CW.skip (QW.then_n (CW.seq (CW.region ?_)))
 refine OW.rv (RV.move rfl) rfl ?_
 refine OW.rv (RV.nilCheck rfl) rfl ?_
 refine OW.rv (RV.loadW rfl (List.Mem.tail _ (List.Mem.head _)) rfl rfl rfl rfl (Sponge.C_length _)) rfl ?_
 refine OW.alloc (l := (⟨0, (Vector.replicate 25 0#64), (Vector.replicate 136 0#8), 0, 0⟩ : Sponge).C) rfl (by kernel_rfl) rfl (fun b2 => ?_)
 refine OW.sv (SV.storeW rfl rfl rfl (Sponge.C_one _) rfl (Sponge.C_length _) (Sponge.C_length _)) ?_
 refine OW.nil (QW.then_n (CW.seq (CW.region ?_)))
 refine OW.rv (RV.field rfl rfl rfl rfl) rfl ?_
 refine OW.slot (ptr (some b2) 26) rfl ?_
 refine OW.rv (RV.field rfl rfl rfl rfl) rfl ?_
 refine OW.slot (ptr (some b2) 162) rfl ?_
 refine OW.rv (RV.load rfl (List.Mem.head _) rfl rfl rfl (Sponge.C_held _)) rfl ?_
 obtain ⟨g3, hf⟩ := some_if hf
 obtain ⟨g4, hf⟩ := some_if hf
 refine OW.rv (RV.arr_loS ((a0.held).toNat) rfl rfl (by omega) rfl rfl (by omega)) rfl ?_
 refine OW.clear (z := .int .u8 0) (b := b2) (off := 26 + ((a0.held).toNat)) rfl rfl rfl rfl rfl (by omega) (by rw [Sponge.C_length]; omega) ?_
 refine OW.cells ({ a0 with part := cpV a0.part ((a0.held).toNat) (List.replicate (136 - ((a0.held).toNat)) 0#8) } : Sponge).C (by rw [u8s_rep0]; exact Sponge.C_part_cpy _ (by rw [List.length_replicate]; omega)) ?_
 refine OW.nil (QW.then_n (CW.seq ?_))
 refine CW.drawsX ((some b1, blk (u8s (Vector.replicate 32 0#8).toList) 29) :: (some b0_, blk a0.C 73) :: ([] ++ N)) [12] (fun w m => m.pick [1, 2] 3 rfl rfl) mixed (by kernel_rfl) ?_
 refine XW.rs 0 rfl (by kernel_rfl) rfl (RV.field rfl rfl rfl rfl) rfl ?_
 refine XW.slot (ptr (some b2) 162) rfl ?_
 refine XW.rv 1 rfl (by kernel_rfl) rfl (by kernel_rfl) (RV.load rfl (List.Mem.head _) rfl rfl rfl (Sponge.C_held _)) rfl ?_
 refine XW.rs 2 rfl (by kernel_rfl) rfl (RV.field rfl rfl rfl rfl) rfl ?_
 refine XW.slot (ptr (some b2) 26) rfl ?_
 obtain ⟨g5, hf⟩ := some_if hf
 obtain ⟨g6, hf⟩ := some_if hf
 refine XW.rs 3 rfl (by kernel_rfl) rfl (RV.idx_a ((({ a0 with part := cpV a0.part ((a0.held).toNat) (List.replicate (136 - ((a0.held).toNat)) 0#8) } : Sponge).held).toNat) rfl rfl (by omega) rfl rfl (by omega)) rfl ?_
 obtain ⟨x7, hx8, hf⟩ := some_bind hf
 refine XW.rv 4 rfl (by kernel_rfl) rfl (by kernel_rfl) (RV.load rfl (List.Mem.head _) rfl rfl rfl (Sponge.C_part _ hx8)) rfl ?_
 refine XW.rs 5 rfl (by kernel_rfl) rfl (RV.field rfl rfl rfl rfl) rfl ?_
 refine XW.slot (ptr (some b2) 0) rfl ?_
 refine XW.rv 6 rfl (by kernel_rfl) rfl (by kernel_rfl) (RV.load rfl (List.Mem.head _) rfl rfl rfl (Sponge.C_kind _)) rfl ?_
 obtain ⟨g9, hf⟩ := some_if hf
 obtain ⟨x10, hx11, hf⟩ := some_bind hf
 have hl12 : (({ a0 with part := cpV a0.part ((a0.held).toNat) (List.replicate (136 - ((a0.held).toNat)) 0#8) } : Sponge).kind).toNat < 2 := lt_of_at hx11
 refine XW.rs 7 rfl (by kernel_rfl) rfl (RV.idx_arr_at (a := ⟨1, 0, none⟩) rfl rfl rfl rfl (by omega) (by omega)) rfl ?_
 refine XW.slot (rptr (some ⟨1, 0, none⟩) ((({ a0 with part := cpV a0.part ((a0.held).toNat) (List.replicate (136 - ((a0.held).toNat)) 0#8) } : Sponge).kind).toNat)) (congrArg (fun k => Value.pointer (some (Addr.add ⟨1, 0, none⟩ k))) (Nat.mul_one _)) ?_
 refine XW.rs 8 rfl (by kernel_rfl) rfl (RV.load_at rfl rfl rfl (fun w m => hg1.cell (More.of hΦ 2 m rfl) (u8s_at hx11))) rfl ?_
 refine XW.rs 9 rfl (by kernel_rfl) rfl (RV.xor8 rfl (by first | rfl | exact lit8 _ rfl) rfl (by first | rfl | exact lit8 _ rfl)) rfl ?_
 refine XW.rs 10 rfl (by kernel_rfl) rfl (RV.field rfl rfl rfl rfl) rfl ?_
 refine XW.slot (ptr (some b2) 26) rfl ?_
 refine XW.rs 11 rfl (by kernel_rfl) rfl (RV.idx_a ((({ a0 with part := cpV a0.part ((a0.held).toNat) (List.replicate (136 - ((a0.held).toNat)) 0#8) } : Sponge).held).toNat) rfl rfl (by omega) rfl rfl (by omega)) rfl ?_
 refine XW.sv 12 rfl (by kernel_rfl) (SV.store rfl rfl rfl rfl rfl (by rw [Sponge.C_length]; omega)) (fun w m => m.pick [1, 2] 3 rfl rfl) ?_
 refine XW.cells ({ ({ a0 with part := cpV a0.part ((a0.held).toNat) (List.replicate (136 - ((a0.held).toNat)) 0#8) } : Sponge) with part := ({ a0 with part := cpV a0.part ((a0.held).toNat) (List.replicate (136 - ((a0.held).toNat)) 0#8) } : Sponge).part.setIfInBounds ((({ a0 with part := cpV a0.part ((a0.held).toNat) (List.replicate (136 - ((a0.held).toNat)) 0#8) } : Sponge).held).toNat) (x7 ^^^ x10) } : Sponge).C (Sponge.C_part_set _ (by omega) _) ?_
 refine XW.nil (by kernel_rfl) ?_
 refine QW.then_n (CW.seq (CW.region ?_))
 refine OW.rv (RV.field rfl rfl rfl rfl) rfl ?_
 refine OW.slot (ptr (some b2) 26) rfl ?_
 refine OW.rv (RV.idx_a (135) rfl rfl rfl rfl rfl (by omega)) rfl ?_
 refine OW.rv (RV.load rfl (List.Mem.head _) rfl rfl rfl (Sponge.C_part _ (Vector.getElem?_eq_getElem (by decide)))) rfl ?_
 refine OW.rv (RV.xor8 rfl (by first | rfl | exact lit8 _ rfl) rfl (by first | rfl | exact lit8 _ rfl)) rfl ?_
 refine OW.rv (RV.field rfl rfl rfl rfl) rfl ?_
 refine OW.slot (ptr (some b2) 26) rfl ?_
 refine OW.rv (RV.idx_a (135) rfl rfl rfl rfl rfl (by omega)) rfl ?_
 refine OW.sv (SV.store rfl rfl rfl rfl rfl (by rw [Sponge.C_length]; omega)) ?_
 refine OW.cells ({ ({ ({ a0 with part := cpV a0.part ((a0.held).toNat) (List.replicate (136 - ((a0.held).toNat)) 0#8) } : Sponge) with part := ({ a0 with part := cpV a0.part ((a0.held).toNat) (List.replicate (136 - ((a0.held).toNat)) 0#8) } : Sponge).part.setIfInBounds ((({ a0 with part := cpV a0.part ((a0.held).toNat) (List.replicate (136 - ((a0.held).toNat)) 0#8) } : Sponge).held).toNat) (x7 ^^^ x10) } : Sponge) with part := ({ ({ a0 with part := cpV a0.part ((a0.held).toNat) (List.replicate (136 - ((a0.held).toNat)) 0#8) } : Sponge) with part := ({ a0 with part := cpV a0.part ((a0.held).toNat) (List.replicate (136 - ((a0.held).toNat)) 0#8) } : Sponge).part.setIfInBounds ((({ a0 with part := cpV a0.part ((a0.held).toNat) (List.replicate (136 - ((a0.held).toNat)) 0#8) } : Sponge).held).toNat) (x7 ^^^ x10) } : Sponge).part.setIfInBounds 135 (({ ({ a0 with part := cpV a0.part ((a0.held).toNat) (List.replicate (136 - ((a0.held).toNat)) 0#8) } : Sponge) with part := ({ a0 with part := cpV a0.part ((a0.held).toNat) (List.replicate (136 - ((a0.held).toNat)) 0#8) } : Sponge).part.setIfInBounds ((({ a0 with part := cpV a0.part ((a0.held).toNat) (List.replicate (136 - ((a0.held).toNat)) 0#8) } : Sponge).held).toNat) (x7 ^^^ x10) } : Sponge).part[135] ^^^ 128#8) } : Sponge).C (Sponge.C_part_set _ (by omega) _) ?_
 refine OW.nil (QW.then_n (CW.seq (CW.region ?_)))
 obtain ⟨x14, hx13, hf⟩ := some_bind hf
 refine OW.callG Tryd.call43 rfl (keccak_Sponge_absorb_does w0 (More w0 Φ []) ((some b1, blk (u8s (Vector.replicate 32 0#8).toList) 29) :: (some b0_, blk a0.C 73) :: ([] ++ N)) (fun w m => More.of hΦ 2 m rfl) b2 ({ ({ ({ a0 with part := cpV a0.part ((a0.held).toNat) (List.replicate (136 - ((a0.held).toNat)) 0#8) } : Sponge) with part := ({ a0 with part := cpV a0.part ((a0.held).toNat) (List.replicate (136 - ((a0.held).toNat)) 0#8) } : Sponge).part.setIfInBounds ((({ a0 with part := cpV a0.part ((a0.held).toNat) (List.replicate (136 - ((a0.held).toNat)) 0#8) } : Sponge).held).toNat) (x7 ^^^ x10) } : Sponge) with part := ({ ({ a0 with part := cpV a0.part ((a0.held).toNat) (List.replicate (136 - ((a0.held).toNat)) 0#8) } : Sponge) with part := ({ a0 with part := cpV a0.part ((a0.held).toNat) (List.replicate (136 - ((a0.held).toNat)) 0#8) } : Sponge).part.setIfInBounds ((({ a0 with part := cpV a0.part ((a0.held).toNat) (List.replicate (136 - ((a0.held).toNat)) 0#8) } : Sponge).held).toNat) (x7 ^^^ x10) } : Sponge).part.setIfInBounds 135 (({ ({ a0 with part := cpV a0.part ((a0.held).toNat) (List.replicate (136 - ((a0.held).toNat)) 0#8) } : Sponge) with part := ({ a0 with part := cpV a0.part ((a0.held).toNat) (List.replicate (136 - ((a0.held).toNat)) 0#8) } : Sponge).part.setIfInBounds ((({ a0 with part := cpV a0.part ((a0.held).toNat) (List.replicate (136 - ((a0.held).toNat)) 0#8) } : Sponge).held).toNat) (x7 ^^^ x10) } : Sponge).part[135] ^^^ 128#8) } : Sponge) x14 hx13) rfl rfl ?_
 rintro L16 M17 ⟨B15, e18, e19⟩
 rw [e18, e19]
 clear e18 e19 L16 M17
 refine OW.mem (M' := ((some b2, blk x14.C 73) :: (some b1, blk (u8s (Vector.replicate 32 0#8).toList) 29) :: (some b0_, blk a0.C 73) :: ((B15 ++ []) ++ N))) (fun w m => by have h := Mem.sinkAt (A := B15) m 1 2 rfl rfl; exact h) ?_
 have gq1 : ∀ w, More w0 Φ (B15 ++ []) w → More w0 Φ [] w := fun w q => More.mono (fun w m => (m).appR) q
 replace hg1 := hg1.mono gq1
 refine OW.nil (QW.then_n (CW.seq (CW.region ?_)))
 refine OW.alloc (l := (u8s (Vector.replicate 32 0#8).toList)) rfl (by rw [Vector.toList_replicate, ← u8s_rep']; rfl) rfl (fun b20 => ?_)
 refine OW.nil (QW.then_n (CW.seq (CW.seq (CW.region ?_))))
 refine OW.rv (RV.move rfl) rfl ?_
 refine OW.nil (QW.then_n ?_)
 obtain ⟨q21, hq22, hf⟩ := some_bind hf
 refine CW.cutJ (fun L' M' => ∃ w23 : Vector (BitVec 8) 32, q21 = w23 ∧ L' = [(2, ptr (some b1) 0), (4, ptr (some b20) 0)] ∧ M' = ((some b20, blk (u8s w23.toList) 29) :: (some b1, blk (u8s (Vector.replicate 32 0#8).toList) 29) :: (some b0_, blk a0.C 73) :: ((B15 ++ []) ++ N))) ?_ ?_
 ·rintro L25 M26 ⟨w23, e24, e27, e28⟩
  rw [e27, e28]
  clear e27 e28 L25 M26
  clear hq22
  rw [e24] at hf
  clear e24
  try dsimp only at hf
  refine QW.then_n (CW.seq (CW.region ?_))
  refine OW.rv (RV.loadW rfl (List.Mem.head _) rfl rfl rfl rfl ((u8s_length _).trans Vector.length_toList)) rfl ?_
  refine OW.rot1 ?_
  refine OW.sv (SV.storeW rfl rfl rfl (u8s_one _) rfl ((u8s_length _).trans Vector.length_toList) ((u8s_length _).trans Vector.length_toList)) ?_
  refine OW.nil (QW.then_n (CW.ret ?_))
  have er0 := Option.some.inj hf
  obtain ⟨e0, er1⟩ := Prod.mk.inj er0
  clear er0
  subst e0
  subst er1
  refine QW.retG (rs := [.cell 2 29]) ([.agg (u8s w23.toList).toArray]) ((some b0_, blk a0.C 73) :: (B15 ++ [])) rfl ?_ rfl ?_ ?_ _ (.inl rfl)
  ·exact ⟨⟨_, _, _, _, rfl, (List.Mem.head _), rfl, rfl, (congrArg some ((u8s_length _).trans Vector.length_toList).symm), rfl⟩, trivial⟩
  ·exact ⟨(B15 ++ []), rfl, rfl⟩
  ·exact (fun w m => m.pick [2] 3 rfl rfl)
 ·skip
  refine CW.block ?_
  refine CW.loopJ (fun k L' M' => ∃ n29 : Nat, ∃ w31 : Vector (BitVec 8) 32, (keccak_Sponge_Sum.l1 x14 k n29 w31) = some q21 ∧ (n29 ≤ 9223372036854775807) ∧ L' = [(2, ptr (some b1) 0), (3, ptr (some b2) 0), (4, ptr (some b20) 0), (35, .int .i64 ((n29 : Nat) : Int))] ∧ M' = ((some b20, blk (u8s w31.toList) 29) :: (some b2, blk x14.C 73) :: (some b1, blk (u8s (Vector.replicate 32 0#8).toList) 29) :: (some b0_, blk a0.C 73) :: ((B15 ++ []) ++ N))) (k0 := (32 - 0 + 2)) ⟨0, (Vector.replicate 32 0#8), hq22, (by omega), rfl, rfl⟩ ⟨rfl, rfl, rfl, rfl, trivial⟩ (fun w m => m.pick [0, 1, 2, 3] 4 rfl rfl) ?_
  clear hq22
  rintro k32 L35 M36 ⟨n29, w31, hl33, b30, e37, e38⟩
  rw [e37, e38]
  clear e37 e38 L35 M36
  rcases k32 with _ | k32
  ·rw [keccak_Sponge_Sum.l1] at hl33; cases hl33
  rw [keccak_Sponge_Sum.l1] at hl33
  refine CW.seq (CW.region ?_)
  refine OW.rv (RV.lss rfl rfl) rfl ?_
  refine OW.slot (.bool (decide (n29 < 32))) (congrArg Value.bool (decide_eq_decide.2 (by omega))) ?_
  refine OW.nil (QW.then_n (CW.seq ?_))
  by_cases h39 : n29 < 32
  ·replace hl33 := if_t hl33 h39
   refine CW.is_t rfl (decide_eq_true h39) ?_
   refine CW.skip (QW.then_n (CW.seq (CW.block (CW.seq (CW.region ?_)))))
   refine OW.rv (RV.move rfl) rfl ?_
   refine OW.rv (RV.assign rfl) rfl ?_
   refine OW.nil (QW.then_n (CW.region ?_))
   refine OW.rv (RV.move rfl) rfl ?_
   refine OW.rv (RV.move rfl) rfl ?_
   refine OW.rv (RV.quo rfl rfl (by omega) (by omega) (by omega)) rfl ?_
   refine OW.slot (.int .i64 ((n29 / 8 : Nat) : Int)) (by first | rfl | (congr 1; omega)) ?_
   refine OW.rv (RV.field rfl rfl rfl rfl) rfl ?_
   refine OW.slot (ptr (some b2) 1) rfl ?_
   obtain ⟨g40, hl33⟩ := some_if hl33
   refine OW.rv (RV.idx_a ((n29 / 8)) rfl rfl rfl rfl rfl (by omega)) rfl ?_
   obtain ⟨x41, hx42, hl33⟩ := some_bind hl33
   refine OW.rv (RV.load rfl (List.Mem.tail _ (List.Mem.head _)) rfl rfl rfl (Sponge.C_lanes _ hx42)) rfl ?_
   refine OW.rv (RV.move rfl) rfl ?_
   refine OW.rv (RV.rem rfl rfl (by omega) (by omega)) rfl ?_
   refine OW.slot (.int .i64 ((n29 % 8 : Nat) : Int)) (by first | rfl | (congr 1; omega)) ?_
   refine OW.rv (RV.mul rfl rfl (by omega)) rfl ?_
   refine OW.slot (.int .i64 (((8 * (n29 % 8)) : Nat) : Int)) (by first | rfl | (congr 1) | (congr 1; omega)) ?_
   refine OW.rv (RV.shr64 (s := (8 * (n29 % 8))) rfl (by first | rfl | exact lit64 _ rfl) rfl (by first | rfl | (congr 1))) rfl ?_
   refine OW.rv (RV.conv64_8 rfl (by first | rfl | exact lit64 _ rfl) rfl rfl) rfl ?_
   refine OW.rv (RV.idx_a (n29) rfl rfl rfl rfl rfl (by omega)) rfl ?_
   refine OW.sv (SV.store rfl rfl rfl rfl rfl (by rw [u8s_length, Vector.length_toList]; omega)) ?_
   refine OW.cells (u8s (w31.setIfInBounds n29 ((x41 >>> (8 * (n29 % 8))).setWidth 8)).toList) (by rw [Nat.zero_add, u8s_set', vset]) ?_
   refine OW.nil (QW.block_n (QW.then_n (CW.region ?_)))
   refine OW.rv (RV.add rfl rfl (by omega)) rfl ?_
   refine OW.slot (.int .i64 (((n29 + 1) : Nat) : Int)) (by first | rfl | (congr 1) | (congr 1; omega)) ?_
   refine OW.rv (RV.move rfl) rfl ?_
   refine OW.nil ?_
   exact QW.againJ (k' := k32) (Nat.lt_succ_self _) ⟨(n29 + 1), (w31.setIfInBounds n29 ((x41 >>> (8 * (n29 % 8))).setWidth 8)), hl33, (by omega), rfl, rfl⟩ ⟨rfl, rfl, rfl, rfl, trivial⟩ (fun w m => m.pick [0, 1, 2, 3] 4 rfl rfl)
  ·replace hl33 := if_f hl33 h39
   refine CW.is_f rfl (decide_eq_false h39) ?_
   refine CW.exit (QW.then_x (QW.then_x (QW.block_xe ?_)))
   exact QW.join ⟨w31, (Option.some.inj hl33).symm, rfl, rfl⟩ ⟨rfl, rfl, trivial⟩ (fun w m => m.pick [0, 2, 3] 4 rfl rfl)
theorem keccak_digest_does (w0 : World) (Φ : Ctx) (N : List Ent) (hΦ : ∀ w, Mem w0 w N → Φ w) (a0 : Int) (A1_ : Option Addr) (c1_ : Nat) (cs1_ : List Value) (a1 : List (List (BitVec 8))) (res0 : Vector (BitVec 8) 32) (ba0 : -9223372036854775808 ≤ a0 ∧ a0 ≤ 9223372036854775807) (va1 : View Φ A1_ a1.length c1_ 1 cs1_) (ha1 : Reps (BsRd Φ) cs1_ a1) (hg1 : View Φ (some ⟨1, 0, none⟩) 2 2 1 (u8s firstL)) (hf : keccak_digest a0 a1 = some res0) : DoesG Tryd.prog 38 [.int .i64 a0, .slice A1_ a1.length c1_] w0 [] N (fun v G => v = .agg (u8s res0.toList).toArray) := by
 unfold keccak_digest at hf
 replace va1 := va1.mono (Ψ := More w0 Φ []) (fun w q => q.1)
 replace hg1 := hg1.mono (Ψ := More w0 Φ []) (fun w q => q.1)
 replace ha1 := ha1.mono (BsRd.mono (Ψ := More w0 Φ []) (fun w q => q.1))
 have m1 := va1.mx
 refine DoesG.enter Tryd.func38 rfl Tryd.ntmps38 rfl (M := (([] ++ N))) rfl ?_
 refine CW.seq (CW.region ?_)
 refine OW.alloc (l := (u8s (Vector.replicate 32 0#8).toList)) rfl (by rw [Vector.toList_replicate, ← u8s_rep']; rfl) rfl (fun b2 => ?_)
 refine OW.nil (QW.then_n (CW.seq (CW.region ?_)))
 refine OW.rv (RV.move rfl) rfl ?_
 refine OW.rv (RV.buildSt (l := (⟨0, (Vector.replicate 25 0#64), (Vector.replicate 136 0#8), 0, 0⟩ : Sponge).C) (cs := ({ (⟨0, (Vector.replicate 25 0#64), (Vector.replicate 136 0#8), 0, 0⟩ : Sponge) with kind := a0 } : Sponge).C) [(0, [.int .i64 a0])] rfl rfl rfl rfl rfl rfl rfl) rfl ?_
 refine OW.alloc (l := (⟨0, (Vector.replicate 25 0#64), (Vector.replicate 136 0#8), 0, 0⟩ : Sponge).C) rfl (by kernel_rfl) rfl (fun b3 => ?_)
 refine OW.sv (SV.storeW rfl rfl rfl (Sponge.C_one _) rfl (Sponge.C_length _) (Sponge.C_length _)) ?_
 refine OW.nil (QW.then_n (CW.seq (CW.seq (CW.region ?_))))
 refine OW.rv (RV.move rfl) rfl ?_
 refine OW.rv (RV.len rfl rfl) rfl ?_
 refine OW.rv (RV.move rfl) rfl ?_
 refine OW.nil (QW.then_n ?_)
 obtain ⟨q4, hq5, hf⟩ := some_bind hf
 refine CW.cutJ (fun L' M' => ∃ w8 : Sponge, ∃ B6 : List Ent, q4 = w8 ∧ (∀ w, Mem w0 w B6 → Mem w0 w []) ∧ L' = [(4, ptr (some b2) 0), (5, ptr (some b3) 0)] ∧ M' = ((some b3, blk w8.C 73) :: (some b2, blk (u8s (Vector.replicate 32 0#8).toList) 29) :: (B6 ++ N))) ?_ ?_
 ·rintro L10 M11 ⟨w8, B6, e9, hB7, e12, e13⟩
  rw [e12, e13]
  clear e12 e13 L10 M11
  clear hq5
  rw [e9] at hf
  clear e9
  try dsimp only at hf
  have gq1 : ∀ w, More w0 Φ B6 w → More w0 Φ [] w := fun w q => More.mono (fun w m => hB7 w (m)) q
  replace hg1 := hg1.mono gq1
  refine QW.then_n (CW.seq (CW.region ?_))
  obtain ⟨⟨x15, x16⟩, hx14, hf⟩ := some_bind hf
  try dsimp only at hf
  refine OW.callG Tryd.call23 rfl (keccak_Sponge_Sum_does w0 (More w0 Φ B6) ((some b2, blk (u8s (Vector.replicate 32 0#8).toList) 29) :: (B6 ++ N)) (fun w m => More.of hΦ 1 m rfl) b3 w8 x15 x16 hg1 hx14) rfl rfl ?_
  rintro L18 M19 ⟨B17, e20, e21⟩
  rw [e20, e21]
  clear e20 e21 L18 M19
  refine OW.mem (M' := ((some b3, blk x16.C 73) :: (some b2, blk (u8s (Vector.replicate 32 0#8).toList) 29) :: ((B17 ++ B6) ++ N))) (fun w m => by have h := Mem.sinkAt (A := B17) m 1 1 rfl rfl; exact h) ?_
  have gq2 : ∀ w, More w0 Φ (B17 ++ B6) w → More w0 Φ B6 w := fun w q => More.mono (fun w m => (m).appR) q
  replace hg1 := hg1.mono gq2
  refine OW.rot1 ?_
  refine OW.sv (SV.storeW rfl rfl rfl (u8s_one _) rfl ((u8s_length _).trans Vector.length_toList) ((u8s_length _).trans Vector.length_toList)) ?_
  refine OW.nil (QW.then_n (CW.ret ?_))
  have e0 := Option.some.inj hf
  subst e0
  refine QW.retG (rs := [.cell 4 29]) ([.agg (u8s x15.toList).toArray]) ((some b2, blk (u8s x15.toList) 29) :: (some b3, blk x16.C 73) :: (B17 ++ B6)) rfl ?_ rfl ?_ ?_ _ (.inl rfl)
  ·exact ⟨⟨_, _, _, _, rfl, (List.Mem.head _), rfl, rfl, (congrArg some ((u8s_length _).trans Vector.length_toList).symm), rfl⟩, trivial⟩
  ·exact rfl
  ·exact (fun w m => m)
 ·skip
  refine CW.block ?_
  refine CW.loopJ (fun k L' M' => ∃ n24 : Nat, ∃ w26 : Sponge, ∃ B22 : List Ent, (keccak_digest.l1 a1 k n24 w26) = some q4 ∧ (∀ w, Mem w0 w B22 → Mem w0 w []) ∧ (n24 ≤ 9223372036854775807) ∧ L' = [(4, ptr (some b2) 0), (5, ptr (some b3) 0), (10, .slice A1_ a1.length c1_), (11, .int .i64 ((a1.length : Nat) : Int)), (12, .int .i64 ((n24 : Nat) : Int))] ∧ M' = ((some b3, blk w26.C 73) :: (some b2, blk (u8s (Vector.replicate 32 0#8).toList) 29) :: (B22 ++ N))) (k0 := (a1.length - 0 + 2)) ⟨0, ({ (⟨0, (Vector.replicate 25 0#64), (Vector.replicate 136 0#8), 0, 0⟩ : Sponge) with kind := a0 } : Sponge), [], hq5, (fun w m => m), (by omega), rfl, rfl⟩ ⟨rfl, rfl, rfl, rfl, rfl, trivial⟩ (fun w m => m.pick [0, 1] 2 rfl rfl) ?_
  clear hq5
  rintro k27 L30 M31 ⟨n24, w26, B22, hl28, hB23, b25, e32, e33⟩
  rw [e32, e33]
  clear e32 e33 L30 M31
  rcases k27 with _ | k27
  ·rw [keccak_digest.l1] at hl28; cases hl28
  rw [keccak_digest.l1] at hl28
  have gq3 : ∀ w, More w0 Φ B22 w → More w0 Φ [] w := fun w q => More.mono (fun w m => hB23 w (m)) q
  replace va1 := va1.mono gq3
  replace ha1 := ha1.mono (BsRd.mono gq3)
  replace hg1 := hg1.mono gq3
  refine CW.seq (CW.region ?_)
  refine OW.rv (RV.lss rfl rfl) rfl ?_
  refine OW.slot (.bool (decide (n24 < a1.length))) (congrArg Value.bool (decide_eq_decide.2 (by omega))) ?_
  refine OW.nil (QW.then_n (CW.seq ?_))
  by_cases h34 : n24 < a1.length
  ·replace hl28 := if_t hl28 h34
   refine CW.is_t rfl (decide_eq_true h34) ?_
   refine CW.skip (QW.then_n (CW.seq (CW.block (CW.seq (CW.region ?_)))))
   obtain ⟨x35, hx36, hl28⟩ := some_bind hl28
   have hl37 := lt_of_at hx36
   refine OW.rv (RV.idx_r (n24) rfl rfl rfl rfl rfl (va1.isSome (by decide) hl37) (by omega)) rfl ?_
   obtain ⟨cs38, h39, h40⟩ := ha1.get BsRd.len hx36
   obtain ⟨A41, c42, e44, v43⟩ := h39
   subst e44
   have m45 := v43.mx
   refine OW.rv (RV.load_at rfl rfl rfl (fun w m => by have := va1.load (More.of hΦ 2 m rfl) h40 0 _ rfl; simpa [Addr.add] using this)) rfl ?_
   refine OW.rv (RV.assign rfl) rfl ?_
   refine OW.nil (QW.then_n (CW.region ?_))
   refine OW.rv (RV.move rfl) rfl ?_
   obtain ⟨x47, hx46, hl28⟩ := some_bind hl28
   refine OW.callG Tryd.call22 rfl (keccak_Sponge_Write_does w0 (More w0 Φ B22) ((some b2, blk (u8s (Vector.replicate 32 0#8).toList) 29) :: (B22 ++ N)) (fun w m => More.of hΦ 1 m rfl) b3 w26 A41 c42 x35 x47 v43 hx46) rfl rfl ?_
   rintro L49 M50 ⟨B48, e51, e52⟩
   rw [e51, e52]
   clear e51 e52 L49 M50
   refine OW.mem (M' := ((some b3, blk x47.C 73) :: (some b2, blk (u8s (Vector.replicate 32 0#8).toList) 29) :: ((B48 ++ B22) ++ N))) (fun w m => by have h := Mem.sinkAt (A := B48) m 1 1 rfl rfl; exact h) ?_
   have gq4 : ∀ w, More w0 Φ (B48 ++ B22) w → More w0 Φ B22 w := fun w q => More.mono (fun w m => (m).appR) q
   replace va1 := va1.mono gq4
   replace ha1 := ha1.mono (BsRd.mono gq4)
   replace v43 := v43.mono gq4
   replace hg1 := hg1.mono gq4
   refine OW.nil (QW.block_n (QW.then_n (CW.region ?_)))
   refine OW.rv (RV.add rfl rfl (by omega)) rfl ?_
   refine OW.slot (.int .i64 (((n24 + 1) : Nat) : Int)) (by first | rfl | (congr 1) | (congr 1; omega)) ?_
   refine OW.rv (RV.move rfl) rfl ?_
   refine OW.nil ?_
   exact QW.againJ (k' := k27) (Nat.lt_succ_self _) ⟨(n24 + 1), x47, (B48 ++ B22), hl28, (fun w m => hB23 w ((m).appR)), (by omega), rfl, rfl⟩ ⟨rfl, rfl, rfl, rfl, rfl, trivial⟩ (fun w m => m.pick [0, 1] 2 rfl rfl)
  ·replace hl28 := if_f hl28 h34
   refine CW.is_f rfl (decide_eq_false h34) ?_
   refine CW.exit (QW.then_x (QW.then_x (QW.block_xe ?_)))
   exact QW.join ⟨w26, B22, (Option.some.inj hl28).symm, (fun w m => hB23 w (m)), rfl, rfl⟩ ⟨rfl, rfl, trivial⟩ (fun w m => m.pick [0, 1] 2 rfl rfl)
theorem keccak_Sum_does (w0 : World) (Φ : Ctx) (N : List Ent) (hΦ : ∀ w, Mem w0 w N → Φ w) (A0_ : Option Addr) (c0_ : Nat) (cs0_ : List Value) (a0 : List (List (BitVec 8))) (res0 : Vector (BitVec 8) 32) (va0 : View Φ A0_ a0.length c0_ 1 cs0_) (ha0 : Reps (BsRd Φ) cs0_ a0) (hg1 : View Φ (some ⟨1, 0, none⟩) 2 2 1 (u8s firstL)) (hf : keccak_Sum a0 = some res0) : DoesG Tryd.prog 12 [.slice A0_ a0.length c0_] w0 [] N (fun v G => v = .agg (u8s res0.toList).toArray) := by
 unfold keccak_Sum at hf
 replace va0 := va0.mono (Ψ := More w0 Φ []) (fun w q => q.1)
 replace hg1 := hg1.mono (Ψ := More w0 Φ []) (fun w q => q.1)
 replace ha0 := ha0.mono (BsRd.mono (Ψ := More w0 Φ []) (fun w q => q.1))
 have m1 := va0.mx
 refine DoesG.enter Tryd.func12 rfl Tryd.ntmps12 rfl (M := (([] ++ N))) rfl ?_
 refine CW.seq (CW.region ?_)
 refine OW.alloc (l := (u8s (Vector.replicate 32 0#8).toList)) rfl (by rw [Vector.toList_replicate, ← u8s_rep']; rfl) rfl (fun b2 => ?_)
 refine OW.nil (QW.then_n (CW.seq (CW.region ?_)))
 refine OW.rv (RV.move rfl) rfl ?_
 obtain ⟨x4, hx3, hf⟩ := some_bind hf
 refine OW.callG Tryd.call38 rfl (keccak_digest_does w0 (More w0 Φ []) ((some b2, blk (u8s (Vector.replicate 32 0#8).toList) 29) :: ([] ++ N)) (fun w m => More.of hΦ 1 m rfl) (0 : Int) A0_ c0_ cs0_ a0 x4 (by omega) va0 ha0 hg1 hx3) rfl rfl ?_
 rintro _ G5 rfl
 refine OW.mem (M' := ((some b2, blk (u8s (Vector.replicate 32 0#8).toList) 29) :: ([] ++ N))) (fun w m => m.appR) ?_
 refine OW.sv (SV.storeW rfl rfl rfl (u8s_one _) rfl ((u8s_length _).trans Vector.length_toList) ((u8s_length _).trans Vector.length_toList)) ?_
 refine OW.nil (QW.then_n (CW.ret ?_))
 have e0 := Option.some.inj hf
 subst e0
 refine QW.retG (rs := [.cell 2 29]) ([.agg (u8s x4.toList).toArray]) ((some b2, blk (u8s x4.toList) 29) :: []) rfl ?_ rfl ?_ ?_ _ (.inl rfl)
 ·exact ⟨⟨_, _, _, _, rfl, (List.Mem.head _), rfl, rfl, (congrArg some ((u8s_length _).trans Vector.length_toList).symm), rfl⟩, trivial⟩
 ·exact rfl
 ·exact (fun w m => m)
theorem waybillref02_filled_does (w0 : World) (Φ : Ctx) (N : List Ent) (hΦ : ∀ w, Mem w0 w N → Φ w) (A0_ : Option Addr) (c0_ : Nat) (a0 : List (BitVec 8)) (a1 : BitVec 8) (res0 : List (BitVec 8)) (va0 : View Φ A0_ a0.length c0_ 1 (u8s a0)) (hf : waybillref02_filled a0 a1 = some res0) : DoesG Tryd.prog 55 [.slice A0_ a0.length c0_, U8 a1] w0 [] N (fun v G => ∃ B : List Ent, ∃ or0 : Option Nat, ∃ kr0 : Nat, ∃ rr0 : List Value, (OwnS or0 res0.length kr0 1 (u8s res0) rr0) ∧ v = sl or0 0 res0.length kr0 ∧ G = (or0, blk ((u8s res0) ++ rr0) 5) :: B) := by
 unfold waybillref02_filled at hf
 replace va0 := va0.mono (Ψ := More w0 Φ []) (fun w q => q.1)
 have m1 := va0.mx
 refine DoesG.enter Tryd.func55 rfl Tryd.ntmps55 rfl (M := (([] ++ N))) rfl ?_
 refine CW.seq (CW.region ?_)
 refine OW.rv (RV.assign rfl) rfl ?_
 refine OW.nil (QW.then_n (CW.seq (CW.region ?_)))
 refine OW.rv (RV.assign rfl) rfl ?_
 refine OW.nil (QW.then_n (CW.seq (CW.region ?_)))
 refine OW.rv (RV.move rfl) rfl ?_
 refine OW.rv (RV.move rfl) rfl ?_
 refine OW.mem (M' := ((none, blk ((u8s ([] : List (BitVec 8))) ++ []) 5) :: ([] ++ N))) (fun w m => m.nil_ent _) ?_
 refine OW.appendOwn (s := 1) rfl rfl rfl rfl rfl rfl OwnS.nil (fun w m => va0.rd w (More.of hΦ 1 m rfl)) va0.n (u8s_one _) (va0.zero (by decide)) (by decide) (by decide) (by first | omega | (simp only [i5, List.length_nil]; omega)) rfl rfl (a0.length) (u8s a0) (Nat.zero_add _) rfl (fun ob2 r3 c4 o5 => ?_)
 have m6 := o5.mx
 refine OW.rv (RV.assign rfl) rfl ?_
 refine OW.nil (QW.then_n (CW.seq (CW.region ?_)))
 refine OW.rv (RV.move rfl) rfl ?_
 refine OW.rv (RV.move rfl) rfl ?_
 refine OW.ofN (NV.bs1 rfl rfl rfl rfl rfl rfl) rfl (fun b7 => ?_)
 refine OW.mem (M' := (((some b7), blk ((u8s ([a1] : List (BitVec 8))) ++ []) 5) :: (ob2, blk ((u8s a0) ++ r3) 5) :: ([] ++ N))) (fun w m => by first | exact m | simpa [u8s] using m) ?_
 have o8 : OwnS (some b7) ([a1] : List (BitVec 8)).length 1 1 (u8s ([a1] : List (BitVec 8))) [] := ⟨by simp [u8s], by simp [u8s], (fun h => nomatch h), by simp⟩
 refine OW.slot (sl (some b7) 0 ([a1] : List (BitVec 8)).length 1) (rfl) ?_
 refine OW.rot1 ?_
 obtain ⟨g9, hf⟩ := some_if hf
 refine OW.appendOwn (s := 1) rfl rfl rfl rfl rfl rfl o5 (fun w m => m.rd0 (List.Mem.tail _ (List.Mem.head _)) (fun e => o8.nilc (by decide) e)) o8.n (u8s_one _) (o8.zeroO (by decide)) (by decide) (by decide) (by first | omega | (simp only [i5, List.length_nil]; omega)) rfl rfl ((a0 ++ ([a1] : List (BitVec 8))).length) (u8s (a0 ++ ([a1] : List (BitVec 8)))) (List.length_append ..).symm (u8s_app _ _) (fun ob10 r11 c12 o13 => ?_)
 have m14 := o13.mx
 refine OW.rv (RV.assign rfl) rfl ?_
 refine OW.nil (QW.then_n (CW.seq ?_))
 obtain ⟨q15, hq16, hf⟩ := some_bind hf
 refine CW.cutJ (fun L' M' => ∃ l17 : List (BitVec 8), ∃ ob18 : Option Nat, ∃ c19 : Nat, ∃ r20 : List Value, q15 = l17 ∧ (OwnS ob18 l17.length c19 1 (u8s l17) r20) ∧ L' = [(5, sl ob18 0 l17.length c19)] ∧ M' = ((ob18, blk ((u8s l17) ++ r20) 5) :: ([] ++ N))) ?_ ?_
 ·rintro L23 M24 ⟨l17, ob18, c19, r20, e22, o21, e25, e26⟩
  rw [e25, e26]
  clear e25 e26 L23 M24
  clear hq16
  rw [e22] at hf
  clear e22
  try dsimp only at hf
  have m27 := o21.mx
  refine QW.then_n (CW.seq (CW.region ?_))
  refine OW.rv (RV.move rfl) rfl ?_
  refine OW.rv (RV.move rfl) rfl ?_
  refine OW.rv (RV.len rfl rfl) rfl ?_
  refine OW.rv (RV.sub rfl rfl (by omega)) rfl ?_
  refine OW.rv (RV.move rfl) rfl ?_
  refine OW.rv (RV.move rfl) rfl ?_
  refine OW.rv (RV.len rfl rfl) rfl ?_
  refine OW.rv (RV.sub rfl rfl (by omega)) rfl ?_
  obtain ⟨g28, hf⟩ := some_if hf
  obtain ⟨x29, hx30, hf⟩ := some_bind hf
  have hl31 := lt_of_at hx30
  refine OW.rv (RV.idx_o (((((l17.length : Nat) : Int) - (1 : Int))).toNat) rfl rfl (by omega) rfl rfl (o21.isSome (by decide) hl31) (by omega)) rfl ?_
  refine OW.rv (RV.load rfl (List.Mem.head _) (o21.isSome (by decide) hl31) rfl rfl (own_at0 (u8s_at hx30))) rfl ?_
  refine OW.rv (RV.or8 rfl (by first | rfl | exact lit8 _ rfl) rfl (by first | rfl | exact lit8 _ rfl)) rfl ?_
  obtain ⟨x32, hx33, hf⟩ := some_bind hf
  have hl34 := lt_of_at hx33
  refine OW.rv (RV.idx_o (((((l17.length : Nat) : Int) - (1 : Int))).toNat) rfl rfl (by omega) rfl rfl (o21.isSome (by decide) hl34) (by omega)) rfl ?_
  refine OW.sv (SV.store rfl (o21.isSome (by decide) hl34) rfl rfl rfl (by rw [List.length_append, u8s_length]; omega)) ?_
  refine OW.cells ((u8s (l17.set (((((l17.length : Nat) : Int) - (1 : Int))).toNat) (x29 ||| 128#8))) ++ r20) (by rw [Nat.zero_add, List.set_append_left _ _ (by rw [u8s_length]; omega), u8s_set']) ?_
  have o35 : OwnS ob18 (l17.set (((((l17.length : Nat) : Int) - (1 : Int))).toNat) (x29 ||| 128#8)).length c19 1 (u8s (l17.set (((((l17.length : Nat) : Int) - (1 : Int))).toNat) (x29 ||| 128#8))) r20 := OwnS.same o21 (by simp) (by simp)
  refine OW.frame (L' := [(5, sl ob18 0 (l17.set (((((l17.length : Nat) : Int) - (1 : Int))).toNat) (x29 ||| 128#8)).length c19), (20, sl ob18 0 (l17.set (((((l17.length : Nat) : Int) - (1 : Int))).toNat) (x29 ||| 128#8)).length c19), (21, sl ob18 0 (l17.set (((((l17.length : Nat) : Int) - (1 : Int))).toNat) (x29 ||| 128#8)).length c19), (22, .int .i64 ((l17.length : Nat) : Int)), (23, .int .i64 (((l17.length : Nat) : Int) - (1 : Int))), (24, sl ob18 0 (l17.set (((((l17.length : Nat) : Int) - (1 : Int))).toNat) (x29 ||| 128#8)).length c19), (25, sl ob18 0 (l17.set (((((l17.length : Nat) : Int) - (1 : Int))).toNat) (x29 ||| 128#8)).length c19), (26, .int .i64 ((l17.length : Nat) : Int)), (27, .int .i64 (((l17.length : Nat) : Int) - (1 : Int))), (29, U8 x29), (30, U8 (x29 ||| 128#8))]) (fun k v h => Sub.get (L' := [(5, sl ob18 0 (l17.set (((((l17.length : Nat) : Int) - (1 : Int))).toNat) (x29 ||| 128#8)).length c19), (20, sl ob18 0 (l17.set (((((l17.length : Nat) : Int) - (1 : Int))).toNat) (x29 ||| 128#8)).length c19), (21, sl ob18 0 (l17.set (((((l17.length : Nat) : Int) - (1 : Int))).toNat) (x29 ||| 128#8)).length c19), (22, .int .i64 ((l17.length : Nat) : Int)), (23, .int .i64 (((l17.length : Nat) : Int) - (1 : Int))), (24, sl ob18 0 (l17.set (((((l17.length : Nat) : Int) - (1 : Int))).toNat) (x29 ||| 128#8)).length c19), (25, sl ob18 0 (l17.set (((((l17.length : Nat) : Int) - (1 : Int))).toNat) (x29 ||| 128#8)).length c19), (26, .int .i64 ((l17.length : Nat) : Int)), (27, .int .i64 (((l17.length : Nat) : Int) - (1 : Int))), (29, U8 x29), (30, U8 (x29 ||| 128#8))]) ?_ k v h) ?_
  ·exact ⟨(congrArg (fun k => some (sl ob18 0 k c19)) (List.length_set ..).symm), (congrArg (fun k => some (sl ob18 0 k c19)) (List.length_set ..).symm), (congrArg (fun k => some (sl ob18 0 k c19)) (List.length_set ..).symm), rfl, rfl, (congrArg (fun k => some (sl ob18 0 k c19)) (List.length_set ..).symm), (congrArg (fun k => some (sl ob18 0 k c19)) (List.length_set ..).symm), rfl, rfl, rfl, rfl, trivial⟩
  refine OW.nil (QW.then_n (CW.seq (CW.region ?_)))
  refine OW.rv (RV.move rfl) rfl ?_
  refine OW.rv (RV.assign rfl) rfl ?_
  refine OW.nil (QW.then_n (CW.ret ?_))
  have e0 := Option.some.inj hf
  subst e0
  refine QW.retG (rs := [.tmp 4]) ([sl ob18 0 (l17.set (((((l17.length : Nat) : Int) - (1 : Int))).toNat) (x29 ||| 128#8)).length c19]) ((ob18, blk ((u8s (l17.set (((((l17.length : Nat) : Int) - (1 : Int))).toNat) (x29 ||| 128#8))) ++ r20) 5) :: []) rfl ?_ rfl ?_ ?_ _ (.inl rfl)
  ·exact ⟨rfl, trivial⟩
  ·exact ⟨[], ob18, c19, r20, o35, rfl, rfl⟩
  ·exact (fun w m => m.pick [0] 1 rfl rfl)
 ·skip
  refine CW.block ?_
  refine CW.loopJ (fun k L' M' => ∃ l36 : List (BitVec 8), ∃ ob37 : Option Nat, ∃ c38 : Nat, ∃ r39 : List Value, (waybillref02_filled.l1 k l36) = some q15 ∧ (OwnS ob37 l36.length c38 1 (u8s l36) r39) ∧ L' = [(5, sl ob37 0 l36.length c38)] ∧ M' = ((ob37, blk ((u8s l36) ++ r39) 5) :: ([] ++ N))) (k0 := 140) ⟨(a0 ++ ([a1] : List (BitVec 8))), ob10, c12, r11, hq16, o13, rfl, rfl⟩ ⟨rfl, trivial⟩ (fun w m => m.pick [0] 2 rfl rfl) ?_
  clear hq16
  rintro k41 L44 M45 ⟨l36, ob37, c38, r39, hl42, o40, e46, e47⟩
  rw [e46, e47]
  clear e46 e47 L44 M45
  rcases k41 with _ | k41
  ·rw [waybillref02_filled.l1] at hl42; cases hl42
  rw [waybillref02_filled.l1] at hl42
  have m48 := o40.mx
  refine CW.seq (CW.seq (CW.region ?_))
  refine OW.rv (RV.move rfl) rfl ?_
  refine OW.rv (RV.len rfl rfl) rfl ?_
  refine OW.rv (RV.rem rfl rfl (by omega) (by omega)) rfl ?_
  refine OW.slot (.int .i64 ((l36.length % 136 : Nat) : Int)) (by first | rfl | (congr 1; omega)) ?_
  refine OW.rv (RV.neq rfl rfl) rfl ?_
  refine OW.slot (.bool (!decide ((l36.length % 136) = 0))) (congrArg (fun b => Value.bool (!b)) (decide_eq_decide.2 (by omega))) ?_
  refine OW.nil (QW.then_n ?_)
  by_cases h49 : (l36.length % 136) = 0
  ·replace hl42 := if_t hl42 h49
   refine CW.is_f rfl (congrArg (fun b => !b) (decide_eq_true h49)) ?_
   refine CW.exit (QW.then_x (QW.then_x (QW.block_xe ?_)))
   exact QW.join ⟨l36, ob37, c38, r39, (Option.some.inj hl42).symm, o40, rfl, rfl⟩ ⟨rfl, trivial⟩ (fun w m => m.pick [0] 1 rfl rfl)
  ·replace hl42 := if_f hl42 h49
   refine CW.is_t rfl (congrArg (fun b => !b) (decide_eq_false h49)) ?_
   refine CW.skip (QW.then_n (CW.block (CW.region ?_)))
   refine OW.rv (RV.move rfl) rfl ?_
   refine OW.ofN (NV.bs1 rfl rfl rfl rfl rfl rfl) rfl (fun b50 => ?_)
   refine OW.mem (M' := (((some b50), blk ((u8s ([0#8] : List (BitVec 8))) ++ []) 5) :: (ob37, blk ((u8s l36) ++ r39) 5) :: ([] ++ N))) (fun w m => by first | exact m | simpa [u8s] using m) ?_
   have o51 : OwnS (some b50) ([0#8] : List (BitVec 8)).length 1 1 (u8s ([0#8] : List (BitVec 8))) [] := ⟨by simp [u8s], by simp [u8s], (fun h => nomatch h), by simp⟩
   refine OW.slot (sl (some b50) 0 ([0#8] : List (BitVec 8)).length 1) (rfl) ?_
   refine OW.rot1 ?_
   obtain ⟨g52, hl42⟩ := some_if hl42
   refine OW.appendOwn (s := 1) rfl rfl rfl rfl rfl rfl o40 (fun w m => m.rd0 (List.Mem.tail _ (List.Mem.head _)) (fun e => o51.nilc (by decide) e)) o51.n (u8s_one _) (o51.zeroO (by decide)) (by decide) (by decide) (by first | omega | (simp only [i5, List.length_nil]; omega)) rfl rfl ((l36 ++ ([0#8] : List (BitVec 8))).length) (u8s (l36 ++ ([0#8] : List (BitVec 8)))) (List.length_append ..).symm (u8s_app _ _) (fun ob53 r54 c55 o56 => ?_)
   have m57 := o56.mx
   refine OW.rv (RV.assign rfl) rfl ?_
   refine OW.nil (QW.block_n ?_)
   exact QW.againJ (k' := k41) (Nat.lt_succ_self _) ⟨(l36 ++ ([0#8] : List (BitVec 8))), ob53, c55, r54, hl42, o56, rfl, rfl⟩ ⟨rfl, trivial⟩ (fun w m => m.pick [0] 2 rfl rfl)
theorem waybillref02_joined_does (w0 : World) (Φ : Ctx) (N : List Ent) (hΦ : ∀ w, Mem w0 w N → Φ w) (A0_ : Option Addr) (c0_ : Nat) (cs0_ : List Value) (a0 : List (List (BitVec 8))) (res0 : List (BitVec 8)) (va0 : View Φ A0_ a0.length c0_ 1 cs0_) (ha0 : Reps (BsRd Φ) cs0_ a0) (hf : waybillref02_joined a0 = some res0) : DoesG Tryd.prog 40 [.slice A0_ a0.length c0_] w0 [] N (fun v G => ∃ B : List Ent, ∃ or0 : Option Nat, ∃ kr0 : Nat, ∃ rr0 : List Value, (OwnS or0 res0.length kr0 1 (u8s res0) rr0) ∧ v = sl or0 0 res0.length kr0 ∧ G = (or0, blk ((u8s res0) ++ rr0) 5) :: B) := by
 unfold waybillref02_joined at hf
 replace va0 := va0.mono (Ψ := More w0 Φ []) (fun w q => q.1)
 replace ha0 := ha0.mono (BsRd.mono (Ψ := More w0 Φ []) (fun w q => q.1))
 have m1 := va0.mx
 refine DoesG.enter Tryd.func40 rfl Tryd.ntmps40 rfl (M := (([] ++ N))) rfl ?_
 refine CW.seq (CW.region ?_)
 refine OW.rv (RV.assign rfl) rfl ?_
 refine OW.nil (QW.then_n (CW.seq (CW.region ?_)))
 refine OW.rv (RV.assign rfl) rfl ?_
 refine OW.nil (QW.then_n (CW.seq (CW.seq (CW.region ?_))))
 refine OW.rv (RV.assign rfl) rfl ?_
 refine OW.nil (QW.then_n ?_)
 obtain ⟨q2, hq3, hf⟩ := some_bind hf
 refine CW.cutJ (fun L' M' => ∃ l4 : List (BitVec 8), ∃ ob5 : Option Nat, ∃ c6 : Nat, ∃ r7 : List Value, q2 = l4 ∧ (OwnS ob5 l4.length c6 1 (u8s l4) r7) ∧ L' = [(3, sl ob5 0 l4.length c6)] ∧ M' = ((ob5, blk ((u8s l4) ++ r7) 5) :: ([] ++ N))) ?_ ?_
 ·rintro L10 M11 ⟨l4, ob5, c6, r7, e9, o8, e12, e13⟩
  rw [e12, e13]
  clear e12 e13 L10 M11
  clear hq3
  rw [e9] at hf
  clear e9
  try dsimp only at hf
  have m14 := o8.mx
  refine QW.then_n (CW.seq (CW.region ?_))
  refine OW.rv (RV.move rfl) rfl ?_
  refine OW.rv (RV.assign rfl) rfl ?_
  refine OW.nil (QW.then_n (CW.ret ?_))
  have e0 := Option.some.inj hf
  subst e0
  refine QW.retG (rs := [.tmp 2]) ([sl ob5 0 l4.length c6]) ((ob5, blk ((u8s l4) ++ r7) 5) :: []) rfl ?_ rfl ?_ ?_ _ (.inl rfl)
  ·exact ⟨rfl, trivial⟩
  ·exact ⟨[], ob5, c6, r7, o8, rfl, rfl⟩
  ·exact (fun w m => m.pick [0] 1 rfl rfl)
 ·skip
  refine CW.block ?_
  refine CW.mem (M' := ((none, blk ((u8s ([] : List (BitVec 8))) ++ []) 5) :: ([] ++ N))) (fun w m => m.nil_ent _) ?_
  refine CW.loopJ (fun k L' M' => ∃ l15 : List (BitVec 8), ∃ n20 : Nat, ∃ ob16 : Option Nat, ∃ c17 : Nat, ∃ r18 : List Value, (waybillref02_joined.l1 a0 k l15 n20) = some q2 ∧ (OwnS ob16 l15.length c17 1 (u8s l15) r18) ∧ (n20 ≤ 9223372036854775807) ∧ L' = [(0, .slice A0_ a0.length c0_), (3, sl ob16 0 l15.length c17), (4, .int .i64 ((n20 : Nat) : Int))] ∧ M' = ((ob16, blk ((u8s l15) ++ r18) 5) :: ([] ++ N))) (k0 := (a0.length - 0 + 2)) ⟨([] : List (BitVec 8)), 0, none, 0, [], hq3, OwnS.nil, (by omega), rfl, rfl⟩ ⟨rfl, rfl, rfl, trivial⟩ (fun w m => m.pick [0] 1 rfl rfl) ?_
  clear hq3
  rintro k22 L25 M26 ⟨l15, n20, ob16, c17, r18, hl23, o19, b21, e27, e28⟩
  rw [e27, e28]
  clear e27 e28 L25 M26
  rcases k22 with _ | k22
  ·rw [waybillref02_joined.l1] at hl23; cases hl23
  rw [waybillref02_joined.l1] at hl23
  have m29 := o19.mx
  refine CW.seq (CW.seq (CW.region ?_))
  refine OW.rv (RV.move rfl) rfl ?_
  refine OW.rv (RV.move rfl) rfl ?_
  refine OW.rv (RV.len rfl rfl) rfl ?_
  refine OW.rv (RV.lss rfl rfl) rfl ?_
  refine OW.slot (.bool (decide (n20 < a0.length))) (congrArg Value.bool (decide_eq_decide.2 (by omega))) ?_
  refine OW.nil (QW.then_n ?_)
  by_cases h30 : n20 < a0.length
  ·replace hl23 := if_t hl23 h30
   refine CW.is_t rfl (decide_eq_true h30) ?_
   refine CW.skip (QW.then_n (CW.seq (CW.block (CW.region ?_))))
   refine OW.rv (RV.move rfl) rfl ?_
   refine OW.rv (RV.move rfl) rfl ?_
   refine OW.rv (RV.move rfl) rfl ?_
   obtain ⟨x31, hx32, hl23⟩ := some_bind hl23
   have hl33 := lt_of_at hx32
   refine OW.rv (RV.idx_r (n20) rfl rfl rfl rfl rfl (va0.isSome (by decide) hl33) (by omega)) rfl ?_
   obtain ⟨cs34, h35, h36⟩ := ha0.get BsRd.len hx32
   obtain ⟨A37, c38, e40, v39⟩ := h35
   subst e40
   have m41 := v39.mx
   refine OW.rv (RV.load_at rfl rfl rfl (fun w m => by have := va0.load (More.of hΦ 1 m rfl) h36 0 _ rfl; simpa [Addr.add] using this)) rfl ?_
   obtain ⟨g42, hl23⟩ := some_if hl23
   refine OW.appendOwn (s := 1) rfl rfl rfl rfl rfl rfl o19 (fun w m => v39.rd w (More.of hΦ 1 m rfl)) v39.n (u8s_one _) (v39.zero (by decide)) (by decide) (by decide) (by first | omega | (simp only [i5, List.length_nil]; omega)) rfl rfl ((l15 ++ x31).length) (u8s (l15 ++ x31)) (List.length_append ..).symm (u8s_app _ _) (fun ob43 r44 c45 o46 => ?_)
   have m47 := o46.mx
   refine OW.rv (RV.assign rfl) rfl ?_
   refine OW.nil (QW.block_n (QW.then_n (CW.region ?_)))
   refine OW.rv (RV.move rfl) rfl ?_
   refine OW.rv (RV.add rfl rfl (by omega)) rfl ?_
   refine OW.slot (.int .i64 (((n20 + 1) : Nat) : Int)) (by first | rfl | (congr 1) | (congr 1; omega)) ?_
   refine OW.rv (RV.assign rfl) rfl ?_
   refine OW.nil ?_
   exact QW.againJ (k' := k22) (Nat.lt_succ_self _) ⟨(l15 ++ x31), (n20 + 1), ob43, c45, r44, hl23, o46, (by omega), rfl, rfl⟩ ⟨rfl, rfl, rfl, trivial⟩ (fun w m => m.pick [0] 1 rfl rfl)
  ·replace hl23 := if_f hl23 h30
   refine CW.is_f rfl (decide_eq_false h30) ?_
   refine CW.exit (QW.then_x (QW.then_x (QW.block_xe ?_)))
   exact QW.join ⟨l15, ob16, c17, r18, (Option.some.inj hl23).symm, o19, rfl, rfl⟩ ⟨rfl, trivial⟩ (fun w m => m.pick [0] 1 rfl rfl)
theorem waybillref02_Digest_does (w0 : World) (Φ : Ctx) (N : List Ent) (hΦ : ∀ w, Mem w0 w N → Φ w) (A0_ : Option Addr) (c0_ : Nat) (a0 : List (BitVec 8)) (a1 : BitVec 8) (res0 : Vector (BitVec 8) 32) (va0 : View Φ A0_ a0.length c0_ 1 (u8s a0)) (hTn : ∀ i, i < 25 → w0.cell? ⟨2, i, none⟩ = some (.int .i64 (turnsL.getD i 0))) (hRn : ∀ i, i < 24 → w0.cell? ⟨0, i, none⟩ = some (U64 (g64 roundsL i))) (hf : waybillref02_Digest a0 a1 = some res0) : DoesG Tryd.prog 39 [.slice A0_ a0.length c0_, U8 a1] w0 [] N (fun v G => v = .agg (u8s res0.toList).toArray) := by
 unfold waybillref02_Digest at hf
 replace va0 := va0.mono (Ψ := More w0 Φ []) (fun w q => q.1)
 have m1 := va0.mx
 refine DoesG.enter Tryd.func39 rfl Tryd.ntmps39 rfl (M := (([] ++ N))) rfl ?_
 refine CW.seq (CW.region ?_)
 refine OW.alloc (l := (u8s (Vector.replicate 32 0#8).toList)) rfl (by rw [Vector.toList_replicate, ← u8s_rep']; rfl) rfl (fun b2 => ?_)
 refine OW.nil (QW.then_n (CW.seq (CW.region ?_)))
 refine OW.rv (RV.move rfl) rfl ?_
 refine OW.rv (RV.move rfl) rfl ?_
 obtain ⟨x4, hx3, hf⟩ := some_bind hf
 refine OW.callG Tryd.call55 rfl (waybillref02_filled_does w0 (More w0 Φ []) ((some b2, blk (u8s (Vector.replicate 32 0#8).toList) 29) :: ([] ++ N)) (fun w m => More.of hΦ 1 m rfl) A0_ c0_ a0 a1 x4 va0 hx3) rfl rfl ?_
 rintro L10 M11 ⟨B5, ob6, c7, r8, o9, e12, e13⟩
 rw [e12, e13]
 clear e12 e13 L10 M11
 refine OW.mem (M' := ((ob6, blk ((u8s x4) ++ r8) 5) :: (some b2, blk (u8s (Vector.replicate 32 0#8).toList) 29) :: ((B5 ++ []) ++ N))) (fun w m => by have h := Mem.sinkAt (A := B5) m 1 1 rfl rfl; exact h) ?_
 have gq1 : ∀ w, More w0 Φ (B5 ++ []) w → More w0 Φ [] w := fun w q => More.mono (fun w m => (m).appR) q
 replace va0 := va0.mono gq1
 have m14 := o9.mx
 refine OW.rv (RV.assign rfl) rfl ?_
 refine OW.nil (QW.then_n (CW.seq (CW.region ?_)))
 refine OW.alloc (l := (u64s (Vector.replicate 25 0#64).toList)) rfl (by rw [Vector.toList_replicate, ← u64s_rep]; rfl) rfl (fun b15 => ?_)
 refine OW.nil (QW.then_n (CW.seq (CW.seq (CW.region ?_))))
 refine OW.rv (RV.assign rfl) rfl ?_
 refine OW.nil (QW.then_n ?_)
 obtain ⟨q16, hq17, hf⟩ := some_bind hf
 refine CW.cutJ (fun L' M' => ∃ w18 : Vector (BitVec 64) 25, q16 = w18 ∧ L' = [(4, ptr (some b2) 0), (6, ptr (some b15) 0)] ∧ M' = ((some b15, blk (u64s w18.toList) 23) :: (some b2, blk (u8s (Vector.replicate 32 0#8).toList) 29) :: ((B5 ++ []) ++ N))) ?_ ?_
 ·rintro L20 M21 ⟨w18, e19, e22, e23⟩
  rw [e22, e23]
  clear e22 e23 L20 M21
  clear hq17
  rw [e19] at hf
  clear e19
  try dsimp only at hf
  refine QW.then_n (CW.seq (CW.region ?_))
  refine OW.alloc (l := (u8s (Vector.replicate 32 0#8).toList)) rfl (by rw [Vector.toList_replicate, ← u8s_rep']; rfl) rfl (fun b24 => ?_)
  refine OW.nil (QW.then_n (CW.seq (CW.seq (CW.region ?_))))
  refine OW.rv (RV.assign rfl) rfl ?_
  refine OW.nil (QW.then_n ?_)
  obtain ⟨q25, hq26, hf⟩ := some_bind hf
  refine CW.cutJ (fun L' M' => ∃ w27 : Vector (BitVec 8) 32, q25 = w27 ∧ L' = [(4, ptr (some b2) 0), (9, ptr (some b24) 0)] ∧ M' = ((some b24, blk (u8s w27.toList) 29) :: (some b2, blk (u8s (Vector.replicate 32 0#8).toList) 29) :: ((B5 ++ []) ++ N))) ?_ ?_
  ·rintro L29 M30 ⟨w27, e28, e31, e32⟩
   rw [e31, e32]
   clear e31 e32 L29 M30
   clear hq26
   rw [e28] at hf
   clear e28
   try dsimp only at hf
   refine QW.then_n (CW.seq (CW.region ?_))
   refine OW.rv (RV.loadW rfl (List.Mem.head _) rfl rfl rfl rfl ((u8s_length _).trans Vector.length_toList)) rfl ?_
   refine OW.rot1 ?_
   refine OW.sv (SV.storeW rfl rfl rfl (u8s_one _) rfl ((u8s_length _).trans Vector.length_toList) ((u8s_length _).trans Vector.length_toList)) ?_
   refine OW.nil (QW.then_n (CW.ret ?_))
   have e0 := Option.some.inj hf
   subst e0
   refine QW.retG (rs := [.cell 4 29]) ([.agg (u8s w27.toList).toArray]) ((some b2, blk (u8s w27.toList) 29) :: (some b24, blk (u8s w27.toList) 29) :: (B5 ++ [])) rfl ?_ rfl ?_ ?_ _ (.inl rfl)
   ·exact ⟨⟨_, _, _, _, rfl, (List.Mem.head _), rfl, rfl, (congrArg some ((u8s_length _).trans Vector.length_toList).symm), rfl⟩, trivial⟩
   ·exact rfl
   ·exact (fun w m => m)
  ·skip
   refine CW.block ?_
   refine CW.loopJ (fun k L' M' => ∃ n33 : Nat, ∃ w35 : Vector (BitVec 8) 32, (waybillref02_Digest.l1 w18 k n33 w35) = some q25 ∧ (n33 ≤ 9223372036854775807) ∧ L' = [(4, ptr (some b2) 0), (6, ptr (some b15) 0), (9, ptr (some b24) 0), (10, .int .i64 ((n33 : Nat) : Int))] ∧ M' = ((some b24, blk (u8s w35.toList) 29) :: (some b15, blk (u64s w18.toList) 23) :: (some b2, blk (u8s (Vector.replicate 32 0#8).toList) 29) :: ((B5 ++ []) ++ N))) (k0 := (32 - 0 + 2)) ⟨0, (Vector.replicate 32 0#8), hq26, (by omega), rfl, rfl⟩ ⟨rfl, rfl, rfl, rfl, trivial⟩ (fun w m => m.pick [0, 1, 2] 3 rfl rfl) ?_
   clear hq26
   rintro k36 L39 M40 ⟨n33, w35, hl37, b34, e41, e42⟩
   rw [e41, e42]
   clear e41 e42 L39 M40
   rcases k36 with _ | k36
   ·rw [waybillref02_Digest.l1] at hl37; cases hl37
   rw [waybillref02_Digest.l1] at hl37
   refine CW.seq (CW.seq (CW.region ?_))
   refine OW.rv (RV.move rfl) rfl ?_
   refine OW.rv (RV.lss rfl rfl) rfl ?_
   refine OW.slot (.bool (decide (n33 < 32))) (congrArg Value.bool (decide_eq_decide.2 (by omega))) ?_
   refine OW.nil (QW.then_n ?_)
   by_cases h43 : n33 < 32
   ·replace hl37 := if_t hl37 h43
    refine CW.is_t rfl (decide_eq_true h43) ?_
    refine CW.skip (QW.then_n (CW.seq (CW.block (CW.region ?_))))
    refine OW.rv (RV.move rfl) rfl ?_
    refine OW.rv (RV.move rfl) rfl ?_
    refine OW.rv (RV.quo rfl rfl (by omega) (by omega) (by omega)) rfl ?_
    refine OW.slot (.int .i64 ((n33 / 8 : Nat) : Int)) (by first | rfl | (congr 1; omega)) ?_
    obtain ⟨g44, hl37⟩ := some_if hl37
    refine OW.rv (RV.idx_a ((n33 / 8)) rfl rfl rfl rfl rfl (by omega)) rfl ?_
    obtain ⟨x45, hx46, hl37⟩ := some_bind hl37
    refine OW.rv (RV.load rfl (List.Mem.tail _ (List.Mem.head _)) rfl rfl rfl (by rw [Nat.zero_add]; exact u64s_at (vat hx46))) rfl ?_
    refine OW.rv (RV.move rfl) rfl ?_
    refine OW.rv (RV.rem rfl rfl (by omega) (by omega)) rfl ?_
    refine OW.slot (.int .i64 ((n33 % 8 : Nat) : Int)) (by first | rfl | (congr 1; omega)) ?_
    refine OW.rv (RV.mul rfl rfl (by omega)) rfl ?_
    refine OW.slot (.int .i64 (((8 * (n33 % 8)) : Nat) : Int)) (by first | rfl | (congr 1) | (congr 1; omega)) ?_
    refine OW.rv (RV.conv_i64 rfl rfl rfl) rfl ?_
    refine OW.slot (U64 (BitVec.ofNat 64 (8 * (n33 % 8)))) (congrArg U64 (BitVec.ofInt_natCast ..)) ?_
    refine OW.rv (RV.shr64 (s := (BitVec.ofNat 64 (8 * (n33 % 8))).toNat) rfl (by first | rfl | exact lit64 _ rfl) rfl (by first | rfl | (simp [U64]; done))) rfl ?_
    refine OW.rv (RV.conv64_8 rfl (by first | rfl | exact lit64 _ rfl) rfl rfl) rfl ?_
    refine OW.rv (RV.idx_a (n33) rfl rfl rfl rfl rfl (by omega)) rfl ?_
    refine OW.sv (SV.store rfl rfl rfl rfl rfl (by rw [u8s_length, Vector.length_toList]; omega)) ?_
    refine OW.cells (u8s (w35.setIfInBounds n33 ((x45 >>> (BitVec.ofNat 64 (8 * (n33 % 8))).toNat).setWidth 8)).toList) (by rw [Nat.zero_add, u8s_set', vset]) ?_
    refine OW.nil (QW.block_n (QW.then_n (CW.region ?_)))
    refine OW.rv (RV.move rfl) rfl ?_
    refine OW.rv (RV.add rfl rfl (by omega)) rfl ?_
    refine OW.slot (.int .i64 (((n33 + 1) : Nat) : Int)) (by first | rfl | (congr 1) | (congr 1; omega)) ?_
    refine OW.rv (RV.assign rfl) rfl ?_
    refine OW.nil ?_
    exact QW.againJ (k' := k36) (Nat.lt_succ_self _) ⟨(n33 + 1), (w35.setIfInBounds n33 ((x45 >>> (BitVec.ofNat 64 (8 * (n33 % 8))).toNat).setWidth 8)), hl37, (by omega), rfl, rfl⟩ ⟨rfl, rfl, rfl, rfl, trivial⟩ (fun w m => m.pick [0, 1, 2] 3 rfl rfl)
   ·replace hl37 := if_f hl37 h43
    refine CW.is_f rfl (decide_eq_false h43) ?_
    refine CW.exit (QW.then_x (QW.then_x (QW.block_xe ?_)))
    exact QW.join ⟨w35, (Option.some.inj hl37).symm, rfl, rfl⟩ ⟨rfl, rfl, trivial⟩ (fun w m => m.pick [0, 2] 3 rfl rfl)
 ·skip
  refine CW.block ?_
  refine CW.loopJ (fun k L' M' => ∃ n47 : Nat, ∃ w49 : Vector (BitVec 64) 25, (waybillref02_Digest.l2 x4 k n47 w49) = some q16 ∧ (n47 ≤ 9223372036854775807) ∧ L' = [(4, ptr (some b2) 0), (5, sl ob6 0 x4.length c7), (6, ptr (some b15) 0), (7, .int .i64 ((n47 : Nat) : Int))] ∧ M' = ((some b15, blk (u64s w49.toList) 23) :: (ob6, blk ((u8s x4) ++ r8) 5) :: (some b2, blk (u8s (Vector.replicate 32 0#8).toList) 29) :: ((B5 ++ []) ++ N))) (k0 := (x4.length - 0 + 2)) ⟨0, (Vector.replicate 25 0#64), hq17, (by omega), rfl, rfl⟩ ⟨rfl, rfl, rfl, rfl, trivial⟩ (fun w m => m.pick [0, 1, 2] 3 rfl rfl) ?_
  clear hq17
  rintro k50 L53 M54 ⟨n47, w49, hl51, b48, e55, e56⟩
  rw [e55, e56]
  clear e55 e56 L53 M54
  rcases k50 with _ | k50
  ·rw [waybillref02_Digest.l2] at hl51; cases hl51
  rw [waybillref02_Digest.l2] at hl51
  have m57 := o9.mx
  refine CW.seq (CW.seq (CW.region ?_))
  refine OW.rv (RV.move rfl) rfl ?_
  refine OW.rv (RV.move rfl) rfl ?_
  refine OW.rv (RV.len rfl rfl) rfl ?_
  refine OW.rv (RV.lss rfl rfl) rfl ?_
  refine OW.slot (.bool (decide (n47 < x4.length))) (congrArg Value.bool (decide_eq_decide.2 (by omega))) ?_
  refine OW.nil (QW.then_n ?_)
  by_cases h58 : n47 < x4.length
  ·replace hl51 := if_t hl51 h58
   refine CW.is_t rfl (decide_eq_true h58) ?_
   refine CW.skip (QW.then_n (CW.seq (CW.block (CW.seq (CW.seq (CW.region ?_))))))
   refine OW.rv (RV.assign rfl) rfl ?_
   refine OW.nil (QW.then_n ?_)
   obtain ⟨q59, hq60, hl51⟩ := some_bind hl51
   refine CW.cutJ (fun L' M' => ∃ w61 : Vector (BitVec 64) 25, q59 = w61 ∧ L' = [(4, ptr (some b2) 0), (5, sl ob6 0 x4.length c7), (6, ptr (some b15) 0), (7, .int .i64 ((n47 : Nat) : Int))] ∧ M' = ((some b15, blk (u64s w61.toList) 23) :: (ob6, blk ((u8s x4) ++ r8) 5) :: (some b2, blk (u8s (Vector.replicate 32 0#8).toList) 29) :: ((B5 ++ []) ++ N))) ?_ ?_
   ·rintro L63 M64 ⟨w61, e62, e65, e66⟩
    rw [e65, e66]
    clear e65 e66 L63 M64
    clear hq60
    rw [e62] at hl51
    clear e62
    try dsimp only at hl51
    have m67 := o9.mx
    refine QW.then_n (CW.region ?_)
    refine OW.rv (RV.loadW rfl (List.Mem.head _) rfl rfl rfl rfl ((u64s_length _).trans Vector.length_toList)) rfl ?_
    obtain ⟨x69, hx68, hl51⟩ := some_bind hl51
    refine OW.callG Tryd.call10 rfl (waybillref02_Permute_does w0 (More w0 Φ (B5 ++ [])) ((some b15, blk (u64s w61.toList) 23) :: (ob6, blk ((u8s x4) ++ r8) 5) :: (some b2, blk (u8s (Vector.replicate 32 0#8).toList) 29) :: ((B5 ++ []) ++ N)) (fun w m => More.of hΦ 3 m rfl) w61 x69 hTn hRn hx68) rfl rfl ?_
    rintro _ G70 rfl
    refine OW.mem (M' := ((some b15, blk (u64s w61.toList) 23) :: (ob6, blk ((u8s x4) ++ r8) 5) :: (some b2, blk (u8s (Vector.replicate 32 0#8).toList) 29) :: ((B5 ++ []) ++ N))) (fun w m => m.appR) ?_
    refine OW.sv (SV.storeW rfl rfl rfl (u64s_one _) rfl ((u64s_length _).trans Vector.length_toList) ((u64s_length _).trans Vector.length_toList)) ?_
    refine OW.nil (QW.block_n (QW.then_n (CW.region ?_)))
    refine OW.rv (RV.move rfl) rfl ?_
    refine OW.rv (RV.add rfl rfl (by omega)) rfl ?_
    refine OW.slot (.int .i64 (((n47 + 136) : Nat) : Int)) (by first | rfl | (congr 1) | (congr 1; omega)) ?_
    refine OW.rv (RV.assign rfl) rfl ?_
    refine OW.nil ?_
    exact QW.againJ (k' := k50) (Nat.lt_succ_self _) ⟨(n47 + 136), x69, hl51, (by omega), rfl, rfl⟩ ⟨rfl, rfl, rfl, rfl, trivial⟩ (fun w m => m.pick [0, 1, 2] 3 rfl rfl)
   ·skip
    refine CW.block ?_
    refine CW.loopJ (fun k L' M' => ∃ n72 : Nat, ∃ w74 : Vector (BitVec 64) 25, (waybillref02_Digest.l3 x4 n47 k n72 w74) = some q59 ∧ (n72 ≤ 9223372036854775807) ∧ L' = [(4, ptr (some b2) 0), (5, sl ob6 0 x4.length c7), (6, ptr (some b15) 0), (7, .int .i64 ((n47 : Nat) : Int)), (8, .int .i64 ((n72 : Nat) : Int))] ∧ M' = ((some b15, blk (u64s w74.toList) 23) :: (ob6, blk ((u8s x4) ++ r8) 5) :: (some b2, blk (u8s (Vector.replicate 32 0#8).toList) 29) :: ((B5 ++ []) ++ N))) (k0 := (136 - 0 + 2)) ⟨0, w49, hq60, (by omega), rfl, rfl⟩ ⟨rfl, rfl, rfl, rfl, rfl, trivial⟩ (fun w m => m.pick [0, 1, 2] 3 rfl rfl) ?_
    clear hq60
    rintro k75 L78 M79 ⟨n72, w74, hl76, b73, e80, e81⟩
    rw [e80, e81]
    clear e80 e81 L78 M79
    rcases k75 with _ | k75
    ·rw [waybillref02_Digest.l3] at hl76; cases hl76
    rw [waybillref02_Digest.l3] at hl76
    have m82 := o9.mx
    refine CW.seq (CW.seq (CW.region ?_))
    refine OW.rv (RV.move rfl) rfl ?_
    refine OW.rv (RV.lss rfl rfl) rfl ?_
    refine OW.slot (.bool (decide (n72 < 136))) (congrArg Value.bool (decide_eq_decide.2 (by omega))) ?_
    refine OW.nil (QW.then_n ?_)
    by_cases h83 : n72 < 136
    ·replace hl76 := if_t hl76 h83
     refine CW.is_t rfl (decide_eq_true h83) ?_
     refine CW.skip (QW.then_n (CW.seq (CW.block ?_)))
     refine CW.drawsX ((ob6, blk ((u8s x4) ++ r8) 5) :: (some b2, blk (u8s (Vector.replicate 32 0#8).toList) 29) :: ((B5 ++ []) ++ N)) [20] (fun w m => m.pick [1, 2] 3 rfl rfl) mixed (by kernel_rfl) ?_
     refine XW.rs 0 rfl (by kernel_rfl) rfl (RV.move rfl) rfl ?_
     refine XW.rs 1 rfl (by kernel_rfl) rfl (RV.quo rfl rfl (by omega) (by omega) (by omega)) rfl ?_
     refine XW.slot (.int .i64 ((n72 / 8 : Nat) : Int)) (by first | rfl | (congr 1; omega)) ?_
     refine XW.rs 2 rfl (by kernel_rfl) rfl (RV.move rfl) rfl ?_
     refine XW.rs 3 rfl (by kernel_rfl) rfl (RV.quo rfl rfl (by omega) (by omega) (by omega)) rfl ?_
     refine XW.slot (.int .i64 ((n72 / 8 : Nat) : Int)) (by first | rfl | (congr 1; omega)) ?_
     obtain ⟨g84, hl76⟩ := some_if hl76
     refine XW.rs 4 rfl (by kernel_rfl) rfl (RV.idx_a ((n72 / 8)) rfl rfl rfl rfl rfl (by omega)) rfl ?_
     obtain ⟨x85, hx86, hl76⟩ := some_bind hl76
     refine XW.rv 5 rfl (by kernel_rfl) rfl (by kernel_rfl) (RV.load rfl (List.Mem.head _) rfl rfl rfl (by rw [Nat.zero_add]; exact u64s_at (vat hx86))) rfl ?_
     refine XW.rs 6 rfl (by kernel_rfl) rfl (RV.move rfl) rfl ?_
     refine XW.rs 7 rfl (by kernel_rfl) rfl (RV.move rfl) rfl ?_
     refine XW.rs 8 rfl (by kernel_rfl) rfl (RV.move rfl) rfl ?_
     refine XW.rs 9 rfl (by kernel_rfl) rfl (RV.add rfl rfl (by omega)) rfl ?_
     refine XW.slot (.int .i64 (((n47 + n72) : Nat) : Int)) (by first | rfl | (congr 1) | (congr 1; omega)) ?_
     obtain ⟨x87, hx88, hl76⟩ := some_bind hl76
     have hl89 := lt_of_at hx88
     refine XW.rs 10 rfl (by kernel_rfl) rfl (RV.idx_o ((n47 + n72)) rfl rfl rfl rfl rfl (o9.isSome (by decide) hl89) (by omega)) rfl ?_
     refine XW.rs 11 rfl (by kernel_rfl) rfl (RV.load rfl (List.Mem.head _) (o9.isSome (by decide) hl89) rfl rfl (own_at0 (u8s_at hx88))) rfl ?_
     refine XW.rs 12 rfl (by kernel_rfl) rfl (RV.conv8_64 rfl (by first | rfl | exact lit8 _ rfl) rfl rfl) rfl ?_
     refine XW.rs 13 rfl (by kernel_rfl) rfl (RV.move rfl) rfl ?_
     refine XW.rs 14 rfl (by kernel_rfl) rfl (RV.rem rfl rfl (by omega) (by omega)) rfl ?_
     refine XW.slot (.int .i64 ((n72 % 8 : Nat) : Int)) (by first | rfl | (congr 1; omega)) ?_
     refine XW.rs 15 rfl (by kernel_rfl) rfl (RV.mul rfl rfl (by omega)) rfl ?_
     refine XW.slot (.int .i64 (((8 * (n72 % 8)) : Nat) : Int)) (by first | rfl | (congr 1) | (congr 1; omega)) ?_
     refine XW.rs 16 rfl (by kernel_rfl) rfl (RV.conv_i64 rfl rfl rfl) rfl ?_
     refine XW.slot (U64 (BitVec.ofNat 64 (8 * (n72 % 8)))) (congrArg U64 (BitVec.ofInt_natCast ..)) ?_
     refine XW.rs 17 rfl (by kernel_rfl) rfl (RV.shl64 (s := (BitVec.ofNat 64 (8 * (n72 % 8))).toNat) rfl (by first | rfl | exact lit64 _ rfl) rfl (by first | rfl | (simp [U64]; done))) rfl ?_
     refine XW.rs 18 rfl (by kernel_rfl) rfl (RV.xor64 rfl (by first | rfl | exact lit64 _ rfl) rfl (by first | rfl | exact lit64 _ rfl)) rfl ?_
     refine XW.rs 19 rfl (by kernel_rfl) rfl (RV.idx_a ((n72 / 8)) rfl rfl rfl rfl rfl (by omega)) rfl ?_
     refine XW.sv 20 rfl (by kernel_rfl) (SV.store rfl rfl rfl rfl rfl (by rw [u64s_length, Vector.length_toList]; omega)) (fun w m => m.pick [1, 2] 3 rfl rfl) ?_
     refine XW.cells (u64s (w74.setIfInBounds (n72 / 8) (x85 ^^^ ((x87.setWidth 64) <<< (BitVec.ofNat 64 (8 * (n72 % 8))).toNat))).toList) (by rw [Nat.zero_add, u64s_set', vset]) ?_
     refine XW.nil (by kernel_rfl) ?_
     refine QW.block_n (QW.then_n (CW.region ?_))
     refine OW.rv (RV.move rfl) rfl ?_
     refine OW.rv (RV.add rfl rfl (by omega)) rfl ?_
     refine OW.slot (.int .i64 (((n72 + 1) : Nat) : Int)) (by first | rfl | (congr 1) | (congr 1; omega)) ?_
     refine OW.rv (RV.assign rfl) rfl ?_
     refine OW.nil ?_
     exact QW.againJ (k' := k75) (Nat.lt_succ_self _) ⟨(n72 + 1), (w74.setIfInBounds (n72 / 8) (x85 ^^^ ((x87.setWidth 64) <<< (BitVec.ofNat 64 (8 * (n72 % 8))).toNat))), hl76, (by omega), rfl, rfl⟩ ⟨rfl, rfl, rfl, rfl, rfl, trivial⟩ (fun w m => m.pick [0, 1, 2] 3 rfl rfl)
    ·replace hl76 := if_f hl76 h83
     refine CW.is_f rfl (decide_eq_false h83) ?_
     refine CW.exit (QW.then_x (QW.then_x (QW.block_xe ?_)))
     exact QW.join ⟨w74, (Option.some.inj hl76).symm, rfl, rfl⟩ ⟨rfl, rfl, rfl, rfl, trivial⟩ (fun w m => m.pick [0, 1, 2] 3 rfl rfl)
  ·replace hl51 := if_f hl51 h58
   refine CW.is_f rfl (decide_eq_false h58) ?_
   refine CW.exit (QW.then_x (QW.then_x (QW.block_xe ?_)))
   exact QW.join ⟨w49, (Option.some.inj hl51).symm, rfl, rfl⟩ ⟨rfl, rfl, trivial⟩ (fun w m => m.pick [0, 2] 3 rfl rfl)
theorem waybillref02_Sum_does (w0 : World) (Φ : Ctx) (N : List Ent) (hΦ : ∀ w, Mem w0 w N → Φ w) (A0_ : Option Addr) (c0_ : Nat) (cs0_ : List Value) (a0 : List (List (BitVec 8))) (res0 : Vector (BitVec 8) 32) (va0 : View Φ A0_ a0.length c0_ 1 cs0_) (ha0 : Reps (BsRd Φ) cs0_ a0) (hTn : ∀ i, i < 25 → w0.cell? ⟨2, i, none⟩ = some (.int .i64 (turnsL.getD i 0))) (hRn : ∀ i, i < 24 → w0.cell? ⟨0, i, none⟩ = some (U64 (g64 roundsL i))) (hf : waybillref02_Sum a0 = some res0) : DoesG Tryd.prog 14 [.slice A0_ a0.length c0_] w0 [] N (fun v G => v = .agg (u8s res0.toList).toArray) := by
 unfold waybillref02_Sum at hf
 replace va0 := va0.mono (Ψ := More w0 Φ []) (fun w q => q.1)
 replace ha0 := ha0.mono (BsRd.mono (Ψ := More w0 Φ []) (fun w q => q.1))
 have m1 := va0.mx
 refine DoesG.enter Tryd.func14 rfl Tryd.ntmps14 rfl (M := (([] ++ N))) rfl ?_
 refine CW.seq (CW.region ?_)
 refine OW.alloc (l := (u8s (Vector.replicate 32 0#8).toList)) rfl (by rw [Vector.toList_replicate, ← u8s_rep']; rfl) rfl (fun b2 => ?_)
 refine OW.nil (QW.then_n (CW.seq (CW.region ?_)))
 refine OW.rv (RV.move rfl) rfl ?_
 obtain ⟨x4, hx3, hf⟩ := some_bind hf
 refine OW.callG Tryd.call40 rfl (waybillref02_joined_does w0 (More w0 Φ []) ((some b2, blk (u8s (Vector.replicate 32 0#8).toList) 29) :: ([] ++ N)) (fun w m => More.of hΦ 1 m rfl) A0_ c0_ cs0_ a0 x4 va0 ha0 hx3) rfl rfl ?_
 rintro L10 M11 ⟨B5, ob6, c7, r8, o9, e12, e13⟩
 rw [e12, e13]
 clear e12 e13 L10 M11
 refine OW.mem (M' := ((ob6, blk ((u8s x4) ++ r8) 5) :: (some b2, blk (u8s (Vector.replicate 32 0#8).toList) 29) :: ((B5 ++ []) ++ N))) (fun w m => by have h := Mem.sinkAt (A := B5) m 1 1 rfl rfl; exact h) ?_
 have gq1 : ∀ w, More w0 Φ (B5 ++ []) w → More w0 Φ [] w := fun w q => More.mono (fun w m => (m).appR) q
 replace va0 := va0.mono gq1
 replace ha0 := ha0.mono (BsRd.mono gq1)
 have m14 := o9.mx
 refine OW.mem (M' := (some b2, blk (u8s (Vector.replicate 32 0#8).toList) 29) :: (((ob6, blk ((u8s x4) ++ r8) 5) :: (B5 ++ [])) ++ N)) (fun w m => m.pick [1, 0] 2 rfl rfl) ?_
 have gq2 : ∀ w, More w0 Φ ((ob6, blk ((u8s x4) ++ r8) 5) :: (B5 ++ [])) w → More w0 Φ (B5 ++ []) w := fun w q => More.mono (fun w m => (m).tail) q
 replace va0 := va0.mono gq2
 replace ha0 := ha0.mono (BsRd.mono gq2)
 have v15 : View (More w0 Φ ((ob6, blk ((u8s x4) ++ r8) 5) :: (B5 ++ []))) ((ob6).map fun k => ⟨k, 0, none⟩) x4.length c7 1 (u8s x4) := o9.view (by decide) (fun w q => q.2.sublist (List.singleton_sublist.2 (List.mem_cons_self ..)))
 obtain ⟨x17, hx16, hf⟩ := some_bind hf
 refine OW.callG Tryd.call39 rfl (waybillref02_Digest_does w0 (More w0 Φ ((ob6, blk ((u8s x4) ++ r8) 5) :: (B5 ++ []))) ((some b2, blk (u8s (Vector.replicate 32 0#8).toList) 29) :: (((ob6, blk ((u8s x4) ++ r8) 5) :: (B5 ++ [])) ++ N)) (fun w m => More.of hΦ 1 m rfl) ((ob6).map fun k => ⟨k, 0, none⟩) c7 x4 (1#8) x17 v15 hTn hRn hx16) rfl rfl ?_
 rintro _ G18 rfl
 refine OW.mem (M' := ((some b2, blk (u8s (Vector.replicate 32 0#8).toList) 29) :: (((ob6, blk ((u8s x4) ++ r8) 5) :: (B5 ++ [])) ++ N))) (fun w m => m.appR) ?_
 refine OW.sv (SV.storeW rfl rfl rfl (u8s_one _) rfl ((u8s_length _).trans Vector.length_toList) ((u8s_length _).trans Vector.length_toList)) ?_
 refine OW.nil (QW.then_n (CW.ret ?_))
 have e0 := Option.some.inj hf
 subst e0
 refine QW.retG (rs := [.cell 2 29]) ([.agg (u8s x17.toList).toArray]) ((some b2, blk (u8s x17.toList) 29) :: ((ob6, blk ((u8s x4) ++ r8) 5) :: (B5 ++ []))) rfl ?_ rfl ?_ ?_ _ (.inl rfl)
 ·exact ⟨⟨_, _, _, _, rfl, (List.Mem.head _), rfl, rfl, (congrArg some ((u8s_length _).trans Vector.length_toList).symm), rfl⟩, trivial⟩
 ·exact rfl
 ·exact (fun w m => m)
theorem keccak_Sha3_does (w0 : World) (Φ : Ctx) (N : List Ent) (hΦ : ∀ w, Mem w0 w N → Φ w) (A0_ : Option Addr) (c0_ : Nat) (cs0_ : List Value) (a0 : List (List (BitVec 8))) (res0 : Vector (BitVec 8) 32) (va0 : View Φ A0_ a0.length c0_ 1 cs0_) (ha0 : Reps (BsRd Φ) cs0_ a0) (hg1 : View Φ (some ⟨1, 0, none⟩) 2 2 1 (u8s firstL)) (hf : keccak_Sha3 a0 = some res0) : DoesG Tryd.prog 13 [.slice A0_ a0.length c0_] w0 [] N (fun v G => v = .agg (u8s res0.toList).toArray) := by
 unfold keccak_Sha3 at hf
 replace va0 := va0.mono (Ψ := More w0 Φ []) (fun w q => q.1)
 replace hg1 := hg1.mono (Ψ := More w0 Φ []) (fun w q => q.1)
 replace ha0 := ha0.mono (BsRd.mono (Ψ := More w0 Φ []) (fun w q => q.1))
 have m1 := va0.mx
 refine DoesG.enter Tryd.func13 rfl Tryd.ntmps13 rfl (M := (([] ++ N))) rfl ?_
 refine CW.seq (CW.region ?_)
 refine OW.alloc (l := (u8s (Vector.replicate 32 0#8).toList)) rfl (by rw [Vector.toList_replicate, ← u8s_rep']; rfl) rfl (fun b2 => ?_)
 refine OW.nil (QW.then_n (CW.seq (CW.region ?_)))
 refine OW.rv (RV.move rfl) rfl ?_
 obtain ⟨x4, hx3, hf⟩ := some_bind hf
 refine OW.callG Tryd.call38 rfl (keccak_digest_does w0 (More w0 Φ []) ((some b2, blk (u8s (Vector.replicate 32 0#8).toList) 29) :: ([] ++ N)) (fun w m => More.of hΦ 1 m rfl) (1 : Int) A0_ c0_ cs0_ a0 x4 (by omega) va0 ha0 hg1 hx3) rfl rfl ?_
 rintro _ G5 rfl
 refine OW.mem (M' := ((some b2, blk (u8s (Vector.replicate 32 0#8).toList) 29) :: ([] ++ N))) (fun w m => m.appR) ?_
 refine OW.sv (SV.storeW rfl rfl rfl (u8s_one _) rfl ((u8s_length _).trans Vector.length_toList) ((u8s_length _).trans Vector.length_toList)) ?_
 refine OW.nil (QW.then_n (CW.ret ?_))
 have e0 := Option.some.inj hf
 subst e0
 refine QW.retG (rs := [.cell 2 29]) ([.agg (u8s x4.toList).toArray]) ((some b2, blk (u8s x4.toList) 29) :: []) rfl ?_ rfl ?_ ?_ _ (.inl rfl)
 ·exact ⟨⟨_, _, _, _, rfl, (List.Mem.head _), rfl, rfl, (congrArg some ((u8s_length _).trans Vector.length_toList).symm), rfl⟩, trivial⟩
 ·exact rfl
 ·exact (fun w m => m)
theorem waybillref02_Sha3_does (w0 : World) (Φ : Ctx) (N : List Ent) (hΦ : ∀ w, Mem w0 w N → Φ w) (A0_ : Option Addr) (c0_ : Nat) (cs0_ : List Value) (a0 : List (List (BitVec 8))) (res0 : Vector (BitVec 8) 32) (va0 : View Φ A0_ a0.length c0_ 1 cs0_) (ha0 : Reps (BsRd Φ) cs0_ a0) (hTn : ∀ i, i < 25 → w0.cell? ⟨2, i, none⟩ = some (.int .i64 (turnsL.getD i 0))) (hRn : ∀ i, i < 24 → w0.cell? ⟨0, i, none⟩ = some (U64 (g64 roundsL i))) (hf : waybillref02_Sha3 a0 = some res0) : DoesG Tryd.prog 15 [.slice A0_ a0.length c0_] w0 [] N (fun v G => v = .agg (u8s res0.toList).toArray) := by
 unfold waybillref02_Sha3 at hf
 replace va0 := va0.mono (Ψ := More w0 Φ []) (fun w q => q.1)
 replace ha0 := ha0.mono (BsRd.mono (Ψ := More w0 Φ []) (fun w q => q.1))
 have m1 := va0.mx
 refine DoesG.enter Tryd.func15 rfl Tryd.ntmps15 rfl (M := (([] ++ N))) rfl ?_
 refine CW.seq (CW.region ?_)
 refine OW.alloc (l := (u8s (Vector.replicate 32 0#8).toList)) rfl (by rw [Vector.toList_replicate, ← u8s_rep']; rfl) rfl (fun b2 => ?_)
 refine OW.nil (QW.then_n (CW.seq (CW.region ?_)))
 refine OW.rv (RV.move rfl) rfl ?_
 obtain ⟨x4, hx3, hf⟩ := some_bind hf
 refine OW.callG Tryd.call40 rfl (waybillref02_joined_does w0 (More w0 Φ []) ((some b2, blk (u8s (Vector.replicate 32 0#8).toList) 29) :: ([] ++ N)) (fun w m => More.of hΦ 1 m rfl) A0_ c0_ cs0_ a0 x4 va0 ha0 hx3) rfl rfl ?_
 rintro L10 M11 ⟨B5, ob6, c7, r8, o9, e12, e13⟩
 rw [e12, e13]
 clear e12 e13 L10 M11
 refine OW.mem (M' := ((ob6, blk ((u8s x4) ++ r8) 5) :: (some b2, blk (u8s (Vector.replicate 32 0#8).toList) 29) :: ((B5 ++ []) ++ N))) (fun w m => by have h := Mem.sinkAt (A := B5) m 1 1 rfl rfl; exact h) ?_
 have gq1 : ∀ w, More w0 Φ (B5 ++ []) w → More w0 Φ [] w := fun w q => More.mono (fun w m => (m).appR) q
 replace va0 := va0.mono gq1
 replace ha0 := ha0.mono (BsRd.mono gq1)
 have m14 := o9.mx
 refine OW.mem (M' := (some b2, blk (u8s (Vector.replicate 32 0#8).toList) 29) :: (((ob6, blk ((u8s x4) ++ r8) 5) :: (B5 ++ [])) ++ N)) (fun w m => m.pick [1, 0] 2 rfl rfl) ?_
 have gq2 : ∀ w, More w0 Φ ((ob6, blk ((u8s x4) ++ r8) 5) :: (B5 ++ [])) w → More w0 Φ (B5 ++ []) w := fun w q => More.mono (fun w m => (m).tail) q
 replace va0 := va0.mono gq2
 replace ha0 := ha0.mono (BsRd.mono gq2)
 have v15 : View (More w0 Φ ((ob6, blk ((u8s x4) ++ r8) 5) :: (B5 ++ []))) ((ob6).map fun k => ⟨k, 0, none⟩) x4.length c7 1 (u8s x4) := o9.view (by decide) (fun w q => q.2.sublist (List.singleton_sublist.2 (List.mem_cons_self ..)))
 obtain ⟨x17, hx16, hf⟩ := some_bind hf
 refine OW.callG Tryd.call39 rfl (waybillref02_Digest_does w0 (More w0 Φ ((ob6, blk ((u8s x4) ++ r8) 5) :: (B5 ++ []))) ((some b2, blk (u8s (Vector.replicate 32 0#8).toList) 29) :: (((ob6, blk ((u8s x4) ++ r8) 5) :: (B5 ++ [])) ++ N)) (fun w m => More.of hΦ 1 m rfl) ((ob6).map fun k => ⟨k, 0, none⟩) c7 x4 (6#8) x17 v15 hTn hRn hx16) rfl rfl ?_
 rintro _ G18 rfl
 refine OW.mem (M' := ((some b2, blk (u8s (Vector.replicate 32 0#8).toList) 29) :: (((ob6, blk ((u8s x4) ++ r8) 5) :: (B5 ++ [])) ++ N))) (fun w m => m.appR) ?_
 refine OW.sv (SV.storeW rfl rfl rfl (u8s_one _) rfl ((u8s_length _).trans Vector.length_toList) ((u8s_length _).trans Vector.length_toList)) ?_
 refine OW.nil (QW.then_n (CW.ret ?_))
 have e0 := Option.some.inj hf
 subst e0
 refine QW.retG (rs := [.cell 2 29]) ([.agg (u8s x17.toList).toArray]) ((some b2, blk (u8s x17.toList) 29) :: ((ob6, blk ((u8s x4) ++ r8) 5) :: (B5 ++ []))) rfl ?_ rfl ?_ ?_ _ (.inl rfl)
 ·exact ⟨⟨_, _, _, _, rfl, (List.Mem.head _), rfl, rfl, (congrArg some ((u8s_length _).trans Vector.length_toList).symm), rfl⟩, trivial⟩
 ·exact rfl
 ·exact (fun w m => m)
theorem waybilllaw02_still_does (w0 : World) (Φ : Ctx) (N : List Ent) (hΦ : ∀ w, Mem w0 w N → Φ w) (A0_ : Option Addr) (c0_ : Nat) (a0 : List (BitVec 8)) (A1_ : Option Addr) (c1_ : Nat) (a1 : List (BitVec 8)) (res0 : Bool) (va0 : View Φ A0_ (a0 ++ List.replicate 200 195#8).length c0_ 1 (u8s (a0 ++ List.replicate 200 195#8))) (va1 : View Φ A1_ a1.length c1_ 1 (u8s a1)) (hf : waybilllaw02_still a0 a1 = some res0) : DoesG Tryd.prog 41 [.slice A0_ a0.length c0_, .slice A1_ a1.length c1_] w0 [] N (fun v G => v = .bool res0) := by
 unfold waybilllaw02_still at hf
 replace va0 := va0.mono (Ψ := More w0 Φ []) (fun w q => q.1)
 replace va1 := va1.mono (Ψ := More w0 Φ []) (fun w q => q.1)
 have hle := va0.mx
 have hle2 : (a0 ++ List.replicate 200 195#8).length = a0.length + 200 := by rw [List.length_append, List.length_replicate]
 have v1 : View (More w0 Φ []) A0_ a0.length c0_ 1 (u8s a0) := MRoom.view va0
 have m2 := v1.mx
 have m3 := va1.mx
 refine DoesG.enter Tryd.func41 rfl Tryd.ntmps41 rfl (M := (([] ++ N))) rfl ?_
 refine CW.seq (CW.region ?_)
 refine OW.rv (RV.assign rfl) rfl ?_
 refine OW.nil (QW.then_n (CW.seq (CW.seq (CW.region ?_))))
 refine OW.rv (RV.move rfl) rfl ?_
 refine OW.rv (RV.len rfl rfl) rfl ?_
 refine OW.rv (RV.move rfl) rfl ?_
 refine OW.rv (RV.len rfl rfl) rfl ?_
 refine OW.rv (RV.neq rfl rfl) rfl ?_
 refine OW.slot (.bool (!decide (a0.length = a1.length))) (congrArg (fun b => Value.bool (!b)) (decide_eq_decide.2 (by omega))) ?_
 refine OW.nil (QW.then_n ?_)
 by_cases h4 : a0.length = a1.length
 ·replace hf := if_t hf h4
  refine CW.is_f rfl (congrArg (fun b => !b) (decide_eq_true h4)) ?_
  refine CW.skip (QW.then_n (CW.seq (CW.region ?_)))
  refine OW.rv (RV.move rfl) rfl ?_
  refine OW.rv (RV.move rfl) rfl ?_
  refine OW.rv (RV.len rfl rfl) rfl ?_
  refine OW.rv (RV.add rfl rfl (by omega)) rfl ?_
  refine OW.slot (.int .i64 (((a1.length + 200) : Nat) : Int)) (by first | rfl | (congr 1) | (congr 1; omega)) ?_
  obtain ⟨g6, hf⟩ := some_if hf
  have hle := va0.le
  have hlen_ : (a0 ++ List.replicate 200 195#8).length = (a0 ++ List.replicate 200 195#8).length := rfl
  refine OW.rv (RV.cut_hi ((a1.length + 200)) rfl rfl (by omega) rfl rfl (by omega)) rfl ?_
  refine OW.slot (.slice A0_ ((a0 ++ List.replicate 200 195#8).take (a1.length + 200)).length c0_) (by rw [show (((a0 ++ List.replicate 200 195#8).take (a1.length + 200))).length = (a1.length + 200) from List.length_take.trans (Nat.min_eq_left (by omega))]) ?_
  have v5 : View (More w0 Φ []) A0_ ((a0 ++ List.replicate 200 195#8).take (a1.length + 200)).length c0_ 1 (u8s ((a0 ++ List.replicate 200 195#8).take (a1.length + 200))) := va0.hi8 (by omega)
  have m7 := v5.mx
  refine OW.rv (RV.assign rfl) rfl ?_
  refine OW.nil (QW.then_n (CW.seq (CW.seq (CW.region ?_))))
  refine OW.rv (RV.assign rfl) rfl ?_
  refine OW.nil (QW.then_n ?_)
  obtain ⟨q8, hq9, hf⟩ := some_bind hf
  refine CW.cutJ (fun L' M' => q8 = Lp.go () ∧ L' = [] ∧ M' = (([] ++ N))) ?_ ?_
  ·rintro L11 M12 ⟨e10, e13, e14⟩
   rw [e13, e14]
   clear e13 e14 L11 M12
   clear hq9
   rw [e10] at hf
   clear e10
   try dsimp only at hf
   refine QW.then_n (CW.seq (CW.region ?_))
   refine OW.rv (RV.assign rfl) rfl ?_
   refine OW.nil (QW.then_n (CW.ret ?_))
   have e0 := Option.some.inj hf
   subst e0
   refine QW.retG (rs := [.tmp 4]) ([.bool true]) ([]) rfl ?_ rfl ?_ ?_ _ (.inl rfl)
   ·exact ⟨rfl, trivial⟩
   ·exact rfl
   ·exact (fun w m => m)
  ·skip
   refine CW.block ?_
   refine CW.loopJ (fun k L' M' => ∃ n15 : Nat, (waybilllaw02_still.l1 a0 a1 k n15) = some q8 ∧ (n15 ≤ 9223372036854775807) ∧ L' = [(1, .slice A1_ a1.length c1_), (5, .slice A0_ ((a0 ++ List.replicate 200 195#8).take (a1.length + 200)).length c0_), (6, .int .i64 ((n15 : Nat) : Int))] ∧ M' = (([] ++ N))) (k0 := ((((a0 ++ List.replicate 200 195#8).take (a1.length + 200)).length) - 0 + 2)) ⟨0, hq9, (by omega), rfl, rfl⟩ ⟨rfl, rfl, rfl, trivial⟩ (fun w m => m.pick [] 0 rfl rfl) ?_
   clear hq9
   rintro k17 L20 M21 ⟨n15, hl18, b16, e22, e23⟩
   rw [e22, e23]
   clear e22 e23 L20 M21
   rcases k17 with _ | k17
   ·rw [waybilllaw02_still.l1] at hl18; cases hl18
   rw [waybilllaw02_still.l1] at hl18
   refine CW.seq (CW.seq (CW.region ?_))
   refine OW.rv (RV.move rfl) rfl ?_
   refine OW.rv (RV.move rfl) rfl ?_
   refine OW.rv (RV.len rfl rfl) rfl ?_
   refine OW.rv (RV.lss rfl rfl) rfl ?_
   refine OW.slot (.bool (decide (n15 < ((a0 ++ List.replicate 200 195#8).take (a1.length + 200)).length))) (congrArg Value.bool (decide_eq_decide.2 (by omega))) ?_
   refine OW.nil (QW.then_n ?_)
   by_cases h24 : n15 < ((a0 ++ List.replicate 200 195#8).take (a1.length + 200)).length
   ·replace hl18 := if_t hl18 h24
    refine CW.is_t rfl (decide_eq_true h24) ?_
    refine CW.skip (QW.then_n (CW.seq (CW.block (CW.seq ?_))))
    obtain ⟨q25, hq26, hl18⟩ := some_bind hl18
    refine CW.cutJ (fun L' M' => ∃ p27 : Bool, q25 = p27 ∧ L' = [(1, .slice A1_ a1.length c1_), (5, .slice A0_ ((a0 ++ List.replicate 200 195#8).take (a1.length + 200)).length c0_), (6, .int .i64 ((n15 : Nat) : Int)), (50, .bool (p27))] ∧ M' = (([] ++ N))) ?_ ?_
    ·rintro L29 M30 ⟨p27, e28, e31, e32⟩
     rw [e31, e32]
     clear e31 e32 L29 M30
     clear hq26
     rw [e28] at hl18
     clear e28
     try dsimp only at hl18
     refine QW.then_n ?_
     by_cases h33 : p27 = true
     ·replace hl18 := if_t hl18 h33
      refine CW.is_t rfl (h33) ?_
      refine CW.seq (CW.region ?_)
      refine OW.rv (RV.assign rfl) rfl ?_
      refine OW.nil (QW.then_n (CW.ret (QW.block_r (QW.then_r (QW.then_r (QW.block_r (QW.then_r ?_)))))))
      have hc := Option.some.inj hl18
      subst hc
      try dsimp only at hf
      refine QW.then_r ?_
      have e0 := Option.some.inj hf
      subst e0
      refine QW.retG (rs := [.tmp 4]) ([.bool false]) ([]) rfl ?_ rfl ?_ ?_ _ (.inl rfl)
      ·exact ⟨rfl, trivial⟩
      ·exact rfl
      ·exact (fun w m => m)
     ·replace hl18 := if_f hl18 h33
      refine CW.is_f rfl (Bool.eq_false_iff.2 h33) ?_
      refine CW.skip (QW.block_n (QW.then_n (CW.region ?_)))
      refine OW.rv (RV.move rfl) rfl ?_
      refine OW.rv (RV.add rfl rfl (by omega)) rfl ?_
      refine OW.slot (.int .i64 (((n15 + 1) : Nat) : Int)) (by first | rfl | (congr 1) | (congr 1; omega)) ?_
      refine OW.rv (RV.assign rfl) rfl ?_
      refine OW.nil ?_
      exact QW.againJ (k' := k17) (Nat.lt_succ_self _) ⟨(n15 + 1), hl18, (by omega), rfl, rfl⟩ ⟨rfl, rfl, rfl, trivial⟩ (fun w m => m.pick [] 0 rfl rfl)
    ·skip
     refine CW.drawsU 28 mixed (by kernel_rfl) rfl ?_
     refine UW.rv 0 rfl (by kernel_rfl) rfl (RV.move rfl) rfl ?_
     refine UW.rv 1 rfl (by kernel_rfl) rfl (RV.move rfl) rfl ?_
     refine UW.rv 2 rfl (by kernel_rfl) rfl (RV.len rfl rfl) rfl ?_
     refine UW.rv 3 rfl (by kernel_rfl) rfl (RV.lss rfl rfl) rfl ?_
     refine UW.slot (.bool (decide (n15 < a1.length))) (congrArg Value.bool (decide_eq_decide.2 (by omega))) ?_
     refine UW.rv 4 rfl (by kernel_rfl) rfl (RV.move rfl) rfl ?_
     by_cases h34 : n15 < a1.length
     ·replace hq26 := if_t hq26 h34
      refine UW.slot (.bool true) (congrArg Value.bool (decide_eq_true h34)) ?_
      refine UW.rv 5 rfl (by kernel_rfl) rfl (RV.move rfl) rfl ?_
      refine UW.rv 6 rfl (by kernel_rfl) rfl (RV.move rfl) rfl ?_
      obtain ⟨x35, hx36, hq26⟩ := some_bind hq26
      have hl37 := lt_of_at hx36
      refine UW.rv 7 rfl (by kernel_rfl) rfl (RV.idx_r (n15) rfl rfl rfl rfl rfl (v5.isSome (by decide) hl37) (by omega)) rfl ?_
      refine UW.rv 8 rfl (by kernel_rfl) rfl (RV.load_at rfl rfl rfl (fun w m => v5.cell (More.of hΦ 0 m rfl) (u8s_at hx36))) rfl ?_
      refine UW.rv 9 rfl (by kernel_rfl) rfl (RV.move rfl) rfl ?_
      refine UW.rv 10 rfl (by kernel_rfl) rfl (RV.move rfl) rfl ?_
      obtain ⟨x38, hx39, hq26⟩ := some_bind hq26
      have hl40 := lt_of_at hx39
      refine UW.rv 11 rfl (by kernel_rfl) rfl (RV.idx_r (n15) rfl rfl rfl rfl rfl (va1.isSome (by decide) hl40) (by omega)) rfl ?_
      refine UW.rv 12 rfl (by kernel_rfl) rfl (RV.load_at rfl rfl rfl (fun w m => va1.cell (More.of hΦ 0 m rfl) (u8s_at hx39))) rfl ?_
      refine UW.rv 13 rfl (by kernel_rfl) rfl (RV.neq8 rfl (by first | rfl | exact lit8 _ rfl) rfl (by first | rfl | exact lit8 _ rfl)) rfl ?_
      refine UW.rv 14 rfl (by kernel_rfl) rfl (RV.pick_t rfl rfl rfl) rfl ?_
      refine UW.rv 15 rfl (by kernel_rfl) rfl (RV.move rfl) rfl ?_
      by_cases h41 : x35 = x38
      ·replace hq26 := if_t hq26 h41
       refine UW.slot (.bool false) (congrArg Value.bool (congrArg (fun b => !b) (decide_eq_true h41))) ?_
       refine UW.rv 16 rfl (by kernel_rfl) rfl (RV.move rfl) rfl ?_
       refine UW.rv 17 rfl (by kernel_rfl) rfl (RV.move rfl) rfl ?_
       refine UW.rv 18 rfl (by kernel_rfl) rfl (RV.len rfl rfl) rfl ?_
       refine UW.rv 19 rfl (by kernel_rfl) rfl (RV.geq rfl rfl) rfl ?_
       refine UW.slot (.bool (decide (a1.length ≤ n15))) (congrArg Value.bool (decide_eq_decide.2 (by omega))) ?_
       refine UW.rv 20 rfl (by kernel_rfl) rfl (RV.move rfl) rfl ?_
       by_cases h42 : a1.length ≤ n15
       ·replace hq26 := if_t hq26 h42
        refine UW.slot (.bool true) (congrArg Value.bool (decide_eq_true h42)) ?_
        refine UW.rv 21 rfl (by kernel_rfl) rfl (RV.move rfl) rfl ?_
        refine UW.rv 22 rfl (by kernel_rfl) rfl (RV.move rfl) rfl ?_
        obtain ⟨x43, hx44, hq26⟩ := some_bind hq26
        have hl45 := lt_of_at hx44
        refine UW.rv 23 rfl (by kernel_rfl) rfl (RV.idx_r (n15) rfl rfl rfl rfl rfl (v5.isSome (by decide) hl45) (by omega)) rfl ?_
        refine UW.rv 24 rfl (by kernel_rfl) rfl (RV.load_at rfl rfl rfl (fun w m => v5.cell (More.of hΦ 0 m rfl) (u8s_at hx44))) rfl ?_
        refine UW.rv 25 rfl (by kernel_rfl) rfl (RV.neq8 rfl (by first | rfl | exact lit8 _ rfl) rfl (by first | rfl | exact lit8 _ rfl)) rfl ?_
        refine UW.rv 26 rfl (by kernel_rfl) rfl (RV.pick_t rfl rfl rfl) rfl ?_
        refine UW.rv 27 rfl (by kernel_rfl) rfl (RV.pick_f rfl rfl rfl) rfl ?_
        refine UW.nil (by kernel_rfl) ?_
        refine OW.nil ?_
        exact QW.join ⟨(!decide (x43 = 195#8)), (Option.some.inj hq26).symm, rfl, rfl⟩ ⟨rfl, rfl, rfl, rfl, trivial⟩ (fun w m => m.pick [] 0 rfl rfl)
       ·replace hq26 := if_f hq26 h42
        refine UW.slot (.bool false) (congrArg Value.bool (decide_eq_false h42)) ?_
        refine UW.skip 21 rfl (by kernel_rfl) rfl rfl ?_
        refine UW.skip 22 rfl (by kernel_rfl) rfl rfl ?_
        refine UW.skip 23 rfl (by kernel_rfl) rfl rfl ?_
        refine UW.skip 24 rfl (by kernel_rfl) rfl rfl ?_
        refine UW.skip 25 rfl (by kernel_rfl) rfl rfl ?_
        refine UW.rv 26 rfl (by kernel_rfl) rfl (RV.pick_f rfl rfl rfl) rfl ?_
        refine UW.rv 27 rfl (by kernel_rfl) rfl (RV.pick_f rfl rfl rfl) rfl ?_
        refine UW.nil (by kernel_rfl) ?_
        refine OW.nil ?_
        exact QW.join ⟨false, (Option.some.inj hq26).symm, rfl, rfl⟩ ⟨rfl, rfl, rfl, rfl, trivial⟩ (fun w m => m.pick [] 0 rfl rfl)
      ·replace hq26 := if_f hq26 h41
       refine UW.slot (.bool true) (congrArg Value.bool (congrArg (fun b => !b) (decide_eq_false h41))) ?_
       refine UW.skip 16 rfl (by kernel_rfl) rfl rfl ?_
       refine UW.skip 17 rfl (by kernel_rfl) rfl rfl ?_
       refine UW.skip 18 rfl (by kernel_rfl) rfl rfl ?_
       refine UW.skip 19 rfl (by kernel_rfl) rfl rfl ?_
       refine UW.skip 20 rfl (by kernel_rfl) rfl rfl ?_
       refine UW.skip 21 rfl (by kernel_rfl) rfl rfl ?_
       refine UW.skip 22 rfl (by kernel_rfl) rfl rfl ?_
       refine UW.skip 23 rfl (by kernel_rfl) rfl rfl ?_
       refine UW.skip 24 rfl (by kernel_rfl) rfl rfl ?_
       refine UW.skip 25 rfl (by kernel_rfl) rfl rfl ?_
       refine UW.skip 26 rfl (by kernel_rfl) rfl rfl ?_
       refine UW.rv 27 rfl (by kernel_rfl) rfl (RV.pick_t rfl rfl rfl) rfl ?_
       refine UW.nil (by kernel_rfl) ?_
       refine OW.nil ?_
       exact QW.join ⟨true, (Option.some.inj hq26).symm, rfl, rfl⟩ ⟨rfl, rfl, rfl, rfl, trivial⟩ (fun w m => m.pick [] 0 rfl rfl)
     ·replace hq26 := if_f hq26 h34
      refine UW.slot (.bool false) (congrArg Value.bool (decide_eq_false h34)) ?_
      refine UW.skip 5 rfl (by kernel_rfl) rfl rfl ?_
      refine UW.skip 6 rfl (by kernel_rfl) rfl rfl ?_
      refine UW.skip 7 rfl (by kernel_rfl) rfl rfl ?_
      refine UW.skip 8 rfl (by kernel_rfl) rfl rfl ?_
      refine UW.skip 9 rfl (by kernel_rfl) rfl rfl ?_
      refine UW.skip 10 rfl (by kernel_rfl) rfl rfl ?_
      refine UW.skip 11 rfl (by kernel_rfl) rfl rfl ?_
      refine UW.skip 12 rfl (by kernel_rfl) rfl rfl ?_
      refine UW.skip 13 rfl (by kernel_rfl) rfl rfl ?_
      refine UW.rv 14 rfl (by kernel_rfl) rfl (RV.pick_f rfl rfl rfl) rfl ?_
      refine UW.rv 15 rfl (by kernel_rfl) rfl (RV.move rfl) rfl ?_
      refine UW.rv 16 rfl (by kernel_rfl) rfl (RV.move rfl) rfl ?_
      refine UW.rv 17 rfl (by kernel_rfl) rfl (RV.move rfl) rfl ?_
      refine UW.rv 18 rfl (by kernel_rfl) rfl (RV.len rfl rfl) rfl ?_
      refine UW.rv 19 rfl (by kernel_rfl) rfl (RV.geq rfl rfl) rfl ?_
      refine UW.slot (.bool (decide (a1.length ≤ n15))) (congrArg Value.bool (decide_eq_decide.2 (by omega))) ?_
      refine UW.rv 20 rfl (by kernel_rfl) rfl (RV.move rfl) rfl ?_
      by_cases h46 : a1.length ≤ n15
      ·replace hq26 := if_t hq26 h46
       refine UW.slot (.bool true) (congrArg Value.bool (decide_eq_true h46)) ?_
       refine UW.rv 21 rfl (by kernel_rfl) rfl (RV.move rfl) rfl ?_
       refine UW.rv 22 rfl (by kernel_rfl) rfl (RV.move rfl) rfl ?_
       obtain ⟨x47, hx48, hq26⟩ := some_bind hq26
       have hl49 := lt_of_at hx48
       refine UW.rv 23 rfl (by kernel_rfl) rfl (RV.idx_r (n15) rfl rfl rfl rfl rfl (v5.isSome (by decide) hl49) (by omega)) rfl ?_
       refine UW.rv 24 rfl (by kernel_rfl) rfl (RV.load_at rfl rfl rfl (fun w m => v5.cell (More.of hΦ 0 m rfl) (u8s_at hx48))) rfl ?_
       refine UW.rv 25 rfl (by kernel_rfl) rfl (RV.neq8 rfl (by first | rfl | exact lit8 _ rfl) rfl (by first | rfl | exact lit8 _ rfl)) rfl ?_
       refine UW.rv 26 rfl (by kernel_rfl) rfl (RV.pick_t rfl rfl rfl) rfl ?_
       refine UW.rv 27 rfl (by kernel_rfl) rfl (RV.pick_f rfl rfl rfl) rfl ?_
       refine UW.nil (by kernel_rfl) ?_
       refine OW.nil ?_
       exact QW.join ⟨(!decide (x47 = 195#8)), (Option.some.inj hq26).symm, rfl, rfl⟩ ⟨rfl, rfl, rfl, rfl, trivial⟩ (fun w m => m.pick [] 0 rfl rfl)
      ·replace hq26 := if_f hq26 h46
       refine UW.slot (.bool false) (congrArg Value.bool (decide_eq_false h46)) ?_
       refine UW.skip 21 rfl (by kernel_rfl) rfl rfl ?_
       refine UW.skip 22 rfl (by kernel_rfl) rfl rfl ?_
       refine UW.skip 23 rfl (by kernel_rfl) rfl rfl ?_
       refine UW.skip 24 rfl (by kernel_rfl) rfl rfl ?_
       refine UW.skip 25 rfl (by kernel_rfl) rfl rfl ?_
       refine UW.rv 26 rfl (by kernel_rfl) rfl (RV.pick_f rfl rfl rfl) rfl ?_
       refine UW.rv 27 rfl (by kernel_rfl) rfl (RV.pick_f rfl rfl rfl) rfl ?_
       refine UW.nil (by kernel_rfl) ?_
       refine OW.nil ?_
       exact QW.join ⟨false, (Option.some.inj hq26).symm, rfl, rfl⟩ ⟨rfl, rfl, rfl, rfl, trivial⟩ (fun w m => m.pick [] 0 rfl rfl)
   ·replace hl18 := if_f hl18 h24
    refine CW.is_f rfl (decide_eq_false h24) ?_
    refine CW.exit (QW.then_x (QW.then_x (QW.block_xe ?_)))
    exact QW.join ⟨(Option.some.inj hl18).symm, rfl, rfl⟩ trivial (fun w m => m.pick [] 0 rfl rfl)
 ·replace hf := if_f hf h4
  refine CW.is_t rfl (congrArg (fun b => !b) (decide_eq_false h4)) ?_
  refine CW.seq (CW.region ?_)
  refine OW.rv (RV.assign rfl) rfl ?_
  refine OW.nil (QW.then_n (CW.ret (QW.then_r ?_)))
  have e0 := Option.some.inj hf
  subst e0
  refine QW.retG (rs := [.tmp 4]) ([.bool false]) ([]) rfl ?_ rfl ?_ ?_ _ (.inl rfl)
  ·exact ⟨rfl, trivial⟩
  ·exact rfl
  ·exact (fun w m => m)
theorem waybilllaw02_stillAll_does (w0 : World) (Φ : Ctx) (N : List Ent) (hΦ : ∀ w, Mem w0 w N → Φ w) (A0_ : Option Addr) (c0_ : Nat) (a0 : List (List (BitVec 8))) (A1_ : Option Addr) (c1_ : Nat) (cs1_ : List Value) (a1 : List (List (BitVec 8))) (res0 : Bool) (ra0 : MRooms (List.replicate 200 195#8) [[195#8]] Φ A0_ c0_ a0) (va1 : View Φ A1_ a1.length c1_ 1 cs1_) (ha1 : Reps (BsRd Φ) cs1_ a1) (hf : waybilllaw02_stillAll a0 a1 = some res0) : DoesG Tryd.prog 16 [.slice A0_ a0.length c0_, .slice A1_ a1.length c1_] w0 [] N (fun v G => v = .bool res0) := by
 unfold waybilllaw02_stillAll at hf
 replace va1 := va1.mono (Ψ := More w0 Φ []) (fun w q => q.1)
 replace ha1 := ha1.mono (BsRd.mono (Ψ := More w0 Φ []) (fun w q => q.1))
 replace ra0 := ra0.mono (Ψ := More w0 Φ []) (fun w q => q.1)
 obtain ⟨cs1, mk2, v3, h4, h5⟩ := ra0
 replace h4 : Reps (MkRd02 (More w0 Φ [])) cs1 a0 := h4
 have hlp : a0.length ≤ (a0 ++ ([[195#8]] : List (List (BitVec 8)))).length := by rw [List.length_append]; omega
 have v6 : View (More w0 Φ []) A0_ a0.length c0_ 1 cs1 := View.pre v3 (h4.len MkRd02.len) hlp
 have m7 := v6.mx
 have m8 := v3.mx
 have m9 := v6.mx
 have m10 := va1.mx
 refine DoesG.enter Tryd.func16 rfl Tryd.ntmps16 rfl (M := (([] ++ N))) rfl ?_
 refine CW.seq (CW.region ?_)
 refine OW.rv (RV.assign rfl) rfl ?_
 refine OW.nil (QW.then_n (CW.seq (CW.seq (CW.region ?_))))
 refine OW.rv (RV.move rfl) rfl ?_
 refine OW.rv (RV.len rfl rfl) rfl ?_
 refine OW.rv (RV.move rfl) rfl ?_
 refine OW.rv (RV.len rfl rfl) rfl ?_
 refine OW.rv (RV.neq rfl rfl) rfl ?_
 refine OW.slot (.bool (!decide (a0.length = a1.length))) (congrArg (fun b => Value.bool (!b)) (decide_eq_decide.2 (by omega))) ?_
 refine OW.nil (QW.then_n ?_)
 by_cases h11 : a0.length = a1.length
 ·replace hf := if_t hf h11
  refine CW.is_f rfl (congrArg (fun b => !b) (decide_eq_true h11)) ?_
  refine CW.skip (QW.then_n (CW.seq (CW.region ?_)))
  refine OW.rv (RV.move rfl) rfl ?_
  refine OW.rv (RV.move rfl) rfl ?_
  refine OW.rv (RV.len rfl rfl) rfl ?_
  refine OW.rv (RV.add rfl rfl (by omega)) rfl ?_
  refine OW.slot (.int .i64 (((a1.length + 1) : Nat) : Int)) (by first | rfl | (congr 1) | (congr 1; omega)) ?_
  obtain ⟨g13, hf⟩ := some_if hf
  have hle := v3.le
  have hlen_ : (a0 ++ ([[195#8]] : List (List (BitVec 8)))).length = (a0 ++ ([[195#8]] : List (List (BitVec 8)))).length := rfl
  refine OW.rv (RV.cut_hi ((a1.length + 1)) rfl rfl (by omega) rfl rfl (by omega)) rfl ?_
  refine OW.slot (.slice A0_ ((a0 ++ ([[195#8]] : List (List (BitVec 8)))).take (a1.length + 1)).length c0_) (by rw [show (((a0 ++ ([[195#8]] : List (List (BitVec 8)))).take (a1.length + 1))).length = (a1.length + 1) from List.length_take.trans (Nat.min_eq_left (by omega))]) ?_
  have v12 : View (More w0 Φ []) A0_ ((a0 ++ ([[195#8]] : List (List (BitVec 8)))).take (a1.length + 1)).length c0_ 1 ((cs1 ++ mk2).take ((a1.length + 1) * 1)) := v3.hiD (by omega)
  have h14 := h5.take BsRd.len (a1.length + 1)
  have m15 := v12.mx
  refine OW.rv (RV.assign rfl) rfl ?_
  refine OW.nil (QW.then_n (CW.seq (CW.seq ?_)))
  obtain ⟨q16, hq17, hf⟩ := some_bind hf
  refine CW.cutJ (fun L' M' => ∃ p18 : Bool, q16 = p18 ∧ L' = [(0, .slice A0_ a0.length c0_), (1, .slice A1_ a1.length c1_), (34, .bool (p18))] ∧ M' = (([] ++ N))) ?_ ?_
  ·rintro L20 M21 ⟨p18, e19, e22, e23⟩
   rw [e22, e23]
   clear e22 e23 L20 M21
   clear hq17
   rw [e19] at hf
   clear e19
   try dsimp only at hf
   refine QW.then_n ?_
   by_cases h24 : p18 = true
   ·replace hf := if_t hf h24
    refine CW.is_t rfl (h24) ?_
    refine CW.seq (CW.region ?_)
    refine OW.rv (RV.assign rfl) rfl ?_
    refine OW.nil (QW.then_n (CW.ret (QW.then_r ?_)))
    have e0 := Option.some.inj hf
    subst e0
    refine QW.retG (rs := [.tmp 4]) ([.bool false]) ([]) rfl ?_ rfl ?_ ?_ _ (.inl rfl)
    ·exact ⟨rfl, trivial⟩
    ·exact rfl
    ·exact (fun w m => m)
   ·replace hf := if_f hf h24
    refine CW.is_f rfl (Bool.eq_false_iff.2 h24) ?_
    refine CW.skip (QW.then_n (CW.seq (CW.seq (CW.region ?_))))
    refine OW.rv (RV.assign rfl) rfl ?_
    refine OW.nil (QW.then_n ?_)
    obtain ⟨q25, hq26, hf⟩ := some_bind hf
    refine CW.cutJ (fun L' M' => q25 = Lp.go () ∧ L' = [] ∧ M' = (([] ++ N))) ?_ ?_
    ·rintro L28 M29 ⟨e27, e30, e31⟩
     rw [e30, e31]
     clear e30 e31 L28 M29
     clear hq26
     rw [e27] at hf
     clear e27
     try dsimp only at hf
     refine QW.then_n (CW.seq (CW.region ?_))
     refine OW.rv (RV.assign rfl) rfl ?_
     refine OW.nil (QW.then_n (CW.ret ?_))
     have e0 := Option.some.inj hf
     subst e0
     refine QW.retG (rs := [.tmp 4]) ([.bool true]) ([]) rfl ?_ rfl ?_ ?_ _ (.inl rfl)
     ·exact ⟨rfl, trivial⟩
     ·exact rfl
     ·exact (fun w m => m)
    ·skip
     refine CW.block ?_
     refine CW.loopJ (fun k L' M' => ∃ n32 : Nat, (waybilllaw02_stillAll.l1 a0 a1 k n32) = some q25 ∧ (n32 ≤ 9223372036854775807) ∧ L' = [(0, .slice A0_ a0.length c0_), (1, .slice A1_ a1.length c1_), (6, .int .i64 ((n32 : Nat) : Int))] ∧ M' = (([] ++ N))) (k0 := (a1.length - 0 + 2)) ⟨0, hq26, (by omega), rfl, rfl⟩ ⟨rfl, rfl, rfl, trivial⟩ (fun w m => m.pick [] 0 rfl rfl) ?_
     clear hq26
     rintro k34 L37 M38 ⟨n32, hl35, b33, e39, e40⟩
     rw [e39, e40]
     clear e39 e40 L37 M38
     rcases k34 with _ | k34
     ·rw [waybilllaw02_stillAll.l1] at hl35; cases hl35
     rw [waybilllaw02_stillAll.l1] at hl35
     refine CW.seq (CW.seq (CW.region ?_))
     refine OW.rv (RV.move rfl) rfl ?_
     refine OW.rv (RV.move rfl) rfl ?_
     refine OW.rv (RV.len rfl rfl) rfl ?_
     refine OW.rv (RV.lss rfl rfl) rfl ?_
     refine OW.slot (.bool (decide (n32 < a1.length))) (congrArg Value.bool (decide_eq_decide.2 (by omega))) ?_
     refine OW.nil (QW.then_n ?_)
     by_cases h41 : n32 < a1.length
     ·replace hl35 := if_t hl35 h41
      refine CW.is_t rfl (decide_eq_true h41) ?_
      refine CW.skip (QW.then_n (CW.seq (CW.block (CW.seq ?_))))
      refine CW.drawsU 10 mixed (by kernel_rfl) rfl ?_
      refine UW.rv 0 rfl (by kernel_rfl) rfl (RV.move rfl) rfl ?_
      refine UW.rv 1 rfl (by kernel_rfl) rfl (RV.move rfl) rfl ?_
      obtain ⟨x42, hx43, hl35⟩ := some_bind hl35
      have hl44 := lt_of_at hx43
      refine UW.rv 2 rfl (by kernel_rfl) rfl (RV.idx_r (n32) rfl rfl rfl rfl rfl (v6.isSome (by decide) hl44) (by omega)) rfl ?_
      obtain ⟨cs45, h46, h47⟩ := h4.get MkRd02.len hx43
      obtain ⟨A48, c49, e50, v51⟩ := h46
      subst e50
      have hle := v51.mx
      have hle2 : (x42 ++ List.replicate 200 195#8).length = x42.length + 200 := by rw [List.length_append, List.length_replicate]
      have v52 : View (More w0 Φ []) A48 x42.length c49 1 (u8s x42) := MRoom.view v51
      have m53 := v52.mx
      refine UW.rv 3 rfl (by kernel_rfl) rfl (RV.load_at rfl rfl rfl (fun w m => by have := v6.load (More.of hΦ 0 m rfl) h47 0 _ rfl; simpa [Addr.add] using this)) rfl ?_
      refine UW.rv 4 rfl (by kernel_rfl) rfl (RV.move rfl) rfl ?_
      refine UW.rv 5 rfl (by kernel_rfl) rfl (RV.move rfl) rfl ?_
      obtain ⟨x54, hx55, hl35⟩ := some_bind hl35
      have hl56 := lt_of_at hx55
      refine UW.rv 6 rfl (by kernel_rfl) rfl (RV.idx_r (n32) rfl rfl rfl rfl rfl (va1.isSome (by decide) hl56) (by omega)) rfl ?_
      obtain ⟨cs57, h58, h59⟩ := ha1.get BsRd.len hx55
      obtain ⟨A60, c61, e63, v62⟩ := h58
      subst e63
      have m64 := v62.mx
      refine UW.rv 7 rfl (by kernel_rfl) rfl (RV.load_at rfl rfl rfl (fun w m => by have := va1.load (More.of hΦ 0 m rfl) h59 0 _ rfl; simpa [Addr.add] using this)) rfl ?_
      obtain ⟨x66, hx65, hl35⟩ := some_bind hl35
      refine UW.callG 8 rfl (by kernel_rfl) rfl Tryd.call41 rfl (fun N' hN' => waybilllaw02_still_does w0 (More w0 Φ []) N' (fun w m => More.of hΦ 0 (hN' w m) rfl) A48 c49 x42 A60 c61 x54 x66 v51 v62 hx65) rfl ?_
      rintro _ G67 rfl
      refine UW.mem (M' := (([] ++ N))) (fun w m => m.appR) ?_
      refine UW.rv 9 rfl (by kernel_rfl) rfl (RV.assign rfl) rfl ?_
      refine UW.nil (by kernel_rfl) ?_
      refine OW.nil (QW.then_n (CW.seq (CW.region ?_)))
      refine OW.rv (RV.move rfl) rfl ?_
      refine OW.rv (RV.not rfl) rfl ?_
      refine OW.nil (QW.then_n ?_)
      by_cases h69 : x66 = true
      ·replace hl35 := if_t hl35 h69
       refine CW.is_f rfl (congrArg (fun b => !b) (h69)) ?_
       refine CW.skip (QW.block_n (QW.then_n (CW.region ?_)))
       refine OW.rv (RV.move rfl) rfl ?_
       refine OW.rv (RV.add rfl rfl (by omega)) rfl ?_
       refine OW.slot (.int .i64 (((n32 + 1) : Nat) : Int)) (by first | rfl | (congr 1) | (congr 1; omega)) ?_
       refine OW.rv (RV.assign rfl) rfl ?_
       refine OW.nil ?_
       exact QW.againJ (k' := k34) (Nat.lt_succ_self _) ⟨(n32 + 1), hl35, (by omega), rfl, rfl⟩ ⟨rfl, rfl, rfl, trivial⟩ (fun w m => m.pick [] 0 rfl rfl)
      ·replace hl35 := if_f hl35 h69
       refine CW.is_t rfl (congrArg (fun b => !b) (Bool.eq_false_iff.2 h69)) ?_
       refine CW.seq (CW.region ?_)
       refine OW.rv (RV.assign rfl) rfl ?_
       refine OW.nil (QW.then_n (CW.ret (QW.block_r (QW.then_r (QW.then_r (QW.block_r (QW.then_r ?_)))))))
       have hc := Option.some.inj hl35
       subst hc
       try dsimp only at hf
       refine QW.then_r ?_
       have e0 := Option.some.inj hf
       subst e0
       refine QW.retG (rs := [.tmp 4]) ([.bool false]) ([]) rfl ?_ rfl ?_ ?_ _ (.inl rfl)
       ·exact ⟨rfl, trivial⟩
       ·exact rfl
       ·exact (fun w m => m)
     ·replace hl35 := if_f hl35 h41
      refine CW.is_f rfl (decide_eq_false h41) ?_
      refine CW.exit (QW.then_x (QW.then_x (QW.block_xe ?_)))
      exact QW.join ⟨(Option.some.inj hl35).symm, rfl, rfl⟩ trivial (fun w m => m.pick [] 0 rfl rfl)
  ·skip
   refine CW.region ?_
   refine OW.rv (RV.move rfl) rfl ?_
   refine OW.rv (RV.move rfl) rfl ?_
   refine OW.rv (RV.len rfl rfl) rfl ?_
   obtain ⟨x70, hx71, hq17⟩ := some_bind hq17
   have hl72 := lt_of_at hx71
   refine OW.rv (RV.idx_r (a1.length) rfl rfl rfl rfl rfl (v12.isSome (by decide) hl72) (by omega)) rfl ?_
   obtain ⟨cs73, h74, h75⟩ := h14.get BsRd.len hx71
   obtain ⟨A76, c77, e79, v78⟩ := h74
   subst e79
   have m80 := v78.mx
   refine OW.rv (RV.load_at rfl rfl rfl (fun w m => by have := v12.load (More.of hΦ 0 m rfl) h75 0 _ rfl; simpa [Addr.add] using this)) rfl ?_
   refine OW.rv (RV.len rfl rfl) rfl ?_
   refine OW.rv (RV.neq rfl rfl) rfl ?_
   refine OW.slot (.bool (!decide (x70.length = 1))) (congrArg (fun b => Value.bool (!b)) (decide_eq_decide.2 (by omega))) ?_
   refine OW.rv (RV.move rfl) rfl ?_
   by_cases h81 : x70.length = 1
   ·replace hq17 := if_t hq17 h81
    refine OW.slot (.bool false) (congrArg Value.bool (congrArg (fun b => !b) (decide_eq_true h81))) ?_
    refine OW.want rfl ?_
    refine OW.rv (RV.move rfl) rfl ?_
    refine OW.want rfl ?_
    refine OW.rv (RV.move rfl) rfl ?_
    refine OW.want rfl ?_
    refine OW.rv (RV.len rfl rfl) rfl ?_
    refine OW.want rfl ?_
    obtain ⟨x82, hx83, hq17⟩ := some_bind hq17
    have hl84 := lt_of_at hx83
    refine OW.rv (RV.idx_r (a1.length) rfl rfl rfl rfl rfl (v12.isSome (by decide) hl84) (by omega)) rfl ?_
    obtain ⟨cs85, h86, h87⟩ := h14.get BsRd.len hx83
    obtain ⟨A88, c89, e91, v90⟩ := h86
    subst e91
    have m92 := v90.mx
    refine OW.want rfl ?_
    refine OW.rv (RV.load_at rfl rfl rfl (fun w m => by have := v12.load (More.of hΦ 0 m rfl) h87 0 _ rfl; simpa [Addr.add] using this)) rfl ?_
    refine OW.want rfl ?_
    obtain ⟨x93, hx94, hq17⟩ := some_bind hq17
    have hl95 := lt_of_at hx94
    refine OW.rv (RV.idx_r (0) rfl rfl rfl rfl rfl (v90.isSome (by decide) hl95) (by omega)) rfl ?_
    refine OW.want rfl ?_
    refine OW.rv (RV.load_at rfl rfl rfl (fun w m => v90.cell (More.of hΦ 0 m rfl) (u8s_at hx94))) rfl ?_
    refine OW.want rfl ?_
    refine OW.rv (RV.neq8 rfl (by first | rfl | exact lit8 _ rfl) rfl (by first | rfl | exact lit8 _ rfl)) rfl ?_
    refine OW.rv (RV.pick_f rfl rfl rfl) rfl ?_
    refine OW.nil ?_
    exact QW.join ⟨(!decide (x93 = 195#8)), (Option.some.inj hq17).symm, rfl, rfl⟩ ⟨rfl, rfl, rfl, trivial⟩ (fun w m => m.pick [] 0 rfl rfl)
   ·replace hq17 := if_f hq17 h81
    refine OW.slot (.bool true) (congrArg Value.bool (congrArg (fun b => !b) (decide_eq_false h81))) ?_
    refine OW.skip rfl rfl rfl ?_
    refine OW.skip rfl rfl rfl ?_
    refine OW.skip rfl rfl rfl ?_
    refine OW.skip rfl rfl rfl ?_
    refine OW.skip rfl rfl rfl ?_
    refine OW.skip rfl rfl rfl ?_
    refine OW.skip rfl rfl rfl ?_
    refine OW.skip rfl rfl rfl ?_
    refine OW.rv (RV.pick_t rfl rfl rfl) rfl ?_
    refine OW.nil ?_
    exact QW.join ⟨true, (Option.some.inj hq17).symm, rfl, rfl⟩ ⟨rfl, rfl, rfl, trivial⟩ (fun w m => m.pick [] 0 rfl rfl)
 ·replace hf := if_f hf h11
  refine CW.is_t rfl (congrArg (fun b => !b) (decide_eq_false h11)) ?_
  refine CW.seq (CW.region ?_)
  refine OW.rv (RV.assign rfl) rfl ?_
  refine OW.nil (QW.then_n (CW.ret (QW.then_r ?_)))
  have e0 := Option.some.inj hf
  subst e0
  refine QW.retG (rs := [.tmp 4]) ([.bool false]) ([]) rfl ?_ rfl ?_ ?_ _ (.inl rfl)
  ·exact ⟨rfl, trivial⟩
  ·exact rfl
  ·exact (fun w m => m)
theorem waybilllaw02_backward_does (w0 : World) (Φ : Ctx) (N : List Ent) (hΦ : ∀ w, Mem w0 w N → Φ w) (A0_ : Option Addr) (c0_ : Nat) (a0 : List (BitVec 8)) (res0 : List (BitVec 8)) (va0 : View Φ A0_ a0.length c0_ 1 (u8s a0)) (hf : waybilllaw02_backward a0 = some res0) : DoesG Tryd.prog 42 [.slice A0_ a0.length c0_] w0 [] N (fun v G => ∃ B : List Ent, ∃ or0 : Option Nat, ∃ kr0 : Nat, ∃ rr0 : List Value, (OwnS or0 res0.length kr0 1 (u8s res0) rr0) ∧ v = sl or0 0 res0.length kr0 ∧ G = (or0, blk ((u8s res0) ++ rr0) 5) :: B) := by
 unfold waybilllaw02_backward at hf
 replace va0 := va0.mono (Ψ := More w0 Φ []) (fun w q => q.1)
 have m1 := va0.mx
 refine DoesG.enter Tryd.func42 rfl Tryd.ntmps42 rfl (M := (([] ++ N))) rfl ?_
 refine CW.seq (CW.region ?_)
 refine OW.rv (RV.assign rfl) rfl ?_
 refine OW.nil (QW.then_n (CW.seq (CW.region ?_)))
 refine OW.rv (RV.assign rfl) rfl ?_
 refine OW.nil (QW.then_n (CW.seq (CW.seq (CW.region ?_))))
 refine OW.rv (RV.move rfl) rfl ?_
 refine OW.rv (RV.len rfl rfl) rfl ?_
 refine OW.rv (RV.sub rfl rfl (by omega)) rfl ?_
 refine OW.rv (RV.assign rfl) rfl ?_
 refine OW.nil (QW.then_n ?_)
 obtain ⟨q2, hq3, hf⟩ := some_bind hf
 refine CW.cutJ (fun L' M' => ∃ l4 : List (BitVec 8), ∃ ob5 : Option Nat, ∃ c6 : Nat, ∃ r7 : List Value, q2 = l4 ∧ (OwnS ob5 l4.length c6 1 (u8s l4) r7) ∧ L' = [(3, sl ob5 0 l4.length c6)] ∧ M' = ((ob5, blk ((u8s l4) ++ r7) 5) :: ([] ++ N))) ?_ ?_
 ·rintro L10 M11 ⟨l4, ob5, c6, r7, e9, o8, e12, e13⟩
  rw [e12, e13]
  clear e12 e13 L10 M11
  clear hq3
  rw [e9] at hf
  clear e9
  try dsimp only at hf
  have m14 := o8.mx
  refine QW.then_n (CW.seq (CW.region ?_))
  refine OW.rv (RV.move rfl) rfl ?_
  refine OW.rv (RV.assign rfl) rfl ?_
  refine OW.nil (QW.then_n (CW.ret ?_))
  have e0 := Option.some.inj hf
  subst e0
  refine QW.retG (rs := [.tmp 2]) ([sl ob5 0 l4.length c6]) ((ob5, blk ((u8s l4) ++ r7) 5) :: []) rfl ?_ rfl ?_ ?_ _ (.inl rfl)
  ·exact ⟨rfl, trivial⟩
  ·exact ⟨[], ob5, c6, r7, o8, rfl, rfl⟩
  ·exact (fun w m => m.pick [0] 1 rfl rfl)
 ·skip
  refine CW.block ?_
  refine CW.mem (M' := ((none, blk ((u8s ([] : List (BitVec 8))) ++ []) 5) :: ([] ++ N))) (fun w m => m.nil_ent _) ?_
  refine CW.loopJ (fun k L' M' => ∃ l15 : List (BitVec 8), ∃ z20 : Int, ∃ ob16 : Option Nat, ∃ c17 : Nat, ∃ r18 : List Value, (waybilllaw02_backward.l1 a0 k l15 z20) = some q2 ∧ (OwnS ob16 l15.length c17 1 (u8s l15) r18) ∧ (-9223372036854775808 ≤ z20 ∧ z20 ≤ 9223372036854775807) ∧ L' = [(0, .slice A0_ a0.length c0_), (3, sl ob16 0 l15.length c17), (4, .int .i64 z20)] ∧ M' = ((ob16, blk ((u8s l15) ++ r18) 5) :: ([] ++ N))) (k0 := (((((a0.length : Nat) : Int) - (1 : Int))) - ((0 : Int)) + 2).toNat) ⟨([] : List (BitVec 8)), (((a0.length : Nat) : Int) - (1 : Int)), none, 0, [], hq3, OwnS.nil, (by omega), rfl, rfl⟩ ⟨rfl, rfl, rfl, trivial⟩ (fun w m => m.pick [0] 1 rfl rfl) ?_
  clear hq3
  rintro k22 L25 M26 ⟨l15, z20, ob16, c17, r18, hl23, o19, b21, e27, e28⟩
  rw [e27, e28]
  clear e27 e28 L25 M26
  rcases k22 with _ | k22
  ·rw [waybilllaw02_backward.l1] at hl23; cases hl23
  rw [waybilllaw02_backward.l1] at hl23
  have m29 := o19.mx
  refine CW.seq (CW.seq (CW.region ?_))
  refine OW.rv (RV.move rfl) rfl ?_
  refine OW.rv (RV.geq rfl rfl) rfl ?_
  refine OW.nil (QW.then_n ?_)
  by_cases h30 : (0 : Int) ≤ z20
  ·replace hl23 := if_t hl23 h30
   refine CW.is_t rfl (decide_eq_true h30) ?_
   refine CW.skip (QW.then_n (CW.seq (CW.block (CW.region ?_))))
   refine OW.rv (RV.move rfl) rfl ?_
   refine OW.rv (RV.move rfl) rfl ?_
   refine OW.rv (RV.move rfl) rfl ?_
   obtain ⟨x31, hx32, hl23⟩ := some_bind hl23
   have hl33 := lt_of_at hx32
   refine OW.rv (RV.idx_r ((z20).toNat) rfl rfl (by omega) rfl rfl (va0.isSome (by decide) hl33) (by omega)) rfl ?_
   refine OW.rv (RV.load_at rfl rfl rfl (fun w m => va0.cell (More.of hΦ 1 m rfl) (u8s_at hx32))) rfl ?_
   refine OW.ofN (NV.bs1 rfl rfl rfl rfl rfl rfl) rfl (fun b34 => ?_)
   refine OW.mem (M' := (((some b34), blk ((u8s ([x31] : List (BitVec 8))) ++ []) 5) :: (ob16, blk ((u8s l15) ++ r18) 5) :: ([] ++ N))) (fun w m => by first | exact m | simpa [u8s] using m) ?_
   have o35 : OwnS (some b34) ([x31] : List (BitVec 8)).length 1 1 (u8s ([x31] : List (BitVec 8))) [] := ⟨by simp [u8s], by simp [u8s], (fun h => nomatch h), by simp⟩
   refine OW.slot (sl (some b34) 0 ([x31] : List (BitVec 8)).length 1) (rfl) ?_
   refine OW.rot1 ?_
   obtain ⟨g36, hl23⟩ := some_if hl23
   refine OW.appendOwn (s := 1) rfl rfl rfl rfl rfl rfl o19 (fun w m => m.rd0 (List.Mem.tail _ (List.Mem.head _)) (fun e => o35.nilc (by decide) e)) o35.n (u8s_one _) (o35.zeroO (by decide)) (by decide) (by decide) (by first | omega | (simp only [i5, List.length_nil]; omega)) rfl rfl ((l15 ++ ([x31] : List (BitVec 8))).length) (u8s (l15 ++ ([x31] : List (BitVec 8)))) (List.length_append ..).symm (u8s_app _ _) (fun ob37 r38 c39 o40 => ?_)
   have m41 := o40.mx
   refine OW.rv (RV.assign rfl) rfl ?_
   refine OW.nil (QW.block_n (QW.then_n (CW.region ?_)))
   refine OW.rv (RV.move rfl) rfl ?_
   obtain ⟨g42, hl23⟩ := some_if hl23
   refine OW.rv (RV.sub rfl rfl (by omega)) rfl ?_
   refine OW.rv (RV.assign rfl) rfl ?_
   refine OW.nil ?_
   exact QW.againJ (k' := k22) (Nat.lt_succ_self _) ⟨(l15 ++ ([x31] : List (BitVec 8))), (z20 - (1 : Int)), ob37, c39, r38, hl23, o40, (by omega), rfl, rfl⟩ ⟨rfl, rfl, rfl, trivial⟩ (fun w m => m.pick [0] 2 rfl rfl)
  ·replace hl23 := if_f hl23 h30
   refine CW.is_f rfl (decide_eq_false h30) ?_
   refine CW.exit (QW.then_x (QW.then_x (QW.block_xe ?_)))
   exact QW.join ⟨l15, ob16, c17, r18, (Option.some.inj hl23).symm, o19, rfl, rfl⟩ ⟨rfl, trivial⟩ (fun w m => m.pick [0] 1 rfl rfl)
theorem waybilllaw02_turnedAll_does (w0 : World) (Φ : Ctx) (N : List Ent) (hΦ : ∀ w, Mem w0 w N → Φ w) (A0_ : Option Addr) (c0_ : Nat) (cs0_ : List Value) (a0 : List (List (BitVec 8))) (res0 : List (List (BitVec 8))) (va0 : View Φ A0_ a0.length c0_ 1 cs0_) (ha0 : Reps (BsRd Φ) cs0_ a0) (hf : waybilllaw02_turnedAll a0 = some res0) : DoesG Tryd.prog 17 [.slice A0_ a0.length c0_] w0 [] N (fun v G => ∃ B : List Ent, ∃ cr0 : List Value, ∃ or0 : Option Nat, ∃ kr0 : Nat, ∃ rr0 : List Value, (Reps (BsRd (More w0 Φ B)) cr0 res0) ∧ (OwnS or0 res0.length kr0 1 cr0 rr0) ∧ v = sl or0 0 res0.length kr0 ∧ G = (or0, blk (cr0 ++ rr0) 33) :: B) := by
 unfold waybilllaw02_turnedAll at hf
 replace va0 := va0.mono (Ψ := More w0 Φ []) (fun w q => q.1)
 replace ha0 := ha0.mono (BsRd.mono (Ψ := More w0 Φ []) (fun w q => q.1))
 have m1 := va0.mx
 refine DoesG.enter Tryd.func17 rfl Tryd.ntmps17 rfl (M := (([] ++ N))) rfl ?_
 refine CW.seq (CW.region ?_)
 refine OW.rv (RV.assign rfl) rfl ?_
 refine OW.nil (QW.then_n (CW.seq (CW.region ?_)))
 refine OW.rv (RV.assign rfl) rfl ?_
 refine OW.nil (QW.then_n (CW.seq (CW.seq (CW.region ?_))))
 refine OW.rv (RV.assign rfl) rfl ?_
 refine OW.nil (QW.then_n ?_)
 obtain ⟨q2, hq3, hf⟩ := some_bind hf
 refine CW.cutJ (fun L' M' => ∃ l6 : List (List (BitVec 8)), ∃ B4 : List Ent, ∃ cs7 : List Value, ∃ ob9 : Option Nat, ∃ c10 : Nat, ∃ r11 : List Value, q2 = l6 ∧ (∀ w, Mem w0 w B4 → Mem w0 w []) ∧ (Reps (BsRd (More w0 Φ B4)) cs7 l6) ∧ (OwnS ob9 l6.length c10 1 cs7 r11) ∧ L' = [(3, sl ob9 0 l6.length c10)] ∧ M' = ((ob9, blk (cs7 ++ r11) 33) :: (B4 ++ N))) ?_ ?_
 ·rintro L14 M15 ⟨l6, B4, cs7, ob9, c10, r11, e13, hB5, h8, o12, e16, e17⟩
  rw [e16, e17]
  clear e16 e17 L14 M15
  clear hq3
  rw [e13] at hf
  clear e13
  try dsimp only at hf
  have m18 := o12.mx
  refine QW.then_n (CW.seq (CW.region ?_))
  refine OW.rv (RV.move rfl) rfl ?_
  refine OW.rv (RV.assign rfl) rfl ?_
  refine OW.nil (QW.then_n (CW.ret ?_))
  have e0 := Option.some.inj hf
  subst e0
  refine QW.retG (rs := [.tmp 2]) ([sl ob9 0 l6.length c10]) ((ob9, blk (cs7 ++ r11) 33) :: B4) rfl ?_ rfl ?_ ?_ _ (.inl rfl)
  ·exact ⟨rfl, trivial⟩
  ·exact ⟨B4, cs7, ob9, c10, r11, h8, o12, rfl, rfl⟩
  ·exact (fun w m => m.pick [0] 1 rfl rfl)
 ·skip
  refine CW.block ?_
  refine CW.mem (M' := ((none, blk ([] ++ []) 33) :: ([] ++ N))) (fun w m => m.nil_ent _) ?_
  refine CW.loopJ (fun k L' M' => ∃ l21 : List (List (BitVec 8)), ∃ n28 : Nat, ∃ B19 : List Ent, ∃ cs22 : List Value, ∃ ob24 : Option Nat, ∃ c25 : Nat, ∃ r26 : List Value, (waybilllaw02_turnedAll.l1 a0 k l21 n28) = some q2 ∧ (∀ w, Mem w0 w B19 → Mem w0 w []) ∧ (Reps (BsRd (More w0 Φ B19)) cs22 l21) ∧ (OwnS ob24 l21.length c25 1 cs22 r26) ∧ (n28 ≤ 9223372036854775807) ∧ L' = [(0, .slice A0_ a0.length c0_), (3, sl ob24 0 l21.length c25), (4, .int .i64 ((n28 : Nat) : Int))] ∧ M' = ((ob24, blk (cs22 ++ r26) 33) :: (B19 ++ N))) (k0 := (a0.length - 0 + 2)) ⟨([] : List (List (BitVec 8))), 0, [], [], none, 0, [], hq3, (fun w m => m), Reps.nil, OwnS.nil, (by omega), rfl, rfl⟩ ⟨rfl, rfl, rfl, trivial⟩ (fun w m => m.pick [0] 1 rfl rfl) ?_
  clear hq3
  rintro k30 L33 M34 ⟨l21, n28, B19, cs22, ob24, c25, r26, hl31, hB20, h23, o27, b29, e35, e36⟩
  rw [e35, e36]
  clear e35 e36 L33 M34
  rcases k30 with _ | k30
  ·rw [waybilllaw02_turnedAll.l1] at hl31; cases hl31
  rw [waybilllaw02_turnedAll.l1] at hl31
  have gq1 : ∀ w, More w0 Φ B19 w → More w0 Φ [] w := fun w q => More.mono (fun w m => hB20 w (m)) q
  replace va0 := va0.mono gq1
  replace ha0 := ha0.mono (BsRd.mono gq1)
  have m37 := o27.mx
  refine CW.seq (CW.seq (CW.region ?_))
  refine OW.rv (RV.move rfl) rfl ?_
  refine OW.rv (RV.move rfl) rfl ?_
  refine OW.rv (RV.len rfl rfl) rfl ?_
  refine OW.rv (RV.lss rfl rfl) rfl ?_
  refine OW.slot (.bool (decide (n28 < a0.length))) (congrArg Value.bool (decide_eq_decide.2 (by omega))) ?_
  refine OW.nil (QW.then_n ?_)
  by_cases h38 : n28 < a0.length
  ·replace hl31 := if_t hl31 h38
   refine CW.is_t rfl (decide_eq_true h38) ?_
   refine CW.skip (QW.then_n (CW.seq (CW.block (CW.region ?_))))
   refine OW.rv (RV.move rfl) rfl ?_
   refine OW.rv (RV.move rfl) rfl ?_
   refine OW.rv (RV.move rfl) rfl ?_
   obtain ⟨x39, hx40, hl31⟩ := some_bind hl31
   have hl41 := lt_of_at hx40
   refine OW.rv (RV.idx_r (n28) rfl rfl rfl rfl rfl (va0.isSome (by decide) hl41) (by omega)) rfl ?_
   obtain ⟨cs42, h43, h44⟩ := ha0.get BsRd.len hx40
   obtain ⟨A45, c46, e48, v47⟩ := h43
   subst e48
   have m49 := v47.mx
   refine OW.rv (RV.load_at rfl rfl rfl (fun w m => by have := va0.load (More.of hΦ 1 m rfl) h44 0 _ rfl; simpa [Addr.add] using this)) rfl ?_
   obtain ⟨x51, hx50, hl31⟩ := some_bind hl31
   refine OW.callG Tryd.call42 rfl (waybilllaw02_backward_does w0 (More w0 Φ B19) ((ob24, blk (cs22 ++ r26) 33) :: (B19 ++ N)) (fun w m => More.of hΦ 1 m rfl) A45 c46 x39 x51 v47 hx50) rfl rfl ?_
   rintro L57 M58 ⟨B52, ob53, c54, r55, o56, e59, e60⟩
   rw [e59, e60]
   clear e59 e60 L57 M58
   refine OW.mem (M' := ((ob53, blk ((u8s x51) ++ r55) 5) :: (ob24, blk (cs22 ++ r26) 33) :: ((B52 ++ B19) ++ N))) (fun w m => by have h := Mem.sinkAt (A := B52) m 1 1 rfl rfl; exact h) ?_
   have gq2 : ∀ w, More w0 Φ (B52 ++ B19) w → More w0 Φ B19 w := fun w q => More.mono (fun w m => (m).appR) q
   replace va0 := va0.mono gq2
   replace ha0 := ha0.mono (BsRd.mono gq2)
   replace h23 := h23.mono (BsRd.mono gq2)
   replace v47 := v47.mono gq2
   have m61 := o56.mx
   refine OW.mem (M' := (ob24, blk (cs22 ++ r26) 33) :: (((ob53, blk ((u8s x51) ++ r55) 5) :: (B52 ++ B19)) ++ N)) (fun w m => m.pick [1, 0] 2 rfl rfl) ?_
   have gq3 : ∀ w, More w0 Φ ((ob53, blk ((u8s x51) ++ r55) 5) :: (B52 ++ B19)) w → More w0 Φ (B52 ++ B19) w := fun w q => More.mono (fun w m => (m).tail) q
   replace va0 := va0.mono gq3
   replace ha0 := ha0.mono (BsRd.mono gq3)
   replace h23 := h23.mono (BsRd.mono gq3)
   replace v47 := v47.mono gq3
   have v64 : View (More w0 Φ ((ob53, blk ((u8s x51) ++ r55) 5) :: (B52 ++ B19))) ((ob53).map fun k => ⟨k, 0, none⟩) x51.length c54 1 (u8s x51) := o56.view (by decide) (fun w q => q.2.sublist (List.singleton_sublist.2 (List.mem_cons_self ..)))
   refine OW.ofN (NV.bs1 rfl rfl rfl rfl rfl rfl) rfl (fun b62 => ?_)
   have h66 : Reps (BsRd (More w0 Φ ((ob53, blk ((u8s x51) ++ r55) 5) :: (B52 ++ B19)))) (([.slice ((ob53).map fun k => ⟨k, 0, none⟩) x51.length c54] : List Value)) [x51] := Reps.one (BsRd.mk v64)
   refine OW.mem (M' := (((some b62), blk ((([.slice ((ob53).map fun k => ⟨k, 0, none⟩) x51.length c54] : List Value)) ++ []) 33) :: (ob24, blk (cs22 ++ r26) 33) :: (((ob53, blk ((u8s x51) ++ r55) 5) :: (B52 ++ B19)) ++ N))) (fun w m => m) ?_
   have o63 : OwnS (some b62) ([x51] : List (List (BitVec 8))).length 1 1 (([.slice ((ob53).map fun k => ⟨k, 0, none⟩) x51.length c54] : List Value)) [] := ⟨by simp [BsRd], by simp [BsRd], (fun h => nomatch h), by simp⟩
   refine OW.slot (sl (some b62) 0 ([x51] : List (List (BitVec 8))).length 1) (rfl) ?_
   refine OW.rot1 ?_
   obtain ⟨g67, hl31⟩ := some_if hl31
   have h72 := h23.app h66
   refine OW.appendOwn (s := 1) rfl rfl rfl rfl rfl rfl o27 (fun w m => m.rd0 (List.Mem.tail _ (List.Mem.head _)) (fun e => o63.nilc (by decide) e)) o63.n (h66.cell1 BsRd.one) (o63.zeroO (by decide)) (by decide) (by decide) (by first | omega | (simp only [i33, List.length_nil]; omega)) rfl rfl ((l21 ++ ([x51] : List (List (BitVec 8)))).length) (cs22 ++ (([.slice ((ob53).map fun k => ⟨k, 0, none⟩) x51.length c54] : List Value))) (List.length_append ..).symm rfl (fun ob68 r69 c70 o71 => ?_)
   have m73 := o71.mx
   refine OW.rv (RV.assign rfl) rfl ?_
   refine OW.nil (QW.block_n (QW.then_n (CW.region ?_)))
   refine OW.rv (RV.move rfl) rfl ?_
   refine OW.rv (RV.add rfl rfl (by omega)) rfl ?_
   refine OW.slot (.int .i64 (((n28 + 1) : Nat) : Int)) (by first | rfl | (congr 1) | (congr 1; omega)) ?_
   refine OW.rv (RV.assign rfl) rfl ?_
   refine OW.nil ?_
   exact QW.againJ (k' := k30) (Nat.lt_succ_self _) ⟨(l21 ++ ([x51] : List (List (BitVec 8)))), (n28 + 1), ((ob53, blk ((u8s x51) ++ r55) 5) :: (B52 ++ B19)), (cs22 ++ (([.slice ((ob53).map fun k => ⟨k, 0, none⟩) x51.length c54] : List Value))), ob68, c70, r69, hl31, (fun w m => hB20 w (((m).tail).appR)), h72, o71, (by omega), rfl, rfl⟩ ⟨rfl, rfl, rfl, trivial⟩ (fun w m => m.pick [0] 2 rfl rfl)
  ·replace hl31 := if_f hl31 h38
   refine CW.is_f rfl (decide_eq_false h38) ?_
   refine CW.exit (QW.then_x (QW.then_x (QW.block_xe ?_)))
   exact QW.join ⟨l21, B19, cs22, ob24, c25, r26, (Option.some.inj hl31).symm, (fun w m => hB20 w (m)), h23, o27, rfl, rfl⟩ ⟨rfl, trivial⟩ (fun w m => m.pick [0] 1 rfl rfl)
abbrev mk02 : List (BitVec 8) := List.replicate 200 195#8
theorem waybilllaw02_lentAll_raw (w0 : World) (Φ : Ctx) (N : List Ent) (hΦ : ∀ w, Mem w0 w N → Φ w) (A0 : Option Addr) (c0 : Nat) (cs0 : List Value) (a0 : List (List (BitVec 8))) (va0 : View Φ A0 a0.length c0 1 cs0) (ha0 : Reps (BsRd Φ) cs0 a0) (hb : (a0.length + 1) * 24 ≤ 140737488355328) (hm : ∀ t ∈ a0, t.length + 200 ≤ 140737488355328) :
  DoesG Tryd.prog 11 [.slice A0 a0.length c0] w0 [] N (fun v G => ∃ (b0 bm : Nat) (ls : List Lt), ls.map (·.t) = a0 ∧ (∀ x ∈ ls, x.Ok mk02) ∧ v = .slice (some ⟨b0, 0, none⟩) a0.length (a0.length + 1) ∧
   G = lx 33 5 mk02 b0 [] [⟨bm, [195#8], 1, []⟩] ls) := by
 have m1 := va0.mx
 refine DoesG.enter Tryd.func11 rfl Tryd.ntmps11 rfl (M := N) rfl ?_
 (repeat (first | refine CW.seq ?_ | refine QW.then_n ?_ | refine CW.block ?_ | refine CW.ret ?_ | refine CW.skip ?_ | refine CW.exit ?_ | refine QW.then_x ?_ | refine QW.then_r ?_ | refine QW.block_n ?_ | refine QW.block_xe ?_ | refine QW.block_xn rfl ?_ | refine QW.block_r ?_))
 refine CW.region ?_
 refine OW.rv (RV.assign rfl) rfl ?_
 refine OW.nil ?_
 (repeat (first | refine CW.seq ?_ | refine QW.then_n ?_ | refine CW.block ?_ | refine CW.ret ?_ | refine CW.skip ?_ | refine CW.exit ?_ | refine QW.then_x ?_ | refine QW.then_r ?_ | refine QW.block_n ?_ | refine QW.block_xe ?_ | refine QW.block_xn rfl ?_ | refine QW.block_r ?_))
 refine CW.region ?_
 refine OW.rv (RV.move rfl) rfl ?_
 refine OW.rv (RV.len rfl rfl) rfl ?_
 refine OW.rv (RV.add rfl rfl (by omega)) rfl ?_
 refine OW.make (a0.length + 1) (a0.length + 1) rfl rfl rfl rfl rfl rfl rfl rfl (by omega) (by simp only [i33]; omega) (by omega) rfl (fun b0 => ?_)
 refine OW.rv (RV.assign rfl) rfl ?_
 refine OW.nil ?_
 (repeat (first | refine CW.seq ?_ | refine QW.then_n ?_ | refine CW.block ?_ | refine CW.ret ?_ | refine CW.skip ?_ | refine CW.exit ?_ | refine QW.then_x ?_ | refine QW.then_r ?_ | refine QW.block_n ?_ | refine QW.block_xe ?_ | refine QW.block_xn rfl ?_ | refine QW.block_r ?_))
 (repeat (first | refine CW.seq ?_ | refine QW.then_n ?_ | refine CW.block ?_ | refine CW.ret ?_ | refine CW.skip ?_ | refine CW.exit ?_ | refine QW.then_x ?_ | refine QW.then_r ?_ | refine QW.block_n ?_ | refine QW.block_xe ?_ | refine QW.block_xn rfl ?_ | refine QW.block_r ?_))
 refine CW.region ?_
 refine OW.rv (RV.assign rfl) rfl ?_
 refine OW.nil ?_
 (repeat (first | refine CW.seq ?_ | refine QW.then_n ?_ | refine CW.block ?_ | refine CW.ret ?_ | refine CW.skip ?_ | refine CW.exit ?_ | refine QW.then_x ?_ | refine QW.then_r ?_ | refine QW.block_n ?_ | refine QW.block_xe ?_ | refine QW.block_xn rfl ?_ | refine QW.block_r ?_))
 refine CW.loopJ (fun k L' M' => ∃ (i : Nat) (ls : List Lt), k = a0.length - i ∧ i ≤ a0.length ∧ ls.length = i ∧ ls.map (·.t) = a0.take i ∧ (∀ x ∈ ls, x.Ok mk02) ∧ L' = [(0, .slice A0 a0.length c0), (3, sl (some b0) 0 (a0.length + 1) (a0.length + 1)), (4, .int .i64 (i : Int))] ∧ M' = (some b0, blk (ls.map Lt.cell ++ List.replicate (a0.length + 1 - i) (.slice none 0 0)) 33) :: (lents 5 mk02 ls ++ N)) (k0 := a0.length) ⟨0, [], rfl, by omega, rfl, rfl, (fun x hx => by cases hx), rfl, rfl⟩ ⟨rfl, rfl, rfl, trivial⟩ (fun w m => m) ?_
 rintro k L' M' ⟨i, ls, rfl, hi, hl, ht, hok, rfl, rfl⟩
 (repeat (first | refine CW.seq ?_ | refine QW.then_n ?_ | refine CW.block ?_ | refine CW.ret ?_ | refine CW.skip ?_ | refine CW.exit ?_ | refine QW.then_x ?_ | refine QW.then_r ?_ | refine QW.block_n ?_ | refine QW.block_xe ?_ | refine QW.block_xn rfl ?_ | refine QW.block_r ?_))
 refine CW.region ?_
 refine OW.rv (RV.move rfl) rfl ?_
 refine OW.rv (RV.move rfl) rfl ?_
 refine OW.rv (RV.len rfl rfl) rfl ?_
 refine OW.rv (RV.lss rfl rfl) rfl ?_
 refine OW.nil ?_
 (repeat (first | refine CW.seq ?_ | refine QW.then_n ?_ | refine CW.block ?_ | refine CW.ret ?_ | refine CW.skip ?_ | refine CW.exit ?_ | refine QW.then_x ?_ | refine QW.then_r ?_ | refine QW.block_n ?_ | refine QW.block_xe ?_ | refine QW.block_xn rfl ?_ | refine QW.block_r ?_))
 (first | refine CW.cond_t rfl ?_ | refine CW.cond_f rfl ?_ | refine CW.cond_p rfl (fun hlt => ?_) (fun hlt => ?_) | refine CW.cond_np rfl (fun hlt => ?_) (fun hlt => ?_) | refine CW.cond rfl (fun hlt => ?_) (fun hlt => ?_))
 ·have hx : a0[i]? = some a0[i] := List.getElem?_eq_getElem (by omega)
  have h1 : i < a0.length := by omega
  obtain ⟨cs, hr, hcs⟩ := ha0.get BsRd.len hx
  obtain ⟨A1, c1, e, v1⟩ := hr
  subst e
  (repeat (first | refine CW.seq ?_ | refine QW.then_n ?_ | refine CW.block ?_ | refine CW.ret ?_ | refine CW.skip ?_ | refine CW.exit ?_ | refine QW.then_x ?_ | refine QW.then_r ?_ | refine QW.block_n ?_ | refine QW.block_xe ?_ | refine QW.block_xn rfl ?_ | refine QW.block_r ?_))
  refine CW.region ?_
  refine OW.rv (RV.move rfl) rfl ?_
  refine OW.rv (RV.move rfl) rfl ?_
  refine OW.rv (RV.move rfl) rfl ?_
  refine OW.rv (RV.move rfl) rfl ?_
  refine OW.rv (RV.idx_r (i) rfl rfl rfl rfl rfl (va0.isSome (by decide) h1) (by omega)) rfl ?_
  refine OW.rv (RV.load_at rfl rfl rfl (fun w m => va0.cell (hΦ w (m.tail.sublist (List.sublist_append_right _ _))) (show cs0[i]? = some (.slice A1 a0[i].length c1) by have := hcs 0 _ rfl; simpa using this))) rfl ?_
  refine OW.callG Tryd.call21 rfl (waybilllaw02_lent_raw w0 Φ _ (fun w m => hΦ w (m.tail.sublist (List.sublist_append_right _ _))) A1 c1 a0[i] a0[i] v1 (by unfold waybilllaw02_lent lentN; rw [if_pos (hm _ (List.getElem_mem h1))])) rfl rfl ?_
  rintro L1 M1 ⟨b, o1, mx, e1, e2⟩
  rw [e1, e2]
  clear e1 e2 L1 M1
  refine OW.rv (RV.idx_o (i) rfl rfl rfl rfl rfl rfl (by omega)) rfl ?_
  refine OW.rot1 ?_
  refine OW.sv (SV.store rfl rfl rfl rfl rfl (by simp; omega)) ?_
  refine OW.cells _ (set_rep hl (by omega) (⟨b, a0[i], a0[i].length + 200, []⟩ : Lt)) ?_
  refine OW.nil ?_
  (repeat (first | refine CW.seq ?_ | refine QW.then_n ?_ | refine CW.block ?_ | refine CW.ret ?_ | refine CW.skip ?_ | refine CW.exit ?_ | refine QW.then_x ?_ | refine QW.then_r ?_ | refine QW.block_n ?_ | refine QW.block_xe ?_ | refine QW.block_xn rfl ?_ | refine QW.block_r ?_))
  (repeat (first | refine CW.seq ?_ | refine QW.then_n ?_ | refine CW.block ?_ | refine CW.ret ?_ | refine CW.skip ?_ | refine CW.exit ?_ | refine QW.then_x ?_ | refine QW.then_r ?_ | refine QW.block_n ?_ | refine QW.block_xe ?_ | refine QW.block_xn rfl ?_ | refine QW.block_r ?_))
  refine CW.region ?_
  refine OW.rv (RV.move rfl) rfl ?_
  refine OW.rv (RV.add rfl rfl (by omega)) rfl ?_
  refine OW.rv (RV.assign rfl) rfl ?_
  refine OW.nil ?_
  (repeat (first | refine CW.seq ?_ | refine QW.then_n ?_ | refine CW.block ?_ | refine CW.ret ?_ | refine CW.skip ?_ | refine CW.exit ?_ | refine QW.then_x ?_ | refine QW.then_r ?_ | refine QW.block_n ?_ | refine QW.block_xe ?_ | refine QW.block_xn rfl ?_ | refine QW.block_r ?_))
  refine QW.againJ (k' := a0.length - (i + 1)) (by omega) ⟨i + 1, ls ++ [(⟨b, a0[i], a0[i].length + 200, []⟩ : Lt)], rfl, by omega, by simp [hl], by rw [List.map_append, ht, List.take_add_one, hx]; rfl, ?_, rfl, rfl⟩ ⟨rfl, rfl, rfl, trivial⟩ (fun w m => lents_snoc (X := [_]) (x := ⟨b, a0[i], a0[i].length + 200, []⟩) m)
  intro x hx
  rcases List.mem_append.1 hx with hx | hx
  ·exact hok x hx
  ·obtain rfl := List.mem_singleton.1 hx
   exact ⟨o1, by show a0[i].length + (List.replicate 200 195#8).length ≤ _; rw [List.length_replicate]; exact mx⟩
 ·have hie : i = a0.length := by omega
  subst hie
  rw [List.take_length] at ht
  (repeat (first | refine CW.seq ?_ | refine QW.then_n ?_ | refine CW.block ?_ | refine CW.ret ?_ | refine CW.skip ?_ | refine CW.exit ?_ | refine QW.then_x ?_ | refine QW.then_r ?_ | refine QW.block_n ?_ | refine QW.block_xe ?_ | refine QW.block_xn rfl ?_ | refine QW.block_r ?_))
  refine CW.region ?_
  refine OW.rv (RV.move rfl) rfl ?_
  refine OW.rv (RV.move rfl) rfl ?_
  refine OW.rv (RV.len rfl rfl) rfl ?_
  refine OW.ofN (NV.bs1 rfl rfl rfl rfl rfl rfl) rfl (fun bm => ?_)
  refine OW.rv (RV.idx_o (a0.length) rfl rfl rfl rfl rfl rfl (by omega)) rfl ?_
  refine OW.rot1 ?_
  refine OW.sv (SV.store rfl rfl rfl rfl rfl (by simp; omega)) ?_
  refine OW.cells (ls.map Lt.cell ++ [.slice (some ⟨bm, 0, none⟩) 1 1]) (by rw [Nat.zero_add, List.set_append_right _ _ (by simp [hl]), List.length_map, hl, Nat.sub_self, show a0.length + 1 - a0.length = 1 by omega]; rfl) ?_
  refine OW.nil ?_
  (repeat (first | refine CW.seq ?_ | refine QW.then_n ?_ | refine CW.block ?_ | refine CW.ret ?_ | refine CW.skip ?_ | refine CW.exit ?_ | refine QW.then_x ?_ | refine QW.then_r ?_ | refine QW.block_n ?_ | refine QW.block_xe ?_ | refine QW.block_xn rfl ?_ | refine QW.block_r ?_))
  refine CW.region ?_
  refine OW.rv (RV.move rfl) rfl ?_
  refine OW.rv (RV.move rfl) rfl ?_
  refine OW.rv (RV.len rfl rfl) rfl ?_
  refine OW.rv (RV.cut_o (a0.length) rfl rfl rfl rfl rfl (by omega)) rfl ?_
  refine OW.rv (RV.assign rfl) rfl ?_
  refine OW.nil ?_
  (repeat (first | refine CW.seq ?_ | refine QW.then_n ?_ | refine CW.block ?_ | refine CW.ret ?_ | refine CW.skip ?_ | refine CW.exit ?_ | refine QW.then_x ?_ | refine QW.then_r ?_ | refine QW.block_n ?_ | refine QW.block_xe ?_ | refine QW.block_xn rfl ?_ | refine QW.block_r ?_))
  refine QW.retG (rs := [.tmp 2]) [sl (some b0) 0 a0.length (a0.length + 1)] ((some b0, blk (ls.map Lt.cell ++ [.slice (some ⟨bm, 0, none⟩) 1 1]) 33) :: (some bm, blk (u8s [195#8]) 5) :: lents 5 mk02 ls) rfl ?_ rfl ?_ ?_ _ (.inl rfl)
  ·exact ⟨rfl, trivial⟩
  ·exact ⟨b0, bm, ls, ht, hok, rfl, rfl⟩
  ·exact fun w m => m
theorem bm_ok (bm : Nat) : (⟨bm, [195#8], 1, []⟩ : Lt).Ok [] := ⟨⟨rfl, rfl, (fun h => nomatch h), by show 1 ≤ _; decide⟩, by show 1 + 0 ≤ _; decide⟩
theorem sums_write (w0 : World) (Φ : Ctx) (N X : List Ent) (b0 : Nat) (mks ls : List Lt) (i : Nat) (x : Lt) (src : List (BitVec 8)) (hx : ls[i]? = some x) (hl : src.length = x.t.length) {w : World}
  (m : Mem w0 w ((some x.b, blk (spl (u8s x.t ++ (u8s mk02 ++ x.r)) 0 ((u8s src).take (min src.length x.t.length))) 5) :: ((X ++ ((some b0, blk (ls.map Lt.cell ++ (mks.map Lt.cell ++ [])) 33) :: lents 5 [] mks)) ++ (lents 5 mk02 (ls.take i ++ ls.drop (i + 1)) ++ N)))) :
  Mem w0 w (X ++ (lx 33 5 mk02 b0 [] mks (ls.set i ⟨x.b, src, x.c, x.r⟩) ++ N)) := by
 refine lx_back (y := ⟨x.b, src, x.c, x.r⟩) hx (by show Value.slice _ src.length _ = Value.slice _ x.t.length _; rw [hl]) ?_
 have e : spl (u8s x.t ++ (u8s mk02 ++ x.r)) 0 ((u8s src).take (min src.length x.t.length)) = u8s src ++ (u8s mk02 ++ x.r) := by
  rw [hl, Nat.min_self, ← hl, List.take_of_length_le (by rw [u8s_length]; exact Nat.le_refl _), spl_front _ _ (by rw [u8s_length, List.length_append, u8s_length]; omega), u8s_length, hl, ← u8s_length x.t, List.drop_left]
 rw [e] at m
 exact m
theorem waybilllaw02_KeccakSums_does (w0 : World) (Φ : Ctx) (N : List Ent) (hΦ : ∀ w, Mem w0 w N → Φ w) (A0 : Option Addr) (c0 : Nat) (cs0 : List Value) (a0 : List (List (BitVec 8))) (va0 : View Φ A0 a0.length c0 1 cs0) (ha0 : Reps (BsRd Φ) cs0 a0)
  (hg : View Φ (some ⟨1, 0, none⟩) 2 2 1 (u8s firstL)) (hTn : ∀ i, i < 25 → w0.cell? ⟨2, i, none⟩ = some (.int .i64 (turnsL.getD i 0))) (hRn : ∀ i, i < 24 → w0.cell? ⟨0, i, none⟩ = some (U64 (g64 roundsL i)))
  (hb : (a0.length + 1) * 24 ≤ 140737488355328) (hm : a0.flatten.length + 200 ≤ 140737488355328) :
  DoesG Tryd.prog 4 [.slice A0 a0.length c0] w0 [] N (fun v G => v = .bool true) := by
 have hm1 : ∀ t ∈ a0, t.length + 200 ≤ 140737488355328 := fun t ht => by have := mem_flat ht; omega
 have hD1 := ksum_eq a0 (by omega)
 have hD6 := sha3_eq a0 (by omega)
 have hR1 := rsum_eq a0 (by omega)
 have hR6 := rsha3_eq a0 (by omega)
 have hfl := flat_rev a0
 have hE1 := ksum_eq (a0.map List.reverse) (by omega)
 have hE6 := sha3_eq (a0.map List.reverse) (by omega)
 have hS1 := rsum_eq (a0.map List.reverse) (by omega)
 have hS6 := rsha3_eq (a0.map List.reverse) (by omega)
 generalize digestR a0.flatten 1#8 = D1 at hD1 hR1
 generalize digestR a0.flatten 6#8 = D6 at hD6 hR6
 generalize digestR (a0.map List.reverse).flatten 1#8 = E1 at hE1 hS1
 generalize digestR (a0.map List.reverse).flatten 6#8 = E6 at hE6 hS6
 have m1 := va0.mx
 refine DoesG.enter Tryd.func4 rfl Tryd.ntmps4 rfl (M := N) rfl ?_
 (repeat (first | refine CW.seq ?_ | refine QW.then_n ?_ | refine CW.block ?_ | refine CW.ret ?_ | refine CW.skip ?_ | refine CW.exit ?_ | refine QW.then_x ?_ | refine QW.then_r ?_ | refine QW.block_n ?_ | refine QW.block_xe ?_ | refine QW.block_xn rfl ?_ | refine QW.block_r ?_))
 refine CW.region ?_
 refine OW.rv (RV.assign rfl) rfl ?_
 refine OW.nil ?_
 (repeat (first | refine CW.seq ?_ | refine QW.then_n ?_ | refine CW.block ?_ | refine CW.ret ?_ | refine CW.skip ?_ | refine CW.exit ?_ | refine QW.then_x ?_ | refine QW.then_r ?_ | refine QW.block_n ?_ | refine QW.block_xe ?_ | refine QW.block_xn rfl ?_ | refine QW.block_r ?_))
 refine CW.region ?_
 refine OW.rv (RV.move rfl) rfl ?_
 refine OW.callG Tryd.call11 rfl (waybilllaw02_lentAll_raw w0 Φ N hΦ A0 c0 cs0 a0 va0 ha0 hb hm1) rfl rfl ?_
 rintro L1 M1 ⟨b0, bm, ls, ht, hok, e1, e2⟩
 rw [e1, e2]
 clear e1 e2 L1 M1
 refine OW.rv (RV.assign rfl) rfl ?_
 refine OW.nil ?_
 (repeat (first | refine CW.seq ?_ | refine QW.then_n ?_ | refine CW.block ?_ | refine CW.ret ?_ | refine CW.skip ?_ | refine CW.exit ?_ | refine QW.then_x ?_ | refine QW.then_r ?_ | refine QW.block_n ?_ | refine QW.block_xe ?_ | refine QW.block_xn rfl ?_ | refine QW.block_r ?_))
 have hln : ls.length = a0.length := by rw [← ht, List.length_map]
 have hk1 : ∀ x ∈ [(⟨bm, [195#8], 1, []⟩ : Lt)], x.Ok [] := fun x hx => by obtain rfl := List.mem_singleton.1 hx; exact bm_ok bm
 have hrd : ∀ (l : List Lt) (Ψ : Ctx), (∀ x ∈ l, x.Ok mk02) → l.length = a0.length → (∀ w, Ψ w → Mem w0 w (lx 33 5 mk02 b0 [] [⟨bm, [195#8], 1, []⟩] l)) → (View Ψ (some ⟨b0, 0, none⟩) (l.map (·.t)).length (a0.length + 1) 1 (l.map Lt.cell) ∧ Reps (BsRd Ψ) (l.map Lt.cell) (l.map (·.t))) ∧ MRooms mk02 [[195#8]] Ψ (some ⟨b0, 0, none⟩) (a0.length + 1) (l.map (·.t)) := fun l Ψ h1 h2 h3 =>
  ⟨lx_list h1 h3 (by rw [h2]; exact Nat.le_refl _) (by rw [h2, List.length_singleton]; omega), lx_rooms h1 hk1 h3 (by rw [h2]; exact Nat.le_refl _) (by rw [h2, List.length_singleton]; omega)⟩
 -- the digests
 obtain ⟨⟨v1, r1⟩, g1⟩ := hrd ls (fun w => Mem w0 w (lx 33 5 mk02 b0 [] [⟨bm, [195#8], 1, []⟩] ls ++ N)) hok hln (fun w m => m.appL)
 rw [ht] at v1 r1 g1
 refine CW.region ?_
 refine OW.rv (RV.move rfl) rfl ?_
 refine OW.callG Tryd.call12 rfl (keccak_Sum_does w0 _ _ (fun w m => m) _ _ _ a0 D1 v1 r1 (hg.mono fun w m => hΦ w m.appR) hD1) rfl rfl ?_
 rintro _ G1 rfl
 refine OW.mem (M' := lx 33 5 mk02 b0 [] [⟨bm, [195#8], 1, []⟩] ls ++ N) (fun w m => m.appR) ?_
 refine OW.alloc (l := u8s (List.replicate 32 0#8)) rfl (by rw [← u8s_rep']; rfl) rfl (fun b4 => ?_)
 refine OW.sv (SV.storeW rfl rfl rfl (u8s_one _) rfl ((u8s_length _).trans (List.length_replicate ..)) ((u8s_length _).trans Vector.length_toList)) ?_
 refine OW.nil ?_
 (repeat (first | refine CW.seq ?_ | refine QW.then_n ?_ | refine CW.block ?_ | refine CW.ret ?_ | refine CW.skip ?_ | refine CW.exit ?_ | refine QW.then_x ?_ | refine QW.then_r ?_ | refine QW.block_n ?_ | refine QW.block_xe ?_ | refine QW.block_xn rfl ?_ | refine QW.block_r ?_))
 refine CW.region ?_
 refine OW.rv (RV.move rfl) rfl ?_
 refine OW.callG Tryd.call13 rfl (keccak_Sha3_does w0 _ _ (fun w m => m.tail) _ _ _ a0 D6 v1 r1 (hg.mono fun w m => hΦ w m.appR) hD6) rfl rfl ?_
 rintro _ G1 rfl
 refine OW.mem (M' := (some b4, blk (u8s D1.toList) 29) :: (lx 33 5 mk02 b0 [] [⟨bm, [195#8], 1, []⟩] ls ++ N)) (fun w m => m.appR) ?_
 refine OW.alloc (l := u8s (List.replicate 32 0#8)) rfl (by rw [← u8s_rep']; rfl) rfl (fun b5 => ?_)
 refine OW.sv (SV.storeW rfl rfl rfl (u8s_one _) rfl ((u8s_length _).trans (List.length_replicate ..)) ((u8s_length _).trans Vector.length_toList)) ?_
 refine OW.nil ?_
 (repeat (first | refine CW.seq ?_ | refine QW.then_n ?_ | refine CW.block ?_ | refine CW.ret ?_ | refine CW.skip ?_ | refine CW.exit ?_ | refine QW.then_x ?_ | refine QW.then_r ?_ | refine QW.block_n ?_ | refine QW.block_xe ?_ | refine QW.block_xn rfl ?_ | refine QW.block_r ?_))
 refine CW.drawsU 16 mixed (by kernel_rfl) rfl ?_
 refine UW.rv 0 rfl (by kernel_rfl) rfl (RV.loadW rfl (List.Mem.tail _ (List.Mem.head _)) rfl rfl rfl rfl ((u8s_length _).trans Vector.length_toList)) rfl ?_
 refine UW.rv 1 rfl (by kernel_rfl) rfl (RV.move rfl) rfl ?_
 refine UW.callG 2 rfl (by kernel_rfl) rfl Tryd.call14 rfl (fun N' hN' => waybillref02_Sum_does w0 Φ N' (fun w m => hΦ w (hN' w m).tail.tail.appR) A0 c0 cs0 a0 D1 va0 ha0 hTn hRn hR1) rfl ?_
 rintro _ G1 rfl
 refine UW.mem (M' := (some b5, blk (u8s D6.toList) 29) :: (some b4, blk (u8s D1.toList) 29) :: (lx 33 5 mk02 b0 [] [⟨bm, [195#8], 1, []⟩] ls ++ N)) (fun w m => m.appR) ?_
 refine UW.rv 3 rfl (by kernel_rfl) rfl (RV.neA8 rfl rfl rfl rfl rfl rfl Vector.length_toList Vector.length_toList) rfl ?_
 refine UW.slot (.bool false) (by simp) ?_
 refine UW.rv 4 rfl (by kernel_rfl) rfl (RV.move rfl) rfl ?_
 refine UW.rv 5 rfl (by kernel_rfl) rfl (RV.loadW rfl (List.Mem.head _) rfl rfl rfl rfl ((u8s_length _).trans Vector.length_toList)) rfl ?_
 refine UW.rv 6 rfl (by kernel_rfl) rfl (RV.move rfl) rfl ?_
 refine UW.callG 7 rfl (by kernel_rfl) rfl Tryd.call15 rfl (fun N' hN' => waybillref02_Sha3_does w0 Φ N' (fun w m => hΦ w (hN' w m).tail.tail.appR) A0 c0 cs0 a0 D6 va0 ha0 hTn hRn hR6) rfl ?_
 rintro _ G1 rfl
 refine UW.mem (M' := (some b5, blk (u8s D6.toList) 29) :: (some b4, blk (u8s D1.toList) 29) :: (lx 33 5 mk02 b0 [] [⟨bm, [195#8], 1, []⟩] ls ++ N)) (fun w m => m.appR) ?_
 refine UW.rv 8 rfl (by kernel_rfl) rfl (RV.neA8 rfl rfl rfl rfl rfl rfl Vector.length_toList Vector.length_toList) rfl ?_
 refine UW.slot (.bool false) (by simp) ?_
 refine UW.rv 9 rfl (by kernel_rfl) rfl (RV.pick_f rfl rfl rfl) rfl ?_
 refine UW.rv 10 rfl (by kernel_rfl) rfl (RV.move rfl) rfl ?_
 refine UW.rv 11 rfl (by kernel_rfl) rfl (RV.move rfl) rfl ?_
 refine UW.rv 12 rfl (by kernel_rfl) rfl (RV.move rfl) rfl ?_
 refine UW.callG 13 rfl (by kernel_rfl) rfl Tryd.call16 rfl (fun N' hN' => waybilllaw02_stillAll_does w0 (fun w => Mem w0 w (lx 33 5 mk02 b0 [] [⟨bm, [195#8], 1, []⟩] ls ++ N)) N' (fun w m => (hN' w m).tail.tail) _ _ a0 A0 c0 cs0 a0 true g1 (va0.mono fun w m => hΦ w m.appR) (ha0.mono (BsRd.mono fun w m => hΦ w m.appR)) (stillAll_eq a0)) rfl ?_
 rintro _ G1 rfl
 refine UW.mem (M' := (some b5, blk (u8s D6.toList) 29) :: (some b4, blk (u8s D1.toList) 29) :: (lx 33 5 mk02 b0 [] [⟨bm, [195#8], 1, []⟩] ls ++ N)) (fun w m => m.appR) ?_
 refine UW.rv 14 rfl (by kernel_rfl) rfl (RV.not rfl) rfl ?_
 refine UW.rv 15 rfl (by kernel_rfl) rfl (RV.pick_f rfl rfl rfl) rfl ?_
 refine UW.nil (by kernel_rfl) ?_
 refine OW.nil ?_
 (repeat (first | refine CW.seq ?_ | refine QW.then_n ?_ | refine CW.block ?_ | refine CW.ret ?_ | refine CW.skip ?_ | refine CW.exit ?_ | refine QW.then_x ?_ | refine QW.then_r ?_ | refine QW.block_n ?_ | refine QW.block_xe ?_ | refine QW.block_xn rfl ?_ | refine QW.block_r ?_))
 refine CW.is_f rfl rfl ?_
 (repeat (first | refine CW.seq ?_ | refine QW.then_n ?_ | refine CW.block ?_ | refine CW.ret ?_ | refine CW.skip ?_ | refine CW.exit ?_ | refine QW.then_x ?_ | refine QW.then_r ?_ | refine QW.block_n ?_ | refine QW.block_xe ?_ | refine QW.block_xn rfl ?_ | refine QW.block_r ?_))
 refine CW.region ?_
 refine OW.rv (RV.move rfl) rfl ?_
 refine OW.callG Tryd.call17 rfl (waybilllaw02_turnedAll_does w0 Φ _ (fun w m => hΦ w m.tail.tail.appR) A0 c0 cs0 a0 (a0.map List.reverse) va0 ha0 (turnedAll_eq a0 (fun t ht => by have := hm1 t ht; omega) (by omega))) rfl rfl ?_
 rintro L1 M1 ⟨B, cr, or0, kr, rr, hRo, hOo, e1, e2⟩
 rw [e1, e2]
 clear e1 e2 L1 M1
 refine OW.rv (RV.assign rfl) rfl ?_
 refine OW.nil ?_
 (repeat (first | refine CW.seq ?_ | refine QW.then_n ?_ | refine CW.block ?_ | refine CW.ret ?_ | refine CW.skip ?_ | refine CW.exit ?_ | refine QW.then_x ?_ | refine QW.then_r ?_ | refine QW.block_n ?_ | refine QW.block_xe ?_ | refine QW.block_xn rfl ?_ | refine QW.block_r ?_))
 (repeat (first | refine CW.seq ?_ | refine QW.then_n ?_ | refine CW.block ?_ | refine CW.ret ?_ | refine CW.skip ?_ | refine CW.exit ?_ | refine QW.then_x ?_ | refine QW.then_r ?_ | refine QW.block_n ?_ | refine QW.block_xe ?_ | refine QW.block_xn rfl ?_ | refine QW.block_r ?_))
 refine CW.region ?_
 refine OW.rv (RV.assign rfl) rfl ?_
 refine OW.nil ?_
 (repeat (first | refine CW.seq ?_ | refine QW.then_n ?_ | refine CW.block ?_ | refine CW.ret ?_ | refine CW.skip ?_ | refine CW.exit ?_ | refine QW.then_x ?_ | refine QW.then_r ?_ | refine QW.block_n ?_ | refine QW.block_xe ?_ | refine QW.block_xn rfl ?_ | refine QW.block_r ?_))
 have hno : (a0.map List.reverse).length = a0.length := List.length_map ..
 have vo : View (More w0 Φ ((or0, blk (cr ++ rr) 33) :: B)) (or0.map fun k => ⟨k, 0, none⟩) (a0.map List.reverse).length kr 1 cr := hOo.view (by decide) (te := 33) (fun w q => q.2.sublist (List.singleton_sublist.2 (List.mem_cons_self ..)))
 have ro : Reps (BsRd (More w0 Φ ((or0, blk (cr ++ rr) 33) :: B))) cr (a0.map List.reverse) := hRo.mono (BsRd.mono fun w q => ⟨q.1, q.2.tail⟩)
 refine CW.loopJ (fun k L' M' => ∃ (i : Nat) (lt : List Lt), k = a0.length - i ∧ i ≤ a0.length ∧ lt.length = a0.length ∧ lt.map (·.t) = (a0.map List.reverse).take i ++ a0.drop i ∧ (∀ x ∈ lt, x.Ok mk02) ∧ L' = [(0, .slice A0 a0.length c0), (3, .slice (some ⟨b0, 0, none⟩) a0.length (a0.length + 1)), (4, ptr (some b4) 0), (5, ptr (some b5) 0), (6, sl or0 0 (a0.map List.reverse).length kr), (7, .int .i64 (i : Int))] ∧ M' = (some b5, blk (u8s D6.toList) 29) :: (some b4, blk (u8s D1.toList) 29) :: (or0, blk (cr ++ rr) 33) :: (B ++ (lx 33 5 mk02 b0 [] [⟨bm, [195#8], 1, []⟩] lt ++ N))) (k0 := a0.length) ⟨0, ls, rfl, by omega, hln, by rw [ht]; rfl, hok, rfl, rfl⟩ ⟨rfl, rfl, rfl, rfl, rfl, rfl, trivial⟩ (fun w m => m.perm ((List.perm_middle (l₁ := (or0, blk (cr ++ rr) 33) :: B)).trans (List.Perm.cons _ (List.perm_middle (l₁ := (or0, blk (cr ++ rr) 33) :: B))))) ?_
 clear g1 r1 v1
 rintro k L' M' ⟨i, lt, rfl, hi, hll, htx, hok2, rfl, rfl⟩
 have hD : ∀ w, Mem w0 w ((some b5, blk (u8s D6.toList) 29) :: (some b4, blk (u8s D1.toList) 29) :: (or0, blk (cr ++ rr) 33) :: (B ++ (lx 33 5 mk02 b0 [] [⟨bm, [195#8], 1, []⟩] lt ++ N))) → More w0 Φ ((or0, blk (cr ++ rr) 33) :: B) w := fun w m => ⟨hΦ w m.tail.tail.tail.appR.appR, (m.tail.tail).sublist (List.Sublist.cons_cons _ (List.sublist_append_left _ _))⟩
 (repeat (first | refine CW.seq ?_ | refine QW.then_n ?_ | refine CW.block ?_ | refine CW.ret ?_ | refine CW.skip ?_ | refine CW.exit ?_ | refine QW.then_x ?_ | refine QW.then_r ?_ | refine QW.block_n ?_ | refine QW.block_xe ?_ | refine QW.block_xn rfl ?_ | refine QW.block_r ?_))
 refine CW.region ?_
 refine OW.rv (RV.move rfl) rfl ?_
 refine OW.rv (RV.move rfl) rfl ?_
 refine OW.rv (RV.len rfl rfl) rfl ?_
 refine OW.rv (RV.lss rfl rfl) rfl ?_
 refine OW.nil ?_
 (repeat (first | refine CW.seq ?_ | refine QW.then_n ?_ | refine CW.block ?_ | refine CW.ret ?_ | refine CW.skip ?_ | refine CW.exit ?_ | refine QW.then_x ?_ | refine QW.then_r ?_ | refine QW.block_n ?_ | refine QW.block_xe ?_ | refine QW.block_xn rfl ?_ | refine QW.block_r ?_))
 (first | refine CW.cond_t rfl ?_ | refine CW.cond_f rfl ?_ | refine CW.cond_p rfl (fun hlt => ?_) (fun hlt => ?_) | refine CW.cond_np rfl (fun hlt => ?_) (fun hlt => ?_) | refine CW.cond rfl (fun hlt => ?_) (fun hlt => ?_))
 ·have h1 : i < a0.length := by omega
  have h2 : i < (a0.map List.reverse).length := by omega
  have h3 : i < lt.length := by omega
  have hxo : (a0.map List.reverse)[i]? = some (a0[i].reverse) := by rw [List.getElem?_map, List.getElem?_eq_getElem h1]; rfl
  obtain ⟨cs, hr, hcs⟩ := ro.get BsRd.len hxo
  obtain ⟨A2, c2, e, v2⟩ := hr
  subst e
  have hxl : lt[i]? = some lt[i] := List.getElem?_eq_getElem h3
  have htl : (lt[i]).t = a0[i] := by
   have q1 : (lt.map (·.t))[i]? = some (lt[i]).t := by rw [List.getElem?_map, hxl]; rfl
   rw [htx, List.getElem?_append_right (by rw [List.length_take]; omega), List.length_take, Nat.min_eq_left (by omega), Nat.sub_self, List.getElem?_drop, Nat.add_zero, List.getElem?_eq_getElem h1] at q1
   exact (Option.some.inj q1).symm
  obtain ⟨⟨v1, r1⟩, g1⟩ := hrd lt (fun w => Mem w0 w ((some b5, blk (u8s D6.toList) 29) :: (some b4, blk (u8s D1.toList) 29) :: (or0, blk (cr ++ rr) 33) :: (B ++ (lx 33 5 mk02 b0 [] [⟨bm, [195#8], 1, []⟩] lt ++ N)))) hok2 hll (fun w m => m.tail.tail.tail.appR.appL)
  (repeat (first | refine CW.seq ?_ | refine QW.then_n ?_ | refine CW.block ?_ | refine CW.ret ?_ | refine CW.skip ?_ | refine CW.exit ?_ | refine QW.then_x ?_ | refine QW.then_r ?_ | refine QW.block_n ?_ | refine QW.block_xe ?_ | refine QW.block_xn rfl ?_ | refine QW.block_r ?_))
  refine CW.drawsU 8 mixed (by kernel_rfl) rfl ?_
  refine UW.rv 0 rfl (by kernel_rfl) rfl (RV.move rfl) rfl ?_
  refine UW.rv 1 rfl (by kernel_rfl) rfl (RV.move rfl) rfl ?_
  refine UW.rv 2 rfl (by kernel_rfl) rfl (RV.idx_r (i) rfl rfl rfl rfl rfl rfl (by omega)) rfl ?_
  refine UW.rv 3 rfl (by kernel_rfl) rfl (RV.load_at rfl rfl rfl (fun w m => v1.cell m (show (lt.map Lt.cell)[i]? = some (.slice (some ⟨(lt[i]).b, 0, none⟩) (lt[i]).t.length (lt[i]).c) by rw [List.getElem?_map, hxl]; rfl))) rfl ?_
  refine UW.rv 4 rfl (by kernel_rfl) rfl (RV.move rfl) rfl ?_
  refine UW.rv 5 rfl (by kernel_rfl) rfl (RV.move rfl) rfl ?_
  refine UW.rv 6 rfl (by kernel_rfl) rfl (RV.idx_r (A := or0.map fun k => ⟨k, 0, none⟩) (i) rfl rfl rfl rfl rfl (vo.isSome (by decide) h2) (by omega)) rfl ?_
  refine UW.rv 7 rfl (by kernel_rfl) rfl (RV.load_at rfl rfl rfl (fun w m => vo.cell (hD w m) (show cr[i]? = some (.slice A2 (a0[i].reverse).length c2) by have := hcs 0 _ rfl; simpa using this))) rfl ?_
  refine UW.nil (by kernel_rfl) ?_
  refine OW.mem (M' := (lt[i]).ent 5 mk02 :: ((((some b5, blk (u8s D6.toList) 29) :: (some b4, blk (u8s D1.toList) 29) :: (or0, blk (cr ++ rr) 33) :: B) ++ ((some b0, blk (lt.map Lt.cell ++ (([⟨bm, [195#8], 1, []⟩] : List Lt).map Lt.cell ++ [])) 33) :: lents 5 [] [⟨bm, [195#8], 1, []⟩])) ++ (lents 5 mk02 (lt.take i ++ lt.drop (i + 1)) ++ N))) (fun w m => lx_front (X := (some b5, blk (u8s D6.toList) 29) :: (some b4, blk (u8s D1.toList) 29) :: (or0, blk (cr ++ rr) 33) :: B) hxl m) ?_
  refine OW.copy (ob := some (lt[i]).b) (off := 0) (l := u8s (lt[i]).t ++ (u8s mk02 ++ (lt[i]).r)) (te := 5) rfl rfl rfl rfl (fun h => nomatch h) (by rw [List.length_append, u8s_length]; omega) (fun w m => v2.rd w ⟨hΦ w m.tail.appR.appR, (m.tail.appL.appL.tail.tail)⟩) (u8s_length _) (u8s_one _) (v2.zero (by decide)) rfl ?_
  refine OW.nil ?_
  (repeat (first | refine CW.seq ?_ | refine QW.then_n ?_ | refine CW.block ?_ | refine CW.ret ?_ | refine CW.skip ?_ | refine CW.exit ?_ | refine QW.then_x ?_ | refine QW.then_r ?_ | refine QW.block_n ?_ | refine QW.block_xe ?_ | refine QW.block_xn rfl ?_ | refine QW.block_r ?_))
  (repeat (first | refine CW.seq ?_ | refine QW.then_n ?_ | refine CW.block ?_ | refine CW.ret ?_ | refine CW.skip ?_ | refine CW.exit ?_ | refine QW.then_x ?_ | refine QW.then_r ?_ | refine QW.block_n ?_ | refine QW.block_xe ?_ | refine QW.block_xn rfl ?_ | refine QW.block_r ?_))
  refine CW.region ?_
  refine OW.rv (RV.move rfl) rfl ?_
  refine OW.rv (RV.add rfl rfl (by omega)) rfl ?_
  refine OW.rv (RV.assign rfl) rfl ?_
  refine OW.nil ?_
  (repeat (first | refine CW.seq ?_ | refine QW.then_n ?_ | refine CW.block ?_ | refine CW.ret ?_ | refine CW.skip ?_ | refine CW.exit ?_ | refine QW.then_x ?_ | refine QW.then_r ?_ | refine QW.block_n ?_ | refine QW.block_xe ?_ | refine QW.block_xn rfl ?_ | refine QW.block_r ?_))
  refine QW.againJ (k' := a0.length - (i + 1)) (by omega) ⟨i + 1, lt.set i ⟨(lt[i]).b, a0[i].reverse, (lt[i]).c, (lt[i]).r⟩, rfl, by omega, by simp [hll], ?_, ?_, rfl, rfl⟩ ⟨rfl, rfl, rfl, rfl, rfl, rfl, trivial⟩ (fun w m => sums_write w0 Φ N ((some b5, blk (u8s D6.toList) 29) :: (some b4, blk (u8s D1.toList) 29) :: (or0, blk (cr ++ rr) 33) :: B) b0 _ lt i lt[i] a0[i].reverse hxl (by rw [htl, List.length_reverse]) m)
  ·rw [List.map_set, htx]
   have e3 : (a0.map List.reverse).take (i + 1) = (a0.map List.reverse).take i ++ [a0[i].reverse] := by rw [List.take_add_one, hxo]; rfl
   rw [e3, List.drop_eq_getElem_cons h1, List.set_append_right _ _ (by rw [List.length_take]; omega), List.length_take, Nat.min_eq_left (by omega), Nat.sub_self, List.set_cons_zero, List.append_assoc, List.singleton_append]
  ·intro x hx
   rcases List.mem_or_eq_of_mem_set hx with hx | rfl
   ·exact hok2 x hx
   ·have q := hok2 _ (List.getElem_mem h3)
    have ql : (a0[i].reverse).length = (lt[i]).t.length := by rw [htl, List.length_reverse]
    exact ⟨OwnS.same q.own (by rw [u8s_length, u8s_length]; exact ql) ql, by have := q.mx; show (a0[i].reverse).length + _ ≤ _; omega⟩
 ·have hie : i = a0.length := by omega
  subst hie
  have htx2 : lt.map (·.t) = a0.map List.reverse := by
   rw [htx, List.drop_length, List.append_nil, List.take_of_length_le (by omega)]
  obtain ⟨⟨v1, r1⟩, g1⟩ := hrd lt (fun w => Mem w0 w (lx 33 5 mk02 b0 [] [⟨bm, [195#8], 1, []⟩] lt ++ N)) hok2 hll (fun w m => m.appL)
  rw [htx2] at v1 r1 g1
  have hW : ∀ (d5 d4 : Vector (BitVec 8) 32) (w : World), Mem w0 w ((some b5, blk (u8s d5.toList) 29) :: (some b4, blk (u8s d4.toList) 29) :: (or0, blk (cr ++ rr) 33) :: (B ++ (lx 33 5 mk02 b0 [] [⟨bm, [195#8], 1, []⟩] lt ++ N))) → Mem w0 w (lx 33 5 mk02 b0 [] [⟨bm, [195#8], 1, []⟩] lt ++ N) := fun d5 d4 w m => m.tail.tail.tail.appR
  (repeat (first | refine CW.seq ?_ | refine QW.then_n ?_ | refine CW.block ?_ | refine CW.ret ?_ | refine CW.skip ?_ | refine CW.exit ?_ | refine QW.then_x ?_ | refine QW.then_r ?_ | refine QW.block_n ?_ | refine QW.block_xe ?_ | refine QW.block_xn rfl ?_ | refine QW.block_r ?_))
  refine CW.region ?_
  refine OW.rv (RV.move rfl) rfl ?_
  refine OW.slot (.slice (some ⟨b0, 0, none⟩) (a0.map List.reverse).length (a0.length + 1)) (by rw [hno]) ?_
  refine OW.callG Tryd.call12 rfl (keccak_Sum_does w0 _ _ (fun w m => hW _ _ w m) _ _ _ (a0.map List.reverse) E1 v1 r1 (hg.mono fun w m => hΦ w m.appR) hE1) rfl rfl ?_
  rintro _ G1 rfl
  refine OW.mem (M' := (some b5, blk (u8s D6.toList) 29) :: (some b4, blk (u8s D1.toList) 29) :: (or0, blk (cr ++ rr) 33) :: (B ++ (lx 33 5 mk02 b0 [] [⟨bm, [195#8], 1, []⟩] lt ++ N))) (fun w m => m.appR) ?_
  refine OW.rot1 ?_
  refine OW.sv (SV.storeW rfl rfl rfl (u8s_one _) rfl ((u8s_length _).trans Vector.length_toList) ((u8s_length _).trans Vector.length_toList)) ?_
  refine OW.nil ?_
  (repeat (first | refine CW.seq ?_ | refine QW.then_n ?_ | refine CW.block ?_ | refine CW.ret ?_ | refine CW.skip ?_ | refine CW.exit ?_ | refine QW.then_x ?_ | refine QW.then_r ?_ | refine QW.block_n ?_ | refine QW.block_xe ?_ | refine QW.block_xn rfl ?_ | refine QW.block_r ?_))
  refine CW.region ?_
  refine OW.rv (RV.move rfl) rfl ?_
  refine OW.slot (.slice (some ⟨b0, 0, none⟩) (a0.map List.reverse).length (a0.length + 1)) (by rw [hno]) ?_
  refine OW.callG Tryd.call13 rfl (keccak_Sha3_does w0 _ _ (fun w m => m.tail.tail.tail.appR) _ _ _ (a0.map List.reverse) E6 v1 r1 (hg.mono fun w m => hΦ w m.appR) hE6) rfl rfl ?_
  rintro _ G1 rfl
  refine OW.mem (M' := (some b4, blk (u8s E1.toList) 29) :: (some b5, blk (u8s D6.toList) 29) :: (or0, blk (cr ++ rr) 33) :: (B ++ (lx 33 5 mk02 b0 [] [⟨bm, [195#8], 1, []⟩] lt ++ N))) (fun w m => m.appR) ?_
  refine OW.rot1 ?_
  refine OW.sv (SV.storeW rfl rfl rfl (u8s_one _) rfl ((u8s_length _).trans Vector.length_toList) ((u8s_length _).trans Vector.length_toList)) ?_
  refine OW.nil ?_
  (repeat (first | refine CW.seq ?_ | refine QW.then_n ?_ | refine CW.block ?_ | refine CW.ret ?_ | refine CW.skip ?_ | refine CW.exit ?_ | refine QW.then_x ?_ | refine QW.then_r ?_ | refine QW.block_n ?_ | refine QW.block_xe ?_ | refine QW.block_xn rfl ?_ | refine QW.block_r ?_))
  have hD2 : ∀ w, Mem w0 w ((some b5, blk (u8s E6.toList) 29) :: (some b4, blk (u8s E1.toList) 29) :: (or0, blk (cr ++ rr) 33) :: (B ++ (lx 33 5 mk02 b0 [] [⟨bm, [195#8], 1, []⟩] lt ++ N))) → More w0 Φ ((or0, blk (cr ++ rr) 33) :: B) w := fun w m => ⟨hΦ w m.tail.tail.tail.appR.appR, (m.tail.tail).sublist (List.Sublist.cons_cons _ (List.sublist_append_left _ _))⟩
  refine CW.drawsU 16 mixed (by kernel_rfl) rfl ?_
  refine UW.rv 0 rfl (by kernel_rfl) rfl (RV.loadW rfl (List.Mem.tail _ (List.Mem.head _)) rfl rfl rfl rfl ((u8s_length _).trans Vector.length_toList)) rfl ?_
  refine UW.rv 1 rfl (by kernel_rfl) rfl (RV.move rfl) rfl ?_
  refine UW.callG 2 rfl (by kernel_rfl) rfl Tryd.call14 rfl (fun N' hN' => waybillref02_Sum_does w0 _ N' (fun w m => hD2 w (hN' w m)) _ kr cr (a0.map List.reverse) E1 vo ro hTn hRn hS1) rfl ?_
  rintro _ G1 rfl
  refine UW.mem (M' := (some b5, blk (u8s E6.toList) 29) :: (some b4, blk (u8s E1.toList) 29) :: (or0, blk (cr ++ rr) 33) :: (B ++ (lx 33 5 mk02 b0 [] [⟨bm, [195#8], 1, []⟩] lt ++ N))) (fun w m => m.appR) ?_
  refine UW.rv 3 rfl (by kernel_rfl) rfl (RV.eqA8 rfl rfl rfl rfl rfl rfl Vector.length_toList Vector.length_toList) rfl ?_
  refine UW.slot (.bool true) (by simp) ?_
  refine UW.rv 4 rfl (by kernel_rfl) rfl (RV.move rfl) rfl ?_
  refine UW.rv 5 rfl (by kernel_rfl) rfl (RV.loadW rfl (List.Mem.head _) rfl rfl rfl rfl ((u8s_length _).trans Vector.length_toList)) rfl ?_
  refine UW.rv 6 rfl (by kernel_rfl) rfl (RV.move rfl) rfl ?_
  refine UW.callG 7 rfl (by kernel_rfl) rfl Tryd.call15 rfl (fun N' hN' => waybillref02_Sha3_does w0 _ N' (fun w m => hD2 w (hN' w m)) _ kr cr (a0.map List.reverse) E6 vo ro hTn hRn hS6) rfl ?_
  rintro _ G1 rfl
  refine UW.mem (M' := (some b5, blk (u8s E6.toList) 29) :: (some b4, blk (u8s E1.toList) 29) :: (or0, blk (cr ++ rr) 33) :: (B ++ (lx 33 5 mk02 b0 [] [⟨bm, [195#8], 1, []⟩] lt ++ N))) (fun w m => m.appR) ?_
  refine UW.rv 8 rfl (by kernel_rfl) rfl (RV.eqA8 rfl rfl rfl rfl rfl rfl Vector.length_toList Vector.length_toList) rfl ?_
  refine UW.slot (.bool true) (by simp) ?_
  refine UW.rv 9 rfl (by kernel_rfl) rfl (RV.pick_t rfl rfl rfl) rfl ?_
  refine UW.rv 10 rfl (by kernel_rfl) rfl (RV.move rfl) rfl ?_
  refine UW.rv 11 rfl (by kernel_rfl) rfl (RV.move rfl) rfl ?_
  refine UW.slot (.slice (some ⟨b0, 0, none⟩) (a0.map List.reverse).length (a0.length + 1)) (by rw [hno]) ?_
  refine UW.rv 12 rfl (by kernel_rfl) rfl (RV.move rfl) rfl ?_
  refine UW.callG 13 rfl (by kernel_rfl) rfl Tryd.call16 rfl (fun N' hN' => waybilllaw02_stillAll_does w0 (fun w => Mem w0 w ((some b5, blk (u8s E6.toList) 29) :: (some b4, blk (u8s E1.toList) 29) :: (or0, blk (cr ++ rr) 33) :: (B ++ (lx 33 5 mk02 b0 [] [⟨bm, [195#8], 1, []⟩] lt ++ N)))) N' (fun w m => hN' w m) _ _ (a0.map List.reverse) _ kr cr (a0.map List.reverse) true (g1.mono fun w m => hW _ _ w m) (vo.mono hD2) (ro.mono (BsRd.mono hD2)) (stillAll_eq _)) rfl ?_
  rintro _ G1 rfl
  refine UW.mem (M' := (some b5, blk (u8s E6.toList) 29) :: (some b4, blk (u8s E1.toList) 29) :: (or0, blk (cr ++ rr) 33) :: (B ++ (lx 33 5 mk02 b0 [] [⟨bm, [195#8], 1, []⟩] lt ++ N))) (fun w m => m.appR) ?_
  refine UW.rv 14 rfl (by kernel_rfl) rfl (RV.pick_t rfl rfl rfl) rfl ?_
  refine UW.rv 15 rfl (by kernel_rfl) rfl (RV.assign rfl) rfl ?_
  refine UW.nil (by kernel_rfl) ?_
  refine OW.nil ?_
  (repeat (first | refine CW.seq ?_ | refine QW.then_n ?_ | refine CW.block ?_ | refine CW.ret ?_ | refine CW.skip ?_ | refine CW.exit ?_ | refine QW.then_x ?_ | refine QW.then_r ?_ | refine QW.block_n ?_ | refine QW.block_xe ?_ | refine QW.block_xn rfl ?_ | refine QW.block_r ?_))
  refine QW.retG (rs := [.tmp 2]) [.bool true] [] rfl ?_ rfl ?_ ?_ _ (.inl rfl)
  ·exact ⟨rfl, trivial⟩
  ·rfl
  ·exact fun w m => m.tail.tail.tail.appR.appR
end Go.Fw.Tryd
