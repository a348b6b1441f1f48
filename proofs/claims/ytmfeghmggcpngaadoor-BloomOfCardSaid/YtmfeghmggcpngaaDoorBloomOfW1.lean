/- Part of a proof over YtmfeghmggcpngaaDoor: rules and contracts that the law's text uses. No condition. -/
import Derived.Test.YtmfeghmggcpngaaDoorTy
import Derived.Test.YtmfeghmggcpngaaDoorExt
import Derived.Test.YtmfeghmggcpngaaDoorKecW0
import Derived.Test.YtmfeghmggcpngaaDoorKecWR
import Derived.Test.YtmfeghmggcpngaaDoorRoom10
import Derived.Test.YtmfeghmggcpngaaDoorRmL2
import Derived.Test.YtmfeghmggcpngaaDoorBloP2
import Derived.Test.YtmfeghmggcpngaaDoorBloP4
import Derived.Test.YtmfeghmggcpngaaDoorKecP2
import Derived.Test.YtmfeghmggcpngaaDoorKecP3
namespace Go.Fw.Tryd
open Go Go.Proofs Go.Fw
set_option maxRecDepth 100000
set_option linter.unusedVariables false
set_option linter.unusedSimpArgs false
set_option maxHeartbeats 1000000

theorem keccak_Sponge_absorb_does (w0 : World) (Φ : Ctx) (N : List Ent) (hΦ : ∀ w, Mem w0 w N → Φ w) (b0_ : Nat) (a0 : Sponge) (new0 : Sponge) (hf : keccak_Sponge_absorb a0 = some new0) : DoesG Tryd.prog 67 [ptr (some b0_) 0] w0 [(some b0_, blk a0.C 88)] N (fun v G => ∃ B : List Ent, v = .tuple #[] ∧ G = (some b0_, blk new0.C 88) :: B) := by
  unfold keccak_Sponge_absorb at hf
  refine DoesG.enter Tryd.func67 rfl Tryd.ntmps67 rfl (M := ((some b0_, blk a0.C 88) :: ([] ++ N))) rfl ?_
  refine CW.seq ?_
  refine CW.seq ?_
  refine CW.region ?_
  refine OW.rv (RV.move rfl) rfl ?_
  refine OW.rv (RV.nilCheck rfl) rfl ?_
  refine OW.rv (RV.field rfl rfl rfl rfl) rfl ?_
  refine OW.slot (ptr (some b0_) 26) rfl ?_
  refine OW.rv (RV.loadAo rfl (List.Mem.head _) rfl rfl rfl rfl (Sponge.C_part_all _) ((u8s_length _).trans Vector.length_toList)) rfl ?_
  refine OW.rv (RV.move rfl) rfl ?_
  refine OW.nil ?_
  refine QW.then_n ?_
  obtain ⟨q1, hq2, hf⟩ := some_bind hf
  refine CW.cutJ (fun L' M' => ∃ w3 : Sponge, q1 = w3 ∧ L' = [(0, ptr (some b0_) 0)] ∧ M' = ((some b0_, blk w3.C 88) :: ([] ++ N))) ?_ ?_
  · rintro L5 M6 ⟨w3, e4, e7, e8⟩
    rw [e7, e8]
    clear e7 e8 L5 M6
    clear hq2
    rw [e4] at hf
    clear e4
    try dsimp only at hf
    refine QW.then_n ?_
    refine CW.seq ?_
    refine CW.region ?_
    refine OW.rv (RV.move rfl) rfl ?_
    refine OW.rv (RV.move rfl) rfl ?_
    refine OW.rv (RV.nilCheck rfl) rfl ?_
    refine OW.rv (RV.field rfl rfl rfl rfl) rfl ?_
    refine OW.slot (ptr (some b0_) 1) rfl ?_
    refine OW.rv (RV.loadAo rfl (List.Mem.head _) rfl rfl rfl rfl (Sponge.C_lanes_all _) ((u64s_length _).trans Vector.length_toList)) rfl ?_
    obtain ⟨x10, hx9, hf⟩ := some_bind hf
    refine OW.callG Tryd.call71 rfl (keccak_Permute_does w0 (More w0 Φ []) ((some b0_, blk w3.C 88) :: ([] ++ N)) (fun w m => More.of hΦ 1 m rfl) w3.lanes x10 hx9) rfl rfl ?_
    rintro _ G11 rfl
    refine OW.mem (M' := ((some b0_, blk w3.C 88) :: ([] ++ N))) (fun w m => m.appR) ?_
    refine OW.rv (RV.nilCheck rfl) rfl ?_
    refine OW.rv (RV.field rfl rfl rfl rfl) rfl ?_
    refine OW.slot (ptr (some b0_) 1) rfl ?_
    refine OW.sv (SV.storeAs rfl rfl rfl (u64s_one _) rfl ((u64s_length _).trans Vector.length_toList) (by rw [Sponge.C_length]; first | omega | decide)) ?_
    refine OW.cells ({ w3 with lanes := x10 } : Sponge).C (Sponge.C_lanes_spl _ _) ?_
    refine OW.nil ?_
    refine QW.then_n ?_
    refine CW.region ?_
    refine OW.rv (RV.move rfl) rfl ?_
    refine OW.rv (RV.nilCheck rfl) rfl ?_
    refine OW.rv (RV.field rfl rfl rfl rfl) rfl ?_
    refine OW.slot (ptr (some b0_) 162) rfl ?_
    refine OW.sv (SV.store rfl rfl rfl rfl rfl (by rw [Sponge.C_length]; omega)) ?_
    refine OW.cells ({ ({ w3 with lanes := x10 } : Sponge) with held := (0 : Int) } : Sponge).C (Sponge.C_held_set _ _) ?_
    refine OW.nil ?_
    have e0 := Option.some.inj hf
    subst e0
    refine QW.retG (rs := []) ([]) ((some b0_, blk ({ ({ w3 with lanes := x10 } : Sponge) with held := (0 : Int) } : Sponge).C 88) :: []) rfl ?_ rfl ?_ ?_ _ (.inr rfl)
    · exact trivial
    · exact ⟨[], rfl, rfl⟩
    · exact (fun w m => m.pick [0] 1 rfl rfl)
  · skip
    refine CW.block ?_
    refine CW.loopJ (fun k L' M' => ∃ n13 : Nat, ∃ w15 : Sponge, (keccak_Sponge_absorb.l1 a0 k n13 w15) = some q1 ∧ (n13 ≤ 9223372036854775807) ∧ L' = [(0, ptr (some b0_) 0), (7, .agg (u8s a0.part.toList).toArray), (8, .int .i64 ((n13 : Nat) : Int))] ∧ M' = ((some b0_, blk w15.C 88) :: ([] ++ N))) (k0 := (136 - 0 + 2)) ⟨0, a0, hq2, (by omega), rfl, rfl⟩ ⟨rfl, rfl, rfl, trivial⟩ (fun w m => m.pick [0] 1 rfl rfl) ?_
    clear hq2
    rintro k16 L19 M20 ⟨n13, w15, hl17, b14, e21, e22⟩
    rw [e21, e22]
    clear e21 e22 L19 M20
    rcases k16 with _ | k16
    · rw [keccak_Sponge_absorb.l1] at hl17; cases hl17
    rw [keccak_Sponge_absorb.l1] at hl17
    refine CW.seq ?_
    refine CW.region ?_
    refine OW.rv (RV.lss rfl rfl) rfl ?_
    refine OW.slot (.bool (decide (n13 < 136))) (congrArg Value.bool (decide_eq_decide.2 (by omega))) ?_
    refine OW.nil ?_
    refine QW.then_n ?_
    refine CW.seq ?_
    by_cases h23 : n13 < 136
    · replace hl17 := if_t hl17 h23
      refine CW.is_t rfl (decide_eq_true h23) ?_
      refine CW.skip ?_
      refine QW.then_n ?_
      refine CW.seq ?_
      refine CW.block ?_
      refine CW.seq ?_
      refine CW.region ?_
      refine OW.rv (RV.move rfl) rfl ?_
      obtain ⟨x24, hx25, hl17⟩ := some_bind hl17
      have hl26 := (Vector.getElem?_eq_some_iff.1 hx25).1
      refine OW.rv (RV.indexV (n13) rfl rfl rfl rfl rfl rfl rfl (by omega) (u8s_at (vat hx25))) rfl ?_
      refine OW.rv (RV.assign rfl) rfl ?_
      refine OW.rv (RV.assign rfl) rfl ?_
      refine OW.nil ?_
      refine QW.then_n ?_
      refine CW.drawsX (([] ++ N)) [17] (fun w m => m.pick [] 1 rfl rfl) mixed (by kernel_rfl) ?_
      refine XW.rs 0 rfl (by kernel_rfl) rfl (RV.move rfl) rfl ?_
      refine XW.rs 1 rfl (by kernel_rfl) rfl (RV.move rfl) rfl ?_
      refine XW.rs 2 rfl (by kernel_rfl) rfl (RV.quo rfl rfl (by omega) (by omega) (by omega)) rfl ?_
      refine XW.slot (.int .i64 ((n13 / 8 : Nat) : Int)) (by first | rfl | (congr 1; omega)) ?_
      refine XW.rs 3 rfl (by kernel_rfl) rfl (RV.nilCheck rfl) rfl ?_
      refine XW.rs 4 rfl (by kernel_rfl) rfl (RV.field rfl rfl rfl rfl) rfl ?_
      refine XW.slot (ptr (some b0_) 1) rfl ?_
      obtain ⟨g27, hl17⟩ := some_if hl17
      refine XW.rs 5 rfl (by kernel_rfl) rfl (RV.idx_a ((n13 / 8)) rfl rfl rfl rfl rfl (by omega)) rfl ?_
      obtain ⟨x28, hx29, hl17⟩ := some_bind hl17
      refine XW.rv 6 rfl (by kernel_rfl) rfl (by kernel_rfl) (RV.load rfl (List.Mem.head _) rfl rfl rfl (Sponge.C_lanes _ hx29)) rfl ?_
      refine XW.rs 7 rfl (by kernel_rfl) rfl (RV.move rfl) rfl ?_
      refine XW.rs 8 rfl (by kernel_rfl) rfl (RV.conv8_64 rfl (by first | rfl | exact lit8 _ rfl) rfl rfl) rfl ?_
      refine XW.rs 9 rfl (by kernel_rfl) rfl (RV.move rfl) rfl ?_
      refine XW.rs 10 rfl (by kernel_rfl) rfl (RV.rem rfl rfl (by omega) (by omega)) rfl ?_
      refine XW.slot (.int .i64 ((n13 % 8 : Nat) : Int)) (by first | rfl | (congr 1; omega)) ?_
      refine XW.rs 11 rfl (by kernel_rfl) rfl (RV.mul rfl rfl (by omega)) rfl ?_
      refine XW.slot (.int .i64 (((8 * (n13 % 8)) : Nat) : Int)) (by first | rfl | (congr 1) | (congr 1; omega)) ?_
      refine XW.rs 12 rfl (by kernel_rfl) rfl (RV.shl64 (s := (8 * (n13 % 8))) rfl (by first | rfl | exact lit64 _ rfl) rfl (by first | rfl | (congr 1))) rfl ?_
      refine XW.rs 13 rfl (by kernel_rfl) rfl (RV.xor64 rfl (by first | rfl | exact lit64 _ rfl) rfl (by first | rfl | exact lit64 _ rfl)) rfl ?_
      refine XW.rs 14 rfl (by kernel_rfl) rfl (RV.nilCheck rfl) rfl ?_
      refine XW.rs 15 rfl (by kernel_rfl) rfl (RV.field rfl rfl rfl rfl) rfl ?_
      refine XW.slot (ptr (some b0_) 1) rfl ?_
      refine XW.rs 16 rfl (by kernel_rfl) rfl (RV.idx_a ((n13 / 8)) rfl rfl rfl rfl rfl (by omega)) rfl ?_
      refine XW.sv 17 rfl (by kernel_rfl) (SV.store rfl rfl rfl rfl rfl (by rw [Sponge.C_length]; omega)) (fun w m => m.pick [] 1 rfl rfl) ?_
      refine XW.cells ({ w15 with lanes := w15.lanes.setIfInBounds (n13 / 8) (x28 ^^^ ((x24.setWidth 64) <<< (8 * (n13 % 8)))) } : Sponge).C (Sponge.C_lanes_set _ (by omega) _) ?_
      refine XW.nil (by kernel_rfl) ?_
      refine QW.block_n ?_
      refine QW.then_n ?_
      refine CW.region ?_
      refine OW.rv (RV.add rfl rfl (by omega)) rfl ?_
      refine OW.slot (.int .i64 (((n13 + 1) : Nat) : Int)) (by first | rfl | (congr 1) | (congr 1; omega)) ?_
      refine OW.rv (RV.move rfl) rfl ?_
      refine OW.nil ?_
      exact QW.againJ (k' := k16) (Nat.lt_succ_self _) ⟨(n13 + 1), ({ w15 with lanes := w15.lanes.setIfInBounds (n13 / 8) (x28 ^^^ ((x24.setWidth 64) <<< (8 * (n13 % 8)))) } : Sponge), hl17, (by omega), rfl, rfl⟩ ⟨rfl, rfl, rfl, trivial⟩ (fun w m => m.pick [0] 1 rfl rfl)
    · replace hl17 := if_f hl17 h23
      refine CW.is_f rfl (decide_eq_false h23) ?_
      refine CW.exit ?_
      refine QW.then_x ?_
      refine QW.then_x ?_
      refine QW.block_xe ?_
      exact QW.join ⟨w15, (Option.some.inj hl17).symm, rfl, rfl⟩ ⟨rfl, trivial⟩ (fun w m => m.pick [0] 1 rfl rfl)

theorem keccak_Sponge_Write_does (w0 : World) (Φ : Ctx) (N : List Ent) (hΦ : ∀ w, Mem w0 w N → Φ w) (b0_ : Nat) (a0 : Sponge) (A1_ : Option Addr) (c1_ : Nat) (a1 : List (BitVec 8)) (new0 : Sponge) (va1 : View Φ A1_ a1.length c1_ 1 (u8s a1)) (hf : keccak_Sponge_Write a0 a1 = some new0) : DoesG Tryd.prog 58 [ptr (some b0_) 0, .slice A1_ a1.length c1_] w0 [(some b0_, blk a0.C 88)] N (fun v G => ∃ B : List Ent, v = .tuple #[] ∧ G = (some b0_, blk new0.C 88) :: B) := by
  unfold keccak_Sponge_Write at hf
  replace va1 := va1.mono (Ψ := More w0 Φ []) (fun w q => q.1)
  have m1 := va1.mx
  refine DoesG.enter Tryd.func58 rfl Tryd.ntmps58 rfl (M := ((some b0_, blk a0.C 88) :: ([] ++ N))) rfl ?_
  refine CW.seq ?_
  refine CW.seq ?_
  refine CW.region ?_
  refine OW.rv (RV.move rfl) rfl ?_
  refine OW.rv (RV.eqlS rfl rfl rfl) rfl ?_
  refine OW.nil ?_
  refine QW.then_n ?_
  refine CW.is_f rfl rfl ?_
  refine CW.skip ?_
  refine QW.then_n ?_
  refine CW.seq ?_
  refine CW.region ?_
  refine OW.rv (RV.move rfl) rfl ?_
  refine OW.rv (RV.nilCheck rfl) rfl ?_
  refine OW.rv (RV.field rfl rfl rfl rfl) rfl ?_
  refine OW.slot (ptr (some b0_) 163) rfl ?_
  refine OW.rv (RV.load rfl (List.Mem.head _) rfl rfl rfl (Sponge.C_long _)) rfl ?_
  refine OW.rv (RV.move rfl) rfl ?_
  refine OW.rv (RV.len rfl rfl) rfl ?_
  obtain ⟨g2, hf⟩ := some_if hf
  refine OW.rv (RV.add rfl rfl (by omega)) rfl ?_
  refine OW.rv (RV.nilCheck rfl) rfl ?_
  refine OW.rv (RV.field rfl rfl rfl rfl) rfl ?_
  refine OW.slot (ptr (some b0_) 163) rfl ?_
  refine OW.sv (SV.store rfl rfl rfl rfl rfl (by rw [Sponge.C_length]; omega)) ?_
  refine OW.cells ({ a0 with long := (a0.long + ((a1.length : Nat) : Int)) } : Sponge).C (Sponge.C_long_set _ _) ?_
  refine OW.nil ?_
  refine QW.then_n ?_
  obtain ⟨q3, hq4, hf⟩ := some_bind hf
  refine CW.cutJ (fun L' M' => ∃ w7 : Sponge, ∃ B5 : List Ent, q3 = w7 ∧ (∀ w, Mem w0 w B5 → Mem w0 w []) ∧ L' = [] ∧ M' = ((some b0_, blk w7.C 88) :: (B5 ++ N))) ?_ ?_
  · rintro L9 M10 ⟨w7, B5, e8, hB6, e11, e12⟩
    rw [e11, e12]
    clear e11 e12 L9 M10
    clear hq4
    rw [e8] at hf
    clear e8
    try dsimp only at hf
    have e0 := Option.some.inj hf
    subst e0
    refine QW.retG (rs := []) ([]) ((some b0_, blk w7.C 88) :: B5) rfl ?_ rfl ?_ ?_ _ (.inr rfl)
    · exact trivial
    · exact ⟨B5, rfl, rfl⟩
    · exact (fun w m => m.pick [0] 1 rfl rfl)
  · skip
    refine CW.block ?_
    refine CW.loopJ (fun k L' M' => ∃ l15 : List (BitVec 8), ∃ w19 : Sponge, ∃ B13 : List Ent, ∃ A16 : Option Addr, ∃ c17 : Nat, (keccak_Sponge_Write.l1 k l15 w19) = some q3 ∧ (∀ w, Mem w0 w B13 → Mem w0 w []) ∧ (View (More w0 Φ B13) A16 l15.length c17 1 (u8s l15)) ∧ L' = [(0, ptr (some b0_) 0), (1, .slice A16 l15.length c17)] ∧ M' = ((some b0_, blk w19.C 88) :: (B13 ++ N))) (k0 := (a1.length - 0 + 2)) ⟨a1, ({ a0 with long := (a0.long + ((a1.length : Nat) : Int)) } : Sponge), [], A1_, c1_, hq4, (fun w m => m), va1, rfl, rfl⟩ ⟨rfl, rfl, trivial⟩ (fun w m => m.pick [0] 1 rfl rfl) ?_
    clear hq4
    rintro k20 L23 M24 ⟨l15, w19, B13, A16, c17, hl21, hB14, v18, e25, e26⟩
    rw [e25, e26]
    clear e25 e26 L23 M24
    rcases k20 with _ | k20
    · rw [keccak_Sponge_Write.l1] at hl21; cases hl21
    rw [keccak_Sponge_Write.l1] at hl21
    have m27 := v18.mx
    refine CW.seq ?_
    refine CW.seq ?_
    refine CW.region ?_
    refine OW.rv (RV.move rfl) rfl ?_
    refine OW.rv (RV.len rfl rfl) rfl ?_
    refine OW.rv (RV.gtr rfl rfl) rfl ?_
    refine OW.slot (.bool (decide (0 < l15.length))) (congrArg Value.bool (decide_eq_decide.2 (by omega))) ?_
    refine OW.nil ?_
    refine QW.then_n ?_
    by_cases h28 : 0 < l15.length
    · replace hl21 := if_t hl21 h28
      refine CW.is_t rfl (decide_eq_true h28) ?_
      refine CW.skip ?_
      refine QW.then_n ?_
      refine CW.block ?_
      refine CW.seq ?_
      refine CW.drawsU 9 mixed (by kernel_rfl) rfl ?_
      refine UW.rv 0 rfl (by kernel_rfl) rfl (RV.move rfl) rfl ?_
      refine UW.rv 1 rfl (by kernel_rfl) rfl (RV.nilCheck rfl) rfl ?_
      refine UW.rv 2 rfl (by kernel_rfl) rfl (RV.field rfl rfl rfl rfl) rfl ?_
      refine UW.slot (ptr (some b0_) 26) rfl ?_
      refine UW.rv 3 rfl (by kernel_rfl) rfl (RV.move rfl) rfl ?_
      refine UW.rv 4 rfl (by kernel_rfl) rfl (RV.nilCheck rfl) rfl ?_
      refine UW.rv 5 rfl (by kernel_rfl) rfl (RV.field rfl rfl rfl rfl) rfl ?_
      refine UW.slot (ptr (some b0_) 162) rfl ?_
      refine UW.rv 6 rfl (by kernel_rfl) rfl (RV.load rfl (List.Mem.head _) rfl rfl rfl (Sponge.C_held _)) rfl ?_
      obtain ⟨g29, hl21⟩ := some_if hl21
      obtain ⟨g30, hl21⟩ := some_if hl21
      refine UW.rv 7 rfl (by kernel_rfl) rfl (RV.arr_loS ((w19.held).toNat) rfl rfl (by omega) rfl rfl (by omega)) rfl ?_
      refine UW.rv 8 rfl (by kernel_rfl) rfl (RV.move rfl) rfl ?_
      refine UW.nil (by kernel_rfl) ?_
      refine OW.copy (ob := some b0_) (off := 26 + ((w19.held).toNat)) rfl rfl rfl rfl (fun h => nomatch h) (by rw [Sponge.C_length]; omega) (fun w m => v18.rd w (More.of hΦ 1 m rfl)) (u8s_length _) (u8s_one _) (v18.zero (by decide)) rfl ?_
      refine OW.cells ({ w19 with part := cpV w19.part ((w19.held).toNat) (l15.take (min l15.length (136 - ((w19.held).toNat)))) } : Sponge).C (by rw [u8s_take]; exact Sponge.C_part_cpy _ (by rw [List.length_take]; omega)) ?_
      refine OW.rv (RV.assign rfl) rfl ?_
      refine OW.nil ?_
      refine QW.then_n ?_
      refine CW.seq ?_
      refine CW.region ?_
      refine OW.rv (RV.move rfl) rfl ?_
      refine OW.rv (RV.move rfl) rfl ?_
      obtain ⟨g32, hl21⟩ := some_if hl21
      refine OW.rv (RV.cut_lo (s := 1) ((min l15.length (136 - ((w19.held).toNat)))) rfl rfl (by omega) rfl rfl (by omega)) rfl ?_
      refine OW.slot (.slice (subA A16 c17 (min l15.length (136 - ((w19.held).toNat))) 1) (l15.drop (min l15.length (136 - ((w19.held).toNat)))).length (c17 - (min l15.length (136 - ((w19.held).toNat))))) (by rw [show ((l15.drop (min l15.length (136 - ((w19.held).toNat))))).length = (l15).length - ((min l15.length (136 - ((w19.held).toNat)))) from List.length_drop]) ?_
      have v31 : View (More w0 Φ B13) (subA A16 c17 (min l15.length (136 - ((w19.held).toNat))) 1) (l15.drop (min l15.length (136 - ((w19.held).toNat)))).length (c17 - (min l15.length (136 - ((w19.held).toNat)))) 1 (u8s (l15.drop (min l15.length (136 - ((w19.held).toNat))))) := v18.lo8 (by omega)
      have m33 := v31.mx
      refine OW.rv (RV.assign rfl) rfl ?_
      refine OW.nil ?_
      refine QW.then_n ?_
      refine CW.seq ?_
      refine CW.region ?_
      refine OW.rv (RV.move rfl) rfl ?_
      refine OW.rv (RV.nilCheck rfl) rfl ?_
      refine OW.rv (RV.field rfl rfl rfl rfl) rfl ?_
      refine OW.slot (ptr (some b0_) 162) rfl ?_
      refine OW.rv (RV.load rfl (List.Mem.head _) rfl rfl rfl (Sponge.C_held _)) rfl ?_
      refine OW.rv (RV.move rfl) rfl ?_
      obtain ⟨g34, hl21⟩ := some_if hl21
      refine OW.rv (RV.add rfl rfl (by omega)) rfl ?_
      refine OW.rv (RV.nilCheck rfl) rfl ?_
      refine OW.rv (RV.field rfl rfl rfl rfl) rfl ?_
      refine OW.slot (ptr (some b0_) 162) rfl ?_
      refine OW.sv (SV.store rfl rfl rfl rfl rfl (by rw [Sponge.C_length]; omega)) ?_
      refine OW.cells ({ ({ w19 with part := cpV w19.part ((w19.held).toNat) (l15.take (min l15.length (136 - ((w19.held).toNat)))) } : Sponge) with held := (({ w19 with part := cpV w19.part ((w19.held).toNat) (l15.take (min l15.length (136 - ((w19.held).toNat)))) } : Sponge).held + (((min l15.length (136 - ((w19.held).toNat))) : Nat) : Int)) } : Sponge).C (Sponge.C_held_set _ _) ?_
      refine OW.nil ?_
      refine QW.then_n ?_
      refine CW.seq ?_
      refine CW.region ?_
      refine OW.rv (RV.move rfl) rfl ?_
      refine OW.rv (RV.nilCheck rfl) rfl ?_
      refine OW.rv (RV.field rfl rfl rfl rfl) rfl ?_
      refine OW.slot (ptr (some b0_) 162) rfl ?_
      refine OW.rv (RV.load rfl (List.Mem.head _) rfl rfl rfl (Sponge.C_held _)) rfl ?_
      refine OW.rv (RV.eql rfl rfl) rfl ?_
      refine OW.nil ?_
      refine QW.then_n ?_
      obtain ⟨q35, hq36, hl21⟩ := some_bind hl21
      refine CW.cutJ (fun L' M' => ∃ w39 : Sponge, ∃ B37 : List Ent, q35 = w39 ∧ (∀ w, Mem w0 w B37 → Mem w0 w B13) ∧ L' = [(0, ptr (some b0_) 0), (1, .slice (subA A16 c17 (min l15.length (136 - ((w19.held).toNat))) 1) (l15.drop (min l15.length (136 - ((w19.held).toNat)))).length (c17 - (min l15.length (136 - ((w19.held).toNat)))))] ∧ M' = ((some b0_, blk w39.C 88) :: (B37 ++ N))) ?_ ?_
      · rintro L41 M42 ⟨w39, B37, e40, hB38, e43, e44⟩
        rw [e43, e44]
        clear e43 e44 L41 M42
        clear hq36
        rw [e40] at hl21
        clear e40
        try dsimp only at hl21
        replace v31 := v31.mono (Ψ := More w0 Φ B37) (fun w q => More.mono (fun w m => hB38 w (m)) q)
        refine QW.block_n ?_
        exact QW.againJ (k' := k20) (Nat.lt_succ_self _) ⟨(l15.drop (min l15.length (136 - ((w19.held).toNat)))), w39, B37, (subA A16 c17 (min l15.length (136 - ((w19.held).toNat))) 1), (c17 - (min l15.length (136 - ((w19.held).toNat)))), hl21, (fun w m => hB14 w (hB38 w (m))), v31, rfl, rfl⟩ ⟨rfl, rfl, trivial⟩ (fun w m => m.pick [0] 1 rfl rfl)
      · skip
        by_cases h45 : ({ ({ w19 with part := cpV w19.part ((w19.held).toNat) (l15.take (min l15.length (136 - ((w19.held).toNat)))) } : Sponge) with held := (({ w19 with part := cpV w19.part ((w19.held).toNat) (l15.take (min l15.length (136 - ((w19.held).toNat)))) } : Sponge).held + (((min l15.length (136 - ((w19.held).toNat))) : Nat) : Int)) } : Sponge).held = (136 : Int)
        · replace hq36 := if_t hq36 h45
          refine CW.is_t rfl (decide_eq_true h45) ?_
          refine CW.region ?_
          refine OW.rv (RV.move rfl) rfl ?_
          obtain ⟨x47, hx46, hq36⟩ := some_bind hq36
          refine OW.callG Tryd.call67 rfl (keccak_Sponge_absorb_does w0 (More w0 Φ B13) ((B13 ++ N)) (fun w m => More.of hΦ 0 m rfl) b0_ ({ ({ w19 with part := cpV w19.part ((w19.held).toNat) (l15.take (min l15.length (136 - ((w19.held).toNat)))) } : Sponge) with held := (({ w19 with part := cpV w19.part ((w19.held).toNat) (l15.take (min l15.length (136 - ((w19.held).toNat)))) } : Sponge).held + (((min l15.length (136 - ((w19.held).toNat))) : Nat) : Int)) } : Sponge) x47 hx46) rfl rfl ?_
          rintro L49 M50 ⟨B48, e51, e52⟩
          rw [e51, e52]
          clear e51 e52 L49 M50
          refine OW.mem (M' := ((some b0_, blk x47.C 88) :: ((B48 ++ B13) ++ N))) (fun w m => by have h := Mem.sinkAt (A := B48) m 1 0 rfl rfl; exact h) ?_
          replace v31 := v31.mono (Ψ := More w0 Φ (B48 ++ B13)) (fun w q => More.mono (fun w m => (m).appR) q)
          replace v18 := v18.mono (Ψ := More w0 Φ (B48 ++ B13)) (fun w q => More.mono (fun w m => (m).appR) q)
          refine OW.nil ?_
          exact QW.join ⟨x47, (B48 ++ B13), (Option.some.inj hq36).symm, (fun w m => (m).appR), rfl, rfl⟩ ⟨rfl, rfl, trivial⟩ (fun w m => m.pick [0] 1 rfl rfl)
        · replace hq36 := if_f hq36 h45
          refine CW.is_f rfl (decide_eq_false h45) ?_
          refine CW.skip ?_
          exact QW.join ⟨({ ({ w19 with part := cpV w19.part ((w19.held).toNat) (l15.take (min l15.length (136 - ((w19.held).toNat)))) } : Sponge) with held := (({ w19 with part := cpV w19.part ((w19.held).toNat) (l15.take (min l15.length (136 - ((w19.held).toNat)))) } : Sponge).held + (((min l15.length (136 - ((w19.held).toNat))) : Nat) : Int)) } : Sponge), B13, (Option.some.inj hq36).symm, (fun w m => m), rfl, rfl⟩ ⟨rfl, rfl, trivial⟩ (fun w m => m.pick [0] 1 rfl rfl)
    · replace hl21 := if_f hl21 h28
      refine CW.is_f rfl (decide_eq_false h28) ?_
      refine CW.exit ?_
      refine QW.then_x ?_
      refine QW.then_x ?_
      refine QW.block_xe ?_
      exact QW.join ⟨w19, B13, (Option.some.inj hl21).symm, (fun w m => hB14 w (m)), rfl, rfl⟩ trivial (fun w m => m.pick [0] 1 rfl rfl)

theorem keccak_Sponge_Sum_does (w0 : World) (Φ : Ctx) (N : List Ent) (hΦ : ∀ w, Mem w0 w N → Φ w) (b0_ : Nat) (a0 : Sponge) (res0 : Vector (BitVec 8) 32) (new0 : Sponge) (hg0 : View Φ (some ⟨0, 0, none⟩) 2 2 1 (u8s firstL)) (hf : keccak_Sponge_Sum a0 = some (res0, new0)) : DoesG Tryd.prog 59 [ptr (some b0_) 0] w0 [(some b0_, blk a0.C 88)] N (fun v G => ∃ B : List Ent, v = .agg (u8s res0.toList).toArray ∧ G = (some b0_, blk new0.C 88) :: B) := by
  unfold keccak_Sponge_Sum at hf
  replace hg0 := hg0.mono (Ψ := More w0 Φ []) (fun w q => q.1)
  refine DoesG.enter Tryd.func59 rfl Tryd.ntmps59 rfl (M := ((some b0_, blk a0.C 88) :: ([] ++ N))) rfl ?_
  refine CW.seq ?_
  refine CW.region ?_
  refine OW.alloc (l := (u8s (Vector.replicate 32 0#8).toList)) rfl (by rw [Vector.toList_replicate, ← u8s_rep']; rfl) rfl (fun b1 => ?_)
  refine OW.nil ?_
  refine QW.then_n ?_
  refine CW.seq ?_
  refine CW.seq ?_
  refine CW.region ?_
  refine OW.rv (RV.move rfl) rfl ?_
  refine OW.rv (RV.eqlS rfl rfl rfl) rfl ?_
  refine OW.nil ?_
  refine QW.then_n ?_
  refine CW.is_f rfl rfl ?_
  refine CW.skip ?_
  refine QW.then_n ?_
  refine CW.seq ?_
  refine CW.region ?_
  refine OW.rv (RV.move rfl) rfl ?_
  refine OW.rv (RV.nilCheck rfl) rfl ?_
  refine OW.rv (RV.loadW rfl (List.Mem.tail _ (List.Mem.head _)) rfl rfl rfl rfl (Sponge.C_length _)) rfl ?_
  refine OW.alloc (l := (⟨0, (Vector.replicate 25 0#64), (Vector.replicate 136 0#8), 0, 0⟩ : Sponge).C) rfl (by kernel_rfl) rfl (fun b2 => ?_)
  refine OW.sv (SV.storeW rfl rfl rfl (Sponge.C_one _) rfl (Sponge.C_length _) (Sponge.C_length _)) ?_
  refine OW.nil ?_
  refine QW.then_n ?_
  refine CW.seq ?_
  refine CW.region ?_
  refine OW.rv (RV.field rfl rfl rfl rfl) rfl ?_
  refine OW.slot (ptr (some b2) 26) rfl ?_
  refine OW.rv (RV.field rfl rfl rfl rfl) rfl ?_
  refine OW.slot (ptr (some b2) 162) rfl ?_
  refine OW.rv (RV.load rfl (List.Mem.head _) rfl rfl rfl (Sponge.C_held _)) rfl ?_
  obtain ⟨g3, hf⟩ := some_if hf
  obtain ⟨g4, hf⟩ := some_if hf
  refine OW.rv (RV.arr_loS ((a0.held).toNat) rfl rfl (by omega) rfl rfl (by omega)) rfl ?_
  refine OW.clear (z := .int .u8 0) (b := b2) (off := 26 + ((a0.held).toNat)) rfl rfl rfl rfl rfl (by omega) (by rw [Sponge.C_length]; omega) ?_
  refine OW.cells ({ a0 with part := cpV a0.part ((a0.held).toNat) (List.replicate (136 - ((a0.held).toNat)) 0#8) } : Sponge).C (by rw [u8s_rep0]; exact Sponge.C_part_cpy _ (by rw [List.length_replicate]; omega)) ?_
  refine OW.nil ?_
  refine QW.then_n ?_
  refine CW.seq ?_
  refine CW.drawsX ((some b1, blk (u8s (Vector.replicate 32 0#8).toList) 50) :: (some b0_, blk a0.C 88) :: ([] ++ N)) [12] (fun w m => m.pick [1, 2] 3 rfl rfl) mixed (by kernel_rfl) ?_
  refine XW.rs 0 rfl (by kernel_rfl) rfl (RV.field rfl rfl rfl rfl) rfl ?_
  refine XW.slot (ptr (some b2) 162) rfl ?_
  refine XW.rv 1 rfl (by kernel_rfl) rfl (by kernel_rfl) (RV.load rfl (List.Mem.head _) rfl rfl rfl (Sponge.C_held _)) rfl ?_
  refine XW.rs 2 rfl (by kernel_rfl) rfl (RV.field rfl rfl rfl rfl) rfl ?_
  refine XW.slot (ptr (some b2) 26) rfl ?_
  obtain ⟨g5, hf⟩ := some_if hf
  obtain ⟨g6, hf⟩ := some_if hf
  refine XW.rs 3 rfl (by kernel_rfl) rfl (RV.idx_a ((({ a0 with part := cpV a0.part ((a0.held).toNat) (List.replicate (136 - ((a0.held).toNat)) 0#8) } : Sponge).held).toNat) rfl rfl (by omega) rfl rfl (by omega)) rfl ?_
  obtain ⟨x7, hx8, hf⟩ := some_bind hf
  refine XW.rv 4 rfl (by kernel_rfl) rfl (by kernel_rfl) (RV.load rfl (List.Mem.head _) rfl rfl rfl (Sponge.C_part _ hx8)) rfl ?_
  refine XW.rs 5 rfl (by kernel_rfl) rfl (RV.field rfl rfl rfl rfl) rfl ?_
  refine XW.slot (ptr (some b2) 0) rfl ?_
  refine XW.rv 6 rfl (by kernel_rfl) rfl (by kernel_rfl) (RV.load rfl (List.Mem.head _) rfl rfl rfl (Sponge.C_kind _)) rfl ?_
  obtain ⟨g9, hf⟩ := some_if hf
  obtain ⟨x10, hx11, hf⟩ := some_bind hf
  have hl12 : (({ a0 with part := cpV a0.part ((a0.held).toNat) (List.replicate (136 - ((a0.held).toNat)) 0#8) } : Sponge).kind).toNat < 2 := lt_of_at hx11
  refine XW.rs 7 rfl (by kernel_rfl) rfl (RV.idx_arr_at (a := ⟨0, 0, none⟩) rfl rfl rfl rfl (by omega) (by omega)) rfl ?_
  refine XW.slot (rptr (some ⟨0, 0, none⟩) ((({ a0 with part := cpV a0.part ((a0.held).toNat) (List.replicate (136 - ((a0.held).toNat)) 0#8) } : Sponge).kind).toNat)) (congrArg (fun k => Value.pointer (some (Addr.add ⟨0, 0, none⟩ k))) (Nat.mul_one _)) ?_
  refine XW.rs 8 rfl (by kernel_rfl) rfl (RV.load_at rfl rfl rfl (fun w m => hg0.cell (More.of hΦ 2 m rfl) (u8s_at hx11))) rfl ?_
  refine XW.rs 9 rfl (by kernel_rfl) rfl (RV.xor8 rfl (by first | rfl | exact lit8 _ rfl) rfl (by first | rfl | exact lit8 _ rfl)) rfl ?_
  refine XW.rs 10 rfl (by kernel_rfl) rfl (RV.field rfl rfl rfl rfl) rfl ?_
  refine XW.slot (ptr (some b2) 26) rfl ?_
  refine XW.rs 11 rfl (by kernel_rfl) rfl (RV.idx_a ((({ a0 with part := cpV a0.part ((a0.held).toNat) (List.replicate (136 - ((a0.held).toNat)) 0#8) } : Sponge).held).toNat) rfl rfl (by omega) rfl rfl (by omega)) rfl ?_
  refine XW.sv 12 rfl (by kernel_rfl) (SV.store rfl rfl rfl rfl rfl (by rw [Sponge.C_length]; omega)) (fun w m => m.pick [1, 2] 3 rfl rfl) ?_
  refine XW.cells ({ ({ a0 with part := cpV a0.part ((a0.held).toNat) (List.replicate (136 - ((a0.held).toNat)) 0#8) } : Sponge) with part := ({ a0 with part := cpV a0.part ((a0.held).toNat) (List.replicate (136 - ((a0.held).toNat)) 0#8) } : Sponge).part.setIfInBounds ((({ a0 with part := cpV a0.part ((a0.held).toNat) (List.replicate (136 - ((a0.held).toNat)) 0#8) } : Sponge).held).toNat) (x7 ^^^ x10) } : Sponge).C (Sponge.C_part_set _ (by omega) _) ?_
  refine XW.nil (by kernel_rfl) ?_
  refine QW.then_n ?_
  refine CW.seq ?_
  refine CW.region ?_
  refine OW.rv (RV.field rfl rfl rfl rfl) rfl ?_
  refine OW.slot (ptr (some b2) 26) rfl ?_
  refine OW.rv (RV.idx_a (135) rfl rfl rfl rfl rfl (by omega)) rfl ?_
  refine OW.rv (RV.load rfl (List.Mem.head _) rfl rfl rfl (Sponge.C_part _ (Vector.getElem?_eq_getElem (by decide)))) rfl ?_
  refine OW.rv (RV.xor8 rfl (by first | rfl | exact lit8 _ rfl) rfl (by first | rfl | exact lit8 _ rfl)) rfl ?_
  refine OW.rv (RV.field rfl rfl rfl rfl) rfl ?_
  refine OW.slot (ptr (some b2) 26) rfl ?_
  refine OW.rv (RV.idx_a (135) rfl rfl rfl rfl rfl (by omega)) rfl ?_
  refine OW.sv (SV.store rfl rfl rfl rfl rfl (by rw [Sponge.C_length]; omega)) ?_
  refine OW.cells ({ ({ ({ a0 with part := cpV a0.part ((a0.held).toNat) (List.replicate (136 - ((a0.held).toNat)) 0#8) } : Sponge) with part := ({ a0 with part := cpV a0.part ((a0.held).toNat) (List.replicate (136 - ((a0.held).toNat)) 0#8) } : Sponge).part.setIfInBounds ((({ a0 with part := cpV a0.part ((a0.held).toNat) (List.replicate (136 - ((a0.held).toNat)) 0#8) } : Sponge).held).toNat) (x7 ^^^ x10) } : Sponge) with part := ({ ({ a0 with part := cpV a0.part ((a0.held).toNat) (List.replicate (136 - ((a0.held).toNat)) 0#8) } : Sponge) with part := ({ a0 with part := cpV a0.part ((a0.held).toNat) (List.replicate (136 - ((a0.held).toNat)) 0#8) } : Sponge).part.setIfInBounds ((({ a0 with part := cpV a0.part ((a0.held).toNat) (List.replicate (136 - ((a0.held).toNat)) 0#8) } : Sponge).held).toNat) (x7 ^^^ x10) } : Sponge).part.setIfInBounds 135 (({ ({ a0 with part := cpV a0.part ((a0.held).toNat) (List.replicate (136 - ((a0.held).toNat)) 0#8) } : Sponge) with part := ({ a0 with part := cpV a0.part ((a0.held).toNat) (List.replicate (136 - ((a0.held).toNat)) 0#8) } : Sponge).part.setIfInBounds ((({ a0 with part := cpV a0.part ((a0.held).toNat) (List.replicate (136 - ((a0.held).toNat)) 0#8) } : Sponge).held).toNat) (x7 ^^^ x10) } : Sponge).part[135] ^^^ 128#8) } : Sponge).C (Sponge.C_part_set _ (by omega) _) ?_
  refine OW.nil ?_
  refine QW.then_n ?_
  refine CW.seq ?_
  refine CW.region ?_
  obtain ⟨x14, hx13, hf⟩ := some_bind hf
  refine OW.callG Tryd.call67 rfl (keccak_Sponge_absorb_does w0 (More w0 Φ []) ((some b1, blk (u8s (Vector.replicate 32 0#8).toList) 50) :: (some b0_, blk a0.C 88) :: ([] ++ N)) (fun w m => More.of hΦ 2 m rfl) b2 ({ ({ ({ a0 with part := cpV a0.part ((a0.held).toNat) (List.replicate (136 - ((a0.held).toNat)) 0#8) } : Sponge) with part := ({ a0 with part := cpV a0.part ((a0.held).toNat) (List.replicate (136 - ((a0.held).toNat)) 0#8) } : Sponge).part.setIfInBounds ((({ a0 with part := cpV a0.part ((a0.held).toNat) (List.replicate (136 - ((a0.held).toNat)) 0#8) } : Sponge).held).toNat) (x7 ^^^ x10) } : Sponge) with part := ({ ({ a0 with part := cpV a0.part ((a0.held).toNat) (List.replicate (136 - ((a0.held).toNat)) 0#8) } : Sponge) with part := ({ a0 with part := cpV a0.part ((a0.held).toNat) (List.replicate (136 - ((a0.held).toNat)) 0#8) } : Sponge).part.setIfInBounds ((({ a0 with part := cpV a0.part ((a0.held).toNat) (List.replicate (136 - ((a0.held).toNat)) 0#8) } : Sponge).held).toNat) (x7 ^^^ x10) } : Sponge).part.setIfInBounds 135 (({ ({ a0 with part := cpV a0.part ((a0.held).toNat) (List.replicate (136 - ((a0.held).toNat)) 0#8) } : Sponge) with part := ({ a0 with part := cpV a0.part ((a0.held).toNat) (List.replicate (136 - ((a0.held).toNat)) 0#8) } : Sponge).part.setIfInBounds ((({ a0 with part := cpV a0.part ((a0.held).toNat) (List.replicate (136 - ((a0.held).toNat)) 0#8) } : Sponge).held).toNat) (x7 ^^^ x10) } : Sponge).part[135] ^^^ 128#8) } : Sponge) x14 hx13) rfl rfl ?_
  rintro L16 M17 ⟨B15, e18, e19⟩
  rw [e18, e19]
  clear e18 e19 L16 M17
  refine OW.mem (M' := ((some b2, blk x14.C 88) :: (some b1, blk (u8s (Vector.replicate 32 0#8).toList) 50) :: (some b0_, blk a0.C 88) :: ((B15 ++ []) ++ N))) (fun w m => by have h := Mem.sinkAt (A := B15) m 1 2 rfl rfl; exact h) ?_
  replace hg0 := hg0.mono (Ψ := More w0 Φ (B15 ++ [])) (fun w q => More.mono (fun w m => (m).appR) q)
  refine OW.nil ?_
  refine QW.then_n ?_
  refine CW.seq ?_
  refine CW.region ?_
  refine OW.alloc (l := (u8s (Vector.replicate 32 0#8).toList)) rfl (by rw [Vector.toList_replicate, ← u8s_rep']; rfl) rfl (fun b20 => ?_)
  refine OW.nil ?_
  refine QW.then_n ?_
  refine CW.seq ?_
  refine CW.seq ?_
  refine CW.region ?_
  refine OW.rv (RV.move rfl) rfl ?_
  refine OW.nil ?_
  refine QW.then_n ?_
  obtain ⟨q21, hq22, hf⟩ := some_bind hf
  refine CW.cutJ (fun L' M' => ∃ w23 : Vector (BitVec 8) 32, q21 = w23 ∧ L' = [(2, ptr (some b1) 0), (4, ptr (some b20) 0)] ∧ M' = ((some b20, blk (u8s w23.toList) 50) :: (some b1, blk (u8s (Vector.replicate 32 0#8).toList) 50) :: (some b0_, blk a0.C 88) :: ((B15 ++ []) ++ N))) ?_ ?_
  · rintro L25 M26 ⟨w23, e24, e27, e28⟩
    rw [e27, e28]
    clear e27 e28 L25 M26
    clear hq22
    rw [e24] at hf
    clear e24
    try dsimp only at hf
    refine QW.then_n ?_
    refine CW.seq ?_
    refine CW.region ?_
    refine OW.rv (RV.loadW rfl (List.Mem.head _) rfl rfl rfl rfl ((u8s_length _).trans Vector.length_toList)) rfl ?_
    refine OW.rot1 ?_
    refine OW.sv (SV.storeW rfl rfl rfl (u8s_one _) rfl ((u8s_length _).trans Vector.length_toList) ((u8s_length _).trans Vector.length_toList)) ?_
    refine OW.nil ?_
    refine QW.then_n ?_
    refine CW.ret ?_
    have er0 := Option.some.inj hf
    obtain ⟨e0, er1⟩ := Prod.mk.inj er0
    clear er0
    subst e0
    subst er1
    refine QW.retG (rs := [.cell 2 50]) ([.agg (u8s w23.toList).toArray]) ((some b0_, blk a0.C 88) :: (B15 ++ [])) rfl ?_ rfl ?_ ?_ _ (.inl rfl)
    · exact ⟨⟨_, _, _, _, rfl, (List.Mem.head _), rfl, rfl, (congrArg some ((u8s_length _).trans Vector.length_toList).symm), rfl⟩, trivial⟩
    · exact ⟨(B15 ++ []), rfl, rfl⟩
    · exact (fun w m => m.pick [2] 3 rfl rfl)
  · skip
    refine CW.block ?_
    refine CW.loopJ (fun k L' M' => ∃ n29 : Nat, ∃ w31 : Vector (BitVec 8) 32, (keccak_Sponge_Sum.l1 x14 k n29 w31) = some q21 ∧ (n29 ≤ 9223372036854775807) ∧ L' = [(2, ptr (some b1) 0), (3, ptr (some b2) 0), (4, ptr (some b20) 0), (35, .int .i64 ((n29 : Nat) : Int))] ∧ M' = ((some b20, blk (u8s w31.toList) 50) :: (some b2, blk x14.C 88) :: (some b1, blk (u8s (Vector.replicate 32 0#8).toList) 50) :: (some b0_, blk a0.C 88) :: ((B15 ++ []) ++ N))) (k0 := (32 - 0 + 2)) ⟨0, (Vector.replicate 32 0#8), hq22, (by omega), rfl, rfl⟩ ⟨rfl, rfl, rfl, rfl, trivial⟩ (fun w m => m.pick [0, 1, 2, 3] 4 rfl rfl) ?_
    clear hq22
    rintro k32 L35 M36 ⟨n29, w31, hl33, b30, e37, e38⟩
    rw [e37, e38]
    clear e37 e38 L35 M36
    rcases k32 with _ | k32
    · rw [keccak_Sponge_Sum.l1] at hl33; cases hl33
    rw [keccak_Sponge_Sum.l1] at hl33
    refine CW.seq ?_
    refine CW.region ?_
    refine OW.rv (RV.lss rfl rfl) rfl ?_
    refine OW.slot (.bool (decide (n29 < 32))) (congrArg Value.bool (decide_eq_decide.2 (by omega))) ?_
    refine OW.nil ?_
    refine QW.then_n ?_
    refine CW.seq ?_
    by_cases h39 : n29 < 32
    · replace hl33 := if_t hl33 h39
      refine CW.is_t rfl (decide_eq_true h39) ?_
      refine CW.skip ?_
      refine QW.then_n ?_
      refine CW.seq ?_
      refine CW.block ?_
      refine CW.seq ?_
      refine CW.region ?_
      refine OW.rv (RV.move rfl) rfl ?_
      refine OW.rv (RV.assign rfl) rfl ?_
      refine OW.nil ?_
      refine QW.then_n ?_
      refine CW.region ?_
      refine OW.rv (RV.move rfl) rfl ?_
      refine OW.rv (RV.move rfl) rfl ?_
      refine OW.rv (RV.quo rfl rfl (by omega) (by omega) (by omega)) rfl ?_
      refine OW.slot (.int .i64 ((n29 / 8 : Nat) : Int)) (by first | rfl | (congr 1; omega)) ?_
      refine OW.rv (RV.field rfl rfl rfl rfl) rfl ?_
      refine OW.slot (ptr (some b2) 1) rfl ?_
      obtain ⟨g40, hl33⟩ := some_if hl33
      refine OW.rv (RV.idx_a ((n29 / 8)) rfl rfl rfl rfl rfl (by omega)) rfl ?_
      obtain ⟨x41, hx42, hl33⟩ := some_bind hl33
      refine OW.rv (RV.load rfl (List.Mem.tail _ (List.Mem.head _)) rfl rfl rfl (Sponge.C_lanes _ hx42)) rfl ?_
      refine OW.rv (RV.move rfl) rfl ?_
      refine OW.rv (RV.rem rfl rfl (by omega) (by omega)) rfl ?_
      refine OW.slot (.int .i64 ((n29 % 8 : Nat) : Int)) (by first | rfl | (congr 1; omega)) ?_
      refine OW.rv (RV.mul rfl rfl (by omega)) rfl ?_
      refine OW.slot (.int .i64 (((8 * (n29 % 8)) : Nat) : Int)) (by first | rfl | (congr 1) | (congr 1; omega)) ?_
      refine OW.rv (RV.shr64 (s := (8 * (n29 % 8))) rfl (by first | rfl | exact lit64 _ rfl) rfl (by first | rfl | (congr 1))) rfl ?_
      refine OW.rv (RV.conv64_8 rfl (by first | rfl | exact lit64 _ rfl) rfl rfl) rfl ?_
      refine OW.rv (RV.idx_a (n29) rfl rfl rfl rfl rfl (by omega)) rfl ?_
      refine OW.sv (SV.store rfl rfl rfl rfl rfl (by rw [u8s_length, Vector.length_toList]; omega)) ?_
      refine OW.cells (u8s (w31.setIfInBounds n29 ((x41 >>> (8 * (n29 % 8))).setWidth 8)).toList) (by rw [Nat.zero_add, u8s_set', vset]) ?_
      refine OW.nil ?_
      refine QW.block_n ?_
      refine QW.then_n ?_
      refine CW.region ?_
      refine OW.rv (RV.add rfl rfl (by omega)) rfl ?_
      refine OW.slot (.int .i64 (((n29 + 1) : Nat) : Int)) (by first | rfl | (congr 1) | (congr 1; omega)) ?_
      refine OW.rv (RV.move rfl) rfl ?_
      refine OW.nil ?_
      exact QW.againJ (k' := k32) (Nat.lt_succ_self _) ⟨(n29 + 1), (w31.setIfInBounds n29 ((x41 >>> (8 * (n29 % 8))).setWidth 8)), hl33, (by omega), rfl, rfl⟩ ⟨rfl, rfl, rfl, rfl, trivial⟩ (fun w m => m.pick [0, 1, 2, 3] 4 rfl rfl)
    · replace hl33 := if_f hl33 h39
      refine CW.is_f rfl (decide_eq_false h39) ?_
      refine CW.exit ?_
      refine QW.then_x ?_
      refine QW.then_x ?_
      refine QW.block_xe ?_
      exact QW.join ⟨w31, (Option.some.inj hl33).symm, rfl, rfl⟩ ⟨rfl, rfl, trivial⟩ (fun w m => m.pick [0, 2, 3] 4 rfl rfl)

theorem keccak_digest_does (w0 : World) (Φ : Ctx) (N : List Ent) (hΦ : ∀ w, Mem w0 w N → Φ w) (a0 : Int) (A1_ : Option Addr) (c1_ : Nat) (cs1_ : List Value) (a1 : List (List (BitVec 8))) (res0 : Vector (BitVec 8) 32) (ba0 : -9223372036854775808 ≤ a0 ∧ a0 ≤ 9223372036854775807) (va1 : View Φ A1_ a1.length c1_ 1 cs1_) (ha1 : Reps (BsRd Φ) cs1_ a1) (hg0 : View Φ (some ⟨0, 0, none⟩) 2 2 1 (u8s firstL)) (hf : keccak_digest a0 a1 = some res0) : DoesG Tryd.prog 37 [.int .i64 a0, .slice A1_ a1.length c1_] w0 [] N (fun v G => v = .agg (u8s res0.toList).toArray) := by
  unfold keccak_digest at hf
  replace va1 := va1.mono (Ψ := More w0 Φ []) (fun w q => q.1)
  replace hg0 := hg0.mono (Ψ := More w0 Φ []) (fun w q => q.1)
  replace ha1 := ha1.mono (BsRd.mono (Ψ := More w0 Φ []) (fun w q => q.1))
  have m1 := va1.mx
  refine DoesG.enter Tryd.func37 rfl Tryd.ntmps37 rfl (M := (([] ++ N))) rfl ?_
  refine CW.seq ?_
  refine CW.region ?_
  refine OW.alloc (l := (u8s (Vector.replicate 32 0#8).toList)) rfl (by rw [Vector.toList_replicate, ← u8s_rep']; rfl) rfl (fun b2 => ?_)
  refine OW.nil ?_
  refine QW.then_n ?_
  refine CW.seq ?_
  refine CW.region ?_
  refine OW.rv (RV.move rfl) rfl ?_
  refine OW.rv (RV.buildSt (l := (⟨0, (Vector.replicate 25 0#64), (Vector.replicate 136 0#8), 0, 0⟩ : Sponge).C) (cs := ({ (⟨0, (Vector.replicate 25 0#64), (Vector.replicate 136 0#8), 0, 0⟩ : Sponge) with kind := a0 } : Sponge).C) [(0, [.int .i64 a0])] rfl rfl rfl rfl rfl rfl rfl) rfl ?_
  refine OW.alloc (l := (⟨0, (Vector.replicate 25 0#64), (Vector.replicate 136 0#8), 0, 0⟩ : Sponge).C) rfl (by kernel_rfl) rfl (fun b3 => ?_)
  refine OW.sv (SV.storeW rfl rfl rfl (Sponge.C_one _) rfl (Sponge.C_length _) (Sponge.C_length _)) ?_
  refine OW.nil ?_
  refine QW.then_n ?_
  refine CW.seq ?_
  refine CW.seq ?_
  refine CW.region ?_
  refine OW.rv (RV.move rfl) rfl ?_
  refine OW.rv (RV.len rfl rfl) rfl ?_
  refine OW.rv (RV.move rfl) rfl ?_
  refine OW.nil ?_
  refine QW.then_n ?_
  obtain ⟨q4, hq5, hf⟩ := some_bind hf
  refine CW.cutJ (fun L' M' => ∃ w8 : Sponge, ∃ B6 : List Ent, q4 = w8 ∧ (∀ w, Mem w0 w B6 → Mem w0 w []) ∧ L' = [(4, ptr (some b2) 0), (5, ptr (some b3) 0)] ∧ M' = ((some b3, blk w8.C 88) :: (some b2, blk (u8s (Vector.replicate 32 0#8).toList) 50) :: (B6 ++ N))) ?_ ?_
  · rintro L10 M11 ⟨w8, B6, e9, hB7, e12, e13⟩
    rw [e12, e13]
    clear e12 e13 L10 M11
    clear hq5
    rw [e9] at hf
    clear e9
    try dsimp only at hf
    replace hg0 := hg0.mono (Ψ := More w0 Φ B6) (fun w q => More.mono (fun w m => hB7 w (m)) q)
    refine QW.then_n ?_
    refine CW.seq ?_
    refine CW.region ?_
    obtain ⟨⟨x15, x16⟩, hx14, hf⟩ := some_bind hf
    try dsimp only at hf
    refine OW.callG Tryd.call59 rfl (keccak_Sponge_Sum_does w0 (More w0 Φ B6) ((some b2, blk (u8s (Vector.replicate 32 0#8).toList) 50) :: (B6 ++ N)) (fun w m => More.of hΦ 1 m rfl) b3 w8 x15 x16 hg0 hx14) rfl rfl ?_
    rintro L18 M19 ⟨B17, e20, e21⟩
    rw [e20, e21]
    clear e20 e21 L18 M19
    refine OW.mem (M' := ((some b3, blk x16.C 88) :: (some b2, blk (u8s (Vector.replicate 32 0#8).toList) 50) :: ((B17 ++ B6) ++ N))) (fun w m => by have h := Mem.sinkAt (A := B17) m 1 1 rfl rfl; exact h) ?_
    replace hg0 := hg0.mono (Ψ := More w0 Φ (B17 ++ B6)) (fun w q => More.mono (fun w m => (m).appR) q)
    refine OW.rot1 ?_
    refine OW.sv (SV.storeW rfl rfl rfl (u8s_one _) rfl ((u8s_length _).trans Vector.length_toList) ((u8s_length _).trans Vector.length_toList)) ?_
    refine OW.nil ?_
    refine QW.then_n ?_
    refine CW.ret ?_
    have e0 := Option.some.inj hf
    subst e0
    refine QW.retG (rs := [.cell 4 50]) ([.agg (u8s x15.toList).toArray]) ((some b2, blk (u8s x15.toList) 50) :: (some b3, blk x16.C 88) :: (B17 ++ B6)) rfl ?_ rfl ?_ ?_ _ (.inl rfl)
    · exact ⟨⟨_, _, _, _, rfl, (List.Mem.head _), rfl, rfl, (congrArg some ((u8s_length _).trans Vector.length_toList).symm), rfl⟩, trivial⟩
    · exact rfl
    · exact (fun w m => m)
  · skip
    refine CW.block ?_
    refine CW.loopJ (fun k L' M' => ∃ n24 : Nat, ∃ w26 : Sponge, ∃ B22 : List Ent, (keccak_digest.l1 a1 k n24 w26) = some q4 ∧ (∀ w, Mem w0 w B22 → Mem w0 w []) ∧ (n24 ≤ 9223372036854775807) ∧ L' = [(4, ptr (some b2) 0), (5, ptr (some b3) 0), (10, .slice A1_ a1.length c1_), (11, .int .i64 ((a1.length : Nat) : Int)), (12, .int .i64 ((n24 : Nat) : Int))] ∧ M' = ((some b3, blk w26.C 88) :: (some b2, blk (u8s (Vector.replicate 32 0#8).toList) 50) :: (B22 ++ N))) (k0 := (a1.length - 0 + 2)) ⟨0, ({ (⟨0, (Vector.replicate 25 0#64), (Vector.replicate 136 0#8), 0, 0⟩ : Sponge) with kind := a0 } : Sponge), [], hq5, (fun w m => m), (by omega), rfl, rfl⟩ ⟨rfl, rfl, rfl, rfl, rfl, trivial⟩ (fun w m => m.pick [0, 1] 2 rfl rfl) ?_
    clear hq5
    rintro k27 L30 M31 ⟨n24, w26, B22, hl28, hB23, b25, e32, e33⟩
    rw [e32, e33]
    clear e32 e33 L30 M31
    rcases k27 with _ | k27
    · rw [keccak_digest.l1] at hl28; cases hl28
    rw [keccak_digest.l1] at hl28
    replace va1 := va1.mono (Ψ := More w0 Φ B22) (fun w q => More.mono (fun w m => hB23 w (m)) q)
    replace ha1 := ha1.mono (BsRd.mono (Ψ := More w0 Φ B22) (fun w q => More.mono (fun w m => hB23 w (m)) q))
    replace hg0 := hg0.mono (Ψ := More w0 Φ B22) (fun w q => More.mono (fun w m => hB23 w (m)) q)
    refine CW.seq ?_
    refine CW.region ?_
    refine OW.rv (RV.lss rfl rfl) rfl ?_
    refine OW.slot (.bool (decide (n24 < a1.length))) (congrArg Value.bool (decide_eq_decide.2 (by omega))) ?_
    refine OW.nil ?_
    refine QW.then_n ?_
    refine CW.seq ?_
    by_cases h34 : n24 < a1.length
    · replace hl28 := if_t hl28 h34
      refine CW.is_t rfl (decide_eq_true h34) ?_
      refine CW.skip ?_
      refine QW.then_n ?_
      refine CW.seq ?_
      refine CW.block ?_
      refine CW.seq ?_
      refine CW.region ?_
      obtain ⟨x35, hx36, hl28⟩ := some_bind hl28
      have hl37 := lt_of_at hx36
      refine OW.rv (RV.idx_r (n24) rfl rfl rfl rfl rfl (va1.isSome (by decide) hl37) (by omega)) rfl ?_
      obtain ⟨cs38, h39, h40⟩ := ha1.get BsRd.len hx36
      obtain ⟨A41, c42, e44, v43⟩ := h39
      subst e44
      have m45 := v43.mx
      refine OW.rv (RV.load_at rfl rfl rfl (fun w m => by have := va1.load (More.of hΦ 2 m rfl) h40 0 _ rfl; simpa [Addr.add] using this)) rfl ?_
      refine OW.rv (RV.assign rfl) rfl ?_
      refine OW.nil ?_
      refine QW.then_n ?_
      refine CW.region ?_
      refine OW.rv (RV.move rfl) rfl ?_
      obtain ⟨x47, hx46, hl28⟩ := some_bind hl28
      refine OW.callG Tryd.call58 rfl (keccak_Sponge_Write_does w0 (More w0 Φ B22) ((some b2, blk (u8s (Vector.replicate 32 0#8).toList) 50) :: (B22 ++ N)) (fun w m => More.of hΦ 1 m rfl) b3 w26 A41 c42 x35 x47 v43 hx46) rfl rfl ?_
      rintro L49 M50 ⟨B48, e51, e52⟩
      rw [e51, e52]
      clear e51 e52 L49 M50
      refine OW.mem (M' := ((some b3, blk x47.C 88) :: (some b2, blk (u8s (Vector.replicate 32 0#8).toList) 50) :: ((B48 ++ B22) ++ N))) (fun w m => by have h := Mem.sinkAt (A := B48) m 1 1 rfl rfl; exact h) ?_
      replace va1 := va1.mono (Ψ := More w0 Φ (B48 ++ B22)) (fun w q => More.mono (fun w m => (m).appR) q)
      replace ha1 := ha1.mono (BsRd.mono (Ψ := More w0 Φ (B48 ++ B22)) (fun w q => More.mono (fun w m => (m).appR) q))
      replace v43 := v43.mono (Ψ := More w0 Φ (B48 ++ B22)) (fun w q => More.mono (fun w m => (m).appR) q)
      replace hg0 := hg0.mono (Ψ := More w0 Φ (B48 ++ B22)) (fun w q => More.mono (fun w m => (m).appR) q)
      refine OW.nil ?_
      refine QW.block_n ?_
      refine QW.then_n ?_
      refine CW.region ?_
      refine OW.rv (RV.add rfl rfl (by omega)) rfl ?_
      refine OW.slot (.int .i64 (((n24 + 1) : Nat) : Int)) (by first | rfl | (congr 1) | (congr 1; omega)) ?_
      refine OW.rv (RV.move rfl) rfl ?_
      refine OW.nil ?_
      exact QW.againJ (k' := k27) (Nat.lt_succ_self _) ⟨(n24 + 1), x47, (B48 ++ B22), hl28, (fun w m => hB23 w ((m).appR)), (by omega), rfl, rfl⟩ ⟨rfl, rfl, rfl, rfl, rfl, trivial⟩ (fun w m => m.pick [0, 1] 2 rfl rfl)
    · replace hl28 := if_f hl28 h34
      refine CW.is_f rfl (decide_eq_false h34) ?_
      refine CW.exit ?_
      refine QW.then_x ?_
      refine QW.then_x ?_
      refine QW.block_xe ?_
      exact QW.join ⟨w26, B22, (Option.some.inj hl28).symm, (fun w m => hB23 w (m)), rfl, rfl⟩ ⟨rfl, rfl, trivial⟩ (fun w m => m.pick [0, 1] 2 rfl rfl)

theorem keccak_Sum_does (w0 : World) (Φ : Ctx) (N : List Ent) (hΦ : ∀ w, Mem w0 w N → Φ w) (A0_ : Option Addr) (c0_ : Nat) (cs0_ : List Value) (a0 : List (List (BitVec 8))) (res0 : Vector (BitVec 8) 32) (va0 : View Φ A0_ a0.length c0_ 1 cs0_) (ha0 : Reps (BsRd Φ) cs0_ a0) (hg0 : View Φ (some ⟨0, 0, none⟩) 2 2 1 (u8s firstL)) (hf : keccak_Sum a0 = some res0) : DoesG Tryd.prog 27 [.slice A0_ a0.length c0_] w0 [] N (fun v G => v = .agg (u8s res0.toList).toArray) := by
  unfold keccak_Sum at hf
  replace va0 := va0.mono (Ψ := More w0 Φ []) (fun w q => q.1)
  replace hg0 := hg0.mono (Ψ := More w0 Φ []) (fun w q => q.1)
  replace ha0 := ha0.mono (BsRd.mono (Ψ := More w0 Φ []) (fun w q => q.1))
  have m1 := va0.mx
  refine DoesG.enter Tryd.func27 rfl Tryd.ntmps27 rfl (M := (([] ++ N))) rfl ?_
  refine CW.seq ?_
  refine CW.region ?_
  refine OW.alloc (l := (u8s (Vector.replicate 32 0#8).toList)) rfl (by rw [Vector.toList_replicate, ← u8s_rep']; rfl) rfl (fun b2 => ?_)
  refine OW.nil ?_
  refine QW.then_n ?_
  refine CW.seq ?_
  refine CW.region ?_
  refine OW.rv (RV.move rfl) rfl ?_
  obtain ⟨x4, hx3, hf⟩ := some_bind hf
  refine OW.callG Tryd.call37 rfl (keccak_digest_does w0 (More w0 Φ []) ((some b2, blk (u8s (Vector.replicate 32 0#8).toList) 50) :: ([] ++ N)) (fun w m => More.of hΦ 1 m rfl) (0 : Int) A0_ c0_ cs0_ a0 x4 (by omega) va0 ha0 hg0 hx3) rfl rfl ?_
  rintro _ G5 rfl
  refine OW.mem (M' := ((some b2, blk (u8s (Vector.replicate 32 0#8).toList) 50) :: ([] ++ N))) (fun w m => m.appR) ?_
  refine OW.sv (SV.storeW rfl rfl rfl (u8s_one _) rfl ((u8s_length _).trans Vector.length_toList) ((u8s_length _).trans Vector.length_toList)) ?_
  refine OW.nil ?_
  refine QW.then_n ?_
  refine CW.ret ?_
  have e0 := Option.some.inj hf
  subst e0
  refine QW.retG (rs := [.cell 2 50]) ([.agg (u8s x4.toList).toArray]) ((some b2, blk (u8s x4.toList) 50) :: []) rfl ?_ rfl ?_ ?_ _ (.inl rfl)
  · exact ⟨⟨_, _, _, _, rfl, (List.Mem.head _), rfl, rfl, (congrArg some ((u8s_length _).trans Vector.length_toList).symm), rfl⟩, trivial⟩
  · exact rfl
  · exact (fun w m => m)

theorem bloom_Places_does (w0 : World) (Φ : Ctx) (N : List Ent) (hΦ : ∀ w, Mem w0 w N → Φ w) (A0_ : Option Addr) (c0_ : Nat) (a0 : List (BitVec 8)) (res0 : Vector (Int) 3) (va0 : View Φ A0_ a0.length c0_ 1 (u8s a0)) (hg0 : View Φ (some ⟨0, 0, none⟩) 2 2 1 (u8s firstL)) (hf : bloom_Places a0 = some res0) : DoesG Tryd.prog 13 [.slice A0_ a0.length c0_] w0 [] N (fun v G => v = .agg (i64s res0.toList).toArray) := by
  unfold bloom_Places at hf
  replace va0 := va0.mono (Ψ := More w0 Φ []) (fun w q => q.1)
  replace hg0 := hg0.mono (Ψ := More w0 Φ []) (fun w q => q.1)
  have m1 := va0.mx
  refine DoesG.enter Tryd.func13 rfl Tryd.ntmps13 rfl (M := (([] ++ N))) rfl ?_
  refine CW.seq ?_
  refine CW.region ?_
  refine OW.alloc (l := (i64s (Vector.replicate 3 0).toList)) rfl (by rw [Vector.toList_replicate, ← i64s_rep]; rfl) rfl (fun b2 => ?_)
  refine OW.nil ?_
  refine QW.then_n ?_
  refine CW.seq ?_
  refine CW.region ?_
  refine OW.rv (RV.move rfl) rfl ?_
  refine OW.ofN (NV.bs1 rfl rfl rfl rfl rfl rfl) rfl (fun b3 => ?_)
  have h6 : Reps (BsRd (More w0 Φ [])) (([.slice A0_ a0.length c0_] : List Value)) [a0] := Reps.one (BsRd.mk va0)
  refine OW.mem (M' := (((some b3), blk ((([.slice A0_ a0.length c0_] : List Value)) ++ []) 30) :: (some b2, blk (i64s (Vector.replicate 3 0).toList) 32) :: ([] ++ N))) (fun w m => m) ?_
  have o4 : OwnS (some b3) ([a0] : List (List (BitVec 8))).length 1 1 (([.slice A0_ a0.length c0_] : List Value)) [] := ⟨by simp [BsRd], by simp [BsRd], (fun h => nomatch h), by simp⟩
  refine OW.slot (sl (some b3) 0 ([a0] : List (List (BitVec 8))).length 1) (rfl) ?_
  refine OW.mem (M' := (some b2, blk (i64s (Vector.replicate 3 0).toList) 32) :: ((((some b3), blk ((([.slice A0_ a0.length c0_] : List Value)) ++ []) 30) :: []) ++ N)) (fun w m => m.pick [1, 0] 2 rfl rfl) ?_
  replace va0 := va0.mono (Ψ := More w0 Φ (((some b3), blk ((([.slice A0_ a0.length c0_] : List Value)) ++ []) 30) :: [])) (fun w q => More.mono (fun w m => (m).tail) q)
  replace h6 := h6.mono (BsRd.mono (Ψ := More w0 Φ (((some b3), blk ((([.slice A0_ a0.length c0_] : List Value)) ++ []) 30) :: [])) (fun w q => More.mono (fun w m => (m).tail) q))
  replace hg0 := hg0.mono (Ψ := More w0 Φ (((some b3), blk ((([.slice A0_ a0.length c0_] : List Value)) ++ []) 30) :: [])) (fun w q => More.mono (fun w m => (m).tail) q)
  have v7 : View (More w0 Φ (((some b3), blk ((([.slice A0_ a0.length c0_] : List Value)) ++ []) 30) :: [])) (((some b3)).map fun k => ⟨k, 0, none⟩) ([a0] : List (List (BitVec 8))).length 1 1 (([.slice A0_ a0.length c0_] : List Value)) := o4.view (by decide) (fun w q => q.2.sublist (List.singleton_sublist.2 (List.mem_cons_self ..)))
  obtain ⟨x9, hx8, hf⟩ := some_bind hf
  refine OW.callG Tryd.call27 rfl (keccak_Sum_does w0 (More w0 Φ (((some b3), blk ((([.slice A0_ a0.length c0_] : List Value)) ++ []) 30) :: [])) ((some b2, blk (i64s (Vector.replicate 3 0).toList) 32) :: ((((some b3), blk ((([.slice A0_ a0.length c0_] : List Value)) ++ []) 30) :: []) ++ N)) (fun w m => More.of hΦ 1 m rfl) (((some b3)).map fun k => ⟨k, 0, none⟩) 1 (([.slice A0_ a0.length c0_] : List Value)) ([a0] : List (List (BitVec 8))) x9 v7 h6 hg0 hx8) rfl rfl ?_
  rintro _ G10 rfl
  refine OW.mem (M' := ((some b2, blk (i64s (Vector.replicate 3 0).toList) 32) :: ((((some b3), blk ((([.slice A0_ a0.length c0_] : List Value)) ++ []) 30) :: []) ++ N))) (fun w m => m.appR) ?_
  refine OW.alloc (l := (u8s (Vector.replicate 32 0#8).toList)) rfl (by rw [Vector.toList_replicate, ← u8s_rep']; rfl) rfl (fun b12 => ?_)
  refine OW.sv (SV.storeW rfl rfl rfl (u8s_one _) rfl ((u8s_length _).trans Vector.length_toList) ((u8s_length _).trans Vector.length_toList)) ?_
  refine OW.nil ?_
  refine QW.then_n ?_
  refine CW.seq ?_
  refine CW.region ?_
  refine OW.alloc (l := (i64s (Vector.replicate 3 0).toList)) rfl (by rw [Vector.toList_replicate, ← i64s_rep]; rfl) rfl (fun b13 => ?_)
  refine OW.nil ?_
  refine QW.then_n ?_
  refine CW.seq ?_
  refine CW.seq ?_
  refine CW.region ?_
  refine OW.rv (RV.move rfl) rfl ?_
  refine OW.nil ?_
  refine QW.then_n ?_
  obtain ⟨q14, hq15, hf⟩ := some_bind hf
  refine CW.cutJ (fun L' M' => ∃ w16 : Vector (Int) 3, q14 = w16 ∧ L' = [(2, ptr (some b2) 0), (4, ptr (some b13) 0)] ∧ M' = ((some b13, blk (i64s w16.toList) 32) :: (some b2, blk (i64s (Vector.replicate 3 0).toList) 32) :: ((((some b3), blk ((([.slice A0_ a0.length c0_] : List Value)) ++ []) 30) :: []) ++ N))) ?_ ?_
  · rintro L18 M19 ⟨w16, e17, e20, e21⟩
    rw [e20, e21]
    clear e20 e21 L18 M19
    clear hq15
    rw [e17] at hf
    clear e17
    try dsimp only at hf
    refine QW.then_n ?_
    refine CW.seq ?_
    refine CW.region ?_
    refine OW.rv (RV.loadW rfl (List.Mem.head _) rfl rfl rfl rfl ((i64s_length _).trans Vector.length_toList)) rfl ?_
    refine OW.rot1 ?_
    refine OW.sv (SV.storeW rfl rfl rfl (i64s_one _) rfl ((i64s_length _).trans Vector.length_toList) ((i64s_length _).trans Vector.length_toList)) ?_
    refine OW.nil ?_
    refine QW.then_n ?_
    refine CW.ret ?_
    have e0 := Option.some.inj hf
    subst e0
    refine QW.retG (rs := [.cell 2 32]) ([.agg (i64s w16.toList).toArray]) ((some b2, blk (i64s w16.toList) 32) :: (some b13, blk (i64s w16.toList) 32) :: (((some b3), blk ((([.slice A0_ a0.length c0_] : List Value)) ++ []) 30) :: [])) rfl ?_ rfl ?_ ?_ _ (.inl rfl)
    · exact ⟨⟨_, _, _, _, rfl, (List.Mem.head _), rfl, rfl, (congrArg some ((i64s_length _).trans Vector.length_toList).symm), rfl⟩, trivial⟩
    · exact rfl
    · exact (fun w m => m)
  · skip
    refine CW.block ?_
    refine CW.loopJ (fun k L' M' => ∃ n22 : Nat, ∃ w24 : Vector (Int) 3, (bloom_Places.l1 x9 k n22 w24) = some q14 ∧ (n22 ≤ 9223372036854775807) ∧ L' = [(2, ptr (some b2) 0), (3, ptr (some b12) 0), (4, ptr (some b13) 0), (9, .int .i64 ((n22 : Nat) : Int))] ∧ M' = ((some b13, blk (i64s w24.toList) 32) :: (some b12, blk (u8s x9.toList) 50) :: (some b2, blk (i64s (Vector.replicate 3 0).toList) 32) :: ((((some b3), blk ((([.slice A0_ a0.length c0_] : List Value)) ++ []) 30) :: []) ++ N))) (k0 := (3 - 0 + 2)) ⟨0, (Vector.replicate 3 0), hq15, (by omega), rfl, rfl⟩ ⟨rfl, rfl, rfl, rfl, trivial⟩ (fun w m => m.pick [0, 1, 2] 3 rfl rfl) ?_
    clear hq15
    rintro k25 L28 M29 ⟨n22, w24, hl26, b23, e30, e31⟩
    rw [e30, e31]
    clear e30 e31 L28 M29
    rcases k25 with _ | k25
    · rw [bloom_Places.l1] at hl26; cases hl26
    rw [bloom_Places.l1] at hl26
    refine CW.seq ?_
    refine CW.region ?_
    refine OW.rv (RV.lss rfl rfl) rfl ?_
    refine OW.slot (.bool (decide (n22 < 3))) (congrArg Value.bool (decide_eq_decide.2 (by omega))) ?_
    refine OW.nil ?_
    refine QW.then_n ?_
    refine CW.seq ?_
    by_cases h32 : n22 < 3
    · replace hl26 := if_t hl26 h32
      refine CW.is_t rfl (decide_eq_true h32) ?_
      refine CW.skip ?_
      refine QW.then_n ?_
      refine CW.seq ?_
      refine CW.block ?_
      refine CW.seq ?_
      refine CW.region ?_
      refine OW.rv (RV.move rfl) rfl ?_
      refine OW.rv (RV.assign rfl) rfl ?_
      refine OW.nil ?_
      refine QW.then_n ?_
      refine CW.drawsX ((some b12, blk (u8s x9.toList) 50) :: (some b2, blk (i64s (Vector.replicate 3 0).toList) 32) :: ((((some b3), blk ((([.slice A0_ a0.length c0_] : List Value)) ++ []) 30) :: []) ++ N)) [16] (fun w m => m.pick [1, 2] 3 rfl rfl) mixed (by kernel_rfl) ?_
      refine XW.rs 0 rfl (by kernel_rfl) rfl (RV.move rfl) rfl ?_
      refine XW.rs 1 rfl (by kernel_rfl) rfl (RV.move rfl) rfl ?_
      refine XW.rs 2 rfl (by kernel_rfl) rfl (RV.mul rfl rfl (by omega)) rfl ?_
      refine XW.slot (.int .i64 (((2 * n22) : Nat) : Int)) (by first | rfl | (congr 1) | (congr 1; omega)) ?_
      obtain ⟨g33, hl26⟩ := some_if hl26
      refine XW.rs 3 rfl (by kernel_rfl) rfl (RV.idx_a ((2 * n22)) rfl rfl rfl rfl rfl (by omega)) rfl ?_
      obtain ⟨x34, hx35, hl26⟩ := some_bind hl26
      refine XW.rs 4 rfl (by kernel_rfl) rfl (RV.load rfl (List.Mem.head _) rfl rfl rfl (by rw [Nat.zero_add]; exact u8s_at (vat hx35))) rfl ?_
      refine XW.rs 5 rfl (by kernel_rfl) rfl (RV.conv8_i rfl (by first | rfl | exact lit8 _ rfl) rfl rfl) rfl ?_
      have m36 := (x34).isLt
      refine XW.rs 6 rfl (by kernel_rfl) rfl (RV.mul rfl rfl (by omega)) rfl ?_
      refine XW.slot (.int .i64 (((256 * x34.toNat) : Nat) : Int)) (by first | rfl | (congr 1) | (congr 1; omega)) ?_
      refine XW.rs 7 rfl (by kernel_rfl) rfl (RV.move rfl) rfl ?_
      refine XW.rs 8 rfl (by kernel_rfl) rfl (RV.mul rfl rfl (by omega)) rfl ?_
      refine XW.slot (.int .i64 (((2 * n22) : Nat) : Int)) (by first | rfl | (congr 1) | (congr 1; omega)) ?_
      refine XW.rs 9 rfl (by kernel_rfl) rfl (RV.add rfl rfl (by omega)) rfl ?_
      refine XW.slot (.int .i64 ((((2 * n22) + 1) : Nat) : Int)) (by first | rfl | (congr 1) | (congr 1; omega)) ?_
      obtain ⟨g37, hl26⟩ := some_if hl26
      refine XW.rs 10 rfl (by kernel_rfl) rfl (RV.idx_a (((2 * n22) + 1)) rfl rfl rfl rfl rfl (by omega)) rfl ?_
      obtain ⟨x38, hx39, hl26⟩ := some_bind hl26
      refine XW.rs 11 rfl (by kernel_rfl) rfl (RV.load rfl (List.Mem.head _) rfl rfl rfl (by rw [Nat.zero_add]; exact u8s_at (vat hx39))) rfl ?_
      refine XW.rs 12 rfl (by kernel_rfl) rfl (RV.conv8_i rfl (by first | rfl | exact lit8 _ rfl) rfl rfl) rfl ?_
      have m40 := (x38).isLt
      refine XW.rs 13 rfl (by kernel_rfl) rfl (RV.add rfl rfl (by omega)) rfl ?_
      refine XW.slot (.int .i64 ((((256 * x34.toNat) + x38.toNat) : Nat) : Int)) (by first | rfl | (congr 1) | (congr 1; omega)) ?_
      refine XW.rs 14 rfl (by kernel_rfl) rfl (RV.rem rfl rfl (by omega) (by omega)) rfl ?_
      refine XW.slot (.int .i64 ((((256 * x34.toNat) + x38.toNat) % 2048 : Nat) : Int)) (by first | rfl | (congr 1; omega)) ?_
      refine XW.rs 15 rfl (by kernel_rfl) rfl (RV.idx_a (n22) rfl rfl rfl rfl rfl (by omega)) rfl ?_
      refine XW.sv 16 rfl (by kernel_rfl) (SV.store rfl rfl rfl rfl rfl (by rw [i64s_length, Vector.length_toList]; omega)) (fun w m => m.pick [1, 2] 3 rfl rfl) ?_
      refine XW.cells (i64s (w24.setIfInBounds n22 ((((256 * x34.toNat) + x38.toNat) % 2048 : Nat) : Int)).toList) (by rw [Nat.zero_add, i64s_set, vset]) ?_
      refine XW.nil (by kernel_rfl) ?_
      refine QW.block_n ?_
      refine QW.then_n ?_
      refine CW.region ?_
      refine OW.rv (RV.add rfl rfl (by omega)) rfl ?_
      refine OW.slot (.int .i64 (((n22 + 1) : Nat) : Int)) (by first | rfl | (congr 1) | (congr 1; omega)) ?_
      refine OW.rv (RV.move rfl) rfl ?_
      refine OW.nil ?_
      exact QW.againJ (k' := k25) (Nat.lt_succ_self _) ⟨(n22 + 1), (w24.setIfInBounds n22 ((((256 * x34.toNat) + x38.toNat) % 2048 : Nat) : Int)), hl26, (by omega), rfl, rfl⟩ ⟨rfl, rfl, rfl, rfl, trivial⟩ (fun w m => m.pick [0, 1, 2] 3 rfl rfl)
    · replace hl26 := if_f hl26 h32
      refine CW.is_f rfl (decide_eq_false h32) ?_
      refine CW.exit ?_
      refine QW.then_x ?_
      refine QW.then_x ?_
      refine QW.block_xe ?_
      exact QW.join ⟨w24, (Option.some.inj hl26).symm, rfl, rfl⟩ ⟨rfl, rfl, trivial⟩ (fun w m => m.pick [0, 2] 3 rfl rfl)

theorem bloom_set_does (w0 : World) (Φ : Ctx) (N : List Ent) (hΦ : ∀ w, Mem w0 w N → Φ w) (a0 : Vector (BitVec 8) 256) (a1 : Int) (res0 : Vector (BitVec 8) 256) (ba1 : -9223372036854775808 ≤ a1 ∧ a1 ≤ 9223372036854775807) (hf : bloom_set a0 a1 = some res0) : DoesG Tryd.prog 29 [.agg (u8s a0.toList).toArray, .int .i64 a1] w0 [] N (fun v G => v = .agg (u8s res0.toList).toArray) := by
  unfold bloom_set at hf
  refine DoesG.enter Tryd.func29 rfl Tryd.ntmps29 rfl (M := (([] ++ N))) rfl ?_
  refine CW.seq ?_
  refine CW.region ?_
  refine OW.boxA rfl rfl (fun b1 => ?_)
  refine OW.alloc (l := (u8s (Vector.replicate 256 0#8).toList)) rfl (by rw [Vector.toList_replicate, ← u8s_rep']; rfl) rfl (fun b2 => ?_)
  refine OW.nil ?_
  refine QW.then_n ?_
  refine CW.seq ?_
  refine CW.drawsX ((some b2, blk (u8s (Vector.replicate 256 0#8).toList) 25) :: ([] ++ N)) [10] (fun w m => m.pick [0] 2 rfl rfl) mixed (by kernel_rfl) ?_
  refine XW.rs 0 rfl (by kernel_rfl) rfl (RV.move rfl) rfl ?_
  obtain ⟨g3, hf⟩ := some_if hf
  refine XW.rs 1 rfl (by kernel_rfl) rfl (RV.quo rfl rfl (by omega) (by omega) (by omega)) rfl ?_
  refine XW.slot (.int .i64 (((a1).toNat / 8 : Nat) : Int)) (by first | rfl | (congr 1; omega)) ?_
  refine XW.rs 2 rfl (by kernel_rfl) rfl (RV.sub rfl rfl (by omega)) rfl ?_
  obtain ⟨g4, hf⟩ := some_if hf
  obtain ⟨g5, hf⟩ := some_if hf
  refine XW.rs 3 rfl (by kernel_rfl) rfl (RV.idx_a ((((255 : Int) - (((a1).toNat / 8 : Nat) : Int))).toNat) rfl rfl (by omega) rfl rfl (by omega)) rfl ?_
  obtain ⟨x6, hx7, hf⟩ := some_bind hf
  refine XW.rv 4 rfl (by kernel_rfl) rfl (by kernel_rfl) (RV.load rfl (List.Mem.tail _ (List.Mem.head _)) rfl rfl rfl (by rw [Nat.zero_add]; exact u8s_at (vat hx7))) rfl ?_
  refine XW.rs 5 rfl (by kernel_rfl) rfl (RV.move rfl) rfl ?_
  refine XW.rs 6 rfl (by kernel_rfl) rfl (RV.rem rfl rfl (by omega) (by omega)) rfl ?_
  refine XW.slot (.int .i64 (((a1).toNat % 8 : Nat) : Int)) (by first | rfl | (congr 1; omega)) ?_
  refine XW.rs 7 rfl (by kernel_rfl) rfl (RV.shl8 (s := ((a1).toNat % 8)) rfl (by first | rfl | exact lit8 _ rfl) rfl (by first | rfl | (congr 1))) rfl ?_
  refine XW.rs 8 rfl (by kernel_rfl) rfl (RV.or8 rfl (by first | rfl | exact lit8 _ rfl) rfl (by first | rfl | exact lit8 _ rfl)) rfl ?_
  refine XW.rs 9 rfl (by kernel_rfl) rfl (RV.idx_a ((((255 : Int) - (((a1).toNat / 8 : Nat) : Int))).toNat) rfl rfl (by omega) rfl rfl (by omega)) rfl ?_
  refine XW.mem (M' := ((some b1, blk (u8s a0.toList) 25) :: (some b2, blk (u8s (Vector.replicate 256 0#8).toList) 25) :: ([] ++ N))) (fun w m => m.pick [1, 0] 2 rfl rfl) (fun w m => m.pick [1] 2 rfl rfl) ?_
  refine XW.sv 10 rfl (by kernel_rfl) (SV.store rfl rfl rfl rfl rfl (by rw [u8s_length, Vector.length_toList]; omega)) (fun w m => m.pick [1] 2 rfl rfl) ?_
  refine XW.cells (u8s (a0.setIfInBounds ((((255 : Int) - (((a1).toNat / 8 : Nat) : Int))).toNat) (x6 ||| (1#8 <<< ((a1).toNat % 8)))).toList) (by rw [Nat.zero_add, u8s_set', vset]) ?_
  refine XW.nil (by kernel_rfl) ?_
  refine QW.then_n ?_
  refine CW.seq ?_
  refine CW.region ?_
  refine OW.rv (RV.loadW rfl (List.Mem.head _) rfl rfl rfl rfl ((u8s_length _).trans Vector.length_toList)) rfl ?_
  refine OW.rot1 ?_
  refine OW.sv (SV.storeW rfl rfl rfl (u8s_one _) rfl ((u8s_length _).trans Vector.length_toList) ((u8s_length _).trans Vector.length_toList)) ?_
  refine OW.nil ?_
  refine QW.then_n ?_
  refine CW.ret ?_
  have e0 := Option.some.inj hf
  subst e0
  refine QW.retG (rs := [.cell 4 25]) ([.agg (u8s (a0.setIfInBounds ((((255 : Int) - (((a1).toNat / 8 : Nat) : Int))).toNat) (x6 ||| (1#8 <<< ((a1).toNat % 8)))).toList).toArray]) ((some b2, blk (u8s (a0.setIfInBounds ((((255 : Int) - (((a1).toNat / 8 : Nat) : Int))).toNat) (x6 ||| (1#8 <<< ((a1).toNat % 8)))).toList) 25) :: (some b1, blk (u8s (a0.setIfInBounds ((((255 : Int) - (((a1).toNat / 8 : Nat) : Int))).toNat) (x6 ||| (1#8 <<< ((a1).toNat % 8)))).toList) 25) :: []) rfl ?_ rfl ?_ ?_ _ (.inl rfl)
  · exact ⟨⟨_, _, _, _, rfl, (List.Mem.head _), rfl, rfl, (congrArg some ((u8s_length _).trans Vector.length_toList).symm), rfl⟩, trivial⟩
  · exact rfl
  · exact (fun w m => m)

theorem bloom_Add_does (w0 : World) (Φ : Ctx) (N : List Ent) (hΦ : ∀ w, Mem w0 w N → Φ w) (a0 : Vector (BitVec 8) 256) (A1_ : Option Addr) (c1_ : Nat) (a1 : List (BitVec 8)) (res0 : Vector (BitVec 8) 256) (va1 : View Φ A1_ a1.length c1_ 1 (u8s a1)) (hg0 : View Φ (some ⟨0, 0, none⟩) 2 2 1 (u8s firstL)) (hf : bloom_Add a0 a1 = some res0) : DoesG Tryd.prog 15 [.agg (u8s a0.toList).toArray, .slice A1_ a1.length c1_] w0 [] N (fun v G => v = .agg (u8s res0.toList).toArray) := by
  unfold bloom_Add at hf
  replace va1 := va1.mono (Ψ := More w0 Φ []) (fun w q => q.1)
  replace hg0 := hg0.mono (Ψ := More w0 Φ []) (fun w q => q.1)
  have m1 := va1.mx
  refine DoesG.enter Tryd.func15 rfl Tryd.ntmps15 rfl (M := (([] ++ N))) rfl ?_
  refine CW.seq ?_
  refine CW.region ?_
  refine OW.boxA rfl rfl (fun b2 => ?_)
  refine OW.alloc (l := (u8s (Vector.replicate 256 0#8).toList)) rfl (by rw [Vector.toList_replicate, ← u8s_rep']; rfl) rfl (fun b3 => ?_)
  refine OW.nil ?_
  refine QW.then_n ?_
  refine CW.seq ?_
  refine CW.seq ?_
  refine CW.region ?_
  refine OW.rv (RV.move rfl) rfl ?_
  obtain ⟨x5, hx4, hf⟩ := some_bind hf
  refine OW.callG Tryd.call13 rfl (bloom_Places_does w0 (More w0 Φ []) ((some b3, blk (u8s (Vector.replicate 256 0#8).toList) 25) :: (some b2, blk (u8s a0.toList) 25) :: ([] ++ N)) (fun w m => More.of hΦ 2 m rfl) A1_ c1_ a1 x5 va1 hg0 hx4) rfl rfl ?_
  rintro _ G6 rfl
  refine OW.mem (M' := ((some b3, blk (u8s (Vector.replicate 256 0#8).toList) 25) :: (some b2, blk (u8s a0.toList) 25) :: ([] ++ N))) (fun w m => m.appR) ?_
  refine OW.rv (RV.move rfl) rfl ?_
  refine OW.nil ?_
  refine QW.then_n ?_
  obtain ⟨q8, hq9, hf⟩ := some_bind hf
  refine CW.cutJ (fun L' M' => ∃ w10 : Vector (BitVec 8) 256, q8 = w10 ∧ L' = [(2, ptr (some b2) 0), (4, ptr (some b3) 0)] ∧ M' = ((some b3, blk (u8s (Vector.replicate 256 0#8).toList) 25) :: (some b2, blk (u8s w10.toList) 25) :: ([] ++ N))) ?_ ?_
  · rintro L12 M13 ⟨w10, e11, e14, e15⟩
    rw [e14, e15]
    clear e14 e15 L12 M13
    clear hq9
    rw [e11] at hf
    clear e11
    try dsimp only at hf
    refine QW.then_n ?_
    refine CW.seq ?_
    refine CW.region ?_
    refine OW.rv (RV.loadW rfl (List.Mem.tail _ (List.Mem.head _)) rfl rfl rfl rfl ((u8s_length _).trans Vector.length_toList)) rfl ?_
    refine OW.sv (SV.storeW rfl rfl rfl (u8s_one _) rfl ((u8s_length _).trans Vector.length_toList) ((u8s_length _).trans Vector.length_toList)) ?_
    refine OW.nil ?_
    refine QW.then_n ?_
    refine CW.ret ?_
    have e0 := Option.some.inj hf
    subst e0
    refine QW.retG (rs := [.cell 4 25]) ([.agg (u8s w10.toList).toArray]) ((some b3, blk (u8s w10.toList) 25) :: (some b2, blk (u8s w10.toList) 25) :: []) rfl ?_ rfl ?_ ?_ _ (.inl rfl)
    · exact ⟨⟨_, _, _, _, rfl, (List.Mem.head _), rfl, rfl, (congrArg some ((u8s_length _).trans Vector.length_toList).symm), rfl⟩, trivial⟩
    · exact rfl
    · exact (fun w m => m)
  · skip
    refine CW.block ?_
    refine CW.loopJ (fun k L' M' => ∃ n16 : Nat, ∃ w18 : Vector (BitVec 8) 256, (bloom_Add.l1 x5 k n16 w18) = some q8 ∧ (n16 ≤ 9223372036854775807) ∧ L' = [(2, ptr (some b2) 0), (4, ptr (some b3) 0), (8, .agg (i64s x5.toList).toArray), (9, .int .i64 ((n16 : Nat) : Int))] ∧ M' = ((some b3, blk (u8s (Vector.replicate 256 0#8).toList) 25) :: (some b2, blk (u8s w18.toList) 25) :: ([] ++ N))) (k0 := (3 - 0 + 2)) ⟨0, a0, hq9, (by omega), rfl, rfl⟩ ⟨rfl, rfl, rfl, rfl, trivial⟩ (fun w m => m.pick [0, 1] 2 rfl rfl) ?_
    clear hq9
    rintro k19 L22 M23 ⟨n16, w18, hl20, b17, e24, e25⟩
    rw [e24, e25]
    clear e24 e25 L22 M23
    rcases k19 with _ | k19
    · rw [bloom_Add.l1] at hl20; cases hl20
    rw [bloom_Add.l1] at hl20
    refine CW.seq ?_
    refine CW.region ?_
    refine OW.rv (RV.lss rfl rfl) rfl ?_
    refine OW.slot (.bool (decide (n16 < 3))) (congrArg Value.bool (decide_eq_decide.2 (by omega))) ?_
    refine OW.nil ?_
    refine QW.then_n ?_
    refine CW.seq ?_
    by_cases h26 : n16 < 3
    · replace hl20 := if_t hl20 h26
      refine CW.is_t rfl (decide_eq_true h26) ?_
      refine CW.skip ?_
      refine QW.then_n ?_
      refine CW.seq ?_
      refine CW.block ?_
      refine CW.seq ?_
      refine CW.region ?_
      obtain ⟨x27, hx28, hl20⟩ := some_bind hl20
      have hl29 := (Vector.getElem?_eq_some_iff.1 hx28).1
      refine OW.rv (RV.indexV (n16) rfl rfl rfl rfl rfl rfl rfl (by omega) (i64s_at (vat hx28))) rfl ?_
      refine OW.rv (RV.assign rfl) rfl ?_
      refine OW.nil ?_
      refine QW.then_n ?_
      refine CW.region ?_
      refine OW.rv (RV.loadW rfl (List.Mem.tail _ (List.Mem.head _)) rfl rfl rfl rfl ((u8s_length _).trans Vector.length_toList)) rfl ?_
      refine OW.rv (RV.move rfl) rfl ?_
      obtain ⟨g30, hl20⟩ := some_if hl20
      obtain ⟨x32, hx31, hl20⟩ := some_bind hl20
      refine OW.callG Tryd.call29 rfl (bloom_set_does w0 (More w0 Φ []) ((some b3, blk (u8s (Vector.replicate 256 0#8).toList) 25) :: (some b2, blk (u8s w18.toList) 25) :: ([] ++ N)) (fun w m => More.of hΦ 2 m rfl) w18 x27 x32 (by omega) hx31) rfl rfl ?_
      rintro _ G33 rfl
      refine OW.mem (M' := ((some b3, blk (u8s (Vector.replicate 256 0#8).toList) 25) :: (some b2, blk (u8s w18.toList) 25) :: ([] ++ N))) (fun w m => m.appR) ?_
      refine OW.rot1 ?_
      refine OW.sv (SV.storeW rfl rfl rfl (u8s_one _) rfl ((u8s_length _).trans Vector.length_toList) ((u8s_length _).trans Vector.length_toList)) ?_
      refine OW.nil ?_
      refine QW.block_n ?_
      refine QW.then_n ?_
      refine CW.region ?_
      refine OW.rv (RV.add rfl rfl (by omega)) rfl ?_
      refine OW.slot (.int .i64 (((n16 + 1) : Nat) : Int)) (by first | rfl | (congr 1) | (congr 1; omega)) ?_
      refine OW.rv (RV.move rfl) rfl ?_
      refine OW.nil ?_
      exact QW.againJ (k' := k19) (Nat.lt_succ_self _) ⟨(n16 + 1), x32, hl20, (by omega), rfl, rfl⟩ ⟨rfl, rfl, rfl, rfl, trivial⟩ (fun w m => m.pick [1, 0] 2 rfl rfl)
    · replace hl20 := if_f hl20 h26
      refine CW.is_f rfl (decide_eq_false h26) ?_
      refine CW.exit ?_
      refine QW.then_x ?_
      refine QW.then_x ?_
      refine QW.block_xe ?_
      exact QW.join ⟨w18, (Option.some.inj hl20).symm, rfl, rfl⟩ ⟨rfl, rfl, trivial⟩ (fun w m => m.pick [0, 1] 2 rfl rfl)

theorem bloom_Of_does (w0 : World) (Φ : Ctx) (N : List Ent) (hΦ : ∀ w, Mem w0 w N → Φ w) (A0_ : Option Addr) (c0_ : Nat) (cs0_ : List Value) (a0 : List (List (BitVec 8))) (res0 : Vector (BitVec 8) 256) (va0 : View Φ A0_ a0.length c0_ 1 cs0_) (ha0 : Reps (BsRd Φ) cs0_ a0) (hg0 : View Φ (some ⟨0, 0, none⟩) 2 2 1 (u8s firstL)) (hf : bloom_Of a0 = some res0) : DoesG Tryd.prog 9 [.slice A0_ a0.length c0_] w0 [] N (fun v G => v = .agg (u8s res0.toList).toArray) := by
  unfold bloom_Of at hf
  replace va0 := va0.mono (Ψ := More w0 Φ []) (fun w q => q.1)
  replace hg0 := hg0.mono (Ψ := More w0 Φ []) (fun w q => q.1)
  replace ha0 := ha0.mono (BsRd.mono (Ψ := More w0 Φ []) (fun w q => q.1))
  have m1 := va0.mx
  refine DoesG.enter Tryd.func9 rfl Tryd.ntmps9 rfl (M := (([] ++ N))) rfl ?_
  refine CW.seq ?_
  refine CW.region ?_
  refine OW.alloc (l := (u8s (Vector.replicate 256 0#8).toList)) rfl (by rw [Vector.toList_replicate, ← u8s_rep']; rfl) rfl (fun b2 => ?_)
  refine OW.nil ?_
  refine QW.then_n ?_
  refine CW.seq ?_
  refine CW.region ?_
  refine OW.alloc (l := (u8s (Vector.replicate 256 0#8).toList)) rfl (by rw [Vector.toList_replicate, ← u8s_rep']; rfl) rfl (fun b3 => ?_)
  refine OW.nil ?_
  refine QW.then_n ?_
  refine CW.seq ?_
  refine CW.seq ?_
  refine CW.region ?_
  refine OW.rv (RV.move rfl) rfl ?_
  refine OW.rv (RV.len rfl rfl) rfl ?_
  refine OW.rv (RV.move rfl) rfl ?_
  refine OW.nil ?_
  refine QW.then_n ?_
  obtain ⟨q4, hq5, hf⟩ := some_bind hf
  refine CW.cutJ (fun L' M' => ∃ w6 : Vector (BitVec 8) 256, q4 = w6 ∧ L' = [(2, ptr (some b2) 0), (3, ptr (some b3) 0)] ∧ M' = ((some b3, blk (u8s w6.toList) 25) :: (some b2, blk (u8s (Vector.replicate 256 0#8).toList) 25) :: ([] ++ N))) ?_ ?_
  · rintro L8 M9 ⟨w6, e7, e10, e11⟩
    rw [e10, e11]
    clear e10 e11 L8 M9
    clear hq5
    rw [e7] at hf
    clear e7
    try dsimp only at hf
    refine QW.then_n ?_
    refine CW.seq ?_
    refine CW.region ?_
    refine OW.rv (RV.loadW rfl (List.Mem.head _) rfl rfl rfl rfl ((u8s_length _).trans Vector.length_toList)) rfl ?_
    refine OW.rot1 ?_
    refine OW.sv (SV.storeW rfl rfl rfl (u8s_one _) rfl ((u8s_length _).trans Vector.length_toList) ((u8s_length _).trans Vector.length_toList)) ?_
    refine OW.nil ?_
    refine QW.then_n ?_
    refine CW.ret ?_
    have e0 := Option.some.inj hf
    subst e0
    refine QW.retG (rs := [.cell 2 25]) ([.agg (u8s w6.toList).toArray]) ((some b2, blk (u8s w6.toList) 25) :: (some b3, blk (u8s w6.toList) 25) :: []) rfl ?_ rfl ?_ ?_ _ (.inl rfl)
    · exact ⟨⟨_, _, _, _, rfl, (List.Mem.head _), rfl, rfl, (congrArg some ((u8s_length _).trans Vector.length_toList).symm), rfl⟩, trivial⟩
    · exact rfl
    · exact (fun w m => m)
  · skip
    refine CW.block ?_
    refine CW.loopJ (fun k L' M' => ∃ n12 : Nat, ∃ w14 : Vector (BitVec 8) 256, (bloom_Of.l1 a0 k n12 w14) = some q4 ∧ (n12 ≤ 9223372036854775807) ∧ L' = [(2, ptr (some b2) 0), (3, ptr (some b3) 0), (6, .slice A0_ a0.length c0_), (7, .int .i64 ((a0.length : Nat) : Int)), (8, .int .i64 ((n12 : Nat) : Int))] ∧ M' = ((some b3, blk (u8s w14.toList) 25) :: (some b2, blk (u8s (Vector.replicate 256 0#8).toList) 25) :: ([] ++ N))) (k0 := (a0.length - 0 + 2)) ⟨0, (Vector.replicate 256 0#8), hq5, (by omega), rfl, rfl⟩ ⟨rfl, rfl, rfl, rfl, rfl, trivial⟩ (fun w m => m.pick [0, 1] 2 rfl rfl) ?_
    clear hq5
    rintro k15 L18 M19 ⟨n12, w14, hl16, b13, e20, e21⟩
    rw [e20, e21]
    clear e20 e21 L18 M19
    rcases k15 with _ | k15
    · rw [bloom_Of.l1] at hl16; cases hl16
    rw [bloom_Of.l1] at hl16
    refine CW.seq ?_
    refine CW.region ?_
    refine OW.rv (RV.lss rfl rfl) rfl ?_
    refine OW.slot (.bool (decide (n12 < a0.length))) (congrArg Value.bool (decide_eq_decide.2 (by omega))) ?_
    refine OW.nil ?_
    refine QW.then_n ?_
    refine CW.seq ?_
    by_cases h22 : n12 < a0.length
    · replace hl16 := if_t hl16 h22
      refine CW.is_t rfl (decide_eq_true h22) ?_
      refine CW.skip ?_
      refine QW.then_n ?_
      refine CW.seq ?_
      refine CW.block ?_
      refine CW.seq ?_
      refine CW.region ?_
      obtain ⟨x23, hx24, hl16⟩ := some_bind hl16
      have hl25 := lt_of_at hx24
      refine OW.rv (RV.idx_r (n12) rfl rfl rfl rfl rfl (va0.isSome (by decide) hl25) (by omega)) rfl ?_
      obtain ⟨cs26, h27, h28⟩ := ha0.get BsRd.len hx24
      obtain ⟨A29, c30, e32, v31⟩ := h27
      subst e32
      have m33 := v31.mx
      refine OW.rv (RV.load_at rfl rfl rfl (fun w m => by have := va0.load (More.of hΦ 2 m rfl) h28 0 _ rfl; simpa [Addr.add] using this)) rfl ?_
      refine OW.rv (RV.assign rfl) rfl ?_
      refine OW.nil ?_
      refine QW.then_n ?_
      refine CW.region ?_
      refine OW.rv (RV.loadW rfl (List.Mem.head _) rfl rfl rfl rfl ((u8s_length _).trans Vector.length_toList)) rfl ?_
      refine OW.rv (RV.move rfl) rfl ?_
      obtain ⟨x35, hx34, hl16⟩ := some_bind hl16
      refine OW.callG Tryd.call15 rfl (bloom_Add_does w0 (More w0 Φ []) ((some b3, blk (u8s w14.toList) 25) :: (some b2, blk (u8s (Vector.replicate 256 0#8).toList) 25) :: ([] ++ N)) (fun w m => More.of hΦ 2 m rfl) w14 A29 c30 x23 x35 v31 hg0 hx34) rfl rfl ?_
      rintro _ G36 rfl
      refine OW.mem (M' := ((some b3, blk (u8s w14.toList) 25) :: (some b2, blk (u8s (Vector.replicate 256 0#8).toList) 25) :: ([] ++ N))) (fun w m => m.appR) ?_
      refine OW.sv (SV.storeW rfl rfl rfl (u8s_one _) rfl ((u8s_length _).trans Vector.length_toList) ((u8s_length _).trans Vector.length_toList)) ?_
      refine OW.nil ?_
      refine QW.block_n ?_
      refine QW.then_n ?_
      refine CW.region ?_
      refine OW.rv (RV.add rfl rfl (by omega)) rfl ?_
      refine OW.slot (.int .i64 (((n12 + 1) : Nat) : Int)) (by first | rfl | (congr 1) | (congr 1; omega)) ?_
      refine OW.rv (RV.move rfl) rfl ?_
      refine OW.nil ?_
      exact QW.againJ (k' := k15) (Nat.lt_succ_self _) ⟨(n12 + 1), x35, hl16, (by omega), rfl, rfl⟩ ⟨rfl, rfl, rfl, rfl, rfl, trivial⟩ (fun w m => m.pick [0, 1] 2 rfl rfl)
    · replace hl16 := if_f hl16 h22
      refine CW.is_f rfl (decide_eq_false h22) ?_
      refine CW.exit ?_
      refine QW.then_x ?_
      refine QW.then_x ?_
      refine QW.block_xe ?_
      exact QW.join ⟨w14, (Option.some.inj hl16).symm, rfl, rfl⟩ ⟨rfl, rfl, trivial⟩ (fun w m => m.pick [0, 1] 2 rfl rfl)

theorem waybillref02_filled_does (w0 : World) (Φ : Ctx) (N : List Ent) (hΦ : ∀ w, Mem w0 w N → Φ w) (A0_ : Option Addr) (c0_ : Nat) (a0 : List (BitVec 8)) (a1 : BitVec 8) (res0 : List (BitVec 8)) (va0 : View Φ A0_ a0.length c0_ 1 (u8s a0)) (hf : waybillref02_filled a0 a1 = some res0) : DoesG Tryd.prog 60 [.slice A0_ a0.length c0_, U8 a1] w0 [] N (fun v G => ∃ B : List Ent, ∃ or0 : Option Nat, ∃ kr0 : Nat, ∃ rr0 : List Value, (OwnS or0 res0.length kr0 1 (u8s res0) rr0) ∧ v = sl or0 0 res0.length kr0 ∧ G = (or0, blk ((u8s res0) ++ rr0) 5) :: B) := by
  unfold waybillref02_filled at hf
  replace va0 := va0.mono (Ψ := More w0 Φ []) (fun w q => q.1)
  have m1 := va0.mx
  refine DoesG.enter Tryd.func60 rfl Tryd.ntmps60 rfl (M := (([] ++ N))) rfl ?_
  refine CW.seq ?_
  refine CW.region ?_
  refine OW.rv (RV.assign rfl) rfl ?_
  refine OW.nil ?_
  refine QW.then_n ?_
  refine CW.seq ?_
  refine CW.region ?_
  refine OW.rv (RV.assign rfl) rfl ?_
  refine OW.nil ?_
  refine QW.then_n ?_
  refine CW.seq ?_
  refine CW.region ?_
  refine OW.rv (RV.move rfl) rfl ?_
  refine OW.rv (RV.move rfl) rfl ?_
  refine OW.mem (M' := ((none, blk ((u8s ([] : List (BitVec 8))) ++ []) 5) :: ([] ++ N))) (fun w m => m.nil_ent _) ?_
  refine OW.appendOwn (s := 1) rfl rfl rfl rfl rfl rfl OwnS.nil (fun w m => va0.rd w (More.of hΦ 1 m rfl)) va0.n (u8s_one _) (va0.zero (by decide)) (by decide) (by decide) (by first | omega | (simp only [i5, List.length_nil]; omega)) rfl rfl (a0.length) (u8s a0) (Nat.zero_add _) rfl (fun ob2 r3 c4 o5 => ?_)
  have m6 := o5.mx
  refine OW.rv (RV.assign rfl) rfl ?_
  refine OW.nil ?_
  refine QW.then_n ?_
  refine CW.seq ?_
  refine CW.region ?_
  refine OW.rv (RV.move rfl) rfl ?_
  refine OW.rv (RV.move rfl) rfl ?_
  refine OW.ofN (NV.bs1 rfl rfl rfl rfl rfl rfl) rfl (fun b7 => ?_)
  refine OW.mem (M' := (((some b7), blk ((u8s ([a1] : List (BitVec 8))) ++ []) 5) :: (ob2, blk ((u8s a0) ++ r3) 5) :: ([] ++ N))) (fun w m => by first | exact m | simpa [u8s] using m) ?_
  have o8 : OwnS (some b7) ([a1] : List (BitVec 8)).length 1 1 (u8s ([a1] : List (BitVec 8))) [] := ⟨by simp [u8s], by simp [u8s], (fun h => nomatch h), by simp⟩
  refine OW.slot (sl (some b7) 0 ([a1] : List (BitVec 8)).length 1) (rfl) ?_
  refine OW.rot1 ?_
  obtain ⟨g9, hf⟩ := some_if hf
  refine OW.appendOwn (s := 1) rfl rfl rfl rfl rfl rfl o5 (fun w m => m.rd0 (List.Mem.tail _ (List.Mem.head _)) (fun e => o8.nilc (by decide) e)) o8.n (u8s_one _) (o8.zeroO (by decide)) (by decide) (by decide) (by first | omega | (simp only [i5, List.length_nil]; omega)) rfl rfl ((a0 ++ ([a1] : List (BitVec 8))).length) (u8s (a0 ++ ([a1] : List (BitVec 8)))) (List.length_append ..).symm (u8s_app _ _) (fun ob10 r11 c12 o13 => ?_)
  have m14 := o13.mx
  refine OW.rv (RV.assign rfl) rfl ?_
  refine OW.nil ?_
  refine QW.then_n ?_
  refine CW.seq ?_
  obtain ⟨q15, hq16, hf⟩ := some_bind hf
  refine CW.cutJ (fun L' M' => ∃ l17 : List (BitVec 8), ∃ ob18 : Option Nat, ∃ c19 : Nat, ∃ r20 : List Value, q15 = l17 ∧ (OwnS ob18 l17.length c19 1 (u8s l17) r20) ∧ L' = [(5, sl ob18 0 l17.length c19)] ∧ M' = ((ob18, blk ((u8s l17) ++ r20) 5) :: ([] ++ N))) ?_ ?_
  · rintro L23 M24 ⟨l17, ob18, c19, r20, e22, o21, e25, e26⟩
    rw [e25, e26]
    clear e25 e26 L23 M24
    clear hq16
    rw [e22] at hf
    clear e22
    try dsimp only at hf
    have m27 := o21.mx
    refine QW.then_n ?_
    refine CW.seq ?_
    refine CW.region ?_
    refine OW.rv (RV.move rfl) rfl ?_
    refine OW.rv (RV.move rfl) rfl ?_
    refine OW.rv (RV.len rfl rfl) rfl ?_
    refine OW.rv (RV.sub rfl rfl (by omega)) rfl ?_
    refine OW.rv (RV.move rfl) rfl ?_
    refine OW.rv (RV.move rfl) rfl ?_
    refine OW.rv (RV.len rfl rfl) rfl ?_
    refine OW.rv (RV.sub rfl rfl (by omega)) rfl ?_
    obtain ⟨g28, hf⟩ := some_if hf
    obtain ⟨x29, hx30, hf⟩ := some_bind hf
    have hl31 := lt_of_at hx30
    refine OW.rv (RV.idx_o (((((l17.length : Nat) : Int) - (1 : Int))).toNat) rfl rfl (by omega) rfl rfl (o21.isSome (by decide) hl31) (by omega)) rfl ?_
    refine OW.rv (RV.load rfl (List.Mem.head _) (o21.isSome (by decide) hl31) rfl rfl (own_at0 (u8s_at hx30))) rfl ?_
    refine OW.rv (RV.or8 rfl (by first | rfl | exact lit8 _ rfl) rfl (by first | rfl | exact lit8 _ rfl)) rfl ?_
    obtain ⟨x32, hx33, hf⟩ := some_bind hf
    have hl34 := lt_of_at hx33
    refine OW.rv (RV.idx_o (((((l17.length : Nat) : Int) - (1 : Int))).toNat) rfl rfl (by omega) rfl rfl (o21.isSome (by decide) hl34) (by omega)) rfl ?_
    refine OW.sv (SV.store rfl (o21.isSome (by decide) hl34) rfl rfl rfl (by rw [List.length_append, u8s_length]; omega)) ?_
    refine OW.cells ((u8s (l17.set (((((l17.length : Nat) : Int) - (1 : Int))).toNat) (x29 ||| 128#8))) ++ r20) (by rw [Nat.zero_add, List.set_append_left _ _ (by rw [u8s_length]; omega), u8s_set']) ?_
    have o35 : OwnS ob18 (l17.set (((((l17.length : Nat) : Int) - (1 : Int))).toNat) (x29 ||| 128#8)).length c19 1 (u8s (l17.set (((((l17.length : Nat) : Int) - (1 : Int))).toNat) (x29 ||| 128#8))) r20 := OwnS.same o21 (by simp) (by simp)
    refine OW.frame (L' := [(5, sl ob18 0 (l17.set (((((l17.length : Nat) : Int) - (1 : Int))).toNat) (x29 ||| 128#8)).length c19), (20, sl ob18 0 (l17.set (((((l17.length : Nat) : Int) - (1 : Int))).toNat) (x29 ||| 128#8)).length c19), (21, sl ob18 0 (l17.set (((((l17.length : Nat) : Int) - (1 : Int))).toNat) (x29 ||| 128#8)).length c19), (22, .int .i64 ((l17.length : Nat) : Int)), (23, .int .i64 (((l17.length : Nat) : Int) - (1 : Int))), (24, sl ob18 0 (l17.set (((((l17.length : Nat) : Int) - (1 : Int))).toNat) (x29 ||| 128#8)).length c19), (25, sl ob18 0 (l17.set (((((l17.length : Nat) : Int) - (1 : Int))).toNat) (x29 ||| 128#8)).length c19), (26, .int .i64 ((l17.length : Nat) : Int)), (27, .int .i64 (((l17.length : Nat) : Int) - (1 : Int))), (29, U8 x29), (30, U8 (x29 ||| 128#8))]) (fun k v h => Sub.get (L' := [(5, sl ob18 0 (l17.set (((((l17.length : Nat) : Int) - (1 : Int))).toNat) (x29 ||| 128#8)).length c19), (20, sl ob18 0 (l17.set (((((l17.length : Nat) : Int) - (1 : Int))).toNat) (x29 ||| 128#8)).length c19), (21, sl ob18 0 (l17.set (((((l17.length : Nat) : Int) - (1 : Int))).toNat) (x29 ||| 128#8)).length c19), (22, .int .i64 ((l17.length : Nat) : Int)), (23, .int .i64 (((l17.length : Nat) : Int) - (1 : Int))), (24, sl ob18 0 (l17.set (((((l17.length : Nat) : Int) - (1 : Int))).toNat) (x29 ||| 128#8)).length c19), (25, sl ob18 0 (l17.set (((((l17.length : Nat) : Int) - (1 : Int))).toNat) (x29 ||| 128#8)).length c19), (26, .int .i64 ((l17.length : Nat) : Int)), (27, .int .i64 (((l17.length : Nat) : Int) - (1 : Int))), (29, U8 x29), (30, U8 (x29 ||| 128#8))]) ?_ k v h) ?_
    · exact ⟨(congrArg (fun k => some (sl ob18 0 k c19)) (List.length_set ..).symm), (congrArg (fun k => some (sl ob18 0 k c19)) (List.length_set ..).symm), (congrArg (fun k => some (sl ob18 0 k c19)) (List.length_set ..).symm), rfl, rfl, (congrArg (fun k => some (sl ob18 0 k c19)) (List.length_set ..).symm), (congrArg (fun k => some (sl ob18 0 k c19)) (List.length_set ..).symm), rfl, rfl, rfl, rfl, trivial⟩
    refine OW.nil ?_
    refine QW.then_n ?_
    refine CW.seq ?_
    refine CW.region ?_
    refine OW.rv (RV.move rfl) rfl ?_
    refine OW.rv (RV.assign rfl) rfl ?_
    refine OW.nil ?_
    refine QW.then_n ?_
    refine CW.ret ?_
    have e0 := Option.some.inj hf
    subst e0
    refine QW.retG (rs := [.tmp 4]) ([sl ob18 0 (l17.set (((((l17.length : Nat) : Int) - (1 : Int))).toNat) (x29 ||| 128#8)).length c19]) ((ob18, blk ((u8s (l17.set (((((l17.length : Nat) : Int) - (1 : Int))).toNat) (x29 ||| 128#8))) ++ r20) 5) :: []) rfl ?_ rfl ?_ ?_ _ (.inl rfl)
    · exact ⟨rfl, trivial⟩
    · exact ⟨[], ob18, c19, r20, o35, rfl, rfl⟩
    · exact (fun w m => m.pick [0] 1 rfl rfl)
  · skip
    refine CW.block ?_
    refine CW.loopJ (fun k L' M' => ∃ l36 : List (BitVec 8), ∃ ob37 : Option Nat, ∃ c38 : Nat, ∃ r39 : List Value, (waybillref02_filled.l1 k l36) = some q15 ∧ (OwnS ob37 l36.length c38 1 (u8s l36) r39) ∧ L' = [(5, sl ob37 0 l36.length c38)] ∧ M' = ((ob37, blk ((u8s l36) ++ r39) 5) :: ([] ++ N))) (k0 := 140) ⟨(a0 ++ ([a1] : List (BitVec 8))), ob10, c12, r11, hq16, o13, rfl, rfl⟩ ⟨rfl, trivial⟩ (fun w m => m.pick [0] 2 rfl rfl) ?_
    clear hq16
    rintro k41 L44 M45 ⟨l36, ob37, c38, r39, hl42, o40, e46, e47⟩
    rw [e46, e47]
    clear e46 e47 L44 M45
    rcases k41 with _ | k41
    · rw [waybillref02_filled.l1] at hl42; cases hl42
    rw [waybillref02_filled.l1] at hl42
    have m48 := o40.mx
    refine CW.seq ?_
    refine CW.seq ?_
    refine CW.region ?_
    refine OW.rv (RV.move rfl) rfl ?_
    refine OW.rv (RV.len rfl rfl) rfl ?_
    refine OW.rv (RV.rem rfl rfl (by omega) (by omega)) rfl ?_
    refine OW.slot (.int .i64 ((l36.length % 136 : Nat) : Int)) (by first | rfl | (congr 1; omega)) ?_
    refine OW.rv (RV.neq rfl rfl) rfl ?_
    refine OW.slot (.bool (!decide ((l36.length % 136) = 0))) (congrArg (fun b => Value.bool (!b)) (decide_eq_decide.2 (by omega))) ?_
    refine OW.nil ?_
    refine QW.then_n ?_
    by_cases h49 : (l36.length % 136) = 0
    · replace hl42 := if_t hl42 h49
      refine CW.is_f rfl (congrArg (fun b => !b) (decide_eq_true h49)) ?_
      refine CW.exit ?_
      refine QW.then_x ?_
      refine QW.then_x ?_
      refine QW.block_xe ?_
      exact QW.join ⟨l36, ob37, c38, r39, (Option.some.inj hl42).symm, o40, rfl, rfl⟩ ⟨rfl, trivial⟩ (fun w m => m.pick [0] 1 rfl rfl)
    · replace hl42 := if_f hl42 h49
      refine CW.is_t rfl (congrArg (fun b => !b) (decide_eq_false h49)) ?_
      refine CW.skip ?_
      refine QW.then_n ?_
      refine CW.block ?_
      refine CW.region ?_
      refine OW.rv (RV.move rfl) rfl ?_
      refine OW.ofN (NV.bs1 rfl rfl rfl rfl rfl rfl) rfl (fun b50 => ?_)
      refine OW.mem (M' := (((some b50), blk ((u8s ([0#8] : List (BitVec 8))) ++ []) 5) :: (ob37, blk ((u8s l36) ++ r39) 5) :: ([] ++ N))) (fun w m => by first | exact m | simpa [u8s] using m) ?_
      have o51 : OwnS (some b50) ([0#8] : List (BitVec 8)).length 1 1 (u8s ([0#8] : List (BitVec 8))) [] := ⟨by simp [u8s], by simp [u8s], (fun h => nomatch h), by simp⟩
      refine OW.slot (sl (some b50) 0 ([0#8] : List (BitVec 8)).length 1) (rfl) ?_
      refine OW.rot1 ?_
      obtain ⟨g52, hl42⟩ := some_if hl42
      refine OW.appendOwn (s := 1) rfl rfl rfl rfl rfl rfl o40 (fun w m => m.rd0 (List.Mem.tail _ (List.Mem.head _)) (fun e => o51.nilc (by decide) e)) o51.n (u8s_one _) (o51.zeroO (by decide)) (by decide) (by decide) (by first | omega | (simp only [i5, List.length_nil]; omega)) rfl rfl ((l36 ++ ([0#8] : List (BitVec 8))).length) (u8s (l36 ++ ([0#8] : List (BitVec 8)))) (List.length_append ..).symm (u8s_app _ _) (fun ob53 r54 c55 o56 => ?_)
      have m57 := o56.mx
      refine OW.rv (RV.assign rfl) rfl ?_
      refine OW.nil ?_
      refine QW.block_n ?_
      exact QW.againJ (k' := k41) (Nat.lt_succ_self _) ⟨(l36 ++ ([0#8] : List (BitVec 8))), ob53, c55, r54, hl42, o56, rfl, rfl⟩ ⟨rfl, trivial⟩ (fun w m => m.pick [0] 2 rfl rfl)

theorem waybillref02_joined_does (w0 : World) (Φ : Ctx) (N : List Ent) (hΦ : ∀ w, Mem w0 w N → Φ w) (A0_ : Option Addr) (c0_ : Nat) (cs0_ : List Value) (a0 : List (List (BitVec 8))) (res0 : List (BitVec 8)) (va0 : View Φ A0_ a0.length c0_ 1 cs0_) (ha0 : Reps (BsRd Φ) cs0_ a0) (hf : waybillref02_joined a0 = some res0) : DoesG Tryd.prog 39 [.slice A0_ a0.length c0_] w0 [] N (fun v G => ∃ B : List Ent, ∃ or0 : Option Nat, ∃ kr0 : Nat, ∃ rr0 : List Value, (OwnS or0 res0.length kr0 1 (u8s res0) rr0) ∧ v = sl or0 0 res0.length kr0 ∧ G = (or0, blk ((u8s res0) ++ rr0) 5) :: B) := by
  unfold waybillref02_joined at hf
  replace va0 := va0.mono (Ψ := More w0 Φ []) (fun w q => q.1)
  replace ha0 := ha0.mono (BsRd.mono (Ψ := More w0 Φ []) (fun w q => q.1))
  have m1 := va0.mx
  refine DoesG.enter Tryd.func39 rfl Tryd.ntmps39 rfl (M := (([] ++ N))) rfl ?_
  refine CW.seq ?_
  refine CW.region ?_
  refine OW.rv (RV.assign rfl) rfl ?_
  refine OW.nil ?_
  refine QW.then_n ?_
  refine CW.seq ?_
  refine CW.region ?_
  refine OW.rv (RV.assign rfl) rfl ?_
  refine OW.nil ?_
  refine QW.then_n ?_
  refine CW.seq ?_
  refine CW.seq ?_
  refine CW.region ?_
  refine OW.rv (RV.assign rfl) rfl ?_
  refine OW.nil ?_
  refine QW.then_n ?_
  obtain ⟨q2, hq3, hf⟩ := some_bind hf
  refine CW.cutJ (fun L' M' => ∃ l4 : List (BitVec 8), ∃ ob5 : Option Nat, ∃ c6 : Nat, ∃ r7 : List Value, q2 = l4 ∧ (OwnS ob5 l4.length c6 1 (u8s l4) r7) ∧ L' = [(3, sl ob5 0 l4.length c6)] ∧ M' = ((ob5, blk ((u8s l4) ++ r7) 5) :: ([] ++ N))) ?_ ?_
  · rintro L10 M11 ⟨l4, ob5, c6, r7, e9, o8, e12, e13⟩
    rw [e12, e13]
    clear e12 e13 L10 M11
    clear hq3
    rw [e9] at hf
    clear e9
    try dsimp only at hf
    have m14 := o8.mx
    refine QW.then_n ?_
    refine CW.seq ?_
    refine CW.region ?_
    refine OW.rv (RV.move rfl) rfl ?_
    refine OW.rv (RV.assign rfl) rfl ?_
    refine OW.nil ?_
    refine QW.then_n ?_
    refine CW.ret ?_
    have e0 := Option.some.inj hf
    subst e0
    refine QW.retG (rs := [.tmp 2]) ([sl ob5 0 l4.length c6]) ((ob5, blk ((u8s l4) ++ r7) 5) :: []) rfl ?_ rfl ?_ ?_ _ (.inl rfl)
    · exact ⟨rfl, trivial⟩
    · exact ⟨[], ob5, c6, r7, o8, rfl, rfl⟩
    · exact (fun w m => m.pick [0] 1 rfl rfl)
  · skip
    refine CW.block ?_
    refine CW.mem (M' := ((none, blk ((u8s ([] : List (BitVec 8))) ++ []) 5) :: ([] ++ N))) (fun w m => m.nil_ent _) ?_
    refine CW.loopJ (fun k L' M' => ∃ l15 : List (BitVec 8), ∃ n20 : Nat, ∃ ob16 : Option Nat, ∃ c17 : Nat, ∃ r18 : List Value, (waybillref02_joined.l1 a0 k l15 n20) = some q2 ∧ (OwnS ob16 l15.length c17 1 (u8s l15) r18) ∧ (n20 ≤ 9223372036854775807) ∧ L' = [(0, .slice A0_ a0.length c0_), (3, sl ob16 0 l15.length c17), (4, .int .i64 ((n20 : Nat) : Int))] ∧ M' = ((ob16, blk ((u8s l15) ++ r18) 5) :: ([] ++ N))) (k0 := (a0.length - 0 + 2)) ⟨([] : List (BitVec 8)), 0, none, 0, [], hq3, OwnS.nil, (by omega), rfl, rfl⟩ ⟨rfl, rfl, rfl, trivial⟩ (fun w m => m.pick [0] 1 rfl rfl) ?_
    clear hq3
    rintro k22 L25 M26 ⟨l15, n20, ob16, c17, r18, hl23, o19, b21, e27, e28⟩
    rw [e27, e28]
    clear e27 e28 L25 M26
    rcases k22 with _ | k22
    · rw [waybillref02_joined.l1] at hl23; cases hl23
    rw [waybillref02_joined.l1] at hl23
    have m29 := o19.mx
    refine CW.seq ?_
    refine CW.seq ?_
    refine CW.region ?_
    refine OW.rv (RV.move rfl) rfl ?_
    refine OW.rv (RV.move rfl) rfl ?_
    refine OW.rv (RV.len rfl rfl) rfl ?_
    refine OW.rv (RV.lss rfl rfl) rfl ?_
    refine OW.slot (.bool (decide (n20 < a0.length))) (congrArg Value.bool (decide_eq_decide.2 (by omega))) ?_
    refine OW.nil ?_
    refine QW.then_n ?_
    by_cases h30 : n20 < a0.length
    · replace hl23 := if_t hl23 h30
      refine CW.is_t rfl (decide_eq_true h30) ?_
      refine CW.skip ?_
      refine QW.then_n ?_
      refine CW.seq ?_
      refine CW.block ?_
      refine CW.region ?_
      refine OW.rv (RV.move rfl) rfl ?_
      refine OW.rv (RV.move rfl) rfl ?_
      refine OW.rv (RV.move rfl) rfl ?_
      obtain ⟨x31, hx32, hl23⟩ := some_bind hl23
      have hl33 := lt_of_at hx32
      refine OW.rv (RV.idx_r (n20) rfl rfl rfl rfl rfl (va0.isSome (by decide) hl33) (by omega)) rfl ?_
      obtain ⟨cs34, h35, h36⟩ := ha0.get BsRd.len hx32
      obtain ⟨A37, c38, e40, v39⟩ := h35
      subst e40
      have m41 := v39.mx
      refine OW.rv (RV.load_at rfl rfl rfl (fun w m => by have := va0.load (More.of hΦ 1 m rfl) h36 0 _ rfl; simpa [Addr.add] using this)) rfl ?_
      obtain ⟨g42, hl23⟩ := some_if hl23
      refine OW.appendOwn (s := 1) rfl rfl rfl rfl rfl rfl o19 (fun w m => v39.rd w (More.of hΦ 1 m rfl)) v39.n (u8s_one _) (v39.zero (by decide)) (by decide) (by decide) (by first | omega | (simp only [i5, List.length_nil]; omega)) rfl rfl ((l15 ++ x31).length) (u8s (l15 ++ x31)) (List.length_append ..).symm (u8s_app _ _) (fun ob43 r44 c45 o46 => ?_)
      have m47 := o46.mx
      refine OW.rv (RV.assign rfl) rfl ?_
      refine OW.nil ?_
      refine QW.block_n ?_
      refine QW.then_n ?_
      refine CW.region ?_
      refine OW.rv (RV.move rfl) rfl ?_
      refine OW.rv (RV.add rfl rfl (by omega)) rfl ?_
      refine OW.slot (.int .i64 (((n20 + 1) : Nat) : Int)) (by first | rfl | (congr 1) | (congr 1; omega)) ?_
      refine OW.rv (RV.assign rfl) rfl ?_
      refine OW.nil ?_
      exact QW.againJ (k' := k22) (Nat.lt_succ_self _) ⟨(l15 ++ x31), (n20 + 1), ob43, c45, r44, hl23, o46, (by omega), rfl, rfl⟩ ⟨rfl, rfl, rfl, trivial⟩ (fun w m => m.pick [0] 1 rfl rfl)
    · replace hl23 := if_f hl23 h30
      refine CW.is_f rfl (decide_eq_false h30) ?_
      refine CW.exit ?_
      refine QW.then_x ?_
      refine QW.then_x ?_
      refine QW.block_xe ?_
      exact QW.join ⟨l15, ob16, c17, r18, (Option.some.inj hl23).symm, o19, rfl, rfl⟩ ⟨rfl, trivial⟩ (fun w m => m.pick [0] 1 rfl rfl)

theorem waybillref02_Digest_does (w0 : World) (Φ : Ctx) (N : List Ent) (hΦ : ∀ w, Mem w0 w N → Φ w) (A0_ : Option Addr) (c0_ : Nat) (a0 : List (BitVec 8)) (a1 : BitVec 8) (res0 : Vector (BitVec 8) 32) (va0 : View Φ A0_ a0.length c0_ 1 (u8s a0)) (hTn : ∀ i, i < 25 → w0.cell? ⟨2, i, none⟩ = some (.int .i64 (turnsL.getD i 0))) (hRn : ∀ i, i < 24 → w0.cell? ⟨1, i, none⟩ = some (U64 (g64 roundsL i))) (hf : waybillref02_Digest a0 a1 = some res0) : DoesG Tryd.prog 38 [.slice A0_ a0.length c0_, U8 a1] w0 [] N (fun v G => v = .agg (u8s res0.toList).toArray) := by
  unfold waybillref02_Digest at hf
  replace va0 := va0.mono (Ψ := More w0 Φ []) (fun w q => q.1)
  have m1 := va0.mx
  refine DoesG.enter Tryd.func38 rfl Tryd.ntmps38 rfl (M := (([] ++ N))) rfl ?_
  refine CW.seq ?_
  refine CW.region ?_
  refine OW.alloc (l := (u8s (Vector.replicate 32 0#8).toList)) rfl (by rw [Vector.toList_replicate, ← u8s_rep']; rfl) rfl (fun b2 => ?_)
  refine OW.nil ?_
  refine QW.then_n ?_
  refine CW.seq ?_
  refine CW.region ?_
  refine OW.rv (RV.move rfl) rfl ?_
  refine OW.rv (RV.move rfl) rfl ?_
  obtain ⟨x4, hx3, hf⟩ := some_bind hf
  refine OW.callG Tryd.call60 rfl (waybillref02_filled_does w0 (More w0 Φ []) ((some b2, blk (u8s (Vector.replicate 32 0#8).toList) 50) :: ([] ++ N)) (fun w m => More.of hΦ 1 m rfl) A0_ c0_ a0 a1 x4 va0 hx3) rfl rfl ?_
  rintro L10 M11 ⟨B5, ob6, c7, r8, o9, e12, e13⟩
  rw [e12, e13]
  clear e12 e13 L10 M11
  refine OW.mem (M' := ((ob6, blk ((u8s x4) ++ r8) 5) :: (some b2, blk (u8s (Vector.replicate 32 0#8).toList) 50) :: ((B5 ++ []) ++ N))) (fun w m => by have h := Mem.sinkAt (A := B5) m 1 1 rfl rfl; exact h) ?_
  replace va0 := va0.mono (Ψ := More w0 Φ (B5 ++ [])) (fun w q => More.mono (fun w m => (m).appR) q)
  have m14 := o9.mx
  refine OW.rv (RV.assign rfl) rfl ?_
  refine OW.nil ?_
  refine QW.then_n ?_
  refine CW.seq ?_
  refine CW.region ?_
  refine OW.alloc (l := (u64s (Vector.replicate 25 0#64).toList)) rfl (by rw [Vector.toList_replicate, ← u64s_rep]; rfl) rfl (fun b15 => ?_)
  refine OW.nil ?_
  refine QW.then_n ?_
  refine CW.seq ?_
  refine CW.seq ?_
  refine CW.region ?_
  refine OW.rv (RV.assign rfl) rfl ?_
  refine OW.nil ?_
  refine QW.then_n ?_
  obtain ⟨q16, hq17, hf⟩ := some_bind hf
  refine CW.cutJ (fun L' M' => ∃ w18 : Vector (BitVec 64) 25, q16 = w18 ∧ L' = [(4, ptr (some b2) 0), (6, ptr (some b15) 0)] ∧ M' = ((some b15, blk (u64s w18.toList) 85) :: (some b2, blk (u8s (Vector.replicate 32 0#8).toList) 50) :: ((B5 ++ []) ++ N))) ?_ ?_
  · rintro L20 M21 ⟨w18, e19, e22, e23⟩
    rw [e22, e23]
    clear e22 e23 L20 M21
    clear hq17
    rw [e19] at hf
    clear e19
    try dsimp only at hf
    refine QW.then_n ?_
    refine CW.seq ?_
    refine CW.region ?_
    refine OW.alloc (l := (u8s (Vector.replicate 32 0#8).toList)) rfl (by rw [Vector.toList_replicate, ← u8s_rep']; rfl) rfl (fun b24 => ?_)
    refine OW.nil ?_
    refine QW.then_n ?_
    refine CW.seq ?_
    refine CW.seq ?_
    refine CW.region ?_
    refine OW.rv (RV.assign rfl) rfl ?_
    refine OW.nil ?_
    refine QW.then_n ?_
    obtain ⟨q25, hq26, hf⟩ := some_bind hf
    refine CW.cutJ (fun L' M' => ∃ w27 : Vector (BitVec 8) 32, q25 = w27 ∧ L' = [(4, ptr (some b2) 0), (9, ptr (some b24) 0)] ∧ M' = ((some b24, blk (u8s w27.toList) 50) :: (some b2, blk (u8s (Vector.replicate 32 0#8).toList) 50) :: ((B5 ++ []) ++ N))) ?_ ?_
    · rintro L29 M30 ⟨w27, e28, e31, e32⟩
      rw [e31, e32]
      clear e31 e32 L29 M30
      clear hq26
      rw [e28] at hf
      clear e28
      try dsimp only at hf
      refine QW.then_n ?_
      refine CW.seq ?_
      refine CW.region ?_
      refine OW.rv (RV.loadW rfl (List.Mem.head _) rfl rfl rfl rfl ((u8s_length _).trans Vector.length_toList)) rfl ?_
      refine OW.rot1 ?_
      refine OW.sv (SV.storeW rfl rfl rfl (u8s_one _) rfl ((u8s_length _).trans Vector.length_toList) ((u8s_length _).trans Vector.length_toList)) ?_
      refine OW.nil ?_
      refine QW.then_n ?_
      refine CW.ret ?_
      have e0 := Option.some.inj hf
      subst e0
      refine QW.retG (rs := [.cell 4 50]) ([.agg (u8s w27.toList).toArray]) ((some b2, blk (u8s w27.toList) 50) :: (some b24, blk (u8s w27.toList) 50) :: (B5 ++ [])) rfl ?_ rfl ?_ ?_ _ (.inl rfl)
      · exact ⟨⟨_, _, _, _, rfl, (List.Mem.head _), rfl, rfl, (congrArg some ((u8s_length _).trans Vector.length_toList).symm), rfl⟩, trivial⟩
      · exact rfl
      · exact (fun w m => m)
    · skip
      refine CW.block ?_
      refine CW.loopJ (fun k L' M' => ∃ n33 : Nat, ∃ w35 : Vector (BitVec 8) 32, (waybillref02_Digest.l1 w18 k n33 w35) = some q25 ∧ (n33 ≤ 9223372036854775807) ∧ L' = [(4, ptr (some b2) 0), (6, ptr (some b15) 0), (9, ptr (some b24) 0), (10, .int .i64 ((n33 : Nat) : Int))] ∧ M' = ((some b24, blk (u8s w35.toList) 50) :: (some b15, blk (u64s w18.toList) 85) :: (some b2, blk (u8s (Vector.replicate 32 0#8).toList) 50) :: ((B5 ++ []) ++ N))) (k0 := (32 - 0 + 2)) ⟨0, (Vector.replicate 32 0#8), hq26, (by omega), rfl, rfl⟩ ⟨rfl, rfl, rfl, rfl, trivial⟩ (fun w m => m.pick [0, 1, 2] 3 rfl rfl) ?_
      clear hq26
      rintro k36 L39 M40 ⟨n33, w35, hl37, b34, e41, e42⟩
      rw [e41, e42]
      clear e41 e42 L39 M40
      rcases k36 with _ | k36
      · rw [waybillref02_Digest.l1] at hl37; cases hl37
      rw [waybillref02_Digest.l1] at hl37
      refine CW.seq ?_
      refine CW.seq ?_
      refine CW.region ?_
      refine OW.rv (RV.move rfl) rfl ?_
      refine OW.rv (RV.lss rfl rfl) rfl ?_
      refine OW.slot (.bool (decide (n33 < 32))) (congrArg Value.bool (decide_eq_decide.2 (by omega))) ?_
      refine OW.nil ?_
      refine QW.then_n ?_
      by_cases h43 : n33 < 32
      · replace hl37 := if_t hl37 h43
        refine CW.is_t rfl (decide_eq_true h43) ?_
        refine CW.skip ?_
        refine QW.then_n ?_
        refine CW.seq ?_
        refine CW.block ?_
        refine CW.region ?_
        refine OW.rv (RV.move rfl) rfl ?_
        refine OW.rv (RV.move rfl) rfl ?_
        refine OW.rv (RV.quo rfl rfl (by omega) (by omega) (by omega)) rfl ?_
        refine OW.slot (.int .i64 ((n33 / 8 : Nat) : Int)) (by first | rfl | (congr 1; omega)) ?_
        obtain ⟨g44, hl37⟩ := some_if hl37
        refine OW.rv (RV.idx_a ((n33 / 8)) rfl rfl rfl rfl rfl (by omega)) rfl ?_
        obtain ⟨x45, hx46, hl37⟩ := some_bind hl37
        refine OW.rv (RV.load rfl (List.Mem.tail _ (List.Mem.head _)) rfl rfl rfl (by rw [Nat.zero_add]; exact u64s_at (vat hx46))) rfl ?_
        refine OW.rv (RV.move rfl) rfl ?_
        refine OW.rv (RV.rem rfl rfl (by omega) (by omega)) rfl ?_
        refine OW.slot (.int .i64 ((n33 % 8 : Nat) : Int)) (by first | rfl | (congr 1; omega)) ?_
        refine OW.rv (RV.mul rfl rfl (by omega)) rfl ?_
        refine OW.slot (.int .i64 (((8 * (n33 % 8)) : Nat) : Int)) (by first | rfl | (congr 1) | (congr 1; omega)) ?_
        refine OW.rv (RV.conv_i64 rfl rfl rfl) rfl ?_
        refine OW.slot (U64 (BitVec.ofNat 64 (8 * (n33 % 8)))) (congrArg U64 (BitVec.ofInt_natCast ..)) ?_
        refine OW.rv (RV.shr64 (s := (BitVec.ofNat 64 (8 * (n33 % 8))).toNat) rfl (by first | rfl | exact lit64 _ rfl) rfl (by first | rfl | (simp [U64]; done))) rfl ?_
        refine OW.rv (RV.conv64_8 rfl (by first | rfl | exact lit64 _ rfl) rfl rfl) rfl ?_
        refine OW.rv (RV.idx_a (n33) rfl rfl rfl rfl rfl (by omega)) rfl ?_
        refine OW.sv (SV.store rfl rfl rfl rfl rfl (by rw [u8s_length, Vector.length_toList]; omega)) ?_
        refine OW.cells (u8s (w35.setIfInBounds n33 ((x45 >>> (BitVec.ofNat 64 (8 * (n33 % 8))).toNat).setWidth 8)).toList) (by rw [Nat.zero_add, u8s_set', vset]) ?_
        refine OW.nil ?_
        refine QW.block_n ?_
        refine QW.then_n ?_
        refine CW.region ?_
        refine OW.rv (RV.move rfl) rfl ?_
        refine OW.rv (RV.add rfl rfl (by omega)) rfl ?_
        refine OW.slot (.int .i64 (((n33 + 1) : Nat) : Int)) (by first | rfl | (congr 1) | (congr 1; omega)) ?_
        refine OW.rv (RV.assign rfl) rfl ?_
        refine OW.nil ?_
        exact QW.againJ (k' := k36) (Nat.lt_succ_self _) ⟨(n33 + 1), (w35.setIfInBounds n33 ((x45 >>> (BitVec.ofNat 64 (8 * (n33 % 8))).toNat).setWidth 8)), hl37, (by omega), rfl, rfl⟩ ⟨rfl, rfl, rfl, rfl, trivial⟩ (fun w m => m.pick [0, 1, 2] 3 rfl rfl)
      · replace hl37 := if_f hl37 h43
        refine CW.is_f rfl (decide_eq_false h43) ?_
        refine CW.exit ?_
        refine QW.then_x ?_
        refine QW.then_x ?_
        refine QW.block_xe ?_
        exact QW.join ⟨w35, (Option.some.inj hl37).symm, rfl, rfl⟩ ⟨rfl, rfl, trivial⟩ (fun w m => m.pick [0, 2] 3 rfl rfl)
  · skip
    refine CW.block ?_
    refine CW.loopJ (fun k L' M' => ∃ n47 : Nat, ∃ w49 : Vector (BitVec 64) 25, (waybillref02_Digest.l2 x4 k n47 w49) = some q16 ∧ (n47 ≤ 9223372036854775807) ∧ L' = [(4, ptr (some b2) 0), (5, sl ob6 0 x4.length c7), (6, ptr (some b15) 0), (7, .int .i64 ((n47 : Nat) : Int))] ∧ M' = ((some b15, blk (u64s w49.toList) 85) :: (ob6, blk ((u8s x4) ++ r8) 5) :: (some b2, blk (u8s (Vector.replicate 32 0#8).toList) 50) :: ((B5 ++ []) ++ N))) (k0 := (x4.length - 0 + 2)) ⟨0, (Vector.replicate 25 0#64), hq17, (by omega), rfl, rfl⟩ ⟨rfl, rfl, rfl, rfl, trivial⟩ (fun w m => m.pick [0, 1, 2] 3 rfl rfl) ?_
    clear hq17
    rintro k50 L53 M54 ⟨n47, w49, hl51, b48, e55, e56⟩
    rw [e55, e56]
    clear e55 e56 L53 M54
    rcases k50 with _ | k50
    · rw [waybillref02_Digest.l2] at hl51; cases hl51
    rw [waybillref02_Digest.l2] at hl51
    have m57 := o9.mx
    refine CW.seq ?_
    refine CW.seq ?_
    refine CW.region ?_
    refine OW.rv (RV.move rfl) rfl ?_
    refine OW.rv (RV.move rfl) rfl ?_
    refine OW.rv (RV.len rfl rfl) rfl ?_
    refine OW.rv (RV.lss rfl rfl) rfl ?_
    refine OW.slot (.bool (decide (n47 < x4.length))) (congrArg Value.bool (decide_eq_decide.2 (by omega))) ?_
    refine OW.nil ?_
    refine QW.then_n ?_
    by_cases h58 : n47 < x4.length
    · replace hl51 := if_t hl51 h58
      refine CW.is_t rfl (decide_eq_true h58) ?_
      refine CW.skip ?_
      refine QW.then_n ?_
      refine CW.seq ?_
      refine CW.block ?_
      refine CW.seq ?_
      refine CW.seq ?_
      refine CW.region ?_
      refine OW.rv (RV.assign rfl) rfl ?_
      refine OW.nil ?_
      refine QW.then_n ?_
      obtain ⟨q59, hq60, hl51⟩ := some_bind hl51
      refine CW.cutJ (fun L' M' => ∃ w61 : Vector (BitVec 64) 25, q59 = w61 ∧ L' = [(4, ptr (some b2) 0), (5, sl ob6 0 x4.length c7), (6, ptr (some b15) 0), (7, .int .i64 ((n47 : Nat) : Int))] ∧ M' = ((some b15, blk (u64s w61.toList) 85) :: (ob6, blk ((u8s x4) ++ r8) 5) :: (some b2, blk (u8s (Vector.replicate 32 0#8).toList) 50) :: ((B5 ++ []) ++ N))) ?_ ?_
      · rintro L63 M64 ⟨w61, e62, e65, e66⟩
        rw [e65, e66]
        clear e65 e66 L63 M64
        clear hq60
        rw [e62] at hl51
        clear e62
        try dsimp only at hl51
        have m67 := o9.mx
        refine QW.then_n ?_
        refine CW.region ?_
        refine OW.rv (RV.loadW rfl (List.Mem.head _) rfl rfl rfl rfl ((u64s_length _).trans Vector.length_toList)) rfl ?_
        obtain ⟨x69, hx68, hl51⟩ := some_bind hl51
        refine OW.callG Tryd.call61 rfl (waybillref02_Permute_does w0 (More w0 Φ (B5 ++ [])) ((some b15, blk (u64s w61.toList) 85) :: (ob6, blk ((u8s x4) ++ r8) 5) :: (some b2, blk (u8s (Vector.replicate 32 0#8).toList) 50) :: ((B5 ++ []) ++ N)) (fun w m => More.of hΦ 3 m rfl) w61 x69 hTn hRn hx68) rfl rfl ?_
        rintro _ G70 rfl
        refine OW.mem (M' := ((some b15, blk (u64s w61.toList) 85) :: (ob6, blk ((u8s x4) ++ r8) 5) :: (some b2, blk (u8s (Vector.replicate 32 0#8).toList) 50) :: ((B5 ++ []) ++ N))) (fun w m => m.appR) ?_
        refine OW.sv (SV.storeW rfl rfl rfl (u64s_one _) rfl ((u64s_length _).trans Vector.length_toList) ((u64s_length _).trans Vector.length_toList)) ?_
        refine OW.nil ?_
        refine QW.block_n ?_
        refine QW.then_n ?_
        refine CW.region ?_
        refine OW.rv (RV.move rfl) rfl ?_
        refine OW.rv (RV.add rfl rfl (by omega)) rfl ?_
        refine OW.slot (.int .i64 (((n47 + 136) : Nat) : Int)) (by first | rfl | (congr 1) | (congr 1; omega)) ?_
        refine OW.rv (RV.assign rfl) rfl ?_
        refine OW.nil ?_
        exact QW.againJ (k' := k50) (Nat.lt_succ_self _) ⟨(n47 + 136), x69, hl51, (by omega), rfl, rfl⟩ ⟨rfl, rfl, rfl, rfl, trivial⟩ (fun w m => m.pick [0, 1, 2] 3 rfl rfl)
      · skip
        refine CW.block ?_
        refine CW.loopJ (fun k L' M' => ∃ n72 : Nat, ∃ w74 : Vector (BitVec 64) 25, (waybillref02_Digest.l3 x4 n47 k n72 w74) = some q59 ∧ (n72 ≤ 9223372036854775807) ∧ L' = [(4, ptr (some b2) 0), (5, sl ob6 0 x4.length c7), (6, ptr (some b15) 0), (7, .int .i64 ((n47 : Nat) : Int)), (8, .int .i64 ((n72 : Nat) : Int))] ∧ M' = ((some b15, blk (u64s w74.toList) 85) :: (ob6, blk ((u8s x4) ++ r8) 5) :: (some b2, blk (u8s (Vector.replicate 32 0#8).toList) 50) :: ((B5 ++ []) ++ N))) (k0 := (136 - 0 + 2)) ⟨0, w49, hq60, (by omega), rfl, rfl⟩ ⟨rfl, rfl, rfl, rfl, rfl, trivial⟩ (fun w m => m.pick [0, 1, 2] 3 rfl rfl) ?_
        clear hq60
        rintro k75 L78 M79 ⟨n72, w74, hl76, b73, e80, e81⟩
        rw [e80, e81]
        clear e80 e81 L78 M79
        rcases k75 with _ | k75
        · rw [waybillref02_Digest.l3] at hl76; cases hl76
        rw [waybillref02_Digest.l3] at hl76
        have m82 := o9.mx
        refine CW.seq ?_
        refine CW.seq ?_
        refine CW.region ?_
        refine OW.rv (RV.move rfl) rfl ?_
        refine OW.rv (RV.lss rfl rfl) rfl ?_
        refine OW.slot (.bool (decide (n72 < 136))) (congrArg Value.bool (decide_eq_decide.2 (by omega))) ?_
        refine OW.nil ?_
        refine QW.then_n ?_
        by_cases h83 : n72 < 136
        · replace hl76 := if_t hl76 h83
          refine CW.is_t rfl (decide_eq_true h83) ?_
          refine CW.skip ?_
          refine QW.then_n ?_
          refine CW.seq ?_
          refine CW.block ?_
          refine CW.drawsX ((ob6, blk ((u8s x4) ++ r8) 5) :: (some b2, blk (u8s (Vector.replicate 32 0#8).toList) 50) :: ((B5 ++ []) ++ N)) [20] (fun w m => m.pick [1, 2] 3 rfl rfl) mixed (by kernel_rfl) ?_
          refine XW.rs 0 rfl (by kernel_rfl) rfl (RV.move rfl) rfl ?_
          refine XW.rs 1 rfl (by kernel_rfl) rfl (RV.quo rfl rfl (by omega) (by omega) (by omega)) rfl ?_
          refine XW.slot (.int .i64 ((n72 / 8 : Nat) : Int)) (by first | rfl | (congr 1; omega)) ?_
          refine XW.rs 2 rfl (by kernel_rfl) rfl (RV.move rfl) rfl ?_
          refine XW.rs 3 rfl (by kernel_rfl) rfl (RV.quo rfl rfl (by omega) (by omega) (by omega)) rfl ?_
          refine XW.slot (.int .i64 ((n72 / 8 : Nat) : Int)) (by first | rfl | (congr 1; omega)) ?_
          obtain ⟨g84, hl76⟩ := some_if hl76
          refine XW.rs 4 rfl (by kernel_rfl) rfl (RV.idx_a ((n72 / 8)) rfl rfl rfl rfl rfl (by omega)) rfl ?_
          obtain ⟨x85, hx86, hl76⟩ := some_bind hl76
          refine XW.rv 5 rfl (by kernel_rfl) rfl (by kernel_rfl) (RV.load rfl (List.Mem.head _) rfl rfl rfl (by rw [Nat.zero_add]; exact u64s_at (vat hx86))) rfl ?_
          refine XW.rs 6 rfl (by kernel_rfl) rfl (RV.move rfl) rfl ?_
          refine XW.rs 7 rfl (by kernel_rfl) rfl (RV.move rfl) rfl ?_
          refine XW.rs 8 rfl (by kernel_rfl) rfl (RV.move rfl) rfl ?_
          refine XW.rs 9 rfl (by kernel_rfl) rfl (RV.add rfl rfl (by omega)) rfl ?_
          refine XW.slot (.int .i64 (((n47 + n72) : Nat) : Int)) (by first | rfl | (congr 1) | (congr 1; omega)) ?_
          obtain ⟨x87, hx88, hl76⟩ := some_bind hl76
          have hl89 := lt_of_at hx88
          refine XW.rs 10 rfl (by kernel_rfl) rfl (RV.idx_o ((n47 + n72)) rfl rfl rfl rfl rfl (o9.isSome (by decide) hl89) (by omega)) rfl ?_
          refine XW.rs 11 rfl (by kernel_rfl) rfl (RV.load rfl (List.Mem.head _) (o9.isSome (by decide) hl89) rfl rfl (own_at0 (u8s_at hx88))) rfl ?_
          refine XW.rs 12 rfl (by kernel_rfl) rfl (RV.conv8_64 rfl (by first | rfl | exact lit8 _ rfl) rfl rfl) rfl ?_
          refine XW.rs 13 rfl (by kernel_rfl) rfl (RV.move rfl) rfl ?_
          refine XW.rs 14 rfl (by kernel_rfl) rfl (RV.rem rfl rfl (by omega) (by omega)) rfl ?_
          refine XW.slot (.int .i64 ((n72 % 8 : Nat) : Int)) (by first | rfl | (congr 1; omega)) ?_
          refine XW.rs 15 rfl (by kernel_rfl) rfl (RV.mul rfl rfl (by omega)) rfl ?_
          refine XW.slot (.int .i64 (((8 * (n72 % 8)) : Nat) : Int)) (by first | rfl | (congr 1) | (congr 1; omega)) ?_
          refine XW.rs 16 rfl (by kernel_rfl) rfl (RV.conv_i64 rfl rfl rfl) rfl ?_
          refine XW.slot (U64 (BitVec.ofNat 64 (8 * (n72 % 8)))) (congrArg U64 (BitVec.ofInt_natCast ..)) ?_
          refine XW.rs 17 rfl (by kernel_rfl) rfl (RV.shl64 (s := (BitVec.ofNat 64 (8 * (n72 % 8))).toNat) rfl (by first | rfl | exact lit64 _ rfl) rfl (by first | rfl | (simp [U64]; done))) rfl ?_
          refine XW.rs 18 rfl (by kernel_rfl) rfl (RV.xor64 rfl (by first | rfl | exact lit64 _ rfl) rfl (by first | rfl | exact lit64 _ rfl)) rfl ?_
          refine XW.rs 19 rfl (by kernel_rfl) rfl (RV.idx_a ((n72 / 8)) rfl rfl rfl rfl rfl (by omega)) rfl ?_
          refine XW.sv 20 rfl (by kernel_rfl) (SV.store rfl rfl rfl rfl rfl (by rw [u64s_length, Vector.length_toList]; omega)) (fun w m => m.pick [1, 2] 3 rfl rfl) ?_
          refine XW.cells (u64s (w74.setIfInBounds (n72 / 8) (x85 ^^^ ((x87.setWidth 64) <<< (BitVec.ofNat 64 (8 * (n72 % 8))).toNat))).toList) (by rw [Nat.zero_add, u64s_set', vset]) ?_
          refine XW.nil (by kernel_rfl) ?_
          refine QW.block_n ?_
          refine QW.then_n ?_
          refine CW.region ?_
          refine OW.rv (RV.move rfl) rfl ?_
          refine OW.rv (RV.add rfl rfl (by omega)) rfl ?_
          refine OW.slot (.int .i64 (((n72 + 1) : Nat) : Int)) (by first | rfl | (congr 1) | (congr 1; omega)) ?_
          refine OW.rv (RV.assign rfl) rfl ?_
          refine OW.nil ?_
          exact QW.againJ (k' := k75) (Nat.lt_succ_self _) ⟨(n72 + 1), (w74.setIfInBounds (n72 / 8) (x85 ^^^ ((x87.setWidth 64) <<< (BitVec.ofNat 64 (8 * (n72 % 8))).toNat))), hl76, (by omega), rfl, rfl⟩ ⟨rfl, rfl, rfl, rfl, rfl, trivial⟩ (fun w m => m.pick [0, 1, 2] 3 rfl rfl)
        · replace hl76 := if_f hl76 h83
          refine CW.is_f rfl (decide_eq_false h83) ?_
          refine CW.exit ?_
          refine QW.then_x ?_
          refine QW.then_x ?_
          refine QW.block_xe ?_
          exact QW.join ⟨w74, (Option.some.inj hl76).symm, rfl, rfl⟩ ⟨rfl, rfl, rfl, rfl, trivial⟩ (fun w m => m.pick [0, 1, 2] 3 rfl rfl)
    · replace hl51 := if_f hl51 h58
      refine CW.is_f rfl (decide_eq_false h58) ?_
      refine CW.exit ?_
      refine QW.then_x ?_
      refine QW.then_x ?_
      refine QW.block_xe ?_
      exact QW.join ⟨w49, (Option.some.inj hl51).symm, rfl, rfl⟩ ⟨rfl, rfl, trivial⟩ (fun w m => m.pick [0, 2] 3 rfl rfl)

theorem waybillref02_Sum_does (w0 : World) (Φ : Ctx) (N : List Ent) (hΦ : ∀ w, Mem w0 w N → Φ w) (A0_ : Option Addr) (c0_ : Nat) (cs0_ : List Value) (a0 : List (List (BitVec 8))) (res0 : Vector (BitVec 8) 32) (va0 : View Φ A0_ a0.length c0_ 1 cs0_) (ha0 : Reps (BsRd Φ) cs0_ a0) (hTn : ∀ i, i < 25 → w0.cell? ⟨2, i, none⟩ = some (.int .i64 (turnsL.getD i 0))) (hRn : ∀ i, i < 24 → w0.cell? ⟨1, i, none⟩ = some (U64 (g64 roundsL i))) (hf : waybillref02_Sum a0 = some res0) : DoesG Tryd.prog 28 [.slice A0_ a0.length c0_] w0 [] N (fun v G => v = .agg (u8s res0.toList).toArray) := by
  unfold waybillref02_Sum at hf
  replace va0 := va0.mono (Ψ := More w0 Φ []) (fun w q => q.1)
  replace ha0 := ha0.mono (BsRd.mono (Ψ := More w0 Φ []) (fun w q => q.1))
  have m1 := va0.mx
  refine DoesG.enter Tryd.func28 rfl Tryd.ntmps28 rfl (M := (([] ++ N))) rfl ?_
  refine CW.seq ?_
  refine CW.region ?_
  refine OW.alloc (l := (u8s (Vector.replicate 32 0#8).toList)) rfl (by rw [Vector.toList_replicate, ← u8s_rep']; rfl) rfl (fun b2 => ?_)
  refine OW.nil ?_
  refine QW.then_n ?_
  refine CW.seq ?_
  refine CW.region ?_
  refine OW.rv (RV.move rfl) rfl ?_
  obtain ⟨x4, hx3, hf⟩ := some_bind hf
  refine OW.callG Tryd.call39 rfl (waybillref02_joined_does w0 (More w0 Φ []) ((some b2, blk (u8s (Vector.replicate 32 0#8).toList) 50) :: ([] ++ N)) (fun w m => More.of hΦ 1 m rfl) A0_ c0_ cs0_ a0 x4 va0 ha0 hx3) rfl rfl ?_
  rintro L10 M11 ⟨B5, ob6, c7, r8, o9, e12, e13⟩
  rw [e12, e13]
  clear e12 e13 L10 M11
  refine OW.mem (M' := ((ob6, blk ((u8s x4) ++ r8) 5) :: (some b2, blk (u8s (Vector.replicate 32 0#8).toList) 50) :: ((B5 ++ []) ++ N))) (fun w m => by have h := Mem.sinkAt (A := B5) m 1 1 rfl rfl; exact h) ?_
  replace va0 := va0.mono (Ψ := More w0 Φ (B5 ++ [])) (fun w q => More.mono (fun w m => (m).appR) q)
  replace ha0 := ha0.mono (BsRd.mono (Ψ := More w0 Φ (B5 ++ [])) (fun w q => More.mono (fun w m => (m).appR) q))
  have m14 := o9.mx
  refine OW.mem (M' := (some b2, blk (u8s (Vector.replicate 32 0#8).toList) 50) :: (((ob6, blk ((u8s x4) ++ r8) 5) :: (B5 ++ [])) ++ N)) (fun w m => m.pick [1, 0] 2 rfl rfl) ?_
  replace va0 := va0.mono (Ψ := More w0 Φ ((ob6, blk ((u8s x4) ++ r8) 5) :: (B5 ++ []))) (fun w q => More.mono (fun w m => (m).tail) q)
  replace ha0 := ha0.mono (BsRd.mono (Ψ := More w0 Φ ((ob6, blk ((u8s x4) ++ r8) 5) :: (B5 ++ []))) (fun w q => More.mono (fun w m => (m).tail) q))
  have v15 : View (More w0 Φ ((ob6, blk ((u8s x4) ++ r8) 5) :: (B5 ++ []))) ((ob6).map fun k => ⟨k, 0, none⟩) x4.length c7 1 (u8s x4) := o9.view (by decide) (fun w q => q.2.sublist (List.singleton_sublist.2 (List.mem_cons_self ..)))
  obtain ⟨x17, hx16, hf⟩ := some_bind hf
  refine OW.callG Tryd.call38 rfl (waybillref02_Digest_does w0 (More w0 Φ ((ob6, blk ((u8s x4) ++ r8) 5) :: (B5 ++ []))) ((some b2, blk (u8s (Vector.replicate 32 0#8).toList) 50) :: (((ob6, blk ((u8s x4) ++ r8) 5) :: (B5 ++ [])) ++ N)) (fun w m => More.of hΦ 1 m rfl) ((ob6).map fun k => ⟨k, 0, none⟩) c7 x4 (1#8) x17 v15 hTn hRn hx16) rfl rfl ?_
  rintro _ G18 rfl
  refine OW.mem (M' := ((some b2, blk (u8s (Vector.replicate 32 0#8).toList) 50) :: (((ob6, blk ((u8s x4) ++ r8) 5) :: (B5 ++ [])) ++ N))) (fun w m => m.appR) ?_
  refine OW.sv (SV.storeW rfl rfl rfl (u8s_one _) rfl ((u8s_length _).trans Vector.length_toList) ((u8s_length _).trans Vector.length_toList)) ?_
  refine OW.nil ?_
  refine QW.then_n ?_
  refine CW.ret ?_
  have e0 := Option.some.inj hf
  subst e0
  refine QW.retG (rs := [.cell 2 50]) ([.agg (u8s x17.toList).toArray]) ((some b2, blk (u8s x17.toList) 50) :: ((ob6, blk ((u8s x4) ++ r8) 5) :: (B5 ++ []))) rfl ?_ rfl ?_ ?_ _ (.inl rfl)
  · exact ⟨⟨_, _, _, _, rfl, (List.Mem.head _), rfl, rfl, (congrArg some ((u8s_length _).trans Vector.length_toList).symm), rfl⟩, trivial⟩
  · exact rfl
  · exact (fun w m => m)

theorem waybillref10_Places_does (w0 : World) (Φ : Ctx) (N : List Ent) (hΦ : ∀ w, Mem w0 w N → Φ w) (A0_ : Option Addr) (c0_ : Nat) (a0 : List (BitVec 8)) (res0 : Vector (Int) 3) (va0 : View Φ A0_ a0.length c0_ 1 (u8s a0)) (hTn : ∀ i, i < 25 → w0.cell? ⟨2, i, none⟩ = some (.int .i64 (turnsL.getD i 0))) (hRn : ∀ i, i < 24 → w0.cell? ⟨1, i, none⟩ = some (U64 (g64 roundsL i))) (hf : waybillref10_Places a0 = some res0) : DoesG Tryd.prog 14 [.slice A0_ a0.length c0_] w0 [] N (fun v G => v = .agg (i64s res0.toList).toArray) := by
  unfold waybillref10_Places at hf
  replace va0 := va0.mono (Ψ := More w0 Φ []) (fun w q => q.1)
  have m1 := va0.mx
  refine DoesG.enter Tryd.func14 rfl Tryd.ntmps14 rfl (M := (([] ++ N))) rfl ?_
  refine CW.seq ?_
  refine CW.region ?_
  refine OW.alloc (l := (i64s (Vector.replicate 3 0).toList)) rfl (by rw [Vector.toList_replicate, ← i64s_rep]; rfl) rfl (fun b2 => ?_)
  refine OW.nil ?_
  refine QW.then_n ?_
  refine CW.seq ?_
  refine CW.region ?_
  refine OW.rv (RV.move rfl) rfl ?_
  refine OW.ofN (NV.bs1 rfl rfl rfl rfl rfl rfl) rfl (fun b3 => ?_)
  have h6 : Reps (BsRd (More w0 Φ [])) (([.slice A0_ a0.length c0_] : List Value)) [a0] := Reps.one (BsRd.mk va0)
  refine OW.mem (M' := (((some b3), blk ((([.slice A0_ a0.length c0_] : List Value)) ++ []) 30) :: (some b2, blk (i64s (Vector.replicate 3 0).toList) 32) :: ([] ++ N))) (fun w m => m) ?_
  have o4 : OwnS (some b3) ([a0] : List (List (BitVec 8))).length 1 1 (([.slice A0_ a0.length c0_] : List Value)) [] := ⟨by simp [BsRd], by simp [BsRd], (fun h => nomatch h), by simp⟩
  refine OW.slot (sl (some b3) 0 ([a0] : List (List (BitVec 8))).length 1) (rfl) ?_
  refine OW.mem (M' := (some b2, blk (i64s (Vector.replicate 3 0).toList) 32) :: ((((some b3), blk ((([.slice A0_ a0.length c0_] : List Value)) ++ []) 30) :: []) ++ N)) (fun w m => m.pick [1, 0] 2 rfl rfl) ?_
  replace va0 := va0.mono (Ψ := More w0 Φ (((some b3), blk ((([.slice A0_ a0.length c0_] : List Value)) ++ []) 30) :: [])) (fun w q => More.mono (fun w m => (m).tail) q)
  replace h6 := h6.mono (BsRd.mono (Ψ := More w0 Φ (((some b3), blk ((([.slice A0_ a0.length c0_] : List Value)) ++ []) 30) :: [])) (fun w q => More.mono (fun w m => (m).tail) q))
  have v7 : View (More w0 Φ (((some b3), blk ((([.slice A0_ a0.length c0_] : List Value)) ++ []) 30) :: [])) (((some b3)).map fun k => ⟨k, 0, none⟩) ([a0] : List (List (BitVec 8))).length 1 1 (([.slice A0_ a0.length c0_] : List Value)) := o4.view (by decide) (fun w q => q.2.sublist (List.singleton_sublist.2 (List.mem_cons_self ..)))
  obtain ⟨x9, hx8, hf⟩ := some_bind hf
  refine OW.callG Tryd.call28 rfl (waybillref02_Sum_does w0 (More w0 Φ (((some b3), blk ((([.slice A0_ a0.length c0_] : List Value)) ++ []) 30) :: [])) ((some b2, blk (i64s (Vector.replicate 3 0).toList) 32) :: ((((some b3), blk ((([.slice A0_ a0.length c0_] : List Value)) ++ []) 30) :: []) ++ N)) (fun w m => More.of hΦ 1 m rfl) (((some b3)).map fun k => ⟨k, 0, none⟩) 1 (([.slice A0_ a0.length c0_] : List Value)) ([a0] : List (List (BitVec 8))) x9 v7 h6 hTn hRn hx8) rfl rfl ?_
  rintro _ G10 rfl
  refine OW.mem (M' := ((some b2, blk (i64s (Vector.replicate 3 0).toList) 32) :: ((((some b3), blk ((([.slice A0_ a0.length c0_] : List Value)) ++ []) 30) :: []) ++ N))) (fun w m => m.appR) ?_
  refine OW.alloc (l := (u8s (Vector.replicate 32 0#8).toList)) rfl (by rw [Vector.toList_replicate, ← u8s_rep']; rfl) rfl (fun b12 => ?_)
  refine OW.sv (SV.storeW rfl rfl rfl (u8s_one _) rfl ((u8s_length _).trans Vector.length_toList) ((u8s_length _).trans Vector.length_toList)) ?_
  refine OW.nil ?_
  refine QW.then_n ?_
  refine CW.seq ?_
  refine CW.region ?_
  refine OW.alloc (l := (i64s (Vector.replicate 3 0).toList)) rfl (by rw [Vector.toList_replicate, ← i64s_rep]; rfl) rfl (fun b13 => ?_)
  refine OW.nil ?_
  refine QW.then_n ?_
  refine CW.seq ?_
  refine CW.seq ?_
  refine CW.region ?_
  refine OW.rv (RV.assign rfl) rfl ?_
  refine OW.nil ?_
  refine QW.then_n ?_
  obtain ⟨q14, hq15, hf⟩ := some_bind hf
  refine CW.cutJ (fun L' M' => ∃ w16 : Vector (Int) 3, q14 = w16 ∧ L' = [(2, ptr (some b2) 0), (4, ptr (some b13) 0)] ∧ M' = ((some b13, blk (i64s w16.toList) 32) :: (some b2, blk (i64s (Vector.replicate 3 0).toList) 32) :: ((((some b3), blk ((([.slice A0_ a0.length c0_] : List Value)) ++ []) 30) :: []) ++ N))) ?_ ?_
  · rintro L18 M19 ⟨w16, e17, e20, e21⟩
    rw [e20, e21]
    clear e20 e21 L18 M19
    clear hq15
    rw [e17] at hf
    clear e17
    try dsimp only at hf
    refine QW.then_n ?_
    refine CW.seq ?_
    refine CW.region ?_
    refine OW.rv (RV.loadW rfl (List.Mem.head _) rfl rfl rfl rfl ((i64s_length _).trans Vector.length_toList)) rfl ?_
    refine OW.rot1 ?_
    refine OW.sv (SV.storeW rfl rfl rfl (i64s_one _) rfl ((i64s_length _).trans Vector.length_toList) ((i64s_length _).trans Vector.length_toList)) ?_
    refine OW.nil ?_
    refine QW.then_n ?_
    refine CW.ret ?_
    have e0 := Option.some.inj hf
    subst e0
    refine QW.retG (rs := [.cell 2 32]) ([.agg (i64s w16.toList).toArray]) ((some b2, blk (i64s w16.toList) 32) :: (some b13, blk (i64s w16.toList) 32) :: (((some b3), blk ((([.slice A0_ a0.length c0_] : List Value)) ++ []) 30) :: [])) rfl ?_ rfl ?_ ?_ _ (.inl rfl)
    · exact ⟨⟨_, _, _, _, rfl, (List.Mem.head _), rfl, rfl, (congrArg some ((i64s_length _).trans Vector.length_toList).symm), rfl⟩, trivial⟩
    · exact rfl
    · exact (fun w m => m)
  · skip
    refine CW.block ?_
    refine CW.loopJ (fun k L' M' => ∃ n22 : Nat, ∃ w24 : Vector (Int) 3, (waybillref10_Places.l1 x9 k n22 w24) = some q14 ∧ (n22 ≤ 9223372036854775807) ∧ L' = [(2, ptr (some b2) 0), (3, ptr (some b12) 0), (4, ptr (some b13) 0), (5, .int .i64 ((n22 : Nat) : Int))] ∧ M' = ((some b13, blk (i64s w24.toList) 32) :: (some b12, blk (u8s x9.toList) 50) :: (some b2, blk (i64s (Vector.replicate 3 0).toList) 32) :: ((((some b3), blk ((([.slice A0_ a0.length c0_] : List Value)) ++ []) 30) :: []) ++ N))) (k0 := (3 - 0 + 2)) ⟨0, (Vector.replicate 3 0), hq15, (by omega), rfl, rfl⟩ ⟨rfl, rfl, rfl, rfl, trivial⟩ (fun w m => m.pick [0, 1, 2] 3 rfl rfl) ?_
    clear hq15
    rintro k25 L28 M29 ⟨n22, w24, hl26, b23, e30, e31⟩
    rw [e30, e31]
    clear e30 e31 L28 M29
    rcases k25 with _ | k25
    · rw [waybillref10_Places.l1] at hl26; cases hl26
    rw [waybillref10_Places.l1] at hl26
    refine CW.seq ?_
    refine CW.seq ?_
    refine CW.region ?_
    refine OW.rv (RV.move rfl) rfl ?_
    refine OW.rv (RV.lss rfl rfl) rfl ?_
    refine OW.slot (.bool (decide (n22 < 3))) (congrArg Value.bool (decide_eq_decide.2 (by omega))) ?_
    refine OW.nil ?_
    refine QW.then_n ?_
    by_cases h32 : n22 < 3
    · replace hl26 := if_t hl26 h32
      refine CW.is_t rfl (decide_eq_true h32) ?_
      refine CW.skip ?_
      refine QW.then_n ?_
      refine CW.seq ?_
      refine CW.block ?_
      refine CW.drawsX ((some b12, blk (u8s x9.toList) 50) :: (some b2, blk (i64s (Vector.replicate 3 0).toList) 32) :: ((((some b3), blk ((([.slice A0_ a0.length c0_] : List Value)) ++ []) 30) :: []) ++ N)) [16] (fun w m => m.pick [1, 2] 3 rfl rfl) mixed (by kernel_rfl) ?_
      refine XW.rs 0 rfl (by kernel_rfl) rfl (RV.move rfl) rfl ?_
      refine XW.rs 1 rfl (by kernel_rfl) rfl (RV.move rfl) rfl ?_
      refine XW.rs 2 rfl (by kernel_rfl) rfl (RV.mul rfl rfl (by omega)) rfl ?_
      refine XW.slot (.int .i64 (((2 * n22) : Nat) : Int)) (by first | rfl | (congr 1) | (congr 1; omega)) ?_
      obtain ⟨g33, hl26⟩ := some_if hl26
      refine XW.rs 3 rfl (by kernel_rfl) rfl (RV.idx_a ((2 * n22)) rfl rfl rfl rfl rfl (by omega)) rfl ?_
      obtain ⟨x34, hx35, hl26⟩ := some_bind hl26
      refine XW.rs 4 rfl (by kernel_rfl) rfl (RV.load rfl (List.Mem.head _) rfl rfl rfl (by rw [Nat.zero_add]; exact u8s_at (vat hx35))) rfl ?_
      refine XW.rs 5 rfl (by kernel_rfl) rfl (RV.conv8_i rfl (by first | rfl | exact lit8 _ rfl) rfl rfl) rfl ?_
      have m36 := (x34).isLt
      refine XW.rs 6 rfl (by kernel_rfl) rfl (RV.mul rfl rfl (by omega)) rfl ?_
      refine XW.slot (.int .i64 (((256 * x34.toNat) : Nat) : Int)) (by first | rfl | (congr 1) | (congr 1; omega)) ?_
      refine XW.rs 7 rfl (by kernel_rfl) rfl (RV.move rfl) rfl ?_
      refine XW.rs 8 rfl (by kernel_rfl) rfl (RV.mul rfl rfl (by omega)) rfl ?_
      refine XW.slot (.int .i64 (((2 * n22) : Nat) : Int)) (by first | rfl | (congr 1) | (congr 1; omega)) ?_
      refine XW.rs 9 rfl (by kernel_rfl) rfl (RV.add rfl rfl (by omega)) rfl ?_
      refine XW.slot (.int .i64 ((((2 * n22) + 1) : Nat) : Int)) (by first | rfl | (congr 1) | (congr 1; omega)) ?_
      obtain ⟨g37, hl26⟩ := some_if hl26
      refine XW.rs 10 rfl (by kernel_rfl) rfl (RV.idx_a (((2 * n22) + 1)) rfl rfl rfl rfl rfl (by omega)) rfl ?_
      obtain ⟨x38, hx39, hl26⟩ := some_bind hl26
      refine XW.rs 11 rfl (by kernel_rfl) rfl (RV.load rfl (List.Mem.head _) rfl rfl rfl (by rw [Nat.zero_add]; exact u8s_at (vat hx39))) rfl ?_
      refine XW.rs 12 rfl (by kernel_rfl) rfl (RV.conv8_i rfl (by first | rfl | exact lit8 _ rfl) rfl rfl) rfl ?_
      have m40 := (x38).isLt
      refine XW.rs 13 rfl (by kernel_rfl) rfl (RV.add rfl rfl (by omega)) rfl ?_
      refine XW.slot (.int .i64 ((((256 * x34.toNat) + x38.toNat) : Nat) : Int)) (by first | rfl | (congr 1) | (congr 1; omega)) ?_
      refine XW.rs 14 rfl (by kernel_rfl) rfl (RV.rem rfl rfl (by omega) (by omega)) rfl ?_
      refine XW.slot (.int .i64 ((((256 * x34.toNat) + x38.toNat) % 2048 : Nat) : Int)) (by first | rfl | (congr 1; omega)) ?_
      refine XW.rs 15 rfl (by kernel_rfl) rfl (RV.idx_a (n22) rfl rfl rfl rfl rfl (by omega)) rfl ?_
      refine XW.sv 16 rfl (by kernel_rfl) (SV.store rfl rfl rfl rfl rfl (by rw [i64s_length, Vector.length_toList]; omega)) (fun w m => m.pick [1, 2] 3 rfl rfl) ?_
      refine XW.cells (i64s (w24.setIfInBounds n22 ((((256 * x34.toNat) + x38.toNat) % 2048 : Nat) : Int)).toList) (by rw [Nat.zero_add, i64s_set, vset]) ?_
      refine XW.nil (by kernel_rfl) ?_
      refine QW.block_n ?_
      refine QW.then_n ?_
      refine CW.region ?_
      refine OW.rv (RV.move rfl) rfl ?_
      refine OW.rv (RV.add rfl rfl (by omega)) rfl ?_
      refine OW.slot (.int .i64 (((n22 + 1) : Nat) : Int)) (by first | rfl | (congr 1) | (congr 1; omega)) ?_
      refine OW.rv (RV.assign rfl) rfl ?_
      refine OW.nil ?_
      exact QW.againJ (k' := k25) (Nat.lt_succ_self _) ⟨(n22 + 1), (w24.setIfInBounds n22 ((((256 * x34.toNat) + x38.toNat) % 2048 : Nat) : Int)), hl26, (by omega), rfl, rfl⟩ ⟨rfl, rfl, rfl, rfl, trivial⟩ (fun w m => m.pick [0, 1, 2] 3 rfl rfl)
    · replace hl26 := if_f hl26 h32
      refine CW.is_f rfl (decide_eq_false h32) ?_
      refine CW.exit ?_
      refine QW.then_x ?_
      refine QW.then_x ?_
      refine QW.block_xe ?_
      exact QW.join ⟨w24, (Option.some.inj hl26).symm, rfl, rfl⟩ ⟨rfl, rfl, trivial⟩ (fun w m => m.pick [0, 2] 3 rfl rfl)

theorem waybillref10_set_does (w0 : World) (Φ : Ctx) (N : List Ent) (hΦ : ∀ w, Mem w0 w N → Φ w) (a0 : Vector (BitVec 8) 256) (a1 : Int) (res0 : Vector (BitVec 8) 256) (ba1 : -9223372036854775808 ≤ a1 ∧ a1 ≤ 9223372036854775807) (hf : waybillref10_set a0 a1 = some res0) : DoesG Tryd.prog 30 [.agg (u8s a0.toList).toArray, .int .i64 a1] w0 [] N (fun v G => v = .agg (u8s res0.toList).toArray) := by
  unfold waybillref10_set at hf
  refine DoesG.enter Tryd.func30 rfl Tryd.ntmps30 rfl (M := (([] ++ N))) rfl ?_
  refine CW.seq ?_
  refine CW.region ?_
  refine OW.boxA rfl rfl (fun b1 => ?_)
  refine OW.alloc (l := (u8s (Vector.replicate 256 0#8).toList)) rfl (by rw [Vector.toList_replicate, ← u8s_rep']; rfl) rfl (fun b2 => ?_)
  refine OW.nil ?_
  refine QW.then_n ?_
  refine CW.seq ?_
  refine CW.region ?_
  refine OW.rv (RV.move rfl) rfl ?_
  obtain ⟨g3, hf⟩ := some_if hf
  refine OW.rv (RV.quo rfl rfl (by omega) (by omega) (by omega)) rfl ?_
  refine OW.slot (.int .i64 (((a1).toNat / 8 : Nat) : Int)) (by first | rfl | (congr 1; omega)) ?_
  refine OW.rv (RV.sub rfl rfl (by omega)) rfl ?_
  refine OW.rv (RV.move rfl) rfl ?_
  refine OW.rv (RV.quo rfl rfl (by omega) (by omega) (by omega)) rfl ?_
  refine OW.slot (.int .i64 (((a1).toNat / 8 : Nat) : Int)) (by first | rfl | (congr 1; omega)) ?_
  refine OW.rv (RV.sub rfl rfl (by omega)) rfl ?_
  obtain ⟨g4, hf⟩ := some_if hf
  obtain ⟨g5, hf⟩ := some_if hf
  refine OW.rv (RV.idx_a ((((255 : Int) - (((a1).toNat / 8 : Nat) : Int))).toNat) rfl rfl (by omega) rfl rfl (by omega)) rfl ?_
  obtain ⟨x6, hx7, hf⟩ := some_bind hf
  refine OW.rv (RV.load rfl (List.Mem.tail _ (List.Mem.head _)) rfl rfl rfl (by rw [Nat.zero_add]; exact u8s_at (vat hx7))) rfl ?_
  refine OW.rv (RV.move rfl) rfl ?_
  refine OW.rv (RV.rem rfl rfl (by omega) (by omega)) rfl ?_
  refine OW.slot (.int .i64 (((a1).toNat % 8 : Nat) : Int)) (by first | rfl | (congr 1; omega)) ?_
  refine OW.rv (RV.conv_i64 rfl rfl rfl) rfl ?_
  refine OW.slot (U64 (BitVec.ofNat 64 ((a1).toNat % 8))) (congrArg U64 (BitVec.ofInt_natCast ..)) ?_
  refine OW.rv (RV.shl8 (s := (BitVec.ofNat 64 ((a1).toNat % 8)).toNat) rfl (by first | rfl | exact lit8 _ rfl) rfl (by first | rfl | (simp [U64]; done))) rfl ?_
  refine OW.rv (RV.or8 rfl (by first | rfl | exact lit8 _ rfl) rfl (by first | rfl | exact lit8 _ rfl)) rfl ?_
  refine OW.rv (RV.idx_a ((((255 : Int) - (((a1).toNat / 8 : Nat) : Int))).toNat) rfl rfl (by omega) rfl rfl (by omega)) rfl ?_
  refine OW.rot1 ?_
  refine OW.sv (SV.store rfl rfl rfl rfl rfl (by rw [u8s_length, Vector.length_toList]; omega)) ?_
  refine OW.cells (u8s (a0.setIfInBounds ((((255 : Int) - (((a1).toNat / 8 : Nat) : Int))).toNat) (x6 ||| (1#8 <<< (BitVec.ofNat 64 ((a1).toNat % 8)).toNat))).toList) (by rw [Nat.zero_add, u8s_set', vset]) ?_
  refine OW.nil ?_
  refine QW.then_n ?_
  refine CW.seq ?_
  refine CW.region ?_
  refine OW.rv (RV.loadW rfl (List.Mem.head _) rfl rfl rfl rfl ((u8s_length _).trans Vector.length_toList)) rfl ?_
  refine OW.rot1 ?_
  refine OW.sv (SV.storeW rfl rfl rfl (u8s_one _) rfl ((u8s_length _).trans Vector.length_toList) ((u8s_length _).trans Vector.length_toList)) ?_
  refine OW.nil ?_
  refine QW.then_n ?_
  refine CW.ret ?_
  have e0 := Option.some.inj hf
  subst e0
  refine QW.retG (rs := [.cell 4 25]) ([.agg (u8s (a0.setIfInBounds ((((255 : Int) - (((a1).toNat / 8 : Nat) : Int))).toNat) (x6 ||| (1#8 <<< (BitVec.ofNat 64 ((a1).toNat % 8)).toNat))).toList).toArray]) ((some b2, blk (u8s (a0.setIfInBounds ((((255 : Int) - (((a1).toNat / 8 : Nat) : Int))).toNat) (x6 ||| (1#8 <<< (BitVec.ofNat 64 ((a1).toNat % 8)).toNat))).toList) 25) :: (some b1, blk (u8s (a0.setIfInBounds ((((255 : Int) - (((a1).toNat / 8 : Nat) : Int))).toNat) (x6 ||| (1#8 <<< (BitVec.ofNat 64 ((a1).toNat % 8)).toNat))).toList) 25) :: []) rfl ?_ rfl ?_ ?_ _ (.inl rfl)
  · exact ⟨⟨_, _, _, _, rfl, (List.Mem.head _), rfl, rfl, (congrArg some ((u8s_length _).trans Vector.length_toList).symm), rfl⟩, trivial⟩
  · exact rfl
  · exact (fun w m => m)

theorem waybillref10_Add_does (w0 : World) (Φ : Ctx) (N : List Ent) (hΦ : ∀ w, Mem w0 w N → Φ w) (a0 : Vector (BitVec 8) 256) (A1_ : Option Addr) (c1_ : Nat) (a1 : List (BitVec 8)) (res0 : Vector (BitVec 8) 256) (va1 : View Φ A1_ a1.length c1_ 1 (u8s a1)) (hTn : ∀ i, i < 25 → w0.cell? ⟨2, i, none⟩ = some (.int .i64 (turnsL.getD i 0))) (hRn : ∀ i, i < 24 → w0.cell? ⟨1, i, none⟩ = some (U64 (g64 roundsL i))) (hf : waybillref10_Add a0 a1 = some res0) : DoesG Tryd.prog 16 [.agg (u8s a0.toList).toArray, .slice A1_ a1.length c1_] w0 [] N (fun v G => v = .agg (u8s res0.toList).toArray) := by
  unfold waybillref10_Add at hf
  replace va1 := va1.mono (Ψ := More w0 Φ []) (fun w q => q.1)
  have m1 := va1.mx
  refine DoesG.enter Tryd.func16 rfl Tryd.ntmps16 rfl (M := (([] ++ N))) rfl ?_
  refine CW.seq ?_
  refine CW.region ?_
  refine OW.boxA rfl rfl (fun b2 => ?_)
  refine OW.alloc (l := (u8s (Vector.replicate 256 0#8).toList)) rfl (by rw [Vector.toList_replicate, ← u8s_rep']; rfl) rfl (fun b3 => ?_)
  refine OW.nil ?_
  refine QW.then_n ?_
  refine CW.seq ?_
  refine CW.region ?_
  refine OW.rv (RV.move rfl) rfl ?_
  obtain ⟨x5, hx4, hf⟩ := some_bind hf
  refine OW.callG Tryd.call14 rfl (waybillref10_Places_does w0 (More w0 Φ []) ((some b3, blk (u8s (Vector.replicate 256 0#8).toList) 25) :: (some b2, blk (u8s a0.toList) 25) :: ([] ++ N)) (fun w m => More.of hΦ 2 m rfl) A1_ c1_ a1 x5 va1 hTn hRn hx4) rfl rfl ?_
  rintro _ G6 rfl
  refine OW.mem (M' := ((some b3, blk (u8s (Vector.replicate 256 0#8).toList) 25) :: (some b2, blk (u8s a0.toList) 25) :: ([] ++ N))) (fun w m => m.appR) ?_
  refine OW.alloc (l := (i64s (Vector.replicate 3 0).toList)) rfl (by rw [Vector.toList_replicate, ← i64s_rep]; rfl) rfl (fun b8 => ?_)
  refine OW.sv (SV.storeW rfl rfl rfl (i64s_one _) rfl ((i64s_length _).trans Vector.length_toList) ((i64s_length _).trans Vector.length_toList)) ?_
  refine OW.nil ?_
  refine QW.then_n ?_
  refine CW.seq ?_
  refine CW.drawsX ((some b8, blk (i64s x5.toList) 32) :: (some b2, blk (u8s a0.toList) 25) :: ([] ++ N)) [10] (fun w m => m.pick [0, 2] 3 rfl rfl) mixed (by kernel_rfl) ?_
  refine XW.rs 0 rfl (by kernel_rfl) rfl (RV.loadW rfl (List.Mem.tail _ (List.Mem.head _)) rfl rfl rfl rfl ((u8s_length _).trans Vector.length_toList)) rfl ?_
  refine XW.rs 1 rfl (by kernel_rfl) rfl (RV.idx_a (0) rfl rfl rfl rfl rfl (by omega)) rfl ?_
  refine XW.rs 2 rfl (by kernel_rfl) rfl (RV.load rfl (List.Mem.head _) rfl rfl rfl (i64s_at (vat' (by decide)))) rfl ?_
  refine XW.rs 4 rfl (by kernel_rfl) rfl (RV.idx_a (1) rfl rfl rfl rfl rfl (by omega)) rfl ?_
  refine XW.rs 5 rfl (by kernel_rfl) rfl (RV.load rfl (List.Mem.head _) rfl rfl rfl (i64s_at (vat' (by decide)))) rfl ?_
  refine XW.rs 7 rfl (by kernel_rfl) rfl (RV.idx_a (2) rfl rfl rfl rfl rfl (by omega)) rfl ?_
  refine XW.rs 8 rfl (by kernel_rfl) rfl (RV.load rfl (List.Mem.head _) rfl rfl rfl (i64s_at (vat' (by decide)))) rfl ?_
  obtain ⟨g9, hf⟩ := some_if hf
  obtain ⟨x11, hx10, hf⟩ := some_bind hf
  refine XW.callG 3 rfl (by kernel_rfl) rfl Tryd.call30 rfl (fun N' hN' => waybillref10_set_does w0 (More w0 Φ []) N' (fun w m => More.of hΦ 3 (hN' w m) rfl) a0 (x5[0]) x11 (by omega) hx10) rfl ?_
  rintro _ G12 rfl
  refine XW.mem (M' := ((some b8, blk (i64s x5.toList) 32) :: (some b3, blk (u8s (Vector.replicate 256 0#8).toList) 25) :: (some b2, blk (u8s a0.toList) 25) :: ([] ++ N))) (fun w m => m.appR) (fun w m => m.pick [0, 2] 3 rfl rfl) ?_
  obtain ⟨g14, hf⟩ := some_if hf
  obtain ⟨x16, hx15, hf⟩ := some_bind hf
  refine XW.callG 6 rfl (by kernel_rfl) rfl Tryd.call30 rfl (fun N' hN' => waybillref10_set_does w0 (More w0 Φ []) N' (fun w m => More.of hΦ 3 (hN' w m) rfl) x11 (x5[1]) x16 (by omega) hx15) rfl ?_
  rintro _ G17 rfl
  refine XW.mem (M' := ((some b8, blk (i64s x5.toList) 32) :: (some b3, blk (u8s (Vector.replicate 256 0#8).toList) 25) :: (some b2, blk (u8s a0.toList) 25) :: ([] ++ N))) (fun w m => m.appR) (fun w m => m.pick [0, 2] 3 rfl rfl) ?_
  obtain ⟨g19, hf⟩ := some_if hf
  obtain ⟨x21, hx20, hf⟩ := some_bind hf
  refine XW.callG 9 rfl (by kernel_rfl) rfl Tryd.call30 rfl (fun N' hN' => waybillref10_set_does w0 (More w0 Φ []) N' (fun w m => More.of hΦ 3 (hN' w m) rfl) x16 (x5[2]) x21 (by omega) hx20) rfl ?_
  rintro _ G22 rfl
  refine XW.mem (M' := ((some b8, blk (i64s x5.toList) 32) :: (some b3, blk (u8s (Vector.replicate 256 0#8).toList) 25) :: (some b2, blk (u8s a0.toList) 25) :: ([] ++ N))) (fun w m => m.appR) (fun w m => m.pick [0, 2] 3 rfl rfl) ?_
  refine XW.mem (M' := ((some b3, blk (u8s (Vector.replicate 256 0#8).toList) 25) :: (some b8, blk (i64s x5.toList) 32) :: (some b2, blk (u8s a0.toList) 25) :: ([] ++ N))) (fun w m => m.pick [1, 0] 2 rfl rfl) (fun w m => m.pick [1, 2] 3 rfl rfl) ?_
  refine XW.sv 10 rfl (by kernel_rfl) (SV.storeW rfl rfl rfl (u8s_one _) rfl ((u8s_length _).trans Vector.length_toList) ((u8s_length _).trans Vector.length_toList)) (fun w m => m.pick [1, 2] 3 rfl rfl) ?_
  refine XW.nil (by kernel_rfl) ?_
  refine QW.then_n ?_
  refine CW.ret ?_
  have e0 := Option.some.inj hf
  subst e0
  refine QW.retG (rs := [.cell 4 25]) ([.agg (u8s x21.toList).toArray]) ((some b3, blk (u8s x21.toList) 25) :: (some b8, blk (i64s x5.toList) 32) :: (some b2, blk (u8s a0.toList) 25) :: []) rfl ?_ rfl ?_ ?_ _ (.inl rfl)
  · exact ⟨⟨_, _, _, _, rfl, (List.Mem.head _), rfl, rfl, (congrArg some ((u8s_length _).trans Vector.length_toList).symm), rfl⟩, trivial⟩
  · exact rfl
  · exact (fun w m => m)

theorem waybillref10_Of_does (w0 : World) (Φ : Ctx) (N : List Ent) (hΦ : ∀ w, Mem w0 w N → Φ w) (A0_ : Option Addr) (c0_ : Nat) (cs0_ : List Value) (a0 : List (List (BitVec 8))) (res0 : Vector (BitVec 8) 256) (va0 : View Φ A0_ a0.length c0_ 1 cs0_) (ha0 : Reps (BsRd Φ) cs0_ a0) (hTn : ∀ i, i < 25 → w0.cell? ⟨2, i, none⟩ = some (.int .i64 (turnsL.getD i 0))) (hRn : ∀ i, i < 24 → w0.cell? ⟨1, i, none⟩ = some (U64 (g64 roundsL i))) (hf : waybillref10_Of a0 = some res0) : DoesG Tryd.prog 10 [.slice A0_ a0.length c0_] w0 [] N (fun v G => v = .agg (u8s res0.toList).toArray) := by
  unfold waybillref10_Of at hf
  replace va0 := va0.mono (Ψ := More w0 Φ []) (fun w q => q.1)
  replace ha0 := ha0.mono (BsRd.mono (Ψ := More w0 Φ []) (fun w q => q.1))
  have m1 := va0.mx
  refine DoesG.enter Tryd.func10 rfl Tryd.ntmps10 rfl (M := (([] ++ N))) rfl ?_
  refine CW.seq ?_
  refine CW.region ?_
  refine OW.alloc (l := (u8s (Vector.replicate 256 0#8).toList)) rfl (by rw [Vector.toList_replicate, ← u8s_rep']; rfl) rfl (fun b2 => ?_)
  refine OW.nil ?_
  refine QW.then_n ?_
  refine CW.seq ?_
  refine CW.region ?_
  refine OW.alloc (l := (u8s (Vector.replicate 256 0#8).toList)) rfl (by rw [Vector.toList_replicate, ← u8s_rep']; rfl) rfl (fun b3 => ?_)
  refine OW.nil ?_
  refine QW.then_n ?_
  refine CW.seq ?_
  refine CW.seq ?_
  refine CW.region ?_
  refine OW.rv (RV.assign rfl) rfl ?_
  refine OW.nil ?_
  refine QW.then_n ?_
  obtain ⟨q4, hq5, hf⟩ := some_bind hf
  refine CW.cutJ (fun L' M' => ∃ w6 : Vector (BitVec 8) 256, q4 = w6 ∧ L' = [(2, ptr (some b2) 0), (3, ptr (some b3) 0)] ∧ M' = ((some b3, blk (u8s w6.toList) 25) :: (some b2, blk (u8s (Vector.replicate 256 0#8).toList) 25) :: ([] ++ N))) ?_ ?_
  · rintro L8 M9 ⟨w6, e7, e10, e11⟩
    rw [e10, e11]
    clear e10 e11 L8 M9
    clear hq5
    rw [e7] at hf
    clear e7
    try dsimp only at hf
    refine QW.then_n ?_
    refine CW.seq ?_
    refine CW.region ?_
    refine OW.rv (RV.loadW rfl (List.Mem.head _) rfl rfl rfl rfl ((u8s_length _).trans Vector.length_toList)) rfl ?_
    refine OW.rot1 ?_
    refine OW.sv (SV.storeW rfl rfl rfl (u8s_one _) rfl ((u8s_length _).trans Vector.length_toList) ((u8s_length _).trans Vector.length_toList)) ?_
    refine OW.nil ?_
    refine QW.then_n ?_
    refine CW.ret ?_
    have e0 := Option.some.inj hf
    subst e0
    refine QW.retG (rs := [.cell 2 25]) ([.agg (u8s w6.toList).toArray]) ((some b2, blk (u8s w6.toList) 25) :: (some b3, blk (u8s w6.toList) 25) :: []) rfl ?_ rfl ?_ ?_ _ (.inl rfl)
    · exact ⟨⟨_, _, _, _, rfl, (List.Mem.head _), rfl, rfl, (congrArg some ((u8s_length _).trans Vector.length_toList).symm), rfl⟩, trivial⟩
    · exact rfl
    · exact (fun w m => m)
  · skip
    refine CW.block ?_
    refine CW.loopJ (fun k L' M' => ∃ n12 : Nat, ∃ w14 : Vector (BitVec 8) 256, (waybillref10_Of.l1 a0 k n12 w14) = some q4 ∧ (n12 ≤ 9223372036854775807) ∧ L' = [(0, .slice A0_ a0.length c0_), (2, ptr (some b2) 0), (3, ptr (some b3) 0), (4, .int .i64 ((n12 : Nat) : Int))] ∧ M' = ((some b3, blk (u8s w14.toList) 25) :: (some b2, blk (u8s (Vector.replicate 256 0#8).toList) 25) :: ([] ++ N))) (k0 := (a0.length - 0 + 2)) ⟨0, (Vector.replicate 256 0#8), hq5, (by omega), rfl, rfl⟩ ⟨rfl, rfl, rfl, rfl, trivial⟩ (fun w m => m.pick [0, 1] 2 rfl rfl) ?_
    clear hq5
    rintro k15 L18 M19 ⟨n12, w14, hl16, b13, e20, e21⟩
    rw [e20, e21]
    clear e20 e21 L18 M19
    rcases k15 with _ | k15
    · rw [waybillref10_Of.l1] at hl16; cases hl16
    rw [waybillref10_Of.l1] at hl16
    refine CW.seq ?_
    refine CW.seq ?_
    refine CW.region ?_
    refine OW.rv (RV.move rfl) rfl ?_
    refine OW.rv (RV.move rfl) rfl ?_
    refine OW.rv (RV.len rfl rfl) rfl ?_
    refine OW.rv (RV.lss rfl rfl) rfl ?_
    refine OW.slot (.bool (decide (n12 < a0.length))) (congrArg Value.bool (decide_eq_decide.2 (by omega))) ?_
    refine OW.nil ?_
    refine QW.then_n ?_
    by_cases h22 : n12 < a0.length
    · replace hl16 := if_t hl16 h22
      refine CW.is_t rfl (decide_eq_true h22) ?_
      refine CW.skip ?_
      refine QW.then_n ?_
      refine CW.seq ?_
      refine CW.block ?_
      refine CW.drawsX ((some b2, blk (u8s (Vector.replicate 256 0#8).toList) 25) :: ([] ++ N)) [6] (fun w m => m.pick [1] 2 rfl rfl) mixed (by kernel_rfl) ?_
      refine XW.rv 0 rfl (by kernel_rfl) rfl (by kernel_rfl) (RV.loadW rfl (List.Mem.head _) rfl rfl rfl rfl ((u8s_length _).trans Vector.length_toList)) rfl ?_
      refine XW.rs 1 rfl (by kernel_rfl) rfl (RV.move rfl) rfl ?_
      refine XW.rs 2 rfl (by kernel_rfl) rfl (RV.move rfl) rfl ?_
      obtain ⟨x23, hx24, hl16⟩ := some_bind hl16
      have hl25 := lt_of_at hx24
      refine XW.rs 3 rfl (by kernel_rfl) rfl (RV.idx_r (n12) rfl rfl rfl rfl rfl (va0.isSome (by decide) hl25) (by omega)) rfl ?_
      obtain ⟨cs26, h27, h28⟩ := ha0.get BsRd.len hx24
      obtain ⟨A29, c30, e32, v31⟩ := h27
      subst e32
      have m33 := v31.mx
      refine XW.rs 4 rfl (by kernel_rfl) rfl (RV.load_at rfl rfl rfl (fun w m => by have := va0.load (More.of hΦ 1 m rfl) h28 0 _ rfl; simpa [Addr.add] using this)) rfl ?_
      obtain ⟨x35, hx34, hl16⟩ := some_bind hl16
      refine XW.callG 5 rfl (by kernel_rfl) rfl Tryd.call16 rfl (fun N' hN' => waybillref10_Add_does w0 (More w0 Φ []) N' (fun w m => More.of hΦ 2 (hN' w m) rfl) w14 A29 c30 x23 x35 v31 hTn hRn hx34) rfl ?_
      rintro _ G36 rfl
      refine XW.mem (M' := ((some b3, blk (u8s w14.toList) 25) :: (some b2, blk (u8s (Vector.replicate 256 0#8).toList) 25) :: ([] ++ N))) (fun w m => m.appR) (fun w m => m.pick [1] 2 rfl rfl) ?_
      refine XW.sv 6 rfl (by kernel_rfl) (SV.storeW rfl rfl rfl (u8s_one _) rfl ((u8s_length _).trans Vector.length_toList) ((u8s_length _).trans Vector.length_toList)) (fun w m => m.pick [1] 2 rfl rfl) ?_
      refine XW.nil (by kernel_rfl) ?_
      refine QW.block_n ?_
      refine QW.then_n ?_
      refine CW.region ?_
      refine OW.rv (RV.move rfl) rfl ?_
      refine OW.rv (RV.add rfl rfl (by omega)) rfl ?_
      refine OW.slot (.int .i64 (((n12 + 1) : Nat) : Int)) (by first | rfl | (congr 1) | (congr 1; omega)) ?_
      refine OW.rv (RV.assign rfl) rfl ?_
      refine OW.nil ?_
      exact QW.againJ (k' := k15) (Nat.lt_succ_self _) ⟨(n12 + 1), x35, hl16, (by omega), rfl, rfl⟩ ⟨rfl, rfl, rfl, rfl, trivial⟩ (fun w m => m.pick [0, 1] 2 rfl rfl)
    · replace hl16 := if_f hl16 h22
      refine CW.is_f rfl (decide_eq_false h22) ?_
      refine CW.exit ?_
      refine QW.then_x ?_
      refine QW.then_x ?_
      refine QW.block_xe ?_
      exact QW.join ⟨w14, (Option.some.inj hl16).symm, rfl, rfl⟩ ⟨rfl, rfl, trivial⟩ (fun w m => m.pick [0, 1] 2 rfl rfl)

theorem waybilllaw10_roomyAll_does (w0 : World) (Φ : Ctx) (N : List Ent) (hΦ : ∀ w, Mem w0 w N → Φ w) (A0_ : Option Addr) (c0_ : Nat) (cs0_ : List Value) (a0 : List (List (BitVec 8))) (res0 : List (List (BitVec 8))) (va0 : View Φ A0_ a0.length c0_ 1 cs0_) (ha0 : Reps (BsRd Φ) cs0_ a0) (hf : waybilllaw10_roomyAll a0 = some res0) : DoesG Tryd.prog 8 [.slice A0_ a0.length c0_] w0 [] N (fun v G => ∃ B : List Ent, ∃ Ar0 : Option Addr, ∃ kr0 : Nat, (Rooms (More w0 Φ B) Ar0 kr0 res0) ∧ v = .slice Ar0 res0.length kr0 ∧ G = B) := by
  unfold waybilllaw10_roomyAll at hf
  replace va0 := va0.mono (Ψ := More w0 Φ []) (fun w q => q.1)
  replace ha0 := ha0.mono (BsRd.mono (Ψ := More w0 Φ []) (fun w q => q.1))
  have m1 := va0.mx
  refine DoesG.enter Tryd.func8 rfl Tryd.ntmps8 rfl (M := (([] ++ N))) rfl ?_
  refine CW.seq ?_
  refine CW.region ?_
  refine OW.rv (RV.assign rfl) rfl ?_
  refine OW.nil ?_
  refine QW.then_n ?_
  refine CW.seq ?_
  refine CW.region ?_
  refine OW.rv (RV.assign rfl) rfl ?_
  refine OW.nil ?_
  refine QW.then_n ?_
  refine CW.seq ?_
  refine CW.seq ?_
  refine CW.region ?_
  refine OW.rv (RV.assign rfl) rfl ?_
  refine OW.nil ?_
  refine QW.then_n ?_
  obtain ⟨q2, hq3, hf⟩ := some_bind hf
  refine CW.cutJ (fun L' M' => ∃ l6 : List (List (BitVec 8)), ∃ B4 : List Ent, ∃ cs7 : List Value, ∃ ob9 : Option Nat, ∃ c10 : Nat, ∃ r11 : List Value, q2 = l6 ∧ (∀ w, Mem w0 w B4 → Mem w0 w []) ∧ (Reps (RmRd (More w0 Φ B4)) cs7 l6) ∧ (OwnS ob9 l6.length c10 1 cs7 r11) ∧ L' = [(0, .slice A0_ a0.length c0_), (3, sl ob9 0 l6.length c10)] ∧ M' = ((ob9, blk (cs7 ++ r11) 30) :: (B4 ++ N))) ?_ ?_
  · rintro L14 M15 ⟨l6, B4, cs7, ob9, c10, r11, e13, hB5, h8, o12, e16, e17⟩
    rw [e16, e17]
    clear e16 e17 L14 M15
    clear hq3
    rw [e13] at hf
    clear e13
    try dsimp only at hf
    replace va0 := va0.mono (Ψ := More w0 Φ B4) (fun w q => More.mono (fun w m => hB5 w (m)) q)
    replace ha0 := ha0.mono (BsRd.mono (Ψ := More w0 Φ B4) (fun w q => More.mono (fun w m => hB5 w (m)) q))
    have m18 := o12.mx
    refine QW.then_n ?_
    refine CW.seq ?_
    refine CW.region ?_
    refine OW.rv (RV.move rfl) rfl ?_
    refine OW.ofN (NV.bs1 rfl rfl rfl rfl rfl rfl) rfl (fun b19 => ?_)
    refine OW.mem (M' := (((some b19), blk ((u8s ([164#8] : List (BitVec 8))) ++ []) 5) :: (ob9, blk (cs7 ++ r11) 30) :: (B4 ++ N))) (fun w m => by first | exact m | simpa [u8s] using m) ?_
    have o20 : OwnS (some b19) ([164#8] : List (BitVec 8)).length 1 1 (u8s ([164#8] : List (BitVec 8))) [] := ⟨by simp [u8s], by simp [u8s], (fun h => nomatch h), by simp⟩
    refine OW.slot (sl (some b19) 0 ([164#8] : List (BitVec 8)).length 1) (rfl) ?_
    refine OW.mem (M' := (ob9, blk (cs7 ++ r11) 30) :: ((((some b19), blk ((u8s ([164#8] : List (BitVec 8))) ++ []) 5) :: B4) ++ N)) (fun w m => m.pick [1, 0] 2 rfl rfl) ?_
    replace va0 := va0.mono (Ψ := More w0 Φ (((some b19), blk ((u8s ([164#8] : List (BitVec 8))) ++ []) 5) :: B4)) (fun w q => More.mono (fun w m => (m).tail) q)
    replace ha0 := ha0.mono (BsRd.mono (Ψ := More w0 Φ (((some b19), blk ((u8s ([164#8] : List (BitVec 8))) ++ []) 5) :: B4)) (fun w q => More.mono (fun w m => (m).tail) q))
    replace h8 := h8.mono (RmRd.mono (Ψ := More w0 Φ (((some b19), blk ((u8s ([164#8] : List (BitVec 8))) ++ []) 5) :: B4)) (fun w q => More.mono (fun w m => (m).tail) q))
    have v23 : View (More w0 Φ (((some b19), blk ((u8s ([164#8] : List (BitVec 8))) ++ []) 5) :: B4)) (((some b19)).map fun k => ⟨k, 0, none⟩) ([164#8] : List (BitVec 8)).length 1 1 (u8s ([164#8] : List (BitVec 8))) := o20.view (by decide) (fun w q => q.2.sublist (List.singleton_sublist.2 (List.mem_cons_self ..)))
    refine OW.ofN (NV.bs1 rfl rfl rfl rfl rfl rfl) rfl (fun b21 => ?_)
    have h25 : Reps (BsRd (More w0 Φ (((some b19), blk ((u8s ([164#8] : List (BitVec 8))) ++ []) 5) :: B4))) (([.slice (((some b19)).map fun k => ⟨k, 0, none⟩) ([164#8] : List (BitVec 8)).length 1] : List Value)) [([164#8] : List (BitVec 8))] := Reps.one (BsRd.mk v23)
    refine OW.mem (M' := (((some b21), blk ((([.slice (((some b19)).map fun k => ⟨k, 0, none⟩) ([164#8] : List (BitVec 8)).length 1] : List Value)) ++ []) 30) :: (ob9, blk (cs7 ++ r11) 30) :: ((((some b19), blk ((u8s ([164#8] : List (BitVec 8))) ++ []) 5) :: B4) ++ N))) (fun w m => m) ?_
    have o22 : OwnS (some b21) ([([164#8] : List (BitVec 8))] : List (List (BitVec 8))).length 1 1 (([.slice (((some b19)).map fun k => ⟨k, 0, none⟩) ([164#8] : List (BitVec 8)).length 1] : List Value)) [] := ⟨by simp [BsRd], by simp [BsRd], (fun h => nomatch h), by simp⟩
    refine OW.slot (sl (some b21) 0 ([([164#8] : List (BitVec 8))] : List (List (BitVec 8))).length 1) (rfl) ?_
    refine OW.rot1 ?_
    obtain ⟨g26, hf⟩ := some_if hf
    have h31 := (h8.mono RmRd.bs).app h25
    refine OW.appendOwn (s := 1) rfl rfl rfl rfl rfl rfl o12 (fun w m => m.rd0 (List.Mem.tail _ (List.Mem.head _)) (fun e => o22.nilc (by decide) e)) o22.n (h25.cell1 BsRd.one) (o22.zeroO (by decide)) (by decide) (by decide) (by first | omega | (simp only [i30, List.length_nil]; omega)) rfl rfl ((l6 ++ ([([164#8] : List (BitVec 8))] : List (List (BitVec 8)))).length) (cs7 ++ (([.slice (((some b19)).map fun k => ⟨k, 0, none⟩) ([164#8] : List (BitVec 8)).length 1] : List Value))) (List.length_append ..).symm rfl (fun ob27 r28 c29 o30 => ?_)
    have m32 := o30.mx
    refine OW.rv (RV.move rfl) rfl ?_
    refine OW.rv (RV.len rfl rfl) rfl ?_
    refine OW.mem (M' := ((some b21), blk ((([.slice (((some b19)).map fun k => ⟨k, 0, none⟩) ([164#8] : List (BitVec 8)).length 1] : List Value)) ++ []) 30) :: (((ob27, blk ((cs7 ++ (([.slice (((some b19)).map fun k => ⟨k, 0, none⟩) ([164#8] : List (BitVec 8)).length 1] : List Value))) ++ r28) 30) :: (((some b19), blk ((u8s ([164#8] : List (BitVec 8))) ++ []) 5) :: B4)) ++ N)) (fun w m => m.pick [1, 0] 2 rfl rfl) ?_
    replace va0 := va0.mono (Ψ := More w0 Φ ((ob27, blk ((cs7 ++ (([.slice (((some b19)).map fun k => ⟨k, 0, none⟩) ([164#8] : List (BitVec 8)).length 1] : List Value))) ++ r28) 30) :: (((some b19), blk ((u8s ([164#8] : List (BitVec 8))) ++ []) 5) :: B4))) (fun w q => More.mono (fun w m => (m).tail) q)
    replace ha0 := ha0.mono (BsRd.mono (Ψ := More w0 Φ ((ob27, blk ((cs7 ++ (([.slice (((some b19)).map fun k => ⟨k, 0, none⟩) ([164#8] : List (BitVec 8)).length 1] : List Value))) ++ r28) 30) :: (((some b19), blk ((u8s ([164#8] : List (BitVec 8))) ++ []) 5) :: B4))) (fun w q => More.mono (fun w m => (m).tail) q))
    replace h8 := h8.mono (RmRd.mono (Ψ := More w0 Φ ((ob27, blk ((cs7 ++ (([.slice (((some b19)).map fun k => ⟨k, 0, none⟩) ([164#8] : List (BitVec 8)).length 1] : List Value))) ++ r28) 30) :: (((some b19), blk ((u8s ([164#8] : List (BitVec 8))) ++ []) 5) :: B4))) (fun w q => More.mono (fun w m => (m).tail) q))
    replace v23 := v23.mono (Ψ := More w0 Φ ((ob27, blk ((cs7 ++ (([.slice (((some b19)).map fun k => ⟨k, 0, none⟩) ([164#8] : List (BitVec 8)).length 1] : List Value))) ++ r28) 30) :: (((some b19), blk ((u8s ([164#8] : List (BitVec 8))) ++ []) 5) :: B4))) (fun w q => More.mono (fun w m => (m).tail) q)
    replace h25 := h25.mono (BsRd.mono (Ψ := More w0 Φ ((ob27, blk ((cs7 ++ (([.slice (((some b19)).map fun k => ⟨k, 0, none⟩) ([164#8] : List (BitVec 8)).length 1] : List Value))) ++ r28) 30) :: (((some b19), blk ((u8s ([164#8] : List (BitVec 8))) ++ []) 5) :: B4))) (fun w q => More.mono (fun w m => (m).tail) q))
    replace h31 := h31.mono (BsRd.mono (Ψ := More w0 Φ ((ob27, blk ((cs7 ++ (([.slice (((some b19)).map fun k => ⟨k, 0, none⟩) ([164#8] : List (BitVec 8)).length 1] : List Value))) ++ r28) 30) :: (((some b19), blk ((u8s ([164#8] : List (BitVec 8))) ++ []) 5) :: B4))) (fun w q => More.mono (fun w m => (m).tail) q))
    have v33 : View (More w0 Φ ((ob27, blk ((cs7 ++ (([.slice (((some b19)).map fun k => ⟨k, 0, none⟩) ([164#8] : List (BitVec 8)).length 1] : List Value))) ++ r28) 30) :: (((some b19), blk ((u8s ([164#8] : List (BitVec 8))) ++ []) 5) :: B4))) ((ob27).map fun k => ⟨k, 0, none⟩) (l6 ++ ([([164#8] : List (BitVec 8))] : List (List (BitVec 8)))).length c29 1 (cs7 ++ (([.slice (((some b19)).map fun k => ⟨k, 0, none⟩) ([164#8] : List (BitVec 8)).length 1] : List Value))) := o30.view (by decide) (fun w q => q.2.sublist (List.singleton_sublist.2 (List.mem_cons_self ..)))
    obtain ⟨g35, hf⟩ := some_if hf
    have hle := v33.le
    have hlp : l6.length ≤ (l6 ++ ([([164#8] : List (BitVec 8))] : List (List (BitVec 8)))).length := by rw [List.length_append]; omega
    refine OW.rv (RV.cut_hi (a0.length) rfl rfl (by omega) rfl rfl (by omega)) rfl ?_
    refine OW.slot (.slice ((ob27).map fun k => ⟨k, 0, none⟩) l6.length c29) (by rw [show a0.length = l6.length by omega]) ?_
    have v34 : View (More w0 Φ ((ob27, blk ((cs7 ++ (([.slice (((some b19)).map fun k => ⟨k, 0, none⟩) ([164#8] : List (BitVec 8)).length 1] : List Value))) ++ r28) 30) :: (((some b19), blk ((u8s ([164#8] : List (BitVec 8))) ++ []) 5) :: B4))) ((ob27).map fun k => ⟨k, 0, none⟩) l6.length c29 1 cs7 := View.pre v33 (h8.len RmRd.len) hlp
    have m36 := v34.mx
    refine OW.rv (RV.assign rfl) rfl ?_
    refine OW.nil ?_
    refine QW.then_n ?_
    refine CW.ret ?_
    have e0 := Option.some.inj hf
    subst e0
    refine QW.retG (rs := [.tmp 2]) ([.slice ((ob27).map fun k => ⟨k, 0, none⟩) l6.length c29]) (((ob27, blk ((cs7 ++ (([.slice (((some b19)).map fun k => ⟨k, 0, none⟩) ([164#8] : List (BitVec 8)).length 1] : List Value))) ++ r28) 30) :: (((some b19), blk ((u8s ([164#8] : List (BitVec 8))) ++ []) 5) :: B4))) rfl ?_ rfl ?_ ?_ _ (.inl rfl)
    · exact ⟨rfl, trivial⟩
    · exact ⟨((ob27, blk ((cs7 ++ (([.slice (((some b19)).map fun k => ⟨k, 0, none⟩) ([164#8] : List (BitVec 8)).length 1] : List Value))) ++ r28) 30) :: (((some b19), blk ((u8s ([164#8] : List (BitVec 8))) ++ []) 5) :: B4)), ((ob27).map fun k => ⟨k, 0, none⟩), c29, (Rooms.mk v33 h8 h31), rfl, rfl⟩
    · exact (fun w m => m.pick [] 1 rfl rfl)
  · skip
    refine CW.block ?_
    refine CW.mem (M' := ((none, blk ([] ++ []) 30) :: ([] ++ N))) (fun w m => m.nil_ent _) ?_
    refine CW.loopJ (fun k L' M' => ∃ l39 : List (List (BitVec 8)), ∃ n46 : Nat, ∃ B37 : List Ent, ∃ cs40 : List Value, ∃ ob42 : Option Nat, ∃ c43 : Nat, ∃ r44 : List Value, (waybilllaw10_roomyAll.l1 a0 k l39 n46) = some q2 ∧ (∀ w, Mem w0 w B37 → Mem w0 w []) ∧ (Reps (RmRd (More w0 Φ B37)) cs40 l39) ∧ (OwnS ob42 l39.length c43 1 cs40 r44) ∧ (n46 ≤ 9223372036854775807) ∧ L' = [(0, .slice A0_ a0.length c0_), (3, sl ob42 0 l39.length c43), (4, .int .i64 ((n46 : Nat) : Int))] ∧ M' = ((ob42, blk (cs40 ++ r44) 30) :: (B37 ++ N))) (k0 := (a0.length - 0 + 2)) ⟨([] : List (List (BitVec 8))), 0, [], [], none, 0, [], hq3, (fun w m => m), Reps.nil, OwnS.nil, (by omega), rfl, rfl⟩ ⟨rfl, rfl, rfl, trivial⟩ (fun w m => m.pick [0] 1 rfl rfl) ?_
    clear hq3
    rintro k48 L51 M52 ⟨l39, n46, B37, cs40, ob42, c43, r44, hl49, hB38, h41, o45, b47, e53, e54⟩
    rw [e53, e54]
    clear e53 e54 L51 M52
    rcases k48 with _ | k48
    · rw [waybilllaw10_roomyAll.l1] at hl49; cases hl49
    rw [waybilllaw10_roomyAll.l1] at hl49
    replace va0 := va0.mono (Ψ := More w0 Φ B37) (fun w q => More.mono (fun w m => hB38 w (m)) q)
    replace ha0 := ha0.mono (BsRd.mono (Ψ := More w0 Φ B37) (fun w q => More.mono (fun w m => hB38 w (m)) q))
    have m55 := o45.mx
    refine CW.seq ?_
    refine CW.seq ?_
    refine CW.region ?_
    refine OW.rv (RV.move rfl) rfl ?_
    refine OW.rv (RV.move rfl) rfl ?_
    refine OW.rv (RV.len rfl rfl) rfl ?_
    refine OW.rv (RV.lss rfl rfl) rfl ?_
    refine OW.slot (.bool (decide (n46 < a0.length))) (congrArg Value.bool (decide_eq_decide.2 (by omega))) ?_
    refine OW.nil ?_
    refine QW.then_n ?_
    by_cases h56 : n46 < a0.length
    · replace hl49 := if_t hl49 h56
      refine CW.is_t rfl (decide_eq_true h56) ?_
      refine CW.skip ?_
      refine QW.then_n ?_
      refine CW.seq ?_
      refine CW.block ?_
      refine CW.region ?_
      refine OW.rv (RV.move rfl) rfl ?_
      refine OW.rv (RV.move rfl) rfl ?_
      refine OW.rv (RV.move rfl) rfl ?_
      obtain ⟨x57, hx58, hl49⟩ := some_bind hl49
      have hl59 := lt_of_at hx58
      refine OW.rv (RV.idx_r (n46) rfl rfl rfl rfl rfl (va0.isSome (by decide) hl59) (by omega)) rfl ?_
      obtain ⟨cs60, h61, h62⟩ := ha0.get BsRd.len hx58
      obtain ⟨A63, c64, e66, v65⟩ := h61
      subst e66
      have m67 := v65.mx
      refine OW.rv (RV.load_at rfl rfl rfl (fun w m => by have := va0.load (More.of hΦ 1 m rfl) h62 0 _ rfl; simpa [Addr.add] using this)) rfl ?_
      obtain ⟨x69, hx68, hl49⟩ := some_bind hl49
      refine OW.callG Tryd.call12 rfl (waybilllaw10_roomy_does w0 (More w0 Φ B37) ((ob42, blk (cs40 ++ r44) 30) :: (B37 ++ N)) (fun w m => More.of hΦ 1 m rfl) A63 c64 x57 x69 v65 hx68) rfl rfl ?_
      rintro L74 M75 ⟨B70, A71, v72, e76, e77⟩
      rw [e76, e77]
      clear e76 e77 L74 M75
      refine OW.mem (M' := ((ob42, blk (cs40 ++ r44) 30) :: ((B70 ++ B37) ++ N))) (fun w m => by have h := Mem.sinkAt (A := B70) m 0 1 rfl rfl; exact h) ?_
      replace va0 := va0.mono (Ψ := More w0 Φ (B70 ++ B37)) (fun w q => More.mono (fun w m => (m).appR) q)
      replace ha0 := ha0.mono (BsRd.mono (Ψ := More w0 Φ (B70 ++ B37)) (fun w q => More.mono (fun w m => (m).appR) q))
      replace h41 := h41.mono (RmRd.mono (Ψ := More w0 Φ (B70 ++ B37)) (fun w q => More.mono (fun w m => (m).appR) q))
      replace v65 := v65.mono (Ψ := More w0 Φ (B70 ++ B37)) (fun w q => More.mono (fun w m => (m).appR) q)
      replace v72 := v72.mono (Ψ := (More w0 Φ (B70 ++ B37))) (fun w q => More.flat q)
      have v73 := v72.view
      have m78 := v73.mx
      refine OW.ofN (NV.bs1 rfl rfl rfl rfl rfl rfl) rfl (fun b79 => ?_)
      have h82 : Reps (RmRd (More w0 Φ (B70 ++ B37))) (([.slice A71 x69.length (x69.length + 9)] : List Value)) [x69] := Reps.one (RmRd.mk v72)
      refine OW.mem (M' := (((some b79), blk ((([.slice A71 x69.length (x69.length + 9)] : List Value)) ++ []) 30) :: (ob42, blk (cs40 ++ r44) 30) :: ((B70 ++ B37) ++ N))) (fun w m => m) ?_
      have o80 : OwnS (some b79) ([x69] : List (List (BitVec 8))).length 1 1 (([.slice A71 x69.length (x69.length + 9)] : List Value)) [] := ⟨by simp [RmRd], by simp [RmRd], (fun h => nomatch h), by simp⟩
      refine OW.slot (sl (some b79) 0 ([x69] : List (List (BitVec 8))).length 1) (rfl) ?_
      refine OW.rot1 ?_
      obtain ⟨g83, hl49⟩ := some_if hl49
      have h88 := h41.app h82
      refine OW.appendOwn (s := 1) rfl rfl rfl rfl rfl rfl o45 (fun w m => m.rd0 (List.Mem.tail _ (List.Mem.head _)) (fun e => o80.nilc (by decide) e)) o80.n (h82.cell1 RmRd.one) (o80.zeroO (by decide)) (by decide) (by decide) (by first | omega | (simp only [i30, List.length_nil]; omega)) rfl rfl ((l39 ++ ([x69] : List (List (BitVec 8)))).length) (cs40 ++ (([.slice A71 x69.length (x69.length + 9)] : List Value))) (List.length_append ..).symm rfl (fun ob84 r85 c86 o87 => ?_)
      have m89 := o87.mx
      refine OW.rv (RV.assign rfl) rfl ?_
      refine OW.nil ?_
      refine QW.block_n ?_
      refine QW.then_n ?_
      refine CW.region ?_
      refine OW.rv (RV.move rfl) rfl ?_
      refine OW.rv (RV.add rfl rfl (by omega)) rfl ?_
      refine OW.slot (.int .i64 (((n46 + 1) : Nat) : Int)) (by first | rfl | (congr 1) | (congr 1; omega)) ?_
      refine OW.rv (RV.assign rfl) rfl ?_
      refine OW.nil ?_
      exact QW.againJ (k' := k48) (Nat.lt_succ_self _) ⟨(l39 ++ ([x69] : List (List (BitVec 8)))), (n46 + 1), (B70 ++ B37), (cs40 ++ (([.slice A71 x69.length (x69.length + 9)] : List Value))), ob84, c86, r85, hl49, (fun w m => hB38 w ((m).appR)), h88, o87, (by omega), rfl, rfl⟩ ⟨rfl, rfl, rfl, trivial⟩ (fun w m => m.pick [0] 2 rfl rfl)
    · replace hl49 := if_f hl49 h56
      refine CW.is_f rfl (decide_eq_false h56) ?_
      refine CW.exit ?_
      refine QW.then_x ?_
      refine QW.then_x ?_
      refine QW.block_xe ?_
      exact QW.join ⟨l39, B37, cs40, ob42, c43, r44, (Option.some.inj hl49).symm, (fun w m => hB38 w (m)), h41, o45, rfl, rfl⟩ ⟨rfl, rfl, trivial⟩ (fun w m => m.pick [0] 1 rfl rfl)

theorem waybilllaw10_left_does (w0 : World) (Φ : Ctx) (N : List Ent) (hΦ : ∀ w, Mem w0 w N → Φ w) (A0_ : Option Addr) (c0_ : Nat) (a0 : List (List (BitVec 8))) (A1_ : Option Addr) (c1_ : Nat) (cs1_ : List Value) (a1 : List (List (BitVec 8))) (res0 : Bool) (ra0 : Rooms Φ A0_ c0_ a0) (va1 : View Φ A1_ a1.length c1_ 1 cs1_) (ha1 : Reps (BsRd Φ) cs1_ a1) (hf : waybilllaw10_left a0 a1 = some res0) : DoesG Tryd.prog 11 [.slice A0_ a0.length c0_, .slice A1_ a1.length c1_] w0 [] N (fun v G => v = .bool res0) := by
  unfold waybilllaw10_left at hf
  replace va1 := va1.mono (Ψ := More w0 Φ []) (fun w q => q.1)
  replace ha1 := ha1.mono (BsRd.mono (Ψ := More w0 Φ []) (fun w q => q.1))
  replace ra0 := ra0.mono (Ψ := More w0 Φ []) (fun w q => q.1)
  obtain ⟨cs1, cs2, v3, h4, h5⟩ := ra0
  have hlp : a0.length ≤ (a0 ++ ([([164#8] : List (BitVec 8))] : List (List (BitVec 8)))).length := by rw [List.length_append]; omega
  have v6 : View (More w0 Φ []) A0_ a0.length c0_ 1 cs1 := View.pre v3 (h4.len RmRd.len) hlp
  have m7 := v6.mx
  have m8 := v3.mx
  have m9 := v6.mx
  have m10 := va1.mx
  refine DoesG.enter Tryd.func11 rfl Tryd.ntmps11 rfl (M := (([] ++ N))) rfl ?_
  refine CW.seq ?_
  refine CW.region ?_
  refine OW.rv (RV.assign rfl) rfl ?_
  refine OW.nil ?_
  refine QW.then_n ?_
  refine CW.seq ?_
  refine CW.seq ?_
  refine CW.region ?_
  refine OW.rv (RV.move rfl) rfl ?_
  refine OW.rv (RV.len rfl rfl) rfl ?_
  refine OW.rv (RV.move rfl) rfl ?_
  refine OW.rv (RV.len rfl rfl) rfl ?_
  refine OW.rv (RV.neq rfl rfl) rfl ?_
  refine OW.slot (.bool (!decide (a0.length = a1.length))) (congrArg (fun b => Value.bool (!b)) (decide_eq_decide.2 (by omega))) ?_
  refine OW.nil ?_
  refine QW.then_n ?_
  by_cases h11 : a0.length = a1.length
  · replace hf := if_t hf h11
    refine CW.is_f rfl (congrArg (fun b => !b) (decide_eq_true h11)) ?_
    refine CW.skip ?_
    refine QW.then_n ?_
    refine CW.seq ?_
    refine CW.seq ?_
    refine CW.region ?_
    refine OW.rv (RV.assign rfl) rfl ?_
    refine OW.nil ?_
    refine QW.then_n ?_
    obtain ⟨q12, hq13, hf⟩ := some_bind hf
    refine CW.cutJ (fun L' M' => q12 = Lp.go () ∧ L' = [(0, .slice A0_ a0.length c0_), (1, .slice A1_ a1.length c1_)] ∧ M' = (([] ++ N))) ?_ ?_
    · rintro L15 M16 ⟨e14, e17, e18⟩
      rw [e17, e18]
      clear e17 e18 L15 M16
      clear hq13
      rw [e14] at hf
      clear e14
      try dsimp only at hf
      refine QW.then_n ?_
      refine CW.seq ?_
      refine CW.region ?_
      refine OW.rv (RV.move rfl) rfl ?_
      refine OW.rv (RV.move rfl) rfl ?_
      refine OW.rv (RV.len rfl rfl) rfl ?_
      refine OW.rv (RV.add rfl rfl (by omega)) rfl ?_
      refine OW.slot (.int .i64 (((a1.length + 1) : Nat) : Int)) (by first | rfl | (congr 1) | (congr 1; omega)) ?_
      obtain ⟨g20, hf⟩ := some_if hf
      have hle := v3.le
      have hlen_ : (a0 ++ ([([164#8] : List (BitVec 8))] : List (List (BitVec 8)))).length = (a0 ++ ([([164#8] : List (BitVec 8))] : List (List (BitVec 8)))).length := rfl
      refine OW.rv (RV.cut_hi ((a1.length + 1)) rfl rfl (by omega) rfl rfl (by omega)) rfl ?_
      refine OW.slot (.slice A0_ ((a0 ++ ([([164#8] : List (BitVec 8))] : List (List (BitVec 8)))).take (a1.length + 1)).length c0_) (by rw [show (((a0 ++ ([([164#8] : List (BitVec 8))] : List (List (BitVec 8)))).take (a1.length + 1))).length = (a1.length + 1) from List.length_take.trans (Nat.min_eq_left (by omega))]) ?_
      have v19 : View (More w0 Φ []) A0_ ((a0 ++ ([([164#8] : List (BitVec 8))] : List (List (BitVec 8)))).take (a1.length + 1)).length c0_ 1 ((cs1 ++ cs2).take ((a1.length + 1) * 1)) := v3.hiD (by omega)
      have h21 := h5.take BsRd.len (a1.length + 1)
      have m22 := v19.mx
      refine OW.rv (RV.move rfl) rfl ?_
      refine OW.rv (RV.len rfl rfl) rfl ?_
      obtain ⟨x23, hx24, hf⟩ := some_bind hf
      have hl25 := lt_of_at hx24
      refine OW.rv (RV.idx_r (a1.length) rfl rfl rfl rfl rfl (v19.isSome (by decide) hl25) (by omega)) rfl ?_
      obtain ⟨cs26, h27, h28⟩ := h21.get BsRd.len hx24
      obtain ⟨A29, c30, e32, v31⟩ := h27
      subst e32
      have m33 := v31.mx
      refine OW.rv (RV.load_at rfl rfl rfl (fun w m => by have := v19.load (More.of hΦ 0 m rfl) h28 0 _ rfl; simpa [Addr.add] using this)) rfl ?_
      refine OW.ofN (NV.bs1 rfl rfl rfl rfl rfl rfl) rfl (fun b34 => ?_)
      refine OW.mem (M' := (((some b34), blk ((u8s ([164#8] : List (BitVec 8))) ++ []) 5) :: ([] ++ N))) (fun w m => by first | exact m | simpa [u8s] using m) ?_
      have o35 : OwnS (some b34) ([164#8] : List (BitVec 8)).length 1 1 (u8s ([164#8] : List (BitVec 8))) [] := ⟨by simp [u8s], by simp [u8s], (fun h => nomatch h), by simp⟩
      refine OW.slot (sl (some b34) 0 ([164#8] : List (BitVec 8)).length 1) (rfl) ?_
      refine OW.mem (M' := ((((some b34), blk ((u8s ([164#8] : List (BitVec 8))) ++ []) 5) :: []) ++ N)) (fun w m => m.pick [0] 1 rfl rfl) ?_
      replace v6 := v6.mono (Ψ := More w0 Φ (((some b34), blk ((u8s ([164#8] : List (BitVec 8))) ++ []) 5) :: [])) (fun w q => More.mono (fun w m => (m).tail) q)
      replace h4 := h4.mono (RmRd.mono (Ψ := More w0 Φ (((some b34), blk ((u8s ([164#8] : List (BitVec 8))) ++ []) 5) :: [])) (fun w q => More.mono (fun w m => (m).tail) q))
      replace v3 := v3.mono (Ψ := More w0 Φ (((some b34), blk ((u8s ([164#8] : List (BitVec 8))) ++ []) 5) :: [])) (fun w q => More.mono (fun w m => (m).tail) q)
      replace h5 := h5.mono (BsRd.mono (Ψ := More w0 Φ (((some b34), blk ((u8s ([164#8] : List (BitVec 8))) ++ []) 5) :: [])) (fun w q => More.mono (fun w m => (m).tail) q))
      replace va1 := va1.mono (Ψ := More w0 Φ (((some b34), blk ((u8s ([164#8] : List (BitVec 8))) ++ []) 5) :: [])) (fun w q => More.mono (fun w m => (m).tail) q)
      replace ha1 := ha1.mono (BsRd.mono (Ψ := More w0 Φ (((some b34), blk ((u8s ([164#8] : List (BitVec 8))) ++ []) 5) :: [])) (fun w q => More.mono (fun w m => (m).tail) q))
      replace v19 := v19.mono (Ψ := More w0 Φ (((some b34), blk ((u8s ([164#8] : List (BitVec 8))) ++ []) 5) :: [])) (fun w q => More.mono (fun w m => (m).tail) q)
      replace h21 := h21.mono (BsRd.mono (Ψ := More w0 Φ (((some b34), blk ((u8s ([164#8] : List (BitVec 8))) ++ []) 5) :: [])) (fun w q => More.mono (fun w m => (m).tail) q))
      replace v31 := v31.mono (Ψ := More w0 Φ (((some b34), blk ((u8s ([164#8] : List (BitVec 8))) ++ []) 5) :: [])) (fun w q => More.mono (fun w m => (m).tail) q)
      have v36 : View (More w0 Φ (((some b34), blk ((u8s ([164#8] : List (BitVec 8))) ++ []) 5) :: [])) (((some b34)).map fun k => ⟨k, 0, none⟩) ([164#8] : List (BitVec 8)).length 1 1 (u8s ([164#8] : List (BitVec 8))) := o35.view (by decide) (fun w q => q.2.sublist (List.singleton_sublist.2 (List.mem_cons_self ..)))
      obtain ⟨x38, hx37, hf⟩ := some_bind hf
      refine OW.callG Tryd.call26 rfl (waybilllaw10_same_does w0 (More w0 Φ (((some b34), blk ((u8s ([164#8] : List (BitVec 8))) ++ []) 5) :: [])) (((((some b34), blk ((u8s ([164#8] : List (BitVec 8))) ++ []) 5) :: []) ++ N)) (fun w m => More.of hΦ 0 m rfl) A29 c30 x23 (((some b34)).map fun k => ⟨k, 0, none⟩) 1 ([164#8] : List (BitVec 8)) x38 v31 v36 hx37) rfl rfl ?_
      rintro _ G39 rfl
      refine OW.mem (M' := (((((some b34), blk ((u8s ([164#8] : List (BitVec 8))) ++ []) 5) :: []) ++ N))) (fun w m => m.appR) ?_
      refine OW.rv (RV.assign rfl) rfl ?_
      refine OW.nil ?_
      refine QW.then_n ?_
      refine CW.ret ?_
      have e0 := Option.some.inj hf
      subst e0
      refine QW.retG (rs := [.tmp 4]) ([.bool (x38)]) ((((some b34), blk ((u8s ([164#8] : List (BitVec 8))) ++ []) 5) :: [])) rfl ?_ rfl ?_ ?_ _ (.inl rfl)
      · exact ⟨rfl, trivial⟩
      · exact rfl
      · exact (fun w m => m)
    · skip
      refine CW.block ?_
      refine CW.loopJ (fun k L' M' => ∃ n41 : Nat, (waybilllaw10_left.l1 a0 a1 k n41) = some q12 ∧ (n41 ≤ 9223372036854775807) ∧ L' = [(0, .slice A0_ a0.length c0_), (1, .slice A1_ a1.length c1_), (5, .int .i64 ((n41 : Nat) : Int))] ∧ M' = (([] ++ N))) (k0 := (a1.length - 0 + 2)) ⟨0, hq13, (by omega), rfl, rfl⟩ ⟨rfl, rfl, rfl, trivial⟩ (fun w m => m.pick [] 0 rfl rfl) ?_
      clear hq13
      rintro k43 L46 M47 ⟨n41, hl44, b42, e48, e49⟩
      rw [e48, e49]
      clear e48 e49 L46 M47
      rcases k43 with _ | k43
      · rw [waybilllaw10_left.l1] at hl44; cases hl44
      rw [waybilllaw10_left.l1] at hl44
      refine CW.seq ?_
      refine CW.seq ?_
      refine CW.region ?_
      refine OW.rv (RV.move rfl) rfl ?_
      refine OW.rv (RV.move rfl) rfl ?_
      refine OW.rv (RV.len rfl rfl) rfl ?_
      refine OW.rv (RV.lss rfl rfl) rfl ?_
      refine OW.slot (.bool (decide (n41 < a1.length))) (congrArg Value.bool (decide_eq_decide.2 (by omega))) ?_
      refine OW.nil ?_
      refine QW.then_n ?_
      by_cases h50 : n41 < a1.length
      · replace hl44 := if_t hl44 h50
        refine CW.is_t rfl (decide_eq_true h50) ?_
        refine CW.skip ?_
        refine QW.then_n ?_
        refine CW.seq ?_
        refine CW.block ?_
        refine CW.seq ?_
        refine CW.drawsU 10 mixed (by kernel_rfl) rfl ?_
        refine UW.rv 0 rfl (by kernel_rfl) rfl (RV.move rfl) rfl ?_
        refine UW.rv 1 rfl (by kernel_rfl) rfl (RV.move rfl) rfl ?_
        obtain ⟨x51, hx52, hl44⟩ := some_bind hl44
        have hl53 := lt_of_at hx52
        refine UW.rv 2 rfl (by kernel_rfl) rfl (RV.idx_r (n41) rfl rfl rfl rfl rfl (v6.isSome (by decide) hl53) (by omega)) rfl ?_
        obtain ⟨cs54, h55, h56⟩ := h4.get RmRd.len hx52
        obtain ⟨A57, e60, v58⟩ := h55
        subst e60
        have v59 := v58.view
        have m61 := v59.mx
        refine UW.rv 3 rfl (by kernel_rfl) rfl (RV.load_at rfl rfl rfl (fun w m => by have := v6.load (More.of hΦ 0 m rfl) h56 0 _ rfl; simpa [Addr.add] using this)) rfl ?_
        refine UW.rv 4 rfl (by kernel_rfl) rfl (RV.move rfl) rfl ?_
        refine UW.rv 5 rfl (by kernel_rfl) rfl (RV.move rfl) rfl ?_
        obtain ⟨x62, hx63, hl44⟩ := some_bind hl44
        have hl64 := lt_of_at hx63
        refine UW.rv 6 rfl (by kernel_rfl) rfl (RV.idx_r (n41) rfl rfl rfl rfl rfl (va1.isSome (by decide) hl64) (by omega)) rfl ?_
        obtain ⟨cs65, h66, h67⟩ := ha1.get BsRd.len hx63
        obtain ⟨A68, c69, e71, v70⟩ := h66
        subst e71
        have m72 := v70.mx
        refine UW.rv 7 rfl (by kernel_rfl) rfl (RV.load_at rfl rfl rfl (fun w m => by have := va1.load (More.of hΦ 0 m rfl) h67 0 _ rfl; simpa [Addr.add] using this)) rfl ?_
        obtain ⟨x74, hx73, hl44⟩ := some_bind hl44
        refine UW.callG 8 rfl (by kernel_rfl) rfl Tryd.call19 rfl (fun N' hN' => waybilllaw10_stays_does w0 (More w0 Φ []) N' (fun w m => More.of hΦ 0 (hN' w m) rfl) A57 x51 A68 c69 x62 x74 v58 v70 hx73) rfl ?_
        rintro _ G75 rfl
        refine UW.mem (M' := (([] ++ N))) (fun w m => m.appR) ?_
        refine UW.rv 9 rfl (by kernel_rfl) rfl (RV.not rfl) rfl ?_
        refine UW.nil (by kernel_rfl) ?_
        refine OW.nil ?_
        refine QW.then_n ?_
        by_cases h77 : x74 = true
        · replace hl44 := if_t hl44 h77
          refine CW.is_f rfl (congrArg (fun b => !b) (h77)) ?_
          refine CW.skip ?_
          refine QW.block_n ?_
          refine QW.then_n ?_
          refine CW.region ?_
          refine OW.rv (RV.move rfl) rfl ?_
          refine OW.rv (RV.add rfl rfl (by omega)) rfl ?_
          refine OW.slot (.int .i64 (((n41 + 1) : Nat) : Int)) (by first | rfl | (congr 1) | (congr 1; omega)) ?_
          refine OW.rv (RV.assign rfl) rfl ?_
          refine OW.nil ?_
          exact QW.againJ (k' := k43) (Nat.lt_succ_self _) ⟨(n41 + 1), hl44, (by omega), rfl, rfl⟩ ⟨rfl, rfl, rfl, trivial⟩ (fun w m => m.pick [] 0 rfl rfl)
        · replace hl44 := if_f hl44 h77
          refine CW.is_t rfl (congrArg (fun b => !b) (Bool.eq_false_iff.2 h77)) ?_
          refine CW.seq ?_
          refine CW.region ?_
          refine OW.rv (RV.assign rfl) rfl ?_
          refine OW.nil ?_
          refine QW.then_n ?_
          refine CW.ret ?_
          refine QW.block_r ?_
          refine QW.then_r ?_
          refine QW.then_r ?_
          refine QW.block_r ?_
          refine QW.then_r ?_
          have hc := Option.some.inj hl44
          subst hc
          try dsimp only at hf
          refine QW.then_r ?_
          have e0 := Option.some.inj hf
          subst e0
          refine QW.retG (rs := [.tmp 4]) ([.bool false]) ([]) rfl ?_ rfl ?_ ?_ _ (.inl rfl)
          · exact ⟨rfl, trivial⟩
          · exact rfl
          · exact (fun w m => m)
      · replace hl44 := if_f hl44 h50
        refine CW.is_f rfl (decide_eq_false h50) ?_
        refine CW.exit ?_
        refine QW.then_x ?_
        refine QW.then_x ?_
        refine QW.block_xe ?_
        exact QW.join ⟨(Option.some.inj hl44).symm, rfl, rfl⟩ ⟨rfl, rfl, trivial⟩ (fun w m => m.pick [] 0 rfl rfl)
  · replace hf := if_f hf h11
    refine CW.is_t rfl (congrArg (fun b => !b) (decide_eq_false h11)) ?_
    refine CW.seq ?_
    refine CW.region ?_
    refine OW.rv (RV.assign rfl) rfl ?_
    refine OW.nil ?_
    refine QW.then_n ?_
    refine CW.ret ?_
    refine QW.then_r ?_
    have e0 := Option.some.inj hf
    subst e0
    refine QW.retG (rs := [.tmp 4]) ([.bool false]) ([]) rfl ?_ rfl ?_ ?_ _ (.inl rfl)
    · exact ⟨rfl, trivial⟩
    · exact rfl
    · exact (fun w m => m)

theorem waybilllaw10_BloomOf_does (w0 : World) (Φ : Ctx) (N : List Ent) (hΦ : ∀ w, Mem w0 w N → Φ w) (A0_ : Option Addr) (c0_ : Nat) (cs0_ : List Value) (a0 : List (List (BitVec 8))) (res0 : Bool) (va0 : View Φ A0_ a0.length c0_ 1 cs0_) (ha0 : Reps (BsRd Φ) cs0_ a0) (hTn : ∀ i, i < 25 → w0.cell? ⟨2, i, none⟩ = some (.int .i64 (turnsL.getD i 0))) (hRn : ∀ i, i < 24 → w0.cell? ⟨1, i, none⟩ = some (U64 (g64 roundsL i))) (hg0 : View Φ (some ⟨0, 0, none⟩) 2 2 1 (u8s firstL)) (hf : waybilllaw10_BloomOf a0 = some res0) : DoesG Tryd.prog 3 [.slice A0_ a0.length c0_] w0 [] N (fun v G => v = .bool res0) := by
  unfold waybilllaw10_BloomOf at hf
  replace va0 := va0.mono (Ψ := More w0 Φ []) (fun w q => q.1)
  replace hg0 := hg0.mono (Ψ := More w0 Φ []) (fun w q => q.1)
  replace ha0 := ha0.mono (BsRd.mono (Ψ := More w0 Φ []) (fun w q => q.1))
  have m1 := va0.mx
  refine DoesG.enter Tryd.func3 rfl Tryd.ntmps3 rfl (M := (([] ++ N))) rfl ?_
  refine CW.seq ?_
  refine CW.region ?_
  refine OW.rv (RV.assign rfl) rfl ?_
  refine OW.nil ?_
  refine QW.then_n ?_
  refine CW.seq ?_
  refine CW.region ?_
  refine OW.rv (RV.move rfl) rfl ?_
  obtain ⟨x3, hx2, hf⟩ := some_bind hf
  refine OW.callG Tryd.call8 rfl (waybilllaw10_roomyAll_does w0 (More w0 Φ []) (([] ++ N)) (fun w m => More.of hΦ 0 m rfl) A0_ c0_ cs0_ a0 x3 va0 ha0 hx2) rfl rfl ?_
  rintro L8 M9 ⟨B4, A5, c6, v7, e10, e11⟩
  rw [e10, e11]
  clear e10 e11 L8 M9
  refine OW.mem (M' := (((B4 ++ []) ++ N))) (fun w m => by have h := Mem.sinkAt (A := B4) m 0 0 rfl rfl; exact h) ?_
  replace va0 := va0.mono (Ψ := More w0 Φ (B4 ++ [])) (fun w q => More.mono (fun w m => (m).appR) q)
  replace ha0 := ha0.mono (BsRd.mono (Ψ := More w0 Φ (B4 ++ [])) (fun w q => More.mono (fun w m => (m).appR) q))
  replace hg0 := hg0.mono (Ψ := More w0 Φ (B4 ++ [])) (fun w q => More.mono (fun w m => (m).appR) q)
  replace v7 := v7.mono (Ψ := (More w0 Φ (B4 ++ []))) (fun w q => More.flat q)
  obtain ⟨cs12, cs13, v14, h15, h16⟩ := v7
  have hlp : x3.length ≤ (x3 ++ ([([164#8] : List (BitVec 8))] : List (List (BitVec 8)))).length := by rw [List.length_append]; omega
  have v17 : View (More w0 Φ (B4 ++ [])) A5 x3.length c6 1 cs12 := View.pre v14 (h15.len RmRd.len) hlp
  have m18 := v17.mx
  have m19 := v14.mx
  have m20 := v17.mx
  refine OW.rv (RV.assign rfl) rfl ?_
  refine OW.nil ?_
  refine QW.then_n ?_
  refine CW.seq ?_
  obtain ⟨q21, hq22, hf⟩ := some_bind hf
  refine CW.cutJ (fun L' M' => ∃ p23 : Bool, q21 = p23 ∧ L' = [(2, .bool (p23))] ∧ M' = (((B4 ++ []) ++ N))) ?_ ?_
  · rintro L25 M26 ⟨p23, e24, e27, e28⟩
    rw [e27, e28]
    clear e27 e28 L25 M26
    clear hq22
    rw [e24] at hf
    clear e24
    try dsimp only at hf
    refine QW.then_n ?_
    refine CW.ret ?_
    have e0 := Option.some.inj hf
    subst e0
    refine QW.retG (rs := [.tmp 2]) ([.bool (p23)]) ((B4 ++ [])) rfl ?_ rfl ?_ ?_ _ (.inl rfl)
    · exact ⟨rfl, trivial⟩
    · exact rfl
    · exact (fun w m => m)
  · skip
    refine CW.region ?_
    refine OW.rv (RV.move rfl) rfl ?_
    obtain ⟨x30, hx29, hq22⟩ := some_bind hq22
    refine OW.callG Tryd.call9 rfl (bloom_Of_does w0 (More w0 Φ (B4 ++ [])) (((B4 ++ []) ++ N)) (fun w m => More.of hΦ 0 m rfl) A5 c6 cs12 x3 x30 v17 (h15.mono RmRd.bs) hg0 hx29) rfl rfl ?_
    rintro _ G31 rfl
    refine OW.mem (M' := (((B4 ++ []) ++ N))) (fun w m => m.appR) ?_
    refine OW.rv (RV.move rfl) rfl ?_
    obtain ⟨x34, hx33, hq22⟩ := some_bind hq22
    refine OW.callG Tryd.call10 rfl (waybillref10_Of_does w0 (More w0 Φ (B4 ++ [])) (((B4 ++ []) ++ N)) (fun w m => More.of hΦ 0 m rfl) A0_ c0_ cs0_ a0 x34 va0 ha0 hTn hRn hx33) rfl rfl ?_
    rintro _ G35 rfl
    refine OW.mem (M' := (((B4 ++ []) ++ N))) (fun w m => m.appR) ?_
    refine OW.rv (RV.eqA8 rfl rfl rfl rfl rfl rfl (Vector.length_toList) (Vector.length_toList)) rfl ?_
    refine OW.slot (.bool (decide (x30 = x34))) (congrArg Value.bool (decide_eq_decide.2 Vector.toList_inj)) ?_
    refine OW.rv (RV.move rfl) rfl ?_
    by_cases h37 : x30 = x34
    · replace hq22 := if_t hq22 h37
      refine OW.slot (.bool true) (congrArg Value.bool (decide_eq_true h37)) ?_
      refine OW.want rfl ?_
      refine OW.rv (RV.move rfl) rfl ?_
      refine OW.want rfl ?_
      refine OW.rv (RV.move rfl) rfl ?_
      refine OW.want rfl ?_
      obtain ⟨x39, hx38, hq22⟩ := some_bind hq22
      refine OW.callG Tryd.call11 rfl (waybilllaw10_left_does w0 (More w0 Φ (B4 ++ [])) (((B4 ++ []) ++ N)) (fun w m => More.of hΦ 0 m rfl) A5 c6 x3 A0_ c0_ cs0_ a0 x39 (Rooms.mk v14 h15 h16) va0 ha0 hx38) rfl rfl ?_
      rintro _ G40 rfl
      refine OW.mem (M' := (((B4 ++ []) ++ N))) (fun w m => m.appR) ?_
      refine OW.rv (RV.pick_t rfl rfl rfl) rfl ?_
      refine OW.rv (RV.assign rfl) rfl ?_
      refine OW.nil ?_
      exact QW.join ⟨(x39), (Option.some.inj hq22).symm, rfl, rfl⟩ ⟨rfl, trivial⟩ (fun w m => m.pick [] 0 rfl rfl)
    · replace hq22 := if_f hq22 h37
      refine OW.slot (.bool false) (congrArg Value.bool (decide_eq_false h37)) ?_
      refine OW.skip rfl rfl rfl ?_
      refine OW.skip rfl rfl rfl ?_
      refine OW.skip rfl rfl rfl ?_
      refine OW.rv (RV.pick_f rfl rfl rfl) rfl ?_
      refine OW.rv (RV.assign rfl) rfl ?_
      refine OW.nil ?_
      exact QW.join ⟨false, (Option.some.inj hq22).symm, rfl, rfl⟩ ⟨rfl, trivial⟩ (fun w m => m.pick [] 0 rfl rfl)
end Go.Fw.Tryd
