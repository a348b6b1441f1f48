/- Part of a proof over YtmfeghmggcpngaaDoor: rules and contracts that the law's text uses. No condition. -/
import Derived.Test.YtmfeghmggcpngaaDoorTy
import Derived.Test.YtmfeghmggcpngaaDoorExt
import Derived.Test.YtmfeghmggcpngaaDoorKecW0
import Derived.Test.YtmfeghmggcpngaaDoorKecWR
import Derived.Test.YtmfeghmggcpngaaDoorRoom10
import Derived.Test.YtmfeghmggcpngaaDoorRmL2
import Derived.Test.YtmfeghmggcpngaaDoorBloP2
import Derived.Test.YtmfeghmggcpngaaDoorKecP2
namespace Go.Fw.Tryd
open Go Go.Proofs Go.Fw
set_option maxRecDepth 100000
set_option linter.unusedVariables false
set_option linter.unusedSimpArgs false
set_option maxHeartbeats 1000000

theorem keccak_Sponge_absorb_does (w0 : World) (Φ : Ctx) (N : List Ent) (hΦ : ∀ w, Mem w0 w N → Φ w) (b0_ : Nat) (a0 : Sponge) (new0 : Sponge) (hf : keccak_Sponge_absorb a0 = some new0) : DoesG Tryd.prog 67 [ptr (some b0_) 0] w0 [(some b0_, blk a0.C 88)] N (fun v G => ∃ B : List Ent, v = .tuple #[] ∧ G = (some b0_, blk new0.C 88) :: B) := by
  unfold keccak_Sponge_absorb at hf
  refine DoesG.enter Tryd.func67 rfl Tryd.ntmps67 rfl (M := ((some b0_, blk a0.C 88) :: ([] ++ N))) rfl ?_
  refine CW.seq ?_
  refine CW.seq ?_
  refine CW.region ?_
  refine OW.rv (RV.move rfl) rfl ?_
  refine OW.rv (RV.nilCheck rfl) rfl ?_
  refine OW.rv (RV.field rfl rfl rfl rfl) rfl ?_
  refine OW.slot (ptr (some b0_) 26) rfl ?_
  refine OW.rv (RV.loadAo rfl (List.Mem.head _) rfl rfl rfl rfl (Sponge.C_part_all _) ((u8s_length _).trans Vector.length_toList)) rfl ?_
  refine OW.rv (RV.move rfl) rfl ?_
  refine OW.nil ?_
  refine QW.then_n ?_
  obtain ⟨q1, hq2, hf⟩ := some_bind hf
  refine CW.cutJ (fun L' M' => ∃ w3 : Sponge, q1 = w3 ∧ L' = [(0, ptr (some b0_) 0)] ∧ M' = ((some b0_, blk w3.C 88) :: ([] ++ N))) ?_ ?_
  · rintro L5 M6 ⟨w3, e4, e7, e8⟩
    rw [e7, e8]
    clear e7 e8 L5 M6
    clear hq2
    rw [e4] at hf
    clear e4
    try dsimp only at hf
    refine QW.then_n ?_
    refine CW.seq ?_
    refine CW.region ?_
    refine OW.rv (RV.move rfl) rfl ?_
    refine OW.rv (RV.move rfl) rfl ?_
    refine OW.rv (RV.nilCheck rfl) rfl ?_
    refine OW.rv (RV.field rfl rfl rfl rfl) rfl ?_
    refine OW.slot (ptr (some b0_) 1) rfl ?_
    refine OW.rv (RV.loadAo rfl (List.Mem.head _) rfl rfl rfl rfl (Sponge.C_lanes_all _) ((u64s_length _).trans Vector.length_toList)) rfl ?_
    obtain ⟨x10, hx9, hf⟩ := some_bind hf
    refine OW.callG Tryd.call71 rfl (keccak_Permute_does w0 (More w0 Φ []) ((some b0_, blk w3.C 88) :: ([] ++ N)) (fun w m => More.of hΦ 1 m rfl) w3.lanes x10 hx9) rfl rfl ?_
    rintro _ G11 rfl
    refine OW.mem (M' := ((some b0_, blk w3.C 88) :: ([] ++ N))) (fun w m => m.appR) ?_
    refine OW.rv (RV.nilCheck rfl) rfl ?_
    refine OW.rv (RV.field rfl rfl rfl rfl) rfl ?_
    refine OW.slot (ptr (some b0_) 1) rfl ?_
    refine OW.sv (SV.storeAs rfl rfl rfl (u64s_one _) rfl ((u64s_length _).trans Vector.length_toList) (by rw [Sponge.C_length]; first | omega | decide)) ?_
    refine OW.cells ({ w3 with lanes := x10 } : Sponge).C (Sponge.C_lanes_spl _ _) ?_
    refine OW.nil ?_
    refine QW.then_n ?_
    refine CW.region ?_
    refine OW.rv (RV.move rfl) rfl ?_
    refine OW.rv (RV.nilCheck rfl) rfl ?_
    refine OW.rv (RV.field rfl rfl rfl rfl) rfl ?_
    refine OW.slot (ptr (some b0_) 162) rfl ?_
    refine OW.sv (SV.store rfl rfl rfl rfl rfl (by rw [Sponge.C_length]; omega)) ?_
    refine OW.cells ({ ({ w3 with lanes := x10 } : Sponge) with held := (0 : Int) } : Sponge).C (Sponge.C_held_set _ _) ?_
    refine OW.nil ?_
    have e0 := Option.some.inj hf
    subst e0
    refine QW.retG (rs := []) ([]) ((some b0_, blk ({ ({ w3 with lanes := x10 } : Sponge) with held := (0 : Int) } : Sponge).C 88) :: []) rfl ?_ rfl ?_ ?_ _ (.inr rfl)
    · exact trivial
    · exact ⟨[], rfl, rfl⟩
    · exact (fun w m => m.pick [0] 1 rfl rfl)
  · skip
    refine CW.block ?_
    refine CW.loopJ (fun k L' M' => ∃ n13 : Nat, ∃ w15 : Sponge, (keccak_Sponge_absorb.l1 a0 k n13 w15) = some q1 ∧ (n13 ≤ 9223372036854775807) ∧ L' = [(0, ptr (some b0_) 0), (7, .agg (u8s a0.part.toList).toArray), (8, .int .i64 ((n13 : Nat) : Int))] ∧ M' = ((some b0_, blk w15.C 88) :: ([] ++ N))) (k0 := (136 - 0 + 2)) ⟨0, a0, hq2, (by omega), rfl, rfl⟩ ⟨rfl, rfl, rfl, trivial⟩ (fun w m => m.pick [0] 1 rfl rfl) ?_
    clear hq2
    rintro k16 L19 M20 ⟨n13, w15, hl17, b14, e21, e22⟩
    rw [e21, e22]
    clear e21 e22 L19 M20
    rcases k16 with _ | k16
    · rw [keccak_Sponge_absorb.l1] at hl17; cases hl17
    rw [keccak_Sponge_absorb.l1] at hl17
    refine CW.seq ?_
    refine CW.region ?_
    refine OW.rv (RV.lss rfl rfl) rfl ?_
    refine OW.slot (.bool (decide (n13 < 136))) (congrArg Value.bool (decide_eq_decide.2 (by omega))) ?_
    refine OW.nil ?_
    refine QW.then_n ?_
    refine CW.seq ?_
    by_cases h23 : n13 < 136
    · replace hl17 := if_t hl17 h23
      refine CW.is_t rfl (decide_eq_true h23) ?_
      refine CW.skip ?_
      refine QW.then_n ?_
      refine CW.seq ?_
      refine CW.block ?_
      refine CW.seq ?_
      refine CW.region ?_
      refine OW.rv (RV.move rfl) rfl ?_
      obtain ⟨x24, hx25, hl17⟩ := some_bind hl17
      have hl26 := (Vector.getElem?_eq_some_iff.1 hx25).1
      refine OW.rv (RV.indexV (n13) rfl rfl rfl rfl rfl rfl rfl (by omega) (u8s_at (vat hx25))) rfl ?_
      refine OW.rv (RV.assign rfl) rfl ?_
      refine OW.rv (RV.assign rfl) rfl ?_
      refine OW.nil ?_
      refine QW.then_n ?_
      refine CW.drawsX (([] ++ N)) [17] (fun w m => m.pick [] 1 rfl rfl) mixed (by kernel_rfl) ?_
      refine XW.rs 0 rfl (by kernel_rfl) rfl (RV.move rfl) rfl ?_
      refine XW.rs 1 rfl (by kernel_rfl) rfl (RV.move rfl) rfl ?_
      refine XW.rs 2 rfl (by kernel_rfl) rfl (RV.quo rfl rfl (by omega) (by omega) (by omega)) rfl ?_
      refine XW.slot (.int .i64 ((n13 / 8 : Nat) : Int)) (by first | rfl | (congr 1; omega)) ?_
      refine XW.rs 3 rfl (by kernel_rfl) rfl (RV.nilCheck rfl) rfl ?_
      refine XW.rs 4 rfl (by kernel_rfl) rfl (RV.field rfl rfl rfl rfl) rfl ?_
      refine XW.slot (ptr (some b0_) 1) rfl ?_
      obtain ⟨g27, hl17⟩ := some_if hl17
      refine XW.rs 5 rfl (by kernel_rfl) rfl (RV.idx_a ((n13 / 8)) rfl rfl rfl rfl rfl (by omega)) rfl ?_
      obtain ⟨x28, hx29, hl17⟩ := some_bind hl17
      refine XW.rv 6 rfl (by kernel_rfl) rfl (by kernel_rfl) (RV.load rfl (List.Mem.head _) rfl rfl rfl (Sponge.C_lanes _ hx29)) rfl ?_
      refine XW.rs 7 rfl (by kernel_rfl) rfl (RV.move rfl) rfl ?_
      refine XW.rs 8 rfl (by kernel_rfl) rfl (RV.conv8_64 rfl (by first | rfl | exact lit8 _ rfl) rfl rfl) rfl ?_
      refine XW.rs 9 rfl (by kernel_rfl) rfl (RV.move rfl) rfl ?_
      refine XW.rs 10 rfl (by kernel_rfl) rfl (RV.rem rfl rfl (by omega) (by omega)) rfl ?_
      refine XW.slot (.int .i64 ((n13 % 8 : Nat) : Int)) (by first | rfl | (congr 1; omega)) ?_
      refine XW.rs 11 rfl (by kernel_rfl) rfl (RV.mul rfl rfl (by omega)) rfl ?_
      refine XW.slot (.int .i64 (((8 * (n13 % 8)) : Nat) : Int)) (by first | rfl | (congr 1) | (congr 1; omega)) ?_
      refine XW.rs 12 rfl (by kernel_rfl) rfl (RV.shl64 (s := (8 * (n13 % 8))) rfl (by first | rfl | exact lit64 _ rfl) rfl (by first | rfl | (congr 1))) rfl ?_
      refine XW.rs 13 rfl (by kernel_rfl) rfl (RV.xor64 rfl (by first | rfl | exact lit64 _ rfl) rfl (by first | rfl | exact lit64 _ rfl)) rfl ?_
      refine XW.rs 14 rfl (by kernel_rfl) rfl (RV.nilCheck rfl) rfl ?_
      refine XW.rs 15 rfl (by kernel_rfl) rfl (RV.field rfl rfl rfl rfl) rfl ?_
      refine XW.slot (ptr (some b0_) 1) rfl ?_
      refine XW.rs 16 rfl (by kernel_rfl) rfl (RV.idx_a ((n13 / 8)) rfl rfl rfl rfl rfl (by omega)) rfl ?_
      refine XW.sv 17 rfl (by kernel_rfl) (SV.store rfl rfl rfl rfl rfl (by rw [Sponge.C_length]; omega)) (fun w m => m.pick [] 1 rfl rfl) ?_
      refine XW.cells ({ w15 with lanes := w15.lanes.setIfInBounds (n13 / 8) (x28 ^^^ ((x24.setWidth 64) <<< (8 * (n13 % 8)))) } : Sponge).C (Sponge.C_lanes_set _ (by omega) _) ?_
      refine XW.nil (by kernel_rfl) ?_
      refine QW.block_n ?_
      refine QW.then_n ?_
      refine CW.region ?_
      refine OW.rv (RV.add rfl rfl (by omega)) rfl ?_
      refine OW.slot (.int .i64 (((n13 + 1) : Nat) : Int)) (by first | rfl | (congr 1) | (congr 1; omega)) ?_
      refine OW.rv (RV.move rfl) rfl ?_
      refine OW.nil ?_
      exact QW.againJ (k' := k16) (Nat.lt_succ_self _) ⟨(n13 + 1), ({ w15 with lanes := w15.lanes.setIfInBounds (n13 / 8) (x28 ^^^ ((x24.setWidth 64) <<< (8 * (n13 % 8)))) } : Sponge), hl17, (by omega), rfl, rfl⟩ ⟨rfl, rfl, rfl, trivial⟩ (fun w m => m.pick [0] 1 rfl rfl)
    · replace hl17 := if_f hl17 h23
      refine CW.is_f rfl (decide_eq_false h23) ?_
      refine CW.exit ?_
      refine QW.then_x ?_
      refine QW.then_x ?_
      refine QW.block_xe ?_
      exact QW.join ⟨w15, (Option.some.inj hl17).symm, rfl, rfl⟩ ⟨rfl, trivial⟩ (fun w m => m.pick [0] 1 rfl rfl)

theorem keccak_Sponge_Write_does (w0 : World) (Φ : Ctx) (N : List Ent) (hΦ : ∀ w, Mem w0 w N → Φ w) (b0_ : Nat) (a0 : Sponge) (A1_ : Option Addr) (c1_ : Nat) (a1 : List (BitVec 8)) (new0 : Sponge) (va1 : View Φ A1_ a1.length c1_ 1 (u8s a1)) (hf : keccak_Sponge_Write a0 a1 = some new0) : DoesG Tryd.prog 58 [ptr (some b0_) 0, .slice A1_ a1.length c1_] w0 [(some b0_, blk a0.C 88)] N (fun v G => ∃ B : List Ent, v = .tuple #[] ∧ G = (some b0_, blk new0.C 88) :: B) := by
  unfold keccak_Sponge_Write at hf
  replace va1 := va1.mono (Ψ := More w0 Φ []) (fun w q => q.1)
  have m1 := va1.mx
  refine DoesG.enter Tryd.func58 rfl Tryd.ntmps58 rfl (M := ((some b0_, blk a0.C 88) :: ([] ++ N))) rfl ?_
  refine CW.seq ?_
  refine CW.seq ?_
  refine CW.region ?_
  refine OW.rv (RV.move rfl) rfl ?_
  refine OW.rv (RV.eqlS rfl rfl rfl) rfl ?_
  refine OW.nil ?_
  refine QW.then_n ?_
  refine CW.is_f rfl rfl ?_
  refine CW.skip ?_
  refine QW.then_n ?_
  refine CW.seq ?_
  refine CW.region ?_
  refine OW.rv (RV.move rfl) rfl ?_
  refine OW.rv (RV.nilCheck rfl) rfl ?_
  refine OW.rv (RV.field rfl rfl rfl rfl) rfl ?_
  refine OW.slot (ptr (some b0_) 163) rfl ?_
  refine OW.rv (RV.load rfl (List.Mem.head _) rfl rfl rfl (Sponge.C_long _)) rfl ?_
  refine OW.rv (RV.move rfl) rfl ?_
  refine OW.rv (RV.len rfl rfl) rfl ?_
  obtain ⟨g2, hf⟩ := some_if hf
  refine OW.rv (RV.add rfl rfl (by omega)) rfl ?_
  refine OW.rv (RV.nilCheck rfl) rfl ?_
  refine OW.rv (RV.field rfl rfl rfl rfl) rfl ?_
  refine OW.slot (ptr (some b0_) 163) rfl ?_
  refine OW.sv (SV.store rfl rfl rfl rfl rfl (by rw [Sponge.C_length]; omega)) ?_
  refine OW.cells ({ a0 with long := (a0.long + ((a1.length : Nat) : Int)) } : Sponge).C (Sponge.C_long_set _ _) ?_
  refine OW.nil ?_
  refine QW.then_n ?_
  obtain ⟨q3, hq4, hf⟩ := some_bind hf
  refine CW.cutJ (fun L' M' => ∃ w7 : Sponge, ∃ B5 : List Ent, q3 = w7 ∧ (∀ w, Mem w0 w B5 → Mem w0 w []) ∧ L' = [] ∧ M' = ((some b0_, blk w7.C 88) :: (B5 ++ N))) ?_ ?_
  · rintro L9 M10 ⟨w7, B5, e8, hB6, e11, e12⟩
    rw [e11, e12]
    clear e11 e12 L9 M10
    clear hq4
    rw [e8] at hf
    clear e8
    try dsimp only at hf
    have e0 := Option.some.inj hf
    subst e0
    refine QW.retG (rs := []) ([]) ((some b0_, blk w7.C 88) :: B5) rfl ?_ rfl ?_ ?_ _ (.inr rfl)
    · exact trivial
    · exact ⟨B5, rfl, rfl⟩
    · exact (fun w m => m.pick [0] 1 rfl rfl)
  · skip
    refine CW.block ?_
    refine CW.loopJ (fun k L' M' => ∃ l15 : List (BitVec 8), ∃ w19 : Sponge, ∃ B13 : List Ent, ∃ A16 : Option Addr, ∃ c17 : Nat, (keccak_Sponge_Write.l1 k l15 w19) = some q3 ∧ (∀ w, Mem w0 w B13 → Mem w0 w []) ∧ (View (More w0 Φ B13) A16 l15.length c17 1 (u8s l15)) ∧ L' = [(0, ptr (some b0_) 0), (1, .slice A16 l15.length c17)] ∧ M' = ((some b0_, blk w19.C 88) :: (B13 ++ N))) (k0 := (a1.length - 0 + 2)) ⟨a1, ({ a0 with long := (a0.long + ((a1.length : Nat) : Int)) } : Sponge), [], A1_, c1_, hq4, (fun w m => m), va1, rfl, rfl⟩ ⟨rfl, rfl, trivial⟩ (fun w m => m.pick [0] 1 rfl rfl) ?_
    clear hq4
    rintro k20 L23 M24 ⟨l15, w19, B13, A16, c17, hl21, hB14, v18, e25, e26⟩
    rw [e25, e26]
    clear e25 e26 L23 M24
    rcases k20 with _ | k20
    · rw [keccak_Sponge_Write.l1] at hl21; cases hl21
    rw [keccak_Sponge_Write.l1] at hl21
    have m27 := v18.mx
    refine CW.seq ?_
    refine CW.seq ?_
    refine CW.region ?_
    refine OW.rv (RV.move rfl) rfl ?_
    refine OW.rv (RV.len rfl rfl) rfl ?_
    refine OW.rv (RV.gtr rfl rfl) rfl ?_
    refine OW.slot (.bool (decide (0 < l15.length))) (congrArg Value.bool (decide_eq_decide.2 (by omega))) ?_
    refine OW.nil ?_
    refine QW.then_n ?_
    by_cases h28 : 0 < l15.length
    · replace hl21 := if_t hl21 h28
      refine CW.is_t rfl (decide_eq_true h28) ?_
      refine CW.skip ?_
      refine QW.then_n ?_
      refine CW.block ?_
      refine CW.seq ?_
      refine CW.drawsU 9 mixed (by kernel_rfl) rfl ?_
      refine UW.rv 0 rfl (by kernel_rfl) rfl (RV.move rfl) rfl ?_
      refine UW.rv 1 rfl (by kernel_rfl) rfl (RV.nilCheck rfl) rfl ?_
      refine UW.rv 2 rfl (by kernel_rfl) rfl (RV.field rfl rfl rfl rfl) rfl ?_
      refine UW.slot (ptr (some b0_) 26) rfl ?_
      refine UW.rv 3 rfl (by kernel_rfl) rfl (RV.move rfl) rfl ?_
      refine UW.rv 4 rfl (by kernel_rfl) rfl (RV.nilCheck rfl) rfl ?_
      refine UW.rv 5 rfl (by kernel_rfl) rfl (RV.field rfl rfl rfl rfl) rfl ?_
      refine UW.slot (ptr (some b0_) 162) rfl ?_
      refine UW.rv 6 rfl (by kernel_rfl) rfl (RV.load rfl (List.Mem.head _) rfl rfl rfl (Sponge.C_held _)) rfl ?_
      obtain ⟨g29, hl21⟩ := some_if hl21
      obtain ⟨g30, hl21⟩ := some_if hl21
      refine UW.rv 7 rfl (by kernel_rfl) rfl (RV.arr_loS ((w19.held).toNat) rfl rfl (by omega) rfl rfl (by omega)) rfl ?_
      refine UW.rv 8 rfl (by kernel_rfl) rfl (RV.move rfl) rfl ?_
      refine UW.nil (by kernel_rfl) ?_
      refine OW.copy (ob := some b0_) (off := 26 + ((w19.held).toNat)) rfl rfl rfl rfl (fun h => nomatch h) (by rw [Sponge.C_length]; omega) (fun w m => v18.rd w (More.of hΦ 1 m rfl)) (u8s_length _) (u8s_one _) (v18.zero (by decide)) rfl ?_
      refine OW.cells ({ w19 with part := cpV w19.part ((w19.held).toNat) (l15.take (min l15.length (136 - ((w19.held).toNat)))) } : Sponge).C (by rw [u8s_take]; exact Sponge.C_part_cpy _ (by rw [List.length_take]; omega)) ?_
      refine OW.rv (RV.assign rfl) rfl ?_
      refine OW.nil ?_
      refine QW.then_n ?_
      refine CW.seq ?_
      refine CW.region ?_
      refine OW.rv (RV.move rfl) rfl ?_
      refine OW.rv (RV.move rfl) rfl ?_
      obtain ⟨g32, hl21⟩ := some_if hl21
      refine OW.rv (RV.cut_lo (s := 1) ((min l15.length (136 - ((w19.held).toNat)))) rfl rfl (by omega) rfl rfl (by omega)) rfl ?_
      refine OW.slot (.slice (subA A16 c17 (min l15.length (136 - ((w19.held).toNat))) 1) (l15.drop (min l15.length (136 - ((w19.held).toNat)))).length (c17 - (min l15.length (136 - ((w19.held).toNat))))) (by rw [show ((l15.drop (min l15.length (136 - ((w19.held).toNat))))).length = (l15).length - ((min l15.length (136 - ((w19.held).toNat)))) from List.length_drop]) ?_
      have v31 : View (More w0 Φ B13) (subA A16 c17 (min l15.length (136 - ((w19.held).toNat))) 1) (l15.drop (min l15.length (136 - ((w19.held).toNat)))).length (c17 - (min l15.length (136 - ((w19.held).toNat)))) 1 (u8s (l15.drop (min l15.length (136 - ((w19.held).toNat))))) := v18.lo8 (by omega)
      have m33 := v31.mx
      refine OW.rv (RV.assign rfl) rfl ?_
      refine OW.nil ?_
      refine QW.then_n ?_
      refine CW.seq ?_
      refine CW.region ?_
      refine OW.rv (RV.move rfl) rfl ?_
      refine OW.rv (RV.nilCheck rfl) rfl ?_
      refine OW.rv (RV.field rfl rfl rfl rfl) rfl ?_
      refine OW.slot (ptr (some b0_) 162) rfl ?_
      refine OW.rv (RV.load rfl (List.Mem.head _) rfl rfl rfl (Sponge.C_held _)) rfl ?_
      refine OW.rv (RV.move rfl) rfl ?_
      obtain ⟨g34, hl21⟩ := some_if hl21
      refine OW.rv (RV.add rfl rfl (by omega)) rfl ?_
      refine OW.rv (RV.nilCheck rfl) rfl ?_
      refine OW.rv (RV.field rfl rfl rfl rfl) rfl ?_
      refine OW.slot (ptr (some b0_) 162) rfl ?_
      refine OW.sv (SV.store rfl rfl rfl rfl rfl (by rw [Sponge.C_length]; omega)) ?_
      refine OW.cells ({ ({ w19 with part := cpV w19.part ((w19.held).toNat) (l15.take (min l15.length (136 - ((w19.held).toNat)))) } : Sponge) with held := (({ w19 with part := cpV w19.part ((w19.held).toNat) (l15.take (min l15.length (136 - ((w19.held).toNat)))) } : Sponge).held + (((min l15.length (136 - ((w19.held).toNat))) : Nat) : Int)) } : Sponge).C (Sponge.C_held_set _ _) ?_
      refine OW.nil ?_
      refine QW.then_n ?_
      refine CW.seq ?_
      refine CW.region ?_
      refine OW.rv (RV.move rfl) rfl ?_
      refine OW.rv (RV.nilCheck rfl) rfl ?_
      refine OW.rv (RV.field rfl rfl rfl rfl) rfl ?_
      refine OW.slot (ptr (some b0_) 162) rfl ?_
      refine OW.rv (RV.load rfl (List.Mem.head _) rfl rfl rfl (Sponge.C_held _)) rfl ?_
      refine OW.rv (RV.eql rfl rfl) rfl ?_
      refine OW.nil ?_
      refine QW.then_n ?_
      obtain ⟨q35, hq36, hl21⟩ := some_bind hl21
      refine CW.cutJ (fun L' M' => ∃ w39 : Sponge, ∃ B37 : List Ent, q35 = w39 ∧ (∀ w, Mem w0 w B37 → Mem w0 w B13) ∧ L' = [(0, ptr (some b0_) 0), (1, .slice (subA A16 c17 (min l15.length (136 - ((w19.held).toNat))) 1) (l15.drop (min l15.length (136 - ((w19.held).toNat)))).length (c17 - (min l15.length (136 - ((w19.held).toNat)))))] ∧ M' = ((some b0_, blk w39.C 88) :: (B37 ++ N))) ?_ ?_
      · rintro L41 M42 ⟨w39, B37, e40, hB38, e43, e44⟩
        rw [e43, e44]
        clear e43 e44 L41 M42
        clear hq36
        rw [e40] at hl21
        clear e40
        try dsimp only at hl21
        replace v31 := v31.mono (Ψ := More w0 Φ B37) (fun w q => More.mono (fun w m => hB38 w (m)) q)
        refine QW.block_n ?_
        exact QW.againJ (k' := k20) (Nat.lt_succ_self _) ⟨(l15.drop (min l15.length (136 - ((w19.held).toNat)))), w39, B37, (subA A16 c17 (min l15.length (136 - ((w19.held).toNat))) 1), (c17 - (min l15.length (136 - ((w19.held).toNat)))), hl21, (fun w m => hB14 w (hB38 w (m))), v31, rfl, rfl⟩ ⟨rfl, rfl, trivial⟩ (fun w m => m.pick [0] 1 rfl rfl)
      · skip
        by_cases h45 : ({ ({ w19 with part := cpV w19.part ((w19.held).toNat) (l15.take (min l15.length (136 - ((w19.held).toNat)))) } : Sponge) with held := (({ w19 with part := cpV w19.part ((w19.held).toNat) (l15.take (min l15.length (136 - ((w19.held).toNat)))) } : Sponge).held + (((min l15.length (136 - ((w19.held).toNat))) : Nat) : Int)) } : Sponge).held = (136 : Int)
        · replace hq36 := if_t hq36 h45
          refine CW.is_t rfl (decide_eq_true h45) ?_
          refine CW.region ?_
          refine OW.rv (RV.move rfl) rfl ?_
          obtain ⟨x47, hx46, hq36⟩ := some_bind hq36
          refine OW.callG Tryd.call67 rfl (keccak_Sponge_absorb_does w0 (More w0 Φ B13) ((B13 ++ N)) (fun w m => More.of hΦ 0 m rfl) b0_ ({ ({ w19 with part := cpV w19.part ((w19.held).toNat) (l15.take (min l15.length (136 - ((w19.held).toNat)))) } : Sponge) with held := (({ w19 with part := cpV w19.part ((w19.held).toNat) (l15.take (min l15.length (136 - ((w19.held).toNat)))) } : Sponge).held + (((min l15.length (136 - ((w19.held).toNat))) : Nat) : Int)) } : Sponge) x47 hx46) rfl rfl ?_
          rintro L49 M50 ⟨B48, e51, e52⟩
          rw [e51, e52]
          clear e51 e52 L49 M50
          refine OW.mem (M' := ((some b0_, blk x47.C 88) :: ((B48 ++ B13) ++ N))) (fun w m => by have h := Mem.sinkAt (A := B48) m 1 0 rfl rfl; exact h) ?_
          replace v31 := v31.mono (Ψ := More w0 Φ (B48 ++ B13)) (fun w q => More.mono (fun w m => (m).appR) q)
          replace v18 := v18.mono (Ψ := More w0 Φ (B48 ++ B13)) (fun w q => More.mono (fun w m => (m).appR) q)
          refine OW.nil ?_
          exact QW.join ⟨x47, (B48 ++ B13), (Option.some.inj hq36).symm, (fun w m => (m).appR), rfl, rfl⟩ ⟨rfl, rfl, trivial⟩ (fun w m => m.pick [0] 1 rfl rfl)
        · replace hq36 := if_f hq36 h45
          refine CW.is_f rfl (decide_eq_false h45) ?_
          refine CW.skip ?_
          exact QW.join ⟨({ ({ w19 with part := cpV w19.part ((w19.held).toNat) (l15.take (min l15.length (136 - ((w19.held).toNat)))) } : Sponge) with held := (({ w19 with part := cpV w19.part ((w19.held).toNat) (l15.take (min l15.length (136 - ((w19.held).toNat)))) } : Sponge).held + (((min l15.length (136 - ((w19.held).toNat))) : Nat) : Int)) } : Sponge), B13, (Option.some.inj hq36).symm, (fun w m => m), rfl, rfl⟩ ⟨rfl, rfl, trivial⟩ (fun w m => m.pick [0] 1 rfl rfl)
    · replace hl21 := if_f hl21 h28
      refine CW.is_f rfl (decide_eq_false h28) ?_
      refine CW.exit ?_
      refine QW.then_x ?_
      refine QW.then_x ?_
      refine QW.block_xe ?_
      exact QW.join ⟨w19, B13, (Option.some.inj hl21).symm, (fun w m => hB14 w (m)), rfl, rfl⟩ trivial (fun w m => m.pick [0] 1 rfl rfl)

theorem keccak_Sponge_Sum_does (w0 : World) (Φ : Ctx) (N : List Ent) (hΦ : ∀ w, Mem w0 w N → Φ w) (b0_ : Nat) (a0 : Sponge) (res0 : Vector (BitVec 8) 32) (new0 : Sponge) (hg0 : View Φ (some ⟨0, 0, none⟩) 2 2 1 (u8s firstL)) (hf : keccak_Sponge_Sum a0 = some (res0, new0)) : DoesG Tryd.prog 59 [ptr (some b0_) 0] w0 [(some b0_, blk a0.C 88)] N (fun v G => ∃ B : List Ent, v = .agg (u8s res0.toList).toArray ∧ G = (some b0_, blk new0.C 88) :: B) := by
  unfold keccak_Sponge_Sum at hf
  replace hg0 := hg0.mono (Ψ := More w0 Φ []) (fun w q => q.1)
  refine DoesG.enter Tryd.func59 rfl Tryd.ntmps59 rfl (M := ((some b0_, blk a0.C 88) :: ([] ++ N))) rfl ?_
  refine CW.seq ?_
  refine CW.region ?_
  refine OW.alloc (l := (u8s (Vector.replicate 32 0#8).toList)) rfl (by rw [Vector.toList_replicate, ← u8s_rep']; rfl) rfl (fun b1 => ?_)
  refine OW.nil ?_
  refine QW.then_n ?_
  refine CW.seq ?_
  refine CW.seq ?_
  refine CW.region ?_
  refine OW.rv (RV.move rfl) rfl ?_
  refine OW.rv (RV.eqlS rfl rfl rfl) rfl ?_
  refine OW.nil ?_
  refine QW.then_n ?_
  refine CW.is_f rfl rfl ?_
  refine CW.skip ?_
  refine QW.then_n ?_
  refine CW.seq ?_
  refine CW.region ?_
  refine OW.rv (RV.move rfl) rfl ?_
  refine OW.rv (RV.nilCheck rfl) rfl ?_
  refine OW.rv (RV.loadW rfl (List.Mem.tail _ (List.Mem.head _)) rfl rfl rfl rfl (Sponge.C_length _)) rfl ?_
  refine OW.alloc (l := (⟨0, (Vector.replicate 25 0#64), (Vector.replicate 136 0#8), 0, 0⟩ : Sponge).C) rfl (by kernel_rfl) rfl (fun b2 => ?_)
  refine OW.sv (SV.storeW rfl rfl rfl (Sponge.C_one _) rfl (Sponge.C_length _) (Sponge.C_length _)) ?_
  refine OW.nil ?_
  refine QW.then_n ?_
  refine CW.seq ?_
  refine CW.region ?_
  refine OW.rv (RV.field rfl rfl rfl rfl) rfl ?_
  refine OW.slot (ptr (some b2) 26) rfl ?_
  refine OW.rv (RV.field rfl rfl rfl rfl) rfl ?_
  refine OW.slot (ptr (some b2) 162) rfl ?_
  refine OW.rv (RV.load rfl (List.Mem.head _) rfl rfl rfl (Sponge.C_held _)) rfl ?_
  obtain ⟨g3, hf⟩ := some_if hf
  obtain ⟨g4, hf⟩ := some_if hf
  refine OW.rv (RV.arr_loS ((a0.held).toNat) rfl rfl (by omega) rfl rfl (by omega)) rfl ?_
  refine OW.clear (z := .int .u8 0) (b := b2) (off := 26 + ((a0.held).toNat)) rfl rfl rfl rfl rfl (by omega) (by rw [Sponge.C_length]; omega) ?_
  refine OW.cells ({ a0 with part := cpV a0.part ((a0.held).toNat) (List.replicate (136 - ((a0.held).toNat)) 0#8) } : Sponge).C (by rw [u8s_rep0]; exact Sponge.C_part_cpy _ (by rw [List.length_replicate]; omega)) ?_
  refine OW.nil ?_
  refine QW.then_n ?_
  refine CW.seq ?_
  refine CW.drawsX ((some b1, blk (u8s (Vector.replicate 32 0#8).toList) 50) :: (some b0_, blk a0.C 88) :: ([] ++ N)) [12] (fun w m => m.pick [1, 2] 3 rfl rfl) mixed (by kernel_rfl) ?_
  refine XW.rs 0 rfl (by kernel_rfl) rfl (RV.field rfl rfl rfl rfl) rfl ?_
  refine XW.slot (ptr (some b2) 162) rfl ?_
  refine XW.rv 1 rfl (by kernel_rfl) rfl (by kernel_rfl) (RV.load rfl (List.Mem.head _) rfl rfl rfl (Sponge.C_held _)) rfl ?_
  refine XW.rs 2 rfl (by kernel_rfl) rfl (RV.field rfl rfl rfl rfl) rfl ?_
  refine XW.slot (ptr (some b2) 26) rfl ?_
  obtain ⟨g5, hf⟩ := some_if hf
  obtain ⟨g6, hf⟩ := some_if hf
  refine XW.rs 3 rfl (by kernel_rfl) rfl (RV.idx_a ((({ a0 with part := cpV a0.part ((a0.held).toNat) (List.replicate (136 - ((a0.held).toNat)) 0#8) } : Sponge).held).toNat) rfl rfl (by omega) rfl rfl (by omega)) rfl ?_
  obtain ⟨x7, hx8, hf⟩ := some_bind hf
  refine XW.rv 4 rfl (by kernel_rfl) rfl (by kernel_rfl) (RV.load rfl (List.Mem.head _) rfl rfl rfl (Sponge.C_part _ hx8)) rfl ?_
  refine XW.rs 5 rfl (by kernel_rfl) rfl (RV.field rfl rfl rfl rfl) rfl ?_
  refine XW.slot (ptr (some b2) 0) rfl ?_
  refine XW.rv 6 rfl (by kernel_rfl) rfl (by kernel_rfl) (RV.load rfl (List.Mem.head _) rfl rfl rfl (Sponge.C_kind _)) rfl ?_
  obtain ⟨g9, hf⟩ := some_if hf
  obtain ⟨x10, hx11, hf⟩ := some_bind hf
  have hl12 : (({ a0 with part := cpV a0.part ((a0.held).toNat) (List.replicate (136 - ((a0.held).toNat)) 0#8) } : Sponge).kind).toNat < 2 := lt_of_at hx11
  refine XW.rs 7 rfl (by kernel_rfl) rfl (RV.idx_arr_at (a := ⟨0, 0, none⟩) rfl rfl rfl rfl (by omega) (by omega)) rfl ?_
  refine XW.slot (rptr (some ⟨0, 0, none⟩) ((({ a0 with part := cpV a0.part ((a0.held).toNat) (List.replicate (136 - ((a0.held).toNat)) 0#8) } : Sponge).kind).toNat)) (congrArg (fun k => Value.pointer (some (Addr.add ⟨0, 0, none⟩ k))) (Nat.mul_one _)) ?_
  refine XW.rs 8 rfl (by kernel_rfl) rfl (RV.load_at rfl rfl rfl (fun w m => hg0.cell (More.of hΦ 2 m rfl) (u8s_at hx11))) rfl ?_
  refine XW.rs 9 rfl (by kernel_rfl) rfl (RV.xor8 rfl (by first | rfl | exact lit8 _ rfl) rfl (by first | rfl | exact lit8 _ rfl)) rfl ?_
  refine XW.rs 10 rfl (by kernel_rfl) rfl (RV.field rfl rfl rfl rfl) rfl ?_
  refine XW.slot (ptr (some b2) 26) rfl ?_
  refine XW.rs 11 rfl (by kernel_rfl) rfl (RV.idx_a ((({ a0 with part := cpV a0.part ((a0.held).toNat) (List.replicate (136 - ((a0.held).toNat)) 0#8) } : Sponge).held).toNat) rfl rfl (by omega) rfl rfl (by omega)) rfl ?_
  refine XW.sv 12 rfl (by kernel_rfl) (SV.store rfl rfl rfl rfl rfl (by rw [Sponge.C_length]; omega)) (fun w m => m.pick [1, 2] 3 rfl rfl) ?_
  refine XW.cells ({ ({ a0 with part := cpV a0.part ((a0.held).toNat) (List.replicate (136 - ((a0.held).toNat)) 0#8) } : Sponge) with part := ({ a0 with part := cpV a0.part ((a0.held).toNat) (List.replicate (136 - ((a0.held).toNat)) 0#8) } : Sponge).part.setIfInBounds ((({ a0 with part := cpV a0.part ((a0.held).toNat) (List.replicate (136 - ((a0.held).toNat)) 0#8) } : Sponge).held).toNat) (x7 ^^^ x10) } : Sponge).C (Sponge.C_part_set _ (by omega) _) ?_
  refine XW.nil (by kernel_rfl) ?_
  refine QW.then_n ?_
  refine CW.seq ?_
  refine CW.region ?_
  refine OW.rv (RV.field rfl rfl rfl rfl) rfl ?_
  refine OW.slot (ptr (some b2) 26) rfl ?_
  refine OW.rv (RV.idx_a (135) rfl rfl rfl rfl rfl (by omega)) rfl ?_
  refine OW.rv (RV.load rfl (List.Mem.head _) rfl rfl rfl (Sponge.C_part _ (Vector.getElem?_eq_getElem (by decide)))) rfl ?_
  refine OW.rv (RV.xor8 rfl (by first | rfl | exact lit8 _ rfl) rfl (by first | rfl | exact lit8 _ rfl)) rfl ?_
  refine OW.rv (RV.field rfl rfl rfl rfl) rfl ?_
  refine OW.slot (ptr (some b2) 26) rfl ?_
  refine OW.rv (RV.idx_a (135) rfl rfl rfl rfl rfl (by omega)) rfl ?_
  refine OW.sv (SV.store rfl rfl rfl rfl rfl (by rw [Sponge.C_length]; omega)) ?_
  refine OW.cells ({ ({ ({ a0 with part := cpV a0.part ((a0.held).toNat) (List.replicate (136 - ((a0.held).toNat)) 0#8) } : Sponge) with part := ({ a0 with part := cpV a0.part ((a0.held).toNat) (List.replicate (136 - ((a0.held).toNat)) 0#8) } : Sponge).part.setIfInBounds ((({ a0 with part := cpV a0.part ((a0.held).toNat) (List.replicate (136 - ((a0.held).toNat)) 0#8) } : Sponge).held).toNat) (x7 ^^^ x10) } : Sponge) with part := ({ ({ a0 with part := cpV a0.part ((a0.held).toNat) (List.replicate (136 - ((a0.held).toNat)) 0#8) } : Sponge) with part := ({ a0 with part := cpV a0.part ((a0.held).toNat) (List.replicate (136 - ((a0.held).toNat)) 0#8) } : Sponge).part.setIfInBounds ((({ a0 with part := cpV a0.part ((a0.held).toNat) (List.replicate (136 - ((a0.held).toNat)) 0#8) } : Sponge).held).toNat) (x7 ^^^ x10) } : Sponge).part.setIfInBounds 135 (({ ({ a0 with part := cpV a0.part ((a0.held).toNat) (List.replicate (136 - ((a0.held).toNat)) 0#8) } : Sponge) with part := ({ a0 with part := cpV a0.part ((a0.held).toNat) (List.replicate (136 - ((a0.held).toNat)) 0#8) } : Sponge).part.setIfInBounds ((({ a0 with part := cpV a0.part ((a0.held).toNat) (List.replicate (136 - ((a0.held).toNat)) 0#8) } : Sponge).held).toNat) (x7 ^^^ x10) } : Sponge).part[135] ^^^ 128#8) } : Sponge).C (Sponge.C_part_set _ (by omega) _) ?_
  refine OW.nil ?_
  refine QW.then_n ?_
  refine CW.seq ?_
  refine CW.region ?_
  obtain ⟨x14, hx13, hf⟩ := some_bind hf
  refine OW.callG Tryd.call67 rfl (keccak_Sponge_absorb_does w0 (More w0 Φ []) ((some b1, blk (u8s (Vector.replicate 32 0#8).toList) 50) :: (some b0_, blk a0.C 88) :: ([] ++ N)) (fun w m => More.of hΦ 2 m rfl) b2 ({ ({ ({ a0 with part := cpV a0.part ((a0.held).toNat) (List.replicate (136 - ((a0.held).toNat)) 0#8) } : Sponge) with part := ({ a0 with part := cpV a0.part ((a0.held).toNat) (List.replicate (136 - ((a0.held).toNat)) 0#8) } : Sponge).part.setIfInBounds ((({ a0 with part := cpV a0.part ((a0.held).toNat) (List.replicate (136 - ((a0.held).toNat)) 0#8) } : Sponge).held).toNat) (x7 ^^^ x10) } : Sponge) with part := ({ ({ a0 with part := cpV a0.part ((a0.held).toNat) (List.replicate (136 - ((a0.held).toNat)) 0#8) } : Sponge) with part := ({ a0 with part := cpV a0.part ((a0.held).toNat) (List.replicate (136 - ((a0.held).toNat)) 0#8) } : Sponge).part.setIfInBounds ((({ a0 with part := cpV a0.part ((a0.held).toNat) (List.replicate (136 - ((a0.held).toNat)) 0#8) } : Sponge).held).toNat) (x7 ^^^ x10) } : Sponge).part.setIfInBounds 135 (({ ({ a0 with part := cpV a0.part ((a0.held).toNat) (List.replicate (136 - ((a0.held).toNat)) 0#8) } : Sponge) with part := ({ a0 with part := cpV a0.part ((a0.held).toNat) (List.replicate (136 - ((a0.held).toNat)) 0#8) } : Sponge).part.setIfInBounds ((({ a0 with part := cpV a0.part ((a0.held).toNat) (List.replicate (136 - ((a0.held).toNat)) 0#8) } : Sponge).held).toNat) (x7 ^^^ x10) } : Sponge).part[135] ^^^ 128#8) } : Sponge) x14 hx13) rfl rfl ?_
  rintro L16 M17 ⟨B15, e18, e19⟩
  rw [e18, e19]
  clear e18 e19 L16 M17
  refine OW.mem (M' := ((some b2, blk x14.C 88) :: (some b1, blk (u8s (Vector.replicate 32 0#8).toList) 50) :: (some b0_, blk a0.C 88) :: ((B15 ++ []) ++ N))) (fun w m => by have h := Mem.sinkAt (A := B15) m 1 2 rfl rfl; exact h) ?_
  replace hg0 := hg0.mono (Ψ := More w0 Φ (B15 ++ [])) (fun w q => More.mono (fun w m => (m).appR) q)
  refine OW.nil ?_
  refine QW.then_n ?_
  refine CW.seq ?_
  refine CW.region ?_
  refine OW.alloc (l := (u8s (Vector.replicate 32 0#8).toList)) rfl (by rw [Vector.toList_replicate, ← u8s_rep']; rfl) rfl (fun b20 => ?_)
  refine OW.nil ?_
  refine QW.then_n ?_
  refine CW.seq ?_
  refine CW.seq ?_
  refine CW.region ?_
  refine OW.rv (RV.move rfl) rfl ?_
  refine OW.nil ?_
  refine QW.then_n ?_
  obtain ⟨q21, hq22, hf⟩ := some_bind hf
  refine CW.cutJ (fun L' M' => ∃ w23 : Vector (BitVec 8) 32, q21 = w23 ∧ L' = [(2, ptr (some b1) 0), (4, ptr (some b20) 0)] ∧ M' = ((some b20, blk (u8s w23.toList) 50) :: (some b1, blk (u8s (Vector.replicate 32 0#8).toList) 50) :: (some b0_, blk a0.C 88) :: ((B15 ++ []) ++ N))) ?_ ?_
  · rintro L25 M26 ⟨w23, e24, e27, e28⟩
    rw [e27, e28]
    clear e27 e28 L25 M26
    clear hq22
    rw [e24] at hf
    clear e24
    try dsimp only at hf
    refine QW.then_n ?_
    refine CW.seq ?_
    refine CW.region ?_
    refine OW.rv (RV.loadW rfl (List.Mem.head _) rfl rfl rfl rfl ((u8s_length _).trans Vector.length_toList)) rfl ?_
    refine OW.rot1 ?_
    refine OW.sv (SV.storeW rfl rfl rfl (u8s_one _) rfl ((u8s_length _).trans Vector.length_toList) ((u8s_length _).trans Vector.length_toList)) ?_
    refine OW.nil ?_
    refine QW.then_n ?_
    refine CW.ret ?_
    have er0 := Option.some.inj hf
    obtain ⟨e0, er1⟩ := Prod.mk.inj er0
    clear er0
    subst e0
    subst er1
    refine QW.retG (rs := [.cell 2 50]) ([.agg (u8s w23.toList).toArray]) ((some b0_, blk a0.C 88) :: (B15 ++ [])) rfl ?_ rfl ?_ ?_ _ (.inl rfl)
    · exact ⟨⟨_, _, _, _, rfl, (List.Mem.head _), rfl, rfl, (congrArg some ((u8s_length _).trans Vector.length_toList).symm), rfl⟩, trivial⟩
    · exact ⟨(B15 ++ []), rfl, rfl⟩
    · exact (fun w m => m.pick [2] 3 rfl rfl)
  · skip
    refine CW.block ?_
    refine CW.loopJ (fun k L' M' => ∃ n29 : Nat, ∃ w31 : Vector (BitVec 8) 32, (keccak_Sponge_Sum.l1 x14 k n29 w31) = some q21 ∧ (n29 ≤ 9223372036854775807) ∧ L' = [(2, ptr (some b1) 0), (3, ptr (some b2) 0), (4, ptr (some b20) 0), (35, .int .i64 ((n29 : Nat) : Int))] ∧ M' = ((some b20, blk (u8s w31.toList) 50) :: (some b2, blk x14.C 88) :: (some b1, blk (u8s (Vector.replicate 32 0#8).toList) 50) :: (some b0_, blk a0.C 88) :: ((B15 ++ []) ++ N))) (k0 := (32 - 0 + 2)) ⟨0, (Vector.replicate 32 0#8), hq22, (by omega), rfl, rfl⟩ ⟨rfl, rfl, rfl, rfl, trivial⟩ (fun w m => m.pick [0, 1, 2, 3] 4 rfl rfl) ?_
    clear hq22
    rintro k32 L35 M36 ⟨n29, w31, hl33, b30, e37, e38⟩
    rw [e37, e38]
    clear e37 e38 L35 M36
    rcases k32 with _ | k32
    · rw [keccak_Sponge_Sum.l1] at hl33; cases hl33
    rw [keccak_Sponge_Sum.l1] at hl33
    refine CW.seq ?_
    refine CW.region ?_
    refine OW.rv (RV.lss rfl rfl) rfl ?_
    refine OW.slot (.bool (decide (n29 < 32))) (congrArg Value.bool (decide_eq_decide.2 (by omega))) ?_
    refine OW.nil ?_
    refine QW.then_n ?_
    refine CW.seq ?_
    by_cases h39 : n29 < 32
    · replace hl33 := if_t hl33 h39
      refine CW.is_t rfl (decide_eq_true h39) ?_
      refine CW.skip ?_
      refine QW.then_n ?_
      refine CW.seq ?_
      refine CW.block ?_
      refine CW.seq ?_
      refine CW.region ?_
      refine OW.rv (RV.move rfl) rfl ?_
      refine OW.rv (RV.assign rfl) rfl ?_
      refine OW.nil ?_
      refine QW.then_n ?_
      refine CW.region ?_
      refine OW.rv (RV.move rfl) rfl ?_
      refine OW.rv (RV.move rfl) rfl ?_
      refine OW.rv (RV.quo rfl rfl (by omega) (by omega) (by omega)) rfl ?_
      refine OW.slot (.int .i64 ((n29 / 8 : Nat) : Int)) (by first | rfl | (congr 1; omega)) ?_
      refine OW.rv (RV.field rfl rfl rfl rfl) rfl ?_
      refine OW.slot (ptr (some b2) 1) rfl ?_
      obtain ⟨g40, hl33⟩ := some_if hl33
      refine OW.rv (RV.idx_a ((n29 / 8)) rfl rfl rfl rfl rfl (by omega)) rfl ?_
      obtain ⟨x41, hx42, hl33⟩ := some_bind hl33
      refine OW.rv (RV.load rfl (List.Mem.tail _ (List.Mem.head _)) rfl rfl rfl (Sponge.C_lanes _ hx42)) rfl ?_
      refine OW.rv (RV.move rfl) rfl ?_
      refine OW.rv (RV.rem rfl rfl (by omega) (by omega)) rfl ?_
      refine OW.slot (.int .i64 ((n29 % 8 : Nat) : Int)) (by first | rfl | (congr 1; omega)) ?_
      refine OW.rv (RV.mul rfl rfl (by omega)) rfl ?_
      refine OW.slot (.int .i64 (((8 * (n29 % 8)) : Nat) : Int)) (by first | rfl | (congr 1) | (congr 1; omega)) ?_
      refine OW.rv (RV.shr64 (s := (8 * (n29 % 8))) rfl (by first | rfl | exact lit64 _ rfl) rfl (by first | rfl | (congr 1))) rfl ?_
      refine OW.rv (RV.conv64_8 rfl (by first | rfl | exact lit64 _ rfl) rfl rfl) rfl ?_
      refine OW.rv (RV.idx_a (n29) rfl rfl rfl rfl rfl (by omega)) rfl ?_
      refine OW.sv (SV.store rfl rfl rfl rfl rfl (by rw [u8s_length, Vector.length_toList]; omega)) ?_
      refine OW.cells (u8s (w31.setIfInBounds n29 ((x41 >>> (8 * (n29 % 8))).setWidth 8)).toList) (by rw [Nat.zero_add, u8s_set', vset]) ?_
      refine OW.nil ?_
      refine QW.block_n ?_
      refine QW.then_n ?_
      refine CW.region ?_
      refine OW.rv (RV.add rfl rfl (by omega)) rfl ?_
      refine OW.slot (.int .i64 (((n29 + 1) : Nat) : Int)) (by first | rfl | (congr 1) | (congr 1; omega)) ?_
      refine OW.rv (RV.move rfl) rfl ?_
      refine OW.nil ?_
      exact QW.againJ (k' := k32) (Nat.lt_succ_self _) ⟨(n29 + 1), (w31.setIfInBounds n29 ((x41 >>> (8 * (n29 % 8))).setWidth 8)), hl33, (by omega), rfl, rfl⟩ ⟨rfl, rfl, rfl, rfl, trivial⟩ (fun w m => m.pick [0, 1, 2, 3] 4 rfl rfl)
    · replace hl33 := if_f hl33 h39
      refine CW.is_f rfl (decide_eq_false h39) ?_
      refine CW.exit ?_
      refine QW.then_x ?_
      refine QW.then_x ?_
      refine QW.block_xe ?_
      exact QW.join ⟨w31, (Option.some.inj hl33).symm, rfl, rfl⟩ ⟨rfl, rfl, trivial⟩ (fun w m => m.pick [0, 2, 3] 4 rfl rfl)

theorem keccak_digest_does (w0 : World) (Φ : Ctx) (N : List Ent) (hΦ : ∀ w, Mem w0 w N → Φ w) (a0 : Int) (A1_ : Option Addr) (c1_ : Nat) (cs1_ : List Value) (a1 : List (List (BitVec 8))) (res0 : Vector (BitVec 8) 32) (ba0 : -9223372036854775808 ≤ a0 ∧ a0 ≤ 9223372036854775807) (va1 : View Φ A1_ a1.length c1_ 1 cs1_) (ha1 : Reps (BsRd Φ) cs1_ a1) (hg0 : View Φ (some ⟨0, 0, none⟩) 2 2 1 (u8s firstL)) (hf : keccak_digest a0 a1 = some res0) : DoesG Tryd.prog 37 [.int .i64 a0, .slice A1_ a1.length c1_] w0 [] N (fun v G => v = .agg (u8s res0.toList).toArray) := by
  unfold keccak_digest at hf
  replace va1 := va1.mono (Ψ := More w0 Φ []) (fun w q => q.1)
  replace hg0 := hg0.mono (Ψ := More w0 Φ []) (fun w q => q.1)
  replace ha1 := ha1.mono (BsRd.mono (Ψ := More w0 Φ []) (fun w q => q.1))
  have m1 := va1.mx
  refine DoesG.enter Tryd.func37 rfl Tryd.ntmps37 rfl (M := (([] ++ N))) rfl ?_
  refine CW.seq ?_
  refine CW.region ?_
  refine OW.alloc (l := (u8s (Vector.replicate 32 0#8).toList)) rfl (by rw [Vector.toList_replicate, ← u8s_rep']; rfl) rfl (fun b2 => ?_)
  refine OW.nil ?_
  refine QW.then_n ?_
  refine CW.seq ?_
  refine CW.region ?_
  refine OW.rv (RV.move rfl) rfl ?_
  refine OW.rv (RV.buildSt (l := (⟨0, (Vector.replicate 25 0#64), (Vector.replicate 136 0#8), 0, 0⟩ : Sponge).C) (cs := ({ (⟨0, (Vector.replicate 25 0#64), (Vector.replicate 136 0#8), 0, 0⟩ : Sponge) with kind := a0 } : Sponge).C) [(0, [.int .i64 a0])] rfl rfl rfl rfl rfl rfl rfl) rfl ?_
  refine OW.alloc (l := (⟨0, (Vector.replicate 25 0#64), (Vector.replicate 136 0#8), 0, 0⟩ : Sponge).C) rfl (by kernel_rfl) rfl (fun b3 => ?_)
  refine OW.sv (SV.storeW rfl rfl rfl (Sponge.C_one _) rfl (Sponge.C_length _) (Sponge.C_length _)) ?_
  refine OW.nil ?_
  refine QW.then_n ?_
  refine CW.seq ?_
  refine CW.seq ?_
  refine CW.region ?_
  refine OW.rv (RV.move rfl) rfl ?_
  refine OW.rv (RV.len rfl rfl) rfl ?_
  refine OW.rv (RV.move rfl) rfl ?_
  refine OW.nil ?_
  refine QW.then_n ?_
  obtain ⟨q4, hq5, hf⟩ := some_bind hf
  refine CW.cutJ (fun L' M' => ∃ w8 : Sponge, ∃ B6 : List Ent, q4 = w8 ∧ (∀ w, Mem w0 w B6 → Mem w0 w []) ∧ L' = [(4, ptr (some b2) 0), (5, ptr (some b3) 0)] ∧ M' = ((some b3, blk w8.C 88) :: (some b2, blk (u8s (Vector.replicate 32 0#8).toList) 50) :: (B6 ++ N))) ?_ ?_
  · rintro L10 M11 ⟨w8, B6, e9, hB7, e12, e13⟩
    rw [e12, e13]
    clear e12 e13 L10 M11
    clear hq5
    rw [e9] at hf
    clear e9
    try dsimp only at hf
    replace hg0 := hg0.mono (Ψ := More w0 Φ B6) (fun w q => More.mono (fun w m => hB7 w (m)) q)
    refine QW.then_n ?_
    refine CW.seq ?_
    refine CW.region ?_
    obtain ⟨⟨x15, x16⟩, hx14, hf⟩ := some_bind hf
    try dsimp only at hf
    refine OW.callG Tryd.call59 rfl (keccak_Sponge_Sum_does w0 (More w0 Φ B6) ((some b2, blk (u8s (Vector.replicate 32 0#8).toList) 50) :: (B6 ++ N)) (fun w m => More.of hΦ 1 m rfl) b3 w8 x15 x16 hg0 hx14) rfl rfl ?_
    rintro L18 M19 ⟨B17, e20, e21⟩
    rw [e20, e21]
    clear e20 e21 L18 M19
    refine OW.mem (M' := ((some b3, blk x16.C 88) :: (some b2, blk (u8s (Vector.replicate 32 0#8).toList) 50) :: ((B17 ++ B6) ++ N))) (fun w m => by have h := Mem.sinkAt (A := B17) m 1 1 rfl rfl; exact h) ?_
    replace hg0 := hg0.mono (Ψ := More w0 Φ (B17 ++ B6)) (fun w q => More.mono (fun w m => (m).appR) q)
    refine OW.rot1 ?_
    refine OW.sv (SV.storeW rfl rfl rfl (u8s_one _) rfl ((u8s_length _).trans Vector.length_toList) ((u8s_length _).trans Vector.length_toList)) ?_
    refine OW.nil ?_
    refine QW.then_n ?_
    refine CW.ret ?_
    have e0 := Option.some.inj hf
    subst e0
    refine QW.retG (rs := [.cell 4 50]) ([.agg (u8s x15.toList).toArray]) ((some b2, blk (u8s x15.toList) 50) :: (some b3, blk x16.C 88) :: (B17 ++ B6)) rfl ?_ rfl ?_ ?_ _ (.inl rfl)
    · exact ⟨⟨_, _, _, _, rfl, (List.Mem.head _), rfl, rfl, (congrArg some ((u8s_length _).trans Vector.length_toList).symm), rfl⟩, trivial⟩
    · exact rfl
    · exact (fun w m => m)
  · skip
    refine CW.block ?_
    refine CW.loopJ (fun k L' M' => ∃ n24 : Nat, ∃ w26 : Sponge, ∃ B22 : List Ent, (keccak_digest.l1 a1 k n24 w26) = some q4 ∧ (∀ w, Mem w0 w B22 → Mem w0 w []) ∧ (n24 ≤ 9223372036854775807) ∧ L' = [(4, ptr (some b2) 0), (5, ptr (some b3) 0), (10, .slice A1_ a1.length c1_), (11, .int .i64 ((a1.length : Nat) : Int)), (12, .int .i64 ((n24 : Nat) : Int))] ∧ M' = ((some b3, blk w26.C 88) :: (some b2, blk (u8s (Vector.replicate 32 0#8).toList) 50) :: (B22 ++ N))) (k0 := (a1.length - 0 + 2)) ⟨0, ({ (⟨0, (Vector.replicate 25 0#64), (Vector.replicate 136 0#8), 0, 0⟩ : Sponge) with kind := a0 } : Sponge), [], hq5, (fun w m => m), (by omega), rfl, rfl⟩ ⟨rfl, rfl, rfl, rfl, rfl, trivial⟩ (fun w m => m.pick [0, 1] 2 rfl rfl) ?_
    clear hq5
    rintro k27 L30 M31 ⟨n24, w26, B22, hl28, hB23, b25, e32, e33⟩
    rw [e32, e33]
    clear e32 e33 L30 M31
    rcases k27 with _ | k27
    · rw [keccak_digest.l1] at hl28; cases hl28
    rw [keccak_digest.l1] at hl28
    replace va1 := va1.mono (Ψ := More w0 Φ B22) (fun w q => More.mono (fun w m => hB23 w (m)) q)
    replace ha1 := ha1.mono (BsRd.mono (Ψ := More w0 Φ B22) (fun w q => More.mono (fun w m => hB23 w (m)) q))
    replace hg0 := hg0.mono (Ψ := More w0 Φ B22) (fun w q => More.mono (fun w m => hB23 w (m)) q)
    refine CW.seq ?_
    refine CW.region ?_
    refine OW.rv (RV.lss rfl rfl) rfl ?_
    refine OW.slot (.bool (decide (n24 < a1.length))) (congrArg Value.bool (decide_eq_decide.2 (by omega))) ?_
    refine OW.nil ?_
    refine QW.then_n ?_
    refine CW.seq ?_
    by_cases h34 : n24 < a1.length
    · replace hl28 := if_t hl28 h34
      refine CW.is_t rfl (decide_eq_true h34) ?_
      refine CW.skip ?_
      refine QW.then_n ?_
      refine CW.seq ?_
      refine CW.block ?_
      refine CW.seq ?_
      refine CW.region ?_
      obtain ⟨x35, hx36, hl28⟩ := some_bind hl28
      have hl37 := lt_of_at hx36
      refine OW.rv (RV.idx_r (n24) rfl rfl rfl rfl rfl (va1.isSome (by decide) hl37) (by omega)) rfl ?_
      obtain ⟨cs38, h39, h40⟩ := ha1.get BsRd.len hx36
      obtain ⟨A41, c42, e44, v43⟩ := h39
      subst e44
      have m45 := v43.mx
      refine OW.rv (RV.load_at rfl rfl rfl (fun w m => by have := va1.load (More.of hΦ 2 m rfl) h40 0 _ rfl; simpa [Addr.add] using this)) rfl ?_
      refine OW.rv (RV.assign rfl) rfl ?_
      refine OW.nil ?_
      refine QW.then_n ?_
      refine CW.region ?_
      refine OW.rv (RV.move rfl) rfl ?_
      obtain ⟨x47, hx46, hl28⟩ := some_bind hl28
      refine OW.callG Tryd.call58 rfl (keccak_Sponge_Write_does w0 (More w0 Φ B22) ((some b2, blk (u8s (Vector.replicate 32 0#8).toList) 50) :: (B22 ++ N)) (fun w m => More.of hΦ 1 m rfl) b3 w26 A41 c42 x35 x47 v43 hx46) rfl rfl ?_
      rintro L49 M50 ⟨B48, e51, e52⟩
      rw [e51, e52]
      clear e51 e52 L49 M50
      refine OW.mem (M' := ((some b3, blk x47.C 88) :: (some b2, blk (u8s (Vector.replicate 32 0#8).toList) 50) :: ((B48 ++ B22) ++ N))) (fun w m => by have h := Mem.sinkAt (A := B48) m 1 1 rfl rfl; exact h) ?_
      replace va1 := va1.mono (Ψ := More w0 Φ (B48 ++ B22)) (fun w q => More.mono (fun w m => (m).appR) q)
      replace ha1 := ha1.mono (BsRd.mono (Ψ := More w0 Φ (B48 ++ B22)) (fun w q => More.mono (fun w m => (m).appR) q))
      replace v43 := v43.mono (Ψ := More w0 Φ (B48 ++ B22)) (fun w q => More.mono (fun w m => (m).appR) q)
      replace hg0 := hg0.mono (Ψ := More w0 Φ (B48 ++ B22)) (fun w q => More.mono (fun w m => (m).appR) q)
      refine OW.nil ?_
      refine QW.block_n ?_
      refine QW.then_n ?_
      refine CW.region ?_
      refine OW.rv (RV.add rfl rfl (by omega)) rfl ?_
      refine OW.slot (.int .i64 (((n24 + 1) : Nat) : Int)) (by first | rfl | (congr 1) | (congr 1; omega)) ?_
      refine OW.rv (RV.move rfl) rfl ?_
      refine OW.nil ?_
      exact QW.againJ (k' := k27) (Nat.lt_succ_self _) ⟨(n24 + 1), x47, (B48 ++ B22), hl28, (fun w m => hB23 w ((m).appR)), (by omega), rfl, rfl⟩ ⟨rfl, rfl, rfl, rfl, rfl, trivial⟩ (fun w m => m.pick [0, 1] 2 rfl rfl)
    · replace hl28 := if_f hl28 h34
      refine CW.is_f rfl (decide_eq_false h34) ?_
      refine CW.exit ?_
      refine QW.then_x ?_
      refine QW.then_x ?_
      refine QW.block_xe ?_
      exact QW.join ⟨w26, B22, (Option.some.inj hl28).symm, (fun w m => hB23 w (m)), rfl, rfl⟩ ⟨rfl, rfl, trivial⟩ (fun w m => m.pick [0, 1] 2 rfl rfl)

theorem keccak_Sum_does (w0 : World) (Φ : Ctx) (N : List Ent) (hΦ : ∀ w, Mem w0 w N → Φ w) (A0_ : Option Addr) (c0_ : Nat) (cs0_ : List Value) (a0 : List (List (BitVec 8))) (res0 : Vector (BitVec 8) 32) (va0 : View Φ A0_ a0.length c0_ 1 cs0_) (ha0 : Reps (BsRd Φ) cs0_ a0) (hg0 : View Φ (some ⟨0, 0, none⟩) 2 2 1 (u8s firstL)) (hf : keccak_Sum a0 = some res0) : DoesG Tryd.prog 27 [.slice A0_ a0.length c0_] w0 [] N (fun v G => v = .agg (u8s res0.toList).toArray) := by
  unfold keccak_Sum at hf
  replace va0 := va0.mono (Ψ := More w0 Φ []) (fun w q => q.1)
  replace hg0 := hg0.mono (Ψ := More w0 Φ []) (fun w q => q.1)
  replace ha0 := ha0.mono (BsRd.mono (Ψ := More w0 Φ []) (fun w q => q.1))
  have m1 := va0.mx
  refine DoesG.enter Tryd.func27 rfl Tryd.ntmps27 rfl (M := (([] ++ N))) rfl ?_
  refine CW.seq ?_
  refine CW.region ?_
  refine OW.alloc (l := (u8s (Vector.replicate 32 0#8).toList)) rfl (by rw [Vector.toList_replicate, ← u8s_rep']; rfl) rfl (fun b2 => ?_)
  refine OW.nil ?_
  refine QW.then_n ?_
  refine CW.seq ?_
  refine CW.region ?_
  refine OW.rv (RV.move rfl) rfl ?_
  obtain ⟨x4, hx3, hf⟩ := some_bind hf
  refine OW.callG Tryd.call37 rfl (keccak_digest_does w0 (More w0 Φ []) ((some b2, blk (u8s (Vector.replicate 32 0#8).toList) 50) :: ([] ++ N)) (fun w m => More.of hΦ 1 m rfl) (0 : Int) A0_ c0_ cs0_ a0 x4 (by omega) va0 ha0 hg0 hx3) rfl rfl ?_
  rintro _ G5 rfl
  refine OW.mem (M' := ((some b2, blk (u8s (Vector.replicate 32 0#8).toList) 50) :: ([] ++ N))) (fun w m => m.appR) ?_
  refine OW.sv (SV.storeW rfl rfl rfl (u8s_one _) rfl ((u8s_length _).trans Vector.length_toList) ((u8s_length _).trans Vector.length_toList)) ?_
  refine OW.nil ?_
  refine QW.then_n ?_
  refine CW.ret ?_
  have e0 := Option.some.inj hf
  subst e0
  refine QW.retG (rs := [.cell 2 50]) ([.agg (u8s x4.toList).toArray]) ((some b2, blk (u8s x4.toList) 50) :: []) rfl ?_ rfl ?_ ?_ _ (.inl rfl)
  · exact ⟨⟨_, _, _, _, rfl, (List.Mem.head _), rfl, rfl, (congrArg some ((u8s_length _).trans Vector.length_toList).symm), rfl⟩, trivial⟩
  · exact rfl
  · exact (fun w m => m)

theorem bloom_Places_does (w0 : World) (Φ : Ctx) (N : List Ent) (hΦ : ∀ w, Mem w0 w N → Φ w) (A0_ : Option Addr) (c0_ : Nat) (a0 : List (BitVec 8)) (res0 : Vector (Int) 3) (va0 : View Φ A0_ a0.length c0_ 1 (u8s a0)) (hg0 : View Φ (some ⟨0, 0, none⟩) 2 2 1 (u8s firstL)) (hf : bloom_Places a0 = some res0) : DoesG Tryd.prog 13 [.slice A0_ a0.length c0_] w0 [] N (fun v G => v = .agg (i64s res0.toList).toArray) := by
  unfold bloom_Places at hf
  replace va0 := va0.mono (Ψ := More w0 Φ []) (fun w q => q.1)
  replace hg0 := hg0.mono (Ψ := More w0 Φ []) (fun w q => q.1)
  have m1 := va0.mx
  refine DoesG.enter Tryd.func13 rfl Tryd.ntmps13 rfl (M := (([] ++ N))) rfl ?_
  refine CW.seq ?_
  refine CW.region ?_
  refine OW.alloc (l := (i64s (Vector.replicate 3 0).toList)) rfl (by rw [Vector.toList_replicate, ← i64s_rep]; rfl) rfl (fun b2 => ?_)
  refine OW.nil ?_
  refine QW.then_n ?_
  refine CW.seq ?_
  refine CW.region ?_
  refine OW.rv (RV.move rfl) rfl ?_
  refine OW.ofN (NV.bs1 rfl rfl rfl rfl rfl rfl) rfl (fun b3 => ?_)
  have h6 : Reps (BsRd (More w0 Φ [])) (([.slice A0_ a0.length c0_] : List Value)) [a0] := Reps.one (BsRd.mk va0)
  refine OW.mem (M' := (((some b3), blk ((([.slice A0_ a0.length c0_] : List Value)) ++ []) 30) :: (some b2, blk (i64s (Vector.replicate 3 0).toList) 32) :: ([] ++ N))) (fun w m => m) ?_
  have o4 : OwnS (some b3) ([a0] : List (List (BitVec 8))).length 1 1 (([.slice A0_ a0.length c0_] : List Value)) [] := ⟨by simp [BsRd], by simp [BsRd], (fun h => nomatch h), by simp⟩
  refine OW.slot (sl (some b3) 0 ([a0] : List (List (BitVec 8))).length 1) (rfl) ?_
  refine OW.mem (M' := (some b2, blk (i64s (Vector.replicate 3 0).toList) 32) :: ((((some b3), blk ((([.slice A0_ a0.length c0_] : List Value)) ++ []) 30) :: []) ++ N)) (fun w m => m.pick [1, 0] 2 rfl rfl) ?_
  replace va0 := va0.mono (Ψ := More w0 Φ (((some b3), blk ((([.slice A0_ a0.length c0_] : List Value)) ++ []) 30) :: [])) (fun w q => More.mono (fun w m => (m).tail) q)
  replace h6 := h6.mono (BsRd.mono (Ψ := More w0 Φ (((some b3), blk ((([.slice A0_ a0.length c0_] : List Value)) ++ []) 30) :: [])) (fun w q => More.mono (fun w m => (m).tail) q))
  replace hg0 := hg0.mono (Ψ := More w0 Φ (((some b3), blk ((([.slice A0_ a0.length c0_] : List Value)) ++ []) 30) :: [])) (fun w q => More.mono (fun w m => (m).tail) q)
  have v7 : View (More w0 Φ (((some b3), blk ((([.slice A0_ a0.length c0_] : List Value)) ++ []) 30) :: [])) (((some b3)).map fun k => ⟨k, 0, none⟩) ([a0] : List (List (BitVec 8))).length 1 1 (([.slice A0_ a0.length c0_] : List Value)) := o4.view (by decide) (fun w q => q.2.sublist (List.singleton_sublist.2 (List.mem_cons_self ..)))
  obtain ⟨x9, hx8, hf⟩ := some_bind hf
  refine OW.callG Tryd.call27 rfl (keccak_Sum_does w0 (More w0 Φ (((some b3), blk ((([.slice A0_ a0.length c0_] : List Value)) ++ []) 30) :: [])) ((some b2, blk (i64s (Vector.replicate 3 0).toList) 32) :: ((((some b3), blk ((([.slice A0_ a0.length c0_] : List Value)) ++ []) 30) :: []) ++ N)) (fun w m => More.of hΦ 1 m rfl) (((some b3)).map fun k => ⟨k, 0, none⟩) 1 (([.slice A0_ a0.length c0_] : List Value)) ([a0] : List (List (BitVec 8))) x9 v7 h6 hg0 hx8) rfl rfl ?_
  rintro _ G10 rfl
  refine OW.mem (M' := ((some b2, blk (i64s (Vector.replicate 3 0).toList) 32) :: ((((some b3), blk ((([.slice A0_ a0.length c0_] : List Value)) ++ []) 30) :: []) ++ N))) (fun w m => m.appR) ?_
  refine OW.alloc (l := (u8s (Vector.replicate 32 0#8).toList)) rfl (by rw [Vector.toList_replicate, ← u8s_rep']; rfl) rfl (fun b12 => ?_)
  refine OW.sv (SV.storeW rfl rfl rfl (u8s_one _) rfl ((u8s_length _).trans Vector.length_toList) ((u8s_length _).trans Vector.length_toList)) ?_
  refine OW.nil ?_
  refine QW.then_n ?_
  refine CW.seq ?_
  refine CW.region ?_
  refine OW.alloc (l := (i64s (Vector.replicate 3 0).toList)) rfl (by rw [Vector.toList_replicate, ← i64s_rep]; rfl) rfl (fun b13 => ?_)
  refine OW.nil ?_
  refine QW.then_n ?_
  refine CW.seq ?_
  refine CW.seq ?_
  refine CW.region ?_
  refine OW.rv (RV.move rfl) rfl ?_
  refine OW.nil ?_
  refine QW.then_n ?_
  obtain ⟨q14, hq15, hf⟩ := some_bind hf
  refine CW.cutJ (fun L' M' => ∃ w16 : Vector (Int) 3, q14 = w16 ∧ L' = [(2, ptr (some b2) 0), (4, ptr (some b13) 0)] ∧ M' = ((some b13, blk (i64s w16.toList) 32) :: (some b2, blk (i64s (Vector.replicate 3 0).toList) 32) :: ((((some b3), blk ((([.slice A0_ a0.length c0_] : List Value)) ++ []) 30) :: []) ++ N))) ?_ ?_
  · rintro L18 M19 ⟨w16, e17, e20, e21⟩
    rw [e20, e21]
    clear e20 e21 L18 M19
    clear hq15
    rw [e17] at hf
    clear e17
    try dsimp only at hf
    refine QW.then_n ?_
    refine CW.seq ?_
    refine CW.region ?_
    refine OW.rv (RV.loadW rfl (List.Mem.head _) rfl rfl rfl rfl ((i64s_length _).trans Vector.length_toList)) rfl ?_
    refine OW.rot1 ?_
    refine OW.sv (SV.storeW rfl rfl rfl (i64s_one _) rfl ((i64s_length _).trans Vector.length_toList) ((i64s_length _).trans Vector.length_toList)) ?_
    refine OW.nil ?_
    refine QW.then_n ?_
    refine CW.ret ?_
    have e0 := Option.some.inj hf
    subst e0
    refine QW.retG (rs := [.cell 2 32]) ([.agg (i64s w16.toList).toArray]) ((some b2, blk (i64s w16.toList) 32) :: (some b13, blk (i64s w16.toList) 32) :: (((some b3), blk ((([.slice A0_ a0.length c0_] : List Value)) ++ []) 30) :: [])) rfl ?_ rfl ?_ ?_ _ (.inl rfl)
    · exact ⟨⟨_, _, _, _, rfl, (List.Mem.head _), rfl, rfl, (congrArg some ((i64s_length _).trans Vector.length_toList).symm), rfl⟩, trivial⟩
    · exact rfl
    · exact (fun w m => m)
  · skip
    refine CW.block ?_
    refine CW.loopJ (fun k L' M' => ∃ n22 : Nat, ∃ w24 : Vector (Int) 3, (bloom_Places.l1 x9 k n22 w24) = some q14 ∧ (n22 ≤ 9223372036854775807) ∧ L' = [(2, ptr (some b2) 0), (3, ptr (some b12) 0), (4, ptr (some b13) 0), (9, .int .i64 ((n22 : Nat) : Int))] ∧ M' = ((some b13, blk (i64s w24.toList) 32) :: (some b12, blk (u8s x9.toList) 50) :: (some b2, blk (i64s (Vector.replicate 3 0).toList) 32) :: ((((some b3), blk ((([.slice A0_ a0.length c0_] : List Value)) ++ []) 30) :: []) ++ N))) (k0 := (3 - 0 + 2)) ⟨0, (Vector.replicate 3 0), hq15, (by omega), rfl, rfl⟩ ⟨rfl, rfl, rfl, rfl, trivial⟩ (fun w m => m.pick [0, 1, 2] 3 rfl rfl) ?_
    clear hq15
    rintro k25 L28 M29 ⟨n22, w24, hl26, b23, e30, e31⟩
    rw [e30, e31]
    clear e30 e31 L28 M29
    rcases k25 with _ | k25
    · rw [bloom_Places.l1] at hl26; cases hl26
    rw [bloom_Places.l1] at hl26
    refine CW.seq ?_
    refine CW.region ?_
    refine OW.rv (RV.lss rfl rfl) rfl ?_
    refine OW.slot (.bool (decide (n22 < 3))) (congrArg Value.bool (decide_eq_decide.2 (by omega))) ?_
    refine OW.nil ?_
    refine QW.then_n ?_
    refine CW.seq ?_
    by_cases h32 : n22 < 3
    · replace hl26 := if_t hl26 h32
      refine CW.is_t rfl (decide_eq_true h32) ?_
      refine CW.skip ?_
      refine QW.then_n ?_
      refine CW.seq ?_
      refine CW.block ?_
      refine CW.seq ?_
      refine CW.region ?_
      refine OW.rv (RV.move rfl) rfl ?_
      refine OW.rv (RV.assign rfl) rfl ?_
      refine OW.nil ?_
      refine QW.then_n ?_
      refine CW.drawsX ((some b12, blk (u8s x9.toList) 50) :: (some b2, blk (i64s (Vector.replicate 3 0).toList) 32) :: ((((some b3), blk ((([.slice A0_ a0.length c0_] : List Value)) ++ []) 30) :: []) ++ N)) [16] (fun w m => m.pick [1, 2] 3 rfl rfl) mixed (by kernel_rfl) ?_
      refine XW.rs 0 rfl (by kernel_rfl) rfl (RV.move rfl) rfl ?_
      refine XW.rs 1 rfl (by kernel_rfl) rfl (RV.move rfl) rfl ?_
      refine XW.rs 2 rfl (by kernel_rfl) rfl (RV.mul rfl rfl (by omega)) rfl ?_
      refine XW.slot (.int .i64 (((2 * n22) : Nat) : Int)) (by first | rfl | (congr 1) | (congr 1; omega)) ?_
      obtain ⟨g33, hl26⟩ := some_if hl26
      refine XW.rs 3 rfl (by kernel_rfl) rfl (RV.idx_a ((2 * n22)) rfl rfl rfl rfl rfl (by omega)) rfl ?_
      obtain ⟨x34, hx35, hl26⟩ := some_bind hl26
      refine XW.rs 4 rfl (by kernel_rfl) rfl (RV.load rfl (List.Mem.head _) rfl rfl rfl (by rw [Nat.zero_add]; exact u8s_at (vat hx35))) rfl ?_
      refine XW.rs 5 rfl (by kernel_rfl) rfl (RV.conv8_i rfl (by first | rfl | exact lit8 _ rfl) rfl rfl) rfl ?_
      have m36 := (x34).isLt
      refine XW.rs 6 rfl (by kernel_rfl) rfl (RV.mul rfl rfl (by omega)) rfl ?_
      refine XW.slot (.int .i64 (((256 * x34.toNat) : Nat) : Int)) (by first | rfl | (congr 1) | (congr 1; omega)) ?_
      refine XW.rs 7 rfl (by kernel_rfl) rfl (RV.move rfl) rfl ?_
      refine XW.rs 8 rfl (by kernel_rfl) rfl (RV.mul rfl rfl (by omega)) rfl ?_
      refine XW.slot (.int .i64 (((2 * n22) : Nat) : Int)) (by first | rfl | (congr 1) | (congr 1; omega)) ?_
      refine XW.rs 9 rfl (by kernel_rfl) rfl (RV.add rfl rfl (by omega)) rfl ?_
      refine XW.slot (.int .i64 ((((2 * n22) + 1) : Nat) : Int)) (by first | rfl | (congr 1) | (congr 1; omega)) ?_
      obtain ⟨g37, hl26⟩ := some_if hl26
      refine XW.rs 10 rfl (by kernel_rfl) rfl (RV.idx_a (((2 * n22) + 1)) rfl rfl rfl rfl rfl (by omega)) rfl ?_
      obtain ⟨x38, hx39, hl26⟩ := some_bind hl26
      refine XW.rs 11 rfl (by kernel_rfl) rfl (RV.load rfl (List.Mem.head _) rfl rfl rfl (by rw [Nat.zero_add]; exact u8s_at (vat hx39))) rfl ?_
      refine XW.rs 12 rfl (by kernel_rfl) rfl (RV.conv8_i rfl (by first | rfl | exact lit8 _ rfl) rfl rfl) rfl ?_
      have m40 := (x38).isLt
      refine XW.rs 13 rfl (by kernel_rfl) rfl (RV.add rfl rfl (by omega)) rfl ?_
      refine XW.slot (.int .i64 ((((256 * x34.toNat) + x38.toNat) : Nat) : Int)) (by first | rfl | (congr 1) | (congr 1; omega)) ?_
      refine XW.rs 14 rfl (by kernel_rfl) rfl (RV.rem rfl rfl (by omega) (by omega)) rfl ?_
      refine XW.slot (.int .i64 ((((256 * x34.toNat) + x38.toNat) % 2048 : Nat) : Int)) (by first | rfl | (congr 1; omega)) ?_
      refine XW.rs 15 rfl (by kernel_rfl) rfl (RV.idx_a (n22) rfl rfl rfl rfl rfl (by omega)) rfl ?_
      refine XW.sv 16 rfl (by kernel_rfl) (SV.store rfl rfl rfl rfl rfl (by rw [i64s_length, Vector.length_toList]; omega)) (fun w m => m.pick [1, 2] 3 rfl rfl) ?_
      refine XW.cells (i64s (w24.setIfInBounds n22 ((((256 * x34.toNat) + x38.toNat) % 2048 : Nat) : Int)).toList) (by rw [Nat.zero_add, i64s_set, vset]) ?_
      refine XW.nil (by kernel_rfl) ?_
      refine QW.block_n ?_
      refine QW.then_n ?_
      refine CW.region ?_
      refine OW.rv (RV.add rfl rfl (by omega)) rfl ?_
      refine OW.slot (.int .i64 (((n22 + 1) : Nat) : Int)) (by first | rfl | (congr 1) | (congr 1; omega)) ?_
      refine OW.rv (RV.move rfl) rfl ?_
      refine OW.nil ?_
      exact QW.againJ (k' := k25) (Nat.lt_succ_self _) ⟨(n22 + 1), (w24.setIfInBounds n22 ((((256 * x34.toNat) + x38.toNat) % 2048 : Nat) : Int)), hl26, (by omega), rfl, rfl⟩ ⟨rfl, rfl, rfl, rfl, trivial⟩ (fun w m => m.pick [0, 1, 2] 3 rfl rfl)
    · replace hl26 := if_f hl26 h32
      refine CW.is_f rfl (decide_eq_false h32) ?_
      refine CW.exit ?_
      refine QW.then_x ?_
      refine QW.then_x ?_
      refine QW.block_xe ?_
      exact QW.join ⟨w24, (Option.some.inj hl26).symm, rfl, rfl⟩ ⟨rfl, rfl, trivial⟩ (fun w m => m.pick [0, 2] 3 rfl rfl)

theorem bloom_set_does (w0 : World) (Φ : Ctx) (N : List Ent) (hΦ : ∀ w, Mem w0 w N → Φ w) (a0 : Vector (BitVec 8) 256) (a1 : Int) (res0 : Vector (BitVec 8) 256) (ba1 : -9223372036854775808 ≤ a1 ∧ a1 ≤ 9223372036854775807) (hf : bloom_set a0 a1 = some res0) : DoesG Tryd.prog 29 [.agg (u8s a0.toList).toArray, .int .i64 a1] w0 [] N (fun v G => v = .agg (u8s res0.toList).toArray) := by
  unfold bloom_set at hf
  refine DoesG.enter Tryd.func29 rfl Tryd.ntmps29 rfl (M := (([] ++ N))) rfl ?_
  refine CW.seq ?_
  refine CW.region ?_
  refine OW.boxA rfl rfl (fun b1 => ?_)
  refine OW.alloc (l := (u8s (Vector.replicate 256 0#8).toList)) rfl (by rw [Vector.toList_replicate, ← u8s_rep']; rfl) rfl (fun b2 => ?_)
  refine OW.nil ?_
  refine QW.then_n ?_
  refine CW.seq ?_
  refine CW.drawsX ((some b2, blk (u8s (Vector.replicate 256 0#8).toList) 25) :: ([] ++ N)) [10] (fun w m => m.pick [0] 2 rfl rfl) mixed (by kernel_rfl) ?_
  refine XW.rs 0 rfl (by kernel_rfl) rfl (RV.move rfl) rfl ?_
  obtain ⟨g3, hf⟩ := some_if hf
  refine XW.rs 1 rfl (by kernel_rfl) rfl (RV.quo rfl rfl (by omega) (by omega) (by omega)) rfl ?_
  refine XW.slot (.int .i64 (((a1).toNat / 8 : Nat) : Int)) (by first | rfl | (congr 1; omega)) ?_
  refine XW.rs 2 rfl (by kernel_rfl) rfl (RV.sub rfl rfl (by omega)) rfl ?_
  obtain ⟨g4, hf⟩ := some_if hf
  obtain ⟨g5, hf⟩ := some_if hf
  refine XW.rs 3 rfl (by kernel_rfl) rfl (RV.idx_a ((((255 : Int) - (((a1).toNat / 8 : Nat) : Int))).toNat) rfl rfl (by omega) rfl rfl (by omega)) rfl ?_
  obtain ⟨x6, hx7, hf⟩ := some_bind hf
  refine XW.rv 4 rfl (by kernel_rfl) rfl (by kernel_rfl) (RV.load rfl (List.Mem.tail _ (List.Mem.head _)) rfl rfl rfl (by rw [Nat.zero_add]; exact u8s_at (vat hx7))) rfl ?_
  refine XW.rs 5 rfl (by kernel_rfl) rfl (RV.move rfl) rfl ?_
  refine XW.rs 6 rfl (by kernel_rfl) rfl (RV.rem rfl rfl (by omega) (by omega)) rfl ?_
  refine XW.slot (.int .i64 (((a1).toNat % 8 : Nat) : Int)) (by first | rfl | (congr 1; omega)) ?_
  refine XW.rs 7 rfl (by kernel_rfl) rfl (RV.shl8 (s := ((a1).toNat % 8)) rfl (by first | rfl | exact lit8 _ rfl) rfl (by first | rfl | (congr 1))) rfl ?_
  refine XW.rs 8 rfl (by kernel_rfl) rfl (RV.or8 rfl (by first | rfl | exact lit8 _ rfl) rfl (by first | rfl | exact lit8 _ rfl)) rfl ?_
  refine XW.rs 9 rfl (by kernel_rfl) rfl (RV.idx_a ((((255 : Int) - (((a1).toNat / 8 : Nat) : Int))).toNat) rfl rfl (by omega) rfl rfl (by omega)) rfl ?_
  refine XW.mem (M' := ((some b1, blk (u8s a0.toList) 25) :: (some b2, blk (u8s (Vector.replicate 256 0#8).toList) 25) :: ([] ++ N))) (fun w m => m.pick [1, 0] 2 rfl rfl) (fun w m => m.pick [1] 2 rfl rfl) ?_
  refine XW.sv 10 rfl (by kernel_rfl) (SV.store rfl rfl rfl rfl rfl (by rw [u8s_length, Vector.length_toList]; omega)) (fun w m => m.pick [1] 2 rfl rfl) ?_
  refine XW.cells (u8s (a0.setIfInBounds ((((255 : Int) - (((a1).toNat / 8 : Nat) : Int))).toNat) (x6 ||| (1#8 <<< ((a1).toNat % 8)))).toList) (by rw [Nat.zero_add, u8s_set', vset]) ?_
  refine XW.nil (by kernel_rfl) ?_
  refine QW.then_n ?_
  refine CW.seq ?_
  refine CW.region ?_
  refine OW.rv (RV.loadW rfl (List.Mem.head _) rfl rfl rfl rfl ((u8s_length _).trans Vector.length_toList)) rfl ?_
  refine OW.rot1 ?_
  refine OW.sv (SV.storeW rfl rfl rfl (u8s_one _) rfl ((u8s_length _).trans Vector.length_toList) ((u8s_length _).trans Vector.length_toList)) ?_
  refine OW.nil ?_
  refine QW.then_n ?_
  refine CW.ret ?_
  have e0 := Option.some.inj hf
  subst e0
  refine QW.retG (rs := [.cell 4 25]) ([.agg (u8s (a0.setIfInBounds ((((255 : Int) - (((a1).toNat / 8 : Nat) : Int))).toNat) (x6 ||| (1#8 <<< ((a1).toNat % 8)))).toList).toArray]) ((some b2, blk (u8s (a0.setIfInBounds ((((255 : Int) - (((a1).toNat / 8 : Nat) : Int))).toNat) (x6 ||| (1#8 <<< ((a1).toNat % 8)))).toList) 25) :: (some b1, blk (u8s (a0.setIfInBounds ((((255 : Int) - (((a1).toNat / 8 : Nat) : Int))).toNat) (x6 ||| (1#8 <<< ((a1).toNat % 8)))).toList) 25) :: []) rfl ?_ rfl ?_ ?_ _ (.inl rfl)
  · exact ⟨⟨_, _, _, _, rfl, (List.Mem.head _), rfl, rfl, (congrArg some ((u8s_length _).trans Vector.length_toList).symm), rfl⟩, trivial⟩
  · exact rfl
  · exact (fun w m => m)

theorem bloom_has_does (w0 : World) (Φ : Ctx) (N : List Ent) (hΦ : ∀ w, Mem w0 w N → Φ w) (a0 : Vector (BitVec 8) 256) (a1 : Int) (res0 : Bool) (ba1 : -9223372036854775808 ≤ a1 ∧ a1 ≤ 9223372036854775807) (hf : bloom_has a0 a1 = some res0) : DoesG Tryd.prog 31 [.agg (u8s a0.toList).toArray, .int .i64 a1] w0 [] N (fun v G => v = .bool res0) := by
  unfold bloom_has at hf
  refine DoesG.enter Tryd.func31 rfl Tryd.ntmps31 rfl (M := (([] ++ N))) rfl ?_
  refine CW.seq ?_
  refine CW.region ?_
  refine OW.boxA rfl rfl (fun b1 => ?_)
  refine OW.rv (RV.assign rfl) rfl ?_
  refine OW.nil ?_
  refine QW.then_n ?_
  refine CW.seq ?_
  refine CW.region ?_
  refine OW.rv (RV.move rfl) rfl ?_
  obtain ⟨g2, hf⟩ := some_if hf
  refine OW.rv (RV.quo rfl rfl (by omega) (by omega) (by omega)) rfl ?_
  refine OW.slot (.int .i64 (((a1).toNat / 8 : Nat) : Int)) (by first | rfl | (congr 1; omega)) ?_
  refine OW.rv (RV.sub rfl rfl (by omega)) rfl ?_
  obtain ⟨g3, hf⟩ := some_if hf
  obtain ⟨g4, hf⟩ := some_if hf
  refine OW.rv (RV.idx_a ((((255 : Int) - (((a1).toNat / 8 : Nat) : Int))).toNat) rfl rfl (by omega) rfl rfl (by omega)) rfl ?_
  obtain ⟨x5, hx6, hf⟩ := some_bind hf
  refine OW.rv (RV.load rfl (List.Mem.head _) rfl rfl rfl (by rw [Nat.zero_add]; exact u8s_at (vat hx6))) rfl ?_
  refine OW.rv (RV.move rfl) rfl ?_
  refine OW.rv (RV.rem rfl rfl (by omega) (by omega)) rfl ?_
  refine OW.slot (.int .i64 (((a1).toNat % 8 : Nat) : Int)) (by first | rfl | (congr 1; omega)) ?_
  refine OW.rv (RV.shr8 (s := ((a1).toNat % 8)) rfl (by first | rfl | exact lit8 _ rfl) rfl (by first | rfl | (congr 1))) rfl ?_
  refine OW.rv (RV.and8 rfl (by first | rfl | exact lit8 _ rfl) rfl (by first | rfl | exact lit8 _ rfl)) rfl ?_
  refine OW.rv (RV.eql8 rfl (by first | rfl | exact lit8 _ rfl) rfl (by first | rfl | exact lit8 _ rfl)) rfl ?_
  refine OW.rv (RV.assign rfl) rfl ?_
  refine OW.nil ?_
  refine QW.then_n ?_
  refine CW.ret ?_
  have e0 := Option.some.inj hf
  subst e0
  refine QW.retG (rs := [.tmp 4]) ([.bool (decide (((x5 >>> ((a1).toNat % 8)) &&& 1#8) = 1#8))]) ((some b1, blk (u8s a0.toList) 25) :: []) rfl ?_ rfl ?_ ?_ _ (.inl rfl)
  · exact ⟨rfl, trivial⟩
  · exact rfl
  · exact (fun w m => m)

theorem bloom_Add_does (w0 : World) (Φ : Ctx) (N : List Ent) (hΦ : ∀ w, Mem w0 w N → Φ w) (a0 : Vector (BitVec 8) 256) (A1_ : Option Addr) (c1_ : Nat) (a1 : List (BitVec 8)) (res0 : Vector (BitVec 8) 256) (va1 : View Φ A1_ a1.length c1_ 1 (u8s a1)) (hg0 : View Φ (some ⟨0, 0, none⟩) 2 2 1 (u8s firstL)) (hf : bloom_Add a0 a1 = some res0) : DoesG Tryd.prog 15 [.agg (u8s a0.toList).toArray, .slice A1_ a1.length c1_] w0 [] N (fun v G => v = .agg (u8s res0.toList).toArray) := by
  unfold bloom_Add at hf
  replace va1 := va1.mono (Ψ := More w0 Φ []) (fun w q => q.1)
  replace hg0 := hg0.mono (Ψ := More w0 Φ []) (fun w q => q.1)
  have m1 := va1.mx
  refine DoesG.enter Tryd.func15 rfl Tryd.ntmps15 rfl (M := (([] ++ N))) rfl ?_
  refine CW.seq ?_
  refine CW.region ?_
  refine OW.boxA rfl rfl (fun b2 => ?_)
  refine OW.alloc (l := (u8s (Vector.replicate 256 0#8).toList)) rfl (by rw [Vector.toList_replicate, ← u8s_rep']; rfl) rfl (fun b3 => ?_)
  refine OW.nil ?_
  refine QW.then_n ?_
  refine CW.seq ?_
  refine CW.seq ?_
  refine CW.region ?_
  refine OW.rv (RV.move rfl) rfl ?_
  obtain ⟨x5, hx4, hf⟩ := some_bind hf
  refine OW.callG Tryd.call13 rfl (bloom_Places_does w0 (More w0 Φ []) ((some b3, blk (u8s (Vector.replicate 256 0#8).toList) 25) :: (some b2, blk (u8s a0.toList) 25) :: ([] ++ N)) (fun w m => More.of hΦ 2 m rfl) A1_ c1_ a1 x5 va1 hg0 hx4) rfl rfl ?_
  rintro _ G6 rfl
  refine OW.mem (M' := ((some b3, blk (u8s (Vector.replicate 256 0#8).toList) 25) :: (some b2, blk (u8s a0.toList) 25) :: ([] ++ N))) (fun w m => m.appR) ?_
  refine OW.rv (RV.move rfl) rfl ?_
  refine OW.nil ?_
  refine QW.then_n ?_
  obtain ⟨q8, hq9, hf⟩ := some_bind hf
  refine CW.cutJ (fun L' M' => ∃ w10 : Vector (BitVec 8) 256, q8 = w10 ∧ L' = [(2, ptr (some b2) 0), (4, ptr (some b3) 0)] ∧ M' = ((some b3, blk (u8s (Vector.replicate 256 0#8).toList) 25) :: (some b2, blk (u8s w10.toList) 25) :: ([] ++ N))) ?_ ?_
  · rintro L12 M13 ⟨w10, e11, e14, e15⟩
    rw [e14, e15]
    clear e14 e15 L12 M13
    clear hq9
    rw [e11] at hf
    clear e11
    try dsimp only at hf
    refine QW.then_n ?_
    refine CW.seq ?_
    refine CW.region ?_
    refine OW.rv (RV.loadW rfl (List.Mem.tail _ (List.Mem.head _)) rfl rfl rfl rfl ((u8s_length _).trans Vector.length_toList)) rfl ?_
    refine OW.sv (SV.storeW rfl rfl rfl (u8s_one _) rfl ((u8s_length _).trans Vector.length_toList) ((u8s_length _).trans Vector.length_toList)) ?_
    refine OW.nil ?_
    refine QW.then_n ?_
    refine CW.ret ?_
    have e0 := Option.some.inj hf
    subst e0
    refine QW.retG (rs := [.cell 4 25]) ([.agg (u8s w10.toList).toArray]) ((some b3, blk (u8s w10.toList) 25) :: (some b2, blk (u8s w10.toList) 25) :: []) rfl ?_ rfl ?_ ?_ _ (.inl rfl)
    · exact ⟨⟨_, _, _, _, rfl, (List.Mem.head _), rfl, rfl, (congrArg some ((u8s_length _).trans Vector.length_toList).symm), rfl⟩, trivial⟩
    · exact rfl
    · exact (fun w m => m)
  · skip
    refine CW.block ?_
    refine CW.loopJ (fun k L' M' => ∃ n16 : Nat, ∃ w18 : Vector (BitVec 8) 256, (bloom_Add.l1 x5 k n16 w18) = some q8 ∧ (n16 ≤ 9223372036854775807) ∧ L' = [(2, ptr (some b2) 0), (4, ptr (some b3) 0), (8, .agg (i64s x5.toList).toArray), (9, .int .i64 ((n16 : Nat) : Int))] ∧ M' = ((some b3, blk (u8s (Vector.replicate 256 0#8).toList) 25) :: (some b2, blk (u8s w18.toList) 25) :: ([] ++ N))) (k0 := (3 - 0 + 2)) ⟨0, a0, hq9, (by omega), rfl, rfl⟩ ⟨rfl, rfl, rfl, rfl, trivial⟩ (fun w m => m.pick [0, 1] 2 rfl rfl) ?_
    clear hq9
    rintro k19 L22 M23 ⟨n16, w18, hl20, b17, e24, e25⟩
    rw [e24, e25]
    clear e24 e25 L22 M23
    rcases k19 with _ | k19
    · rw [bloom_Add.l1] at hl20; cases hl20
    rw [bloom_Add.l1] at hl20
    refine CW.seq ?_
    refine CW.region ?_
    refine OW.rv (RV.lss rfl rfl) rfl ?_
    refine OW.slot (.bool (decide (n16 < 3))) (congrArg Value.bool (decide_eq_decide.2 (by omega))) ?_
    refine OW.nil ?_
    refine QW.then_n ?_
    refine CW.seq ?_
    by_cases h26 : n16 < 3
    · replace hl20 := if_t hl20 h26
      refine CW.is_t rfl (decide_eq_true h26) ?_
      refine CW.skip ?_
      refine QW.then_n ?_
      refine CW.seq ?_
      refine CW.block ?_
      refine CW.seq ?_
      refine CW.region ?_
      obtain ⟨x27, hx28, hl20⟩ := some_bind hl20
      have hl29 := (Vector.getElem?_eq_some_iff.1 hx28).1
      refine OW.rv (RV.indexV (n16) rfl rfl rfl rfl rfl rfl rfl (by omega) (i64s_at (vat hx28))) rfl ?_
      refine OW.rv (RV.assign rfl) rfl ?_
      refine OW.nil ?_
      refine QW.then_n ?_
      refine CW.region ?_
      refine OW.rv (RV.loadW rfl (List.Mem.tail _ (List.Mem.head _)) rfl rfl rfl rfl ((u8s_length _).trans Vector.length_toList)) rfl ?_
      refine OW.rv (RV.move rfl) rfl ?_
      obtain ⟨g30, hl20⟩ := some_if hl20
      obtain ⟨x32, hx31, hl20⟩ := some_bind hl20
      refine OW.callG Tryd.call29 rfl (bloom_set_does w0 (More w0 Φ []) ((some b3, blk (u8s (Vector.replicate 256 0#8).toList) 25) :: (some b2, blk (u8s w18.toList) 25) :: ([] ++ N)) (fun w m => More.of hΦ 2 m rfl) w18 x27 x32 (by omega) hx31) rfl rfl ?_
      rintro _ G33 rfl
      refine OW.mem (M' := ((some b3, blk (u8s (Vector.replicate 256 0#8).toList) 25) :: (some b2, blk (u8s w18.toList) 25) :: ([] ++ N))) (fun w m => m.appR) ?_
      refine OW.rot1 ?_
      refine OW.sv (SV.storeW rfl rfl rfl (u8s_one _) rfl ((u8s_length _).trans Vector.length_toList) ((u8s_length _).trans Vector.length_toList)) ?_
      refine OW.nil ?_
      refine QW.block_n ?_
      refine QW.then_n ?_
      refine CW.region ?_
      refine OW.rv (RV.add rfl rfl (by omega)) rfl ?_
      refine OW.slot (.int .i64 (((n16 + 1) : Nat) : Int)) (by first | rfl | (congr 1) | (congr 1; omega)) ?_
      refine OW.rv (RV.move rfl) rfl ?_
      refine OW.nil ?_
      exact QW.againJ (k' := k19) (Nat.lt_succ_self _) ⟨(n16 + 1), x32, hl20, (by omega), rfl, rfl⟩ ⟨rfl, rfl, rfl, rfl, trivial⟩ (fun w m => m.pick [1, 0] 2 rfl rfl)
    · replace hl20 := if_f hl20 h26
      refine CW.is_f rfl (decide_eq_false h26) ?_
      refine CW.exit ?_
      refine QW.then_x ?_
      refine QW.then_x ?_
      refine QW.block_xe ?_
      exact QW.join ⟨w18, (Option.some.inj hl20).symm, rfl, rfl⟩ ⟨rfl, rfl, trivial⟩ (fun w m => m.pick [0, 1] 2 rfl rfl)

theorem bloom_Of_does (w0 : World) (Φ : Ctx) (N : List Ent) (hΦ : ∀ w, Mem w0 w N → Φ w) (A0_ : Option Addr) (c0_ : Nat) (cs0_ : List Value) (a0 : List (List (BitVec 8))) (res0 : Vector (BitVec 8) 256) (va0 : View Φ A0_ a0.length c0_ 1 cs0_) (ha0 : Reps (BsRd Φ) cs0_ a0) (hg0 : View Φ (some ⟨0, 0, none⟩) 2 2 1 (u8s firstL)) (hf : bloom_Of a0 = some res0) : DoesG Tryd.prog 9 [.slice A0_ a0.length c0_] w0 [] N (fun v G => v = .agg (u8s res0.toList).toArray) := by
  unfold bloom_Of at hf
  replace va0 := va0.mono (Ψ := More w0 Φ []) (fun w q => q.1)
  replace hg0 := hg0.mono (Ψ := More w0 Φ []) (fun w q => q.1)
  replace ha0 := ha0.mono (BsRd.mono (Ψ := More w0 Φ []) (fun w q => q.1))
  have m1 := va0.mx
  refine DoesG.enter Tryd.func9 rfl Tryd.ntmps9 rfl (M := (([] ++ N))) rfl ?_
  refine CW.seq ?_
  refine CW.region ?_
  refine OW.alloc (l := (u8s (Vector.replicate 256 0#8).toList)) rfl (by rw [Vector.toList_replicate, ← u8s_rep']; rfl) rfl (fun b2 => ?_)
  refine OW.nil ?_
  refine QW.then_n ?_
  refine CW.seq ?_
  refine CW.region ?_
  refine OW.alloc (l := (u8s (Vector.replicate 256 0#8).toList)) rfl (by rw [Vector.toList_replicate, ← u8s_rep']; rfl) rfl (fun b3 => ?_)
  refine OW.nil ?_
  refine QW.then_n ?_
  refine CW.seq ?_
  refine CW.seq ?_
  refine CW.region ?_
  refine OW.rv (RV.move rfl) rfl ?_
  refine OW.rv (RV.len rfl rfl) rfl ?_
  refine OW.rv (RV.move rfl) rfl ?_
  refine OW.nil ?_
  refine QW.then_n ?_
  obtain ⟨q4, hq5, hf⟩ := some_bind hf
  refine CW.cutJ (fun L' M' => ∃ w6 : Vector (BitVec 8) 256, q4 = w6 ∧ L' = [(2, ptr (some b2) 0), (3, ptr (some b3) 0)] ∧ M' = ((some b3, blk (u8s w6.toList) 25) :: (some b2, blk (u8s (Vector.replicate 256 0#8).toList) 25) :: ([] ++ N))) ?_ ?_
  · rintro L8 M9 ⟨w6, e7, e10, e11⟩
    rw [e10, e11]
    clear e10 e11 L8 M9
    clear hq5
    rw [e7] at hf
    clear e7
    try dsimp only at hf
    refine QW.then_n ?_
    refine CW.seq ?_
    refine CW.region ?_
    refine OW.rv (RV.loadW rfl (List.Mem.head _) rfl rfl rfl rfl ((u8s_length _).trans Vector.length_toList)) rfl ?_
    refine OW.rot1 ?_
    refine OW.sv (SV.storeW rfl rfl rfl (u8s_one _) rfl ((u8s_length _).trans Vector.length_toList) ((u8s_length _).trans Vector.length_toList)) ?_
    refine OW.nil ?_
    refine QW.then_n ?_
    refine CW.ret ?_
    have e0 := Option.some.inj hf
    subst e0
    refine QW.retG (rs := [.cell 2 25]) ([.agg (u8s w6.toList).toArray]) ((some b2, blk (u8s w6.toList) 25) :: (some b3, blk (u8s w6.toList) 25) :: []) rfl ?_ rfl ?_ ?_ _ (.inl rfl)
    · exact ⟨⟨_, _, _, _, rfl, (List.Mem.head _), rfl, rfl, (congrArg some ((u8s_length _).trans Vector.length_toList).symm), rfl⟩, trivial⟩
    · exact rfl
    · exact (fun w m => m)
  · skip
    refine CW.block ?_
    refine CW.loopJ (fun k L' M' => ∃ n12 : Nat, ∃ w14 : Vector (BitVec 8) 256, (bloom_Of.l1 a0 k n12 w14) = some q4 ∧ (n12 ≤ 9223372036854775807) ∧ L' = [(2, ptr (some b2) 0), (3, ptr (some b3) 0), (6, .slice A0_ a0.length c0_), (7, .int .i64 ((a0.length : Nat) : Int)), (8, .int .i64 ((n12 : Nat) : Int))] ∧ M' = ((some b3, blk (u8s w14.toList) 25) :: (some b2, blk (u8s (Vector.replicate 256 0#8).toList) 25) :: ([] ++ N))) (k0 := (a0.length - 0 + 2)) ⟨0, (Vector.replicate 256 0#8), hq5, (by omega), rfl, rfl⟩ ⟨rfl, rfl, rfl, rfl, rfl, trivial⟩ (fun w m => m.pick [0, 1] 2 rfl rfl) ?_
    clear hq5
    rintro k15 L18 M19 ⟨n12, w14, hl16, b13, e20, e21⟩
    rw [e20, e21]
    clear e20 e21 L18 M19
    rcases k15 with _ | k15
    · rw [bloom_Of.l1] at hl16; cases hl16
    rw [bloom_Of.l1] at hl16
    refine CW.seq ?_
    refine CW.region ?_
    refine OW.rv (RV.lss rfl rfl) rfl ?_
    refine OW.slot (.bool (decide (n12 < a0.length))) (congrArg Value.bool (decide_eq_decide.2 (by omega))) ?_
    refine OW.nil ?_
    refine QW.then_n ?_
    refine CW.seq ?_
    by_cases h22 : n12 < a0.length
    · replace hl16 := if_t hl16 h22
      refine CW.is_t rfl (decide_eq_true h22) ?_
      refine CW.skip ?_
      refine QW.then_n ?_
      refine CW.seq ?_
      refine CW.block ?_
      refine CW.seq ?_
      refine CW.region ?_
      obtain ⟨x23, hx24, hl16⟩ := some_bind hl16
      have hl25 := lt_of_at hx24
      refine OW.rv (RV.idx_r (n12) rfl rfl rfl rfl rfl (va0.isSome (by decide) hl25) (by omega)) rfl ?_
      obtain ⟨cs26, h27, h28⟩ := ha0.get BsRd.len hx24
      obtain ⟨A29, c30, e32, v31⟩ := h27
      subst e32
      have m33 := v31.mx
      refine OW.rv (RV.load_at rfl rfl rfl (fun w m => by have := va0.load (More.of hΦ 2 m rfl) h28 0 _ rfl; simpa [Addr.add] using this)) rfl ?_
      refine OW.rv (RV.assign rfl) rfl ?_
      refine OW.nil ?_
      refine QW.then_n ?_
      refine CW.region ?_
      refine OW.rv (RV.loadW rfl (List.Mem.head _) rfl rfl rfl rfl ((u8s_length _).trans Vector.length_toList)) rfl ?_
      refine OW.rv (RV.move rfl) rfl ?_
      obtain ⟨x35, hx34, hl16⟩ := some_bind hl16
      refine OW.callG Tryd.call15 rfl (bloom_Add_does w0 (More w0 Φ []) ((some b3, blk (u8s w14.toList) 25) :: (some b2, blk (u8s (Vector.replicate 256 0#8).toList) 25) :: ([] ++ N)) (fun w m => More.of hΦ 2 m rfl) w14 A29 c30 x23 x35 v31 hg0 hx34) rfl rfl ?_
      rintro _ G36 rfl
      refine OW.mem (M' := ((some b3, blk (u8s w14.toList) 25) :: (some b2, blk (u8s (Vector.replicate 256 0#8).toList) 25) :: ([] ++ N))) (fun w m => m.appR) ?_
      refine OW.sv (SV.storeW rfl rfl rfl (u8s_one _) rfl ((u8s_length _).trans Vector.length_toList) ((u8s_length _).trans Vector.length_toList)) ?_
      refine OW.nil ?_
      refine QW.block_n ?_
      refine QW.then_n ?_
      refine CW.region ?_
      refine OW.rv (RV.add rfl rfl (by omega)) rfl ?_
      refine OW.slot (.int .i64 (((n12 + 1) : Nat) : Int)) (by first | rfl | (congr 1) | (congr 1; omega)) ?_
      refine OW.rv (RV.move rfl) rfl ?_
      refine OW.nil ?_
      exact QW.againJ (k' := k15) (Nat.lt_succ_self _) ⟨(n12 + 1), x35, hl16, (by omega), rfl, rfl⟩ ⟨rfl, rfl, rfl, rfl, rfl, trivial⟩ (fun w m => m.pick [0, 1] 2 rfl rfl)
    · replace hl16 := if_f hl16 h22
      refine CW.is_f rfl (decide_eq_false h22) ?_
      refine CW.exit ?_
      refine QW.then_x ?_
      refine QW.then_x ?_
      refine QW.block_xe ?_
      exact QW.join ⟨w14, (Option.some.inj hl16).symm, rfl, rfl⟩ ⟨rfl, rfl, trivial⟩ (fun w m => m.pick [0, 1] 2 rfl rfl)

theorem bloom_Has_does (w0 : World) (Φ : Ctx) (N : List Ent) (hΦ : ∀ w, Mem w0 w N → Φ w) (a0 : Vector (BitVec 8) 256) (A1_ : Option Addr) (c1_ : Nat) (a1 : List (BitVec 8)) (res0 : Bool) (va1 : View Φ A1_ a1.length c1_ 1 (u8s a1)) (hg0 : View Φ (some ⟨0, 0, none⟩) 2 2 1 (u8s firstL)) (hf : bloom_Has a0 a1 = some res0) : DoesG Tryd.prog 17 [.agg (u8s a0.toList).toArray, .slice A1_ a1.length c1_] w0 [] N (fun v G => v = .bool res0) := by
  unfold bloom_Has at hf
  replace va1 := va1.mono (Ψ := More w0 Φ []) (fun w q => q.1)
  replace hg0 := hg0.mono (Ψ := More w0 Φ []) (fun w q => q.1)
  have m1 := va1.mx
  refine DoesG.enter Tryd.func17 rfl Tryd.ntmps17 rfl (M := (([] ++ N))) rfl ?_
  refine CW.seq ?_
  refine CW.region ?_
  refine OW.boxA rfl rfl (fun b2 => ?_)
  refine OW.rv (RV.assign rfl) rfl ?_
  refine OW.nil ?_
  refine QW.then_n ?_
  refine CW.seq ?_
  refine CW.seq ?_
  refine CW.region ?_
  refine OW.rv (RV.move rfl) rfl ?_
  obtain ⟨x4, hx3, hf⟩ := some_bind hf
  refine OW.callG Tryd.call13 rfl (bloom_Places_does w0 (More w0 Φ []) ((some b2, blk (u8s a0.toList) 25) :: ([] ++ N)) (fun w m => More.of hΦ 1 m rfl) A1_ c1_ a1 x4 va1 hg0 hx3) rfl rfl ?_
  rintro _ G5 rfl
  refine OW.mem (M' := ((some b2, blk (u8s a0.toList) 25) :: ([] ++ N))) (fun w m => m.appR) ?_
  refine OW.rv (RV.move rfl) rfl ?_
  refine OW.nil ?_
  refine QW.then_n ?_
  obtain ⟨q7, hq8, hf⟩ := some_bind hf
  refine CW.cutJ (fun L' M' => q7 = Lp.go () ∧ L' = [] ∧ M' = (([] ++ N))) ?_ ?_
  · rintro L10 M11 ⟨e9, e12, e13⟩
    rw [e12, e13]
    clear e12 e13 L10 M11
    clear hq8
    rw [e9] at hf
    clear e9
    try dsimp only at hf
    refine QW.then_n ?_
    refine CW.seq ?_
    refine CW.region ?_
    refine OW.rv (RV.assign rfl) rfl ?_
    refine OW.nil ?_
    refine QW.then_n ?_
    refine CW.ret ?_
    have e0 := Option.some.inj hf
    subst e0
    refine QW.retG (rs := [.tmp 4]) ([.bool true]) ([]) rfl ?_ rfl ?_ ?_ _ (.inl rfl)
    · exact ⟨rfl, trivial⟩
    · exact rfl
    · exact (fun w m => m)
  · skip
    refine CW.block ?_
    refine CW.loopJ (fun k L' M' => ∃ n14 : Nat, (bloom_Has.l1 a0 x4 k n14) = some q7 ∧ (n14 ≤ 9223372036854775807) ∧ L' = [(2, ptr (some b2) 0), (8, .agg (i64s x4.toList).toArray), (9, .int .i64 ((n14 : Nat) : Int))] ∧ M' = ((some b2, blk (u8s a0.toList) 25) :: ([] ++ N))) (k0 := (3 - 0 + 2)) ⟨0, hq8, (by omega), rfl, rfl⟩ ⟨rfl, rfl, rfl, trivial⟩ (fun w m => m.pick [0] 1 rfl rfl) ?_
    clear hq8
    rintro k16 L19 M20 ⟨n14, hl17, b15, e21, e22⟩
    rw [e21, e22]
    clear e21 e22 L19 M20
    rcases k16 with _ | k16
    · rw [bloom_Has.l1] at hl17; cases hl17
    rw [bloom_Has.l1] at hl17
    refine CW.seq ?_
    refine CW.region ?_
    refine OW.rv (RV.lss rfl rfl) rfl ?_
    refine OW.slot (.bool (decide (n14 < 3))) (congrArg Value.bool (decide_eq_decide.2 (by omega))) ?_
    refine OW.nil ?_
    refine QW.then_n ?_
    refine CW.seq ?_
    by_cases h23 : n14 < 3
    · replace hl17 := if_t hl17 h23
      refine CW.is_t rfl (decide_eq_true h23) ?_
      refine CW.skip ?_
      refine QW.then_n ?_
      refine CW.seq ?_
      refine CW.block ?_
      refine CW.seq ?_
      refine CW.region ?_
      obtain ⟨x24, hx25, hl17⟩ := some_bind hl17
      have hl26 := (Vector.getElem?_eq_some_iff.1 hx25).1
      refine OW.rv (RV.indexV (n14) rfl rfl rfl rfl rfl rfl rfl (by omega) (i64s_at (vat hx25))) rfl ?_
      refine OW.rv (RV.assign rfl) rfl ?_
      refine OW.nil ?_
      refine QW.then_n ?_
      refine CW.seq ?_
      refine CW.region ?_
      refine OW.rv (RV.loadW rfl (List.Mem.head _) rfl rfl rfl rfl ((u8s_length _).trans Vector.length_toList)) rfl ?_
      refine OW.rv (RV.move rfl) rfl ?_
      obtain ⟨g27, hl17⟩ := some_if hl17
      obtain ⟨x29, hx28, hl17⟩ := some_bind hl17
      refine OW.callG Tryd.call31 rfl (bloom_has_does w0 (More w0 Φ []) ((some b2, blk (u8s a0.toList) 25) :: ([] ++ N)) (fun w m => More.of hΦ 1 m rfl) a0 x24 x29 (by omega) hx28) rfl rfl ?_
      rintro _ G30 rfl
      refine OW.mem (M' := ((some b2, blk (u8s a0.toList) 25) :: ([] ++ N))) (fun w m => m.appR) ?_
      refine OW.rv (RV.not rfl) rfl ?_
      refine OW.nil ?_
      refine QW.then_n ?_
      by_cases h32 : x29 = true
      · replace hl17 := if_t hl17 h32
        refine CW.is_f rfl (congrArg (fun b => !b) (h32)) ?_
        refine CW.skip ?_
        refine QW.block_n ?_
        refine QW.then_n ?_
        refine CW.region ?_
        refine OW.rv (RV.add rfl rfl (by omega)) rfl ?_
        refine OW.slot (.int .i64 (((n14 + 1) : Nat) : Int)) (by first | rfl | (congr 1) | (congr 1; omega)) ?_
        refine OW.rv (RV.move rfl) rfl ?_
        refine OW.nil ?_
        exact QW.againJ (k' := k16) (Nat.lt_succ_self _) ⟨(n14 + 1), hl17, (by omega), rfl, rfl⟩ ⟨rfl, rfl, rfl, trivial⟩ (fun w m => m.pick [0] 1 rfl rfl)
      · replace hl17 := if_f hl17 h32
        refine CW.is_t rfl (congrArg (fun b => !b) (Bool.eq_false_iff.2 h32)) ?_
        refine CW.seq ?_
        refine CW.region ?_
        refine OW.rv (RV.assign rfl) rfl ?_
        refine OW.nil ?_
        refine QW.then_n ?_
        refine CW.ret ?_
        refine QW.block_r ?_
        refine QW.then_r ?_
        refine QW.then_r ?_
        refine QW.block_r ?_
        refine QW.then_r ?_
        have hc := Option.some.inj hl17
        subst hc
        try dsimp only at hf
        refine QW.then_r ?_
        have e0 := Option.some.inj hf
        subst e0
        refine QW.retG (rs := [.tmp 4]) ([.bool false]) ((some b2, blk (u8s a0.toList) 25) :: []) rfl ?_ rfl ?_ ?_ _ (.inl rfl)
        · exact ⟨rfl, trivial⟩
        · exact rfl
        · exact (fun w m => m)
    · replace hl17 := if_f hl17 h23
      refine CW.is_f rfl (decide_eq_false h23) ?_
      refine CW.exit ?_
      refine QW.then_x ?_
      refine QW.then_x ?_
      refine QW.block_xe ?_
      exact QW.join ⟨(Option.some.inj hl17).symm, rfl, rfl⟩ trivial (fun w m => m.pick [] 1 rfl rfl)

theorem bloom_Union_does (w0 : World) (Φ : Ctx) (N : List Ent) (hΦ : ∀ w, Mem w0 w N → Φ w) (A0_ : Option Addr) (c0_ : Nat) (cs0_ : List Value) (a0 : List (Vector (BitVec 8) 256)) (res0 : Vector (BitVec 8) 256) (va0 : View Φ A0_ a0.length c0_ 256 cs0_) (ha0 : Reps (Ar8Rd Φ) cs0_ a0) (hf : bloom_Union a0 = some res0) : DoesG Tryd.prog 22 [.slice A0_ a0.length c0_] w0 [] N (fun v G => v = .agg (u8s res0.toList).toArray) := by
  unfold bloom_Union at hf
  replace va0 := va0.mono (Ψ := More w0 Φ []) (fun w q => q.1)
  replace ha0 := ha0.mono (Ar8Rd.mono (Ψ := More w0 Φ []) (fun w q => q.1))
  have m1 := va0.mx
  refine DoesG.enter Tryd.func22 rfl Tryd.ntmps22 rfl (M := (([] ++ N))) rfl ?_
  refine CW.seq ?_
  refine CW.region ?_
  refine OW.alloc (l := (u8s (Vector.replicate 256 0#8).toList)) rfl (by rw [Vector.toList_replicate, ← u8s_rep']; rfl) rfl (fun b2 => ?_)
  refine OW.nil ?_
  refine QW.then_n ?_
  refine CW.seq ?_
  refine CW.region ?_
  refine OW.alloc (l := (u8s (Vector.replicate 256 0#8).toList)) rfl (by rw [Vector.toList_replicate, ← u8s_rep']; rfl) rfl (fun b3 => ?_)
  refine OW.nil ?_
  refine QW.then_n ?_
  refine CW.seq ?_
  refine CW.seq ?_
  refine CW.region ?_
  refine OW.rv (RV.move rfl) rfl ?_
  refine OW.rv (RV.len rfl rfl) rfl ?_
  refine OW.rv (RV.move rfl) rfl ?_
  refine OW.nil ?_
  refine QW.then_n ?_
  obtain ⟨q4, hq5, hf⟩ := some_bind hf
  refine CW.cutJ (fun L' M' => ∃ w6 : Vector (BitVec 8) 256, q4 = w6 ∧ L' = [(2, ptr (some b2) 0), (3, ptr (some b3) 0)] ∧ M' = ((some b3, blk (u8s w6.toList) 25) :: (some b2, blk (u8s (Vector.replicate 256 0#8).toList) 25) :: ([] ++ N))) ?_ ?_
  · rintro L8 M9 ⟨w6, e7, e10, e11⟩
    rw [e10, e11]
    clear e10 e11 L8 M9
    clear hq5
    rw [e7] at hf
    clear e7
    try dsimp only at hf
    refine QW.then_n ?_
    refine CW.seq ?_
    refine CW.region ?_
    refine OW.rv (RV.loadW rfl (List.Mem.head _) rfl rfl rfl rfl ((u8s_length _).trans Vector.length_toList)) rfl ?_
    refine OW.rot1 ?_
    refine OW.sv (SV.storeW rfl rfl rfl (u8s_one _) rfl ((u8s_length _).trans Vector.length_toList) ((u8s_length _).trans Vector.length_toList)) ?_
    refine OW.nil ?_
    refine QW.then_n ?_
    refine CW.ret ?_
    have e0 := Option.some.inj hf
    subst e0
    refine QW.retG (rs := [.cell 2 25]) ([.agg (u8s w6.toList).toArray]) ((some b2, blk (u8s w6.toList) 25) :: (some b3, blk (u8s w6.toList) 25) :: []) rfl ?_ rfl ?_ ?_ _ (.inl rfl)
    · exact ⟨⟨_, _, _, _, rfl, (List.Mem.head _), rfl, rfl, (congrArg some ((u8s_length _).trans Vector.length_toList).symm), rfl⟩, trivial⟩
    · exact rfl
    · exact (fun w m => m)
  · skip
    refine CW.block ?_
    refine CW.loopJ (fun k L' M' => ∃ n12 : Nat, ∃ w14 : Vector (BitVec 8) 256, (bloom_Union.l1 a0 k n12 w14) = some q4 ∧ (n12 ≤ 9223372036854775807) ∧ L' = [(2, ptr (some b2) 0), (3, ptr (some b3) 0), (7, .slice A0_ a0.length c0_), (8, .int .i64 ((a0.length : Nat) : Int)), (9, .int .i64 ((n12 : Nat) : Int))] ∧ M' = ((some b3, blk (u8s w14.toList) 25) :: (some b2, blk (u8s (Vector.replicate 256 0#8).toList) 25) :: ([] ++ N))) (k0 := (a0.length - 0 + 2)) ⟨0, (Vector.replicate 256 0#8), hq5, (by omega), rfl, rfl⟩ ⟨rfl, rfl, rfl, rfl, rfl, trivial⟩ (fun w m => m.pick [0, 1] 2 rfl rfl) ?_
    clear hq5
    rintro k15 L18 M19 ⟨n12, w14, hl16, b13, e20, e21⟩
    rw [e20, e21]
    clear e20 e21 L18 M19
    rcases k15 with _ | k15
    · rw [bloom_Union.l1] at hl16; cases hl16
    rw [bloom_Union.l1] at hl16
    refine CW.seq ?_
    refine CW.region ?_
    refine OW.rv (RV.lss rfl rfl) rfl ?_
    refine OW.slot (.bool (decide (n12 < a0.length))) (congrArg Value.bool (decide_eq_decide.2 (by omega))) ?_
    refine OW.nil ?_
    refine QW.then_n ?_
    refine CW.seq ?_
    by_cases h22 : n12 < a0.length
    · replace hl16 := if_t hl16 h22
      refine CW.is_t rfl (decide_eq_true h22) ?_
      refine CW.skip ?_
      refine QW.then_n ?_
      refine CW.seq ?_
      refine CW.block ?_
      refine CW.seq ?_
      refine CW.region ?_
      obtain ⟨x23, hx24, hl16⟩ := some_bind hl16
      have hl25 := lt_of_at hx24
      refine OW.rv (RV.idx_rs (n12) rfl rfl rfl rfl rfl (va0.isSome (by decide) hl25) (by omega)) rfl ?_
      obtain ⟨cs26, h27, h28⟩ := ha0.get Ar8Rd.len hx24
      have h27a := h27
      subst h27a
      refine OW.rv (RV.loadAs rfl rfl rfl rfl (fun w m => va0.load (More.of hΦ 2 m rfl) h28) ((u8s_length _).trans Vector.length_toList)) rfl ?_
      refine OW.alloc (l := (u8s (Vector.replicate 256 0#8).toList)) rfl (by rw [Vector.toList_replicate, ← u8s_rep']; rfl) rfl (fun b29 => ?_)
      refine OW.sv (SV.storeW rfl rfl rfl (u8s_one _) rfl ((u8s_length _).trans Vector.length_toList) ((u8s_length _).trans Vector.length_toList)) ?_
      refine OW.nil ?_
      refine QW.then_n ?_
      refine CW.seq ?_
      refine CW.region ?_
      refine OW.rv (RV.move rfl) rfl ?_
      refine OW.nil ?_
      refine QW.then_n ?_
      obtain ⟨q30, hq31, hl16⟩ := some_bind hl16
      refine CW.cutJ (fun L' M' => ∃ w32 : Vector (BitVec 8) 256, q30 = w32 ∧ L' = [(2, ptr (some b2) 0), (3, ptr (some b3) 0), (7, .slice A0_ a0.length c0_), (8, .int .i64 ((a0.length : Nat) : Int)), (9, .int .i64 ((n12 : Nat) : Int))] ∧ M' = ((some b3, blk (u8s w32.toList) 25) :: (some b2, blk (u8s (Vector.replicate 256 0#8).toList) 25) :: ([] ++ N))) ?_ ?_
      · rintro L34 M35 ⟨w32, e33, e36, e37⟩
        rw [e36, e37]
        clear e36 e37 L34 M35
        clear hq31
        rw [e33] at hl16
        clear e33
        try dsimp only at hl16
        refine QW.block_n ?_
        refine QW.then_n ?_
        refine CW.region ?_
        refine OW.rv (RV.add rfl rfl (by omega)) rfl ?_
        refine OW.slot (.int .i64 (((n12 + 1) : Nat) : Int)) (by first | rfl | (congr 1) | (congr 1; omega)) ?_
        refine OW.rv (RV.move rfl) rfl ?_
        refine OW.nil ?_
        exact QW.againJ (k' := k15) (Nat.lt_succ_self _) ⟨(n12 + 1), w32, hl16, (by omega), rfl, rfl⟩ ⟨rfl, rfl, rfl, rfl, rfl, trivial⟩ (fun w m => m.pick [0, 1] 2 rfl rfl)
      · skip
        refine CW.block ?_
        refine CW.loopJ (fun k L' M' => ∃ n38 : Nat, ∃ w40 : Vector (BitVec 8) 256, (bloom_Union.l2 x23 k n38 w40) = some q30 ∧ (n38 ≤ 9223372036854775807) ∧ L' = [(2, ptr (some b2) 0), (3, ptr (some b3) 0), (5, ptr (some b29) 0), (7, .slice A0_ a0.length c0_), (8, .int .i64 ((a0.length : Nat) : Int)), (9, .int .i64 ((n12 : Nat) : Int)), (13, .int .i64 ((n38 : Nat) : Int))] ∧ M' = ((some b29, blk (u8s x23.toList) 25) :: (some b3, blk (u8s w40.toList) 25) :: (some b2, blk (u8s (Vector.replicate 256 0#8).toList) 25) :: ([] ++ N))) (k0 := (256 - 0 + 2)) ⟨0, w14, hq31, (by omega), rfl, rfl⟩ ⟨rfl, rfl, rfl, rfl, rfl, rfl, rfl, trivial⟩ (fun w m => m.pick [0, 1, 2] 3 rfl rfl) ?_
        clear hq31
        rintro k41 L44 M45 ⟨n38, w40, hl42, b39, e46, e47⟩
        rw [e46, e47]
        clear e46 e47 L44 M45
        rcases k41 with _ | k41
        · rw [bloom_Union.l2] at hl42; cases hl42
        rw [bloom_Union.l2] at hl42
        refine CW.seq ?_
        refine CW.region ?_
        refine OW.rv (RV.lss rfl rfl) rfl ?_
        refine OW.slot (.bool (decide (n38 < 256))) (congrArg Value.bool (decide_eq_decide.2 (by omega))) ?_
        refine OW.nil ?_
        refine QW.then_n ?_
        refine CW.seq ?_
        by_cases h48 : n38 < 256
        · replace hl42 := if_t hl42 h48
          refine CW.is_t rfl (decide_eq_true h48) ?_
          refine CW.skip ?_
          refine QW.then_n ?_
          refine CW.seq ?_
          refine CW.block ?_
          refine CW.seq ?_
          refine CW.region ?_
          refine OW.rv (RV.move rfl) rfl ?_
          refine OW.rv (RV.assign rfl) rfl ?_
          refine OW.nil ?_
          refine QW.then_n ?_
          refine CW.drawsX ((some b29, blk (u8s x23.toList) 25) :: (some b2, blk (u8s (Vector.replicate 256 0#8).toList) 25) :: ([] ++ N)) [8] (fun w m => m.pick [0, 2] 3 rfl rfl) mixed (by kernel_rfl) ?_
          refine XW.rs 0 rfl (by kernel_rfl) rfl (RV.move rfl) rfl ?_
          refine XW.rs 1 rfl (by kernel_rfl) rfl (RV.idx_a (n38) rfl rfl rfl rfl rfl (by omega)) rfl ?_
          obtain ⟨x49, hx50, hl42⟩ := some_bind hl42
          refine XW.rv 2 rfl (by kernel_rfl) rfl (by kernel_rfl) (RV.load rfl (List.Mem.tail _ (List.Mem.head _)) rfl rfl rfl (by rw [Nat.zero_add]; exact u8s_at (vat hx50))) rfl ?_
          refine XW.rs 3 rfl (by kernel_rfl) rfl (RV.move rfl) rfl ?_
          refine XW.rs 4 rfl (by kernel_rfl) rfl (RV.idx_a (n38) rfl rfl rfl rfl rfl (by omega)) rfl ?_
          obtain ⟨x51, hx52, hl42⟩ := some_bind hl42
          refine XW.rs 5 rfl (by kernel_rfl) rfl (RV.load rfl (List.Mem.head _) rfl rfl rfl (by rw [Nat.zero_add]; exact u8s_at (vat hx52))) rfl ?_
          refine XW.rs 6 rfl (by kernel_rfl) rfl (RV.or8 rfl (by first | rfl | exact lit8 _ rfl) rfl (by first | rfl | exact lit8 _ rfl)) rfl ?_
          refine XW.rs 7 rfl (by kernel_rfl) rfl (RV.idx_a (n38) rfl rfl rfl rfl rfl (by omega)) rfl ?_
          refine XW.mem (M' := ((some b3, blk (u8s w40.toList) 25) :: (some b29, blk (u8s x23.toList) 25) :: (some b2, blk (u8s (Vector.replicate 256 0#8).toList) 25) :: ([] ++ N))) (fun w m => m.pick [1, 0] 2 rfl rfl) (fun w m => m.pick [1, 2] 3 rfl rfl) ?_
          refine XW.sv 8 rfl (by kernel_rfl) (SV.store rfl rfl rfl rfl rfl (by rw [u8s_length, Vector.length_toList]; omega)) (fun w m => m.pick [1, 2] 3 rfl rfl) ?_
          refine XW.cells (u8s (w40.setIfInBounds n38 (x49 ||| x51)).toList) (by rw [Nat.zero_add, u8s_set', vset]) ?_
          refine XW.nil (by kernel_rfl) ?_
          refine QW.block_n ?_
          refine QW.then_n ?_
          refine CW.region ?_
          refine OW.rv (RV.add rfl rfl (by omega)) rfl ?_
          refine OW.slot (.int .i64 (((n38 + 1) : Nat) : Int)) (by first | rfl | (congr 1) | (congr 1; omega)) ?_
          refine OW.rv (RV.move rfl) rfl ?_
          refine OW.nil ?_
          exact QW.againJ (k' := k41) (Nat.lt_succ_self _) ⟨(n38 + 1), (w40.setIfInBounds n38 (x49 ||| x51)), hl42, (by omega), rfl, rfl⟩ ⟨rfl, rfl, rfl, rfl, rfl, rfl, rfl, trivial⟩ (fun w m => m.pick [1, 0, 2] 3 rfl rfl)
        · replace hl42 := if_f hl42 h48
          refine CW.is_f rfl (decide_eq_false h48) ?_
          refine CW.exit ?_
          refine QW.then_x ?_
          refine QW.then_x ?_
          refine QW.block_xe ?_
          exact QW.join ⟨w40, (Option.some.inj hl42).symm, rfl, rfl⟩ ⟨rfl, rfl, rfl, rfl, rfl, trivial⟩ (fun w m => m.pick [1, 2] 3 rfl rfl)
    · replace hl16 := if_f hl16 h22
      refine CW.is_f rfl (decide_eq_false h22) ?_
      refine CW.exit ?_
      refine QW.then_x ?_
      refine QW.then_x ?_
      refine QW.block_xe ?_
      exact QW.join ⟨w14, (Option.some.inj hl16).symm, rfl, rfl⟩ ⟨rfl, rfl, trivial⟩ (fun w m => m.pick [0, 1] 2 rfl rfl)

theorem bloom_Within_does (w0 : World) (Φ : Ctx) (N : List Ent) (hΦ : ∀ w, Mem w0 w N → Φ w) (a0 : Vector (BitVec 8) 256) (a1 : Vector (BitVec 8) 256) (res0 : Bool) (hf : bloom_Within a0 a1 = some res0) : DoesG Tryd.prog 23 [.agg (u8s a0.toList).toArray, .agg (u8s a1.toList).toArray] w0 [] N (fun v G => v = .bool res0) := by
  unfold bloom_Within at hf
  refine DoesG.enter Tryd.func23 rfl Tryd.ntmps23 rfl (M := (([] ++ N))) rfl ?_
  refine CW.seq ?_
  refine CW.region ?_
  refine OW.boxA rfl rfl (fun b1 => ?_)
  refine OW.boxA rfl rfl (fun b2 => ?_)
  refine OW.rv (RV.assign rfl) rfl ?_
  refine OW.nil ?_
  refine QW.then_n ?_
  refine CW.seq ?_
  refine CW.drawsU 7 mixed (by kernel_rfl) rfl ?_
  refine UW.rv 0 rfl (by kernel_rfl) rfl (RV.loadW rfl (List.Mem.tail _ (List.Mem.head _)) rfl rfl rfl rfl ((u8s_length _).trans Vector.length_toList)) rfl ?_
  refine UW.rv 1 rfl (by kernel_rfl) rfl (RV.loadW rfl (List.Mem.head _) rfl rfl rfl rfl ((u8s_length _).trans Vector.length_toList)) rfl ?_
  refine UW.rv 4 rfl (by kernel_rfl) rfl (RV.loadW rfl (List.Mem.head _) rfl rfl rfl rfl ((u8s_length _).trans Vector.length_toList)) rfl ?_
  refine UW.new 2 rfl (by kernel_rfl) rfl (NV.bsA rfl rfl (by intro x hx; simp at hx; rcases hx with rfl | rfl <;> exact (u8s_length _).trans Vector.length_toList) rfl rfl rfl (by decide) (by decide) rfl) rfl (fun b3 => ?_)
  have h6 : Reps (Ar8Rd (More w0 Φ [])) (((u8s a0.toList) : List Value) ++ ((u8s a1.toList) : List Value)) [a0, a1] := by simpa using (show Reps (Ar8Rd (More w0 Φ [])) _ [a0, a1] from (.cons Ar8Rd.mk (.cons Ar8Rd.mk .nil)))
  refine UW.mem (M' := (((some b3), blk ((((u8s a0.toList) : List Value) ++ ((u8s a1.toList) : List Value)) ++ []) 25) :: (some b2, blk (u8s a1.toList) 25) :: (some b1, blk (u8s a0.toList) 25) :: ([] ++ N))) (fun w m => by simpa only [List.flatten_cons, List.flatten_nil, List.append_nil, List.append_assoc] using m) ?_
  have o4 : OwnS (some b3) ([a0, a1] : List (Vector (BitVec 8) 256)).length 2 256 (((u8s a0.toList) : List Value) ++ ((u8s a1.toList) : List Value)) [] := ⟨by simp [Ar8Rd], by simp [Ar8Rd], (fun h => nomatch h), by simp⟩
  refine UW.slot (sl (some b3) 0 ([a0, a1] : List (Vector (BitVec 8) 256)).length 2) (rfl) ?_
  refine UW.mem (M' := (some b2, blk (u8s a1.toList) 25) :: (some b1, blk (u8s a0.toList) 25) :: ((((some b3), blk ((((u8s a0.toList) : List Value) ++ ((u8s a1.toList) : List Value)) ++ []) 25) :: []) ++ N)) (fun w m => m.pick [1, 2, 0] 3 rfl rfl) ?_
  replace h6 := h6.mono (Ar8Rd.mono (Ψ := More w0 Φ (((some b3), blk ((((u8s a0.toList) : List Value) ++ ((u8s a1.toList) : List Value)) ++ []) 25) :: [])) (fun w q => More.mono (fun w m => (m).tail) q))
  have v7 : View (More w0 Φ (((some b3), blk ((((u8s a0.toList) : List Value) ++ ((u8s a1.toList) : List Value)) ++ []) 25) :: [])) (((some b3)).map fun k => ⟨k, 0, none⟩) ([a0, a1] : List (Vector (BitVec 8) 256)).length 2 256 (((u8s a0.toList) : List Value) ++ ((u8s a1.toList) : List Value)) := o4.view (by decide) (fun w q => q.2.sublist (List.singleton_sublist.2 (List.mem_cons_self ..)))
  obtain ⟨x9, hx8, hf⟩ := some_bind hf
  refine UW.callG 3 rfl (by kernel_rfl) rfl Tryd.call22 rfl (fun N' hN' => bloom_Union_does w0 (More w0 Φ (((some b3), blk ((((u8s a0.toList) : List Value) ++ ((u8s a1.toList) : List Value)) ++ []) 25) :: [])) N' (fun w m => More.of hΦ 2 (hN' w m) rfl) (((some b3)).map fun k => ⟨k, 0, none⟩) 2 (((u8s a0.toList) : List Value) ++ ((u8s a1.toList) : List Value)) ([a0, a1] : List (Vector (BitVec 8) 256)) x9 v7 h6 hx8) rfl ?_
  rintro _ G10 rfl
  refine UW.mem (M' := ((some b2, blk (u8s a1.toList) 25) :: (some b1, blk (u8s a0.toList) 25) :: ((((some b3), blk ((((u8s a0.toList) : List Value) ++ ((u8s a1.toList) : List Value)) ++ []) 25) :: []) ++ N))) (fun w m => m.appR) ?_
  refine UW.rv 5 rfl (by kernel_rfl) rfl (RV.eqA8 rfl rfl rfl rfl rfl rfl (Vector.length_toList) (Vector.length_toList)) rfl ?_
  refine UW.slot (.bool (decide (x9 = a1))) (congrArg Value.bool (decide_eq_decide.2 Vector.toList_inj)) ?_
  refine UW.rv 6 rfl (by kernel_rfl) rfl (RV.assign rfl) rfl ?_
  refine UW.nil (by kernel_rfl) ?_
  refine OW.nil ?_
  refine QW.then_n ?_
  refine CW.ret ?_
  have e0 := Option.some.inj hf
  subst e0
  refine QW.retG (rs := [.tmp 4]) ([.bool (decide (x9 = a1))]) ((some b2, blk (u8s a1.toList) 25) :: (some b1, blk (u8s a0.toList) 25) :: (((some b3), blk ((((u8s a0.toList) : List Value) ++ ((u8s a1.toList) : List Value)) ++ []) 25) :: [])) rfl ?_ rfl ?_ ?_ _ (.inl rfl)
  · exact ⟨rfl, trivial⟩
  · exact rfl
  · exact (fun w m => m)

theorem waybilllaw10_BloomJoins_does (w0 : World) (Φ : Ctx) (N : List Ent) (hΦ : ∀ w, Mem w0 w N → Φ w) (A0_ : Option Addr) (c0_ : Nat) (cs0_ : List Value) (a0 : List (List (BitVec 8))) (A1_ : Option Addr) (c1_ : Nat) (cs1_ : List Value) (a1 : List (List (BitVec 8))) (res0 : Bool) (va0 : View Φ A0_ a0.length c0_ 1 cs0_) (ha0 : Reps (BsRd Φ) cs0_ a0) (va1 : View Φ A1_ a1.length c1_ 1 cs1_) (ha1 : Reps (BsRd Φ) cs1_ a1) (hg0 : View Φ (some ⟨0, 0, none⟩) 2 2 1 (u8s firstL)) (hf : waybilllaw10_BloomJoins a0 a1 = some res0) : DoesG Tryd.prog 6 [.slice A0_ a0.length c0_, .slice A1_ a1.length c1_] w0 [] N (fun v G => v = .bool res0) := by
  unfold waybilllaw10_BloomJoins at hf
  replace va0 := va0.mono (Ψ := More w0 Φ []) (fun w q => q.1)
  replace va1 := va1.mono (Ψ := More w0 Φ []) (fun w q => q.1)
  replace hg0 := hg0.mono (Ψ := More w0 Φ []) (fun w q => q.1)
  replace ha0 := ha0.mono (BsRd.mono (Ψ := More w0 Φ []) (fun w q => q.1))
  replace ha1 := ha1.mono (BsRd.mono (Ψ := More w0 Φ []) (fun w q => q.1))
  have m1 := va0.mx
  have m2 := va1.mx
  refine DoesG.enter Tryd.func6 rfl Tryd.ntmps6 rfl (M := (([] ++ N))) rfl ?_
  refine CW.seq ?_
  refine CW.region ?_
  refine OW.rv (RV.assign rfl) rfl ?_
  refine OW.nil ?_
  refine QW.then_n ?_
  refine CW.seq ?_
  refine CW.region ?_
  refine OW.rv (RV.move rfl) rfl ?_
  obtain ⟨x4, hx3, hf⟩ := some_bind hf
  refine OW.callG Tryd.call9 rfl (bloom_Of_does w0 (More w0 Φ []) (([] ++ N)) (fun w m => More.of hΦ 0 m rfl) A0_ c0_ cs0_ a0 x4 va0 ha0 hg0 hx3) rfl rfl ?_
  rintro _ G5 rfl
  refine OW.mem (M' := (([] ++ N))) (fun w m => m.appR) ?_
  refine OW.alloc (l := (u8s (Vector.replicate 256 0#8).toList)) rfl (by rw [Vector.toList_replicate, ← u8s_rep']; rfl) rfl (fun b7 => ?_)
  refine OW.sv (SV.storeW rfl rfl rfl (u8s_one _) rfl ((u8s_length _).trans Vector.length_toList) ((u8s_length _).trans Vector.length_toList)) ?_
  refine OW.nil ?_
  refine QW.then_n ?_
  refine CW.seq ?_
  refine CW.region ?_
  refine OW.rv (RV.move rfl) rfl ?_
  obtain ⟨x9, hx8, hf⟩ := some_bind hf
  refine OW.callG Tryd.call9 rfl (bloom_Of_does w0 (More w0 Φ []) ((some b7, blk (u8s x4.toList) 25) :: ([] ++ N)) (fun w m => More.of hΦ 1 m rfl) A1_ c1_ cs1_ a1 x9 va1 ha1 hg0 hx8) rfl rfl ?_
  rintro _ G10 rfl
  refine OW.mem (M' := ((some b7, blk (u8s x4.toList) 25) :: ([] ++ N))) (fun w m => m.appR) ?_
  refine OW.alloc (l := (u8s (Vector.replicate 256 0#8).toList)) rfl (by rw [Vector.toList_replicate, ← u8s_rep']; rfl) rfl (fun b12 => ?_)
  refine OW.sv (SV.storeW rfl rfl rfl (u8s_one _) rfl ((u8s_length _).trans Vector.length_toList) ((u8s_length _).trans Vector.length_toList)) ?_
  refine OW.nil ?_
  refine QW.then_n ?_
  refine CW.seq ?_
  refine CW.region ?_
  refine OW.rv (RV.assign rfl) rfl ?_
  refine OW.nil ?_
  refine QW.then_n ?_
  refine CW.seq ?_
  refine CW.seq ?_
  refine CW.region ?_
  refine OW.rv (RV.move rfl) rfl ?_
  refine OW.rv (RV.len rfl rfl) rfl ?_
  refine OW.rv (RV.sub rfl rfl (by omega)) rfl ?_
  refine OW.rv (RV.assign rfl) rfl ?_
  refine OW.nil ?_
  refine QW.then_n ?_
  obtain ⟨q13, hq14, hf⟩ := some_bind hf
  refine CW.cutJ (fun L' M' => ∃ l15 : List (List (BitVec 8)), ∃ cs16 : List Value, ∃ ob18 : Option Nat, ∃ c19 : Nat, ∃ r20 : List Value, q13 = l15 ∧ (Reps (BsRd (More w0 Φ [])) cs16 l15) ∧ (OwnS ob18 l15.length c19 1 cs16 r20) ∧ L' = [(0, .slice A0_ a0.length c0_), (5, ptr (some b7) 0), (6, ptr (some b12) 0), (7, sl ob18 0 l15.length c19)] ∧ M' = ((ob18, blk (cs16 ++ r20) 30) :: (some b12, blk (u8s x9.toList) 25) :: (some b7, blk (u8s x4.toList) 25) :: ([] ++ N))) ?_ ?_
  · rintro L23 M24 ⟨l15, cs16, ob18, c19, r20, e22, h17, o21, e25, e26⟩
    rw [e25, e26]
    clear e25 e26 L23 M24
    clear hq14
    rw [e22] at hf
    clear e22
    try dsimp only at hf
    have m27 := o21.mx
    refine QW.then_n ?_
    refine CW.seq ?_
    refine CW.region ?_
    refine OW.rv (RV.loadW rfl (List.Mem.tail _ (List.Mem.head _)) rfl rfl rfl rfl ((u8s_length _).trans Vector.length_toList)) rfl ?_
    refine OW.alloc (l := (u8s (Vector.replicate 256 0#8).toList)) rfl (by rw [Vector.toList_replicate, ← u8s_rep']; rfl) rfl (fun b28 => ?_)
    refine OW.sv (SV.storeW rfl rfl rfl (u8s_one _) rfl ((u8s_length _).trans Vector.length_toList) ((u8s_length _).trans Vector.length_toList)) ?_
    refine OW.nil ?_
    refine QW.then_n ?_
    refine CW.seq ?_
    refine CW.seq ?_
    refine CW.region ?_
    refine OW.rv (RV.move rfl) rfl ?_
    refine OW.rv (RV.len rfl rfl) rfl ?_
    refine OW.rv (RV.sub rfl rfl (by omega)) rfl ?_
    refine OW.rv (RV.assign rfl) rfl ?_
    refine OW.nil ?_
    refine QW.then_n ?_
    obtain ⟨q29, hq30, hf⟩ := some_bind hf
    refine CW.cutJ (fun L' M' => ∃ l31 : List (List (BitVec 8)), ∃ w38 : Vector (BitVec 8) 256, ∃ cs32 : List Value, ∃ ob34 : Option Nat, ∃ c35 : Nat, ∃ r36 : List Value, q29 = (l31, w38) ∧ (Reps (BsRd (More w0 Φ [])) cs32 l31) ∧ (OwnS ob34 l31.length c35 1 cs32 r36) ∧ L' = [(5, ptr (some b7) 0), (6, ptr (some b12) 0), (7, sl ob34 0 l31.length c35), (9, ptr (some b28) 0)] ∧ M' = ((ob34, blk (cs32 ++ r36) 30) :: (some b28, blk (u8s w38.toList) 25) :: (some b12, blk (u8s x9.toList) 25) :: (some b7, blk (u8s x4.toList) 25) :: ([] ++ N))) ?_ ?_
    · rintro L40 M41 ⟨l31, w38, cs32, ob34, c35, r36, e39, h33, o37, e42, e43⟩
      rw [e42, e43]
      clear e42 e43 L40 M41
      clear hq30
      rw [e39] at hf
      clear e39
      try dsimp only at hf
      have m44 := o37.mx
      refine QW.then_n ?_
      refine CW.seq ?_
      refine CW.region ?_
      refine OW.rv (RV.move rfl) rfl ?_
      refine OW.mem (M' := (some b28, blk (u8s w38.toList) 25) :: (some b12, blk (u8s x9.toList) 25) :: (some b7, blk (u8s x4.toList) 25) :: (((ob34, blk (cs32 ++ r36) 30) :: []) ++ N)) (fun w m => m.pick [1, 2, 3, 0] 4 rfl rfl) ?_
      replace h33 := h33.mono (BsRd.mono (Ψ := More w0 Φ ((ob34, blk (cs32 ++ r36) 30) :: [])) (fun w q => More.mono (fun w m => (m).tail) q))
      replace hg0 := hg0.mono (Ψ := More w0 Φ ((ob34, blk (cs32 ++ r36) 30) :: [])) (fun w q => More.mono (fun w m => (m).tail) q)
      have v45 : View (More w0 Φ ((ob34, blk (cs32 ++ r36) 30) :: [])) ((ob34).map fun k => ⟨k, 0, none⟩) l31.length c35 1 cs32 := o37.view (by decide) (fun w q => q.2.sublist (List.singleton_sublist.2 (List.mem_cons_self ..)))
      obtain ⟨x47, hx46, hf⟩ := some_bind hf
      refine OW.callG Tryd.call9 rfl (bloom_Of_does w0 (More w0 Φ ((ob34, blk (cs32 ++ r36) 30) :: [])) ((some b28, blk (u8s w38.toList) 25) :: (some b12, blk (u8s x9.toList) 25) :: (some b7, blk (u8s x4.toList) 25) :: (((ob34, blk (cs32 ++ r36) 30) :: []) ++ N)) (fun w m => More.of hΦ 3 m rfl) ((ob34).map fun k => ⟨k, 0, none⟩) c35 cs32 l31 x47 v45 h33 hg0 hx46) rfl rfl ?_
      rintro _ G48 rfl
      refine OW.mem (M' := ((some b28, blk (u8s w38.toList) 25) :: (some b12, blk (u8s x9.toList) 25) :: (some b7, blk (u8s x4.toList) 25) :: (((ob34, blk (cs32 ++ r36) 30) :: []) ++ N))) (fun w m => m.appR) ?_
      refine OW.alloc (l := (u8s (Vector.replicate 256 0#8).toList)) rfl (by rw [Vector.toList_replicate, ← u8s_rep']; rfl) rfl (fun b50 => ?_)
      refine OW.sv (SV.storeW rfl rfl rfl (u8s_one _) rfl ((u8s_length _).trans Vector.length_toList) ((u8s_length _).trans Vector.length_toList)) ?_
      refine OW.nil ?_
      refine QW.then_n ?_
      refine CW.seq ?_
      refine CW.seq ?_
      obtain ⟨q51, hq52, hf⟩ := some_bind hf
      refine CW.cutJ (fun L' M' => ∃ p55 : Bool, ∃ B53 : List Ent, q51 = p55 ∧ (∀ w, Mem w0 w B53 → Mem w0 w ((ob34, blk (cs32 ++ r36) 30) :: [])) ∧ L' = [(7, .slice ((ob34).map fun k => ⟨k, 0, none⟩) l31.length c35), (11, ptr (some b50) 0), (80, .bool (p55))] ∧ M' = ((some b50, blk (u8s x47.toList) 25) :: (B53 ++ N))) ?_ ?_
      · rintro L57 M58 ⟨p55, B53, e56, hB54, e59, e60⟩
        rw [e59, e60]
        clear e59 e60 L57 M58
        clear hq52
        rw [e56] at hf
        clear e56
        try dsimp only at hf
        replace v45 := v45.mono (Ψ := More w0 Φ B53) (fun w q => More.mono (fun w m => hB54 w (m)) q)
        replace h33 := h33.mono (BsRd.mono (Ψ := More w0 Φ B53) (fun w q => More.mono (fun w m => hB54 w (m)) q))
        replace hg0 := hg0.mono (Ψ := More w0 Φ B53) (fun w q => More.mono (fun w m => hB54 w (m)) q)
        refine QW.then_n ?_
        by_cases h61 : p55 = true
        · replace hf := if_t hf h61
          refine CW.is_t rfl (h61) ?_
          refine CW.seq ?_
          refine CW.region ?_
          refine OW.rv (RV.assign rfl) rfl ?_
          refine OW.nil ?_
          refine QW.then_n ?_
          refine CW.ret ?_
          refine QW.then_r ?_
          have e0 := Option.some.inj hf
          subst e0
          refine QW.retG (rs := [.tmp 4]) ([.bool false]) ((some b50, blk (u8s x47.toList) 25) :: B53) rfl ?_ rfl ?_ ?_ _ (.inl rfl)
          · exact ⟨rfl, trivial⟩
          · exact rfl
          · exact (fun w m => m)
        · replace hf := if_f hf h61
          refine CW.is_f rfl (Bool.eq_false_iff.2 h61) ?_
          refine CW.skip ?_
          refine QW.then_n ?_
          refine CW.seq ?_
          refine CW.seq ?_
          refine CW.region ?_
          refine OW.rv (RV.assign rfl) rfl ?_
          refine OW.nil ?_
          refine QW.then_n ?_
          obtain ⟨q62, hq63, hf⟩ := some_bind hf
          refine CW.cutJ (fun L' M' => q62 = Lp.go () ∧ L' = [(7, .slice ((ob34).map fun k => ⟨k, 0, none⟩) l31.length c35), (11, ptr (some b50) 0)] ∧ M' = ((some b50, blk (u8s x47.toList) 25) :: (B53 ++ N))) ?_ ?_
          · rintro L65 M66 ⟨e64, e67, e68⟩
            rw [e67, e68]
            clear e67 e68 L65 M66
            clear hq63
            rw [e64] at hf
            clear e64
            try dsimp only at hf
            refine QW.then_n ?_
            refine CW.seq ?_
            obtain ⟨q69, hq70, hf⟩ := some_bind hf
            refine CW.cutJ (fun L' M' => ∃ p71 : Bool, q69 = p71 ∧ L' = [(4, .bool (p71))] ∧ M' = ((B53 ++ N))) ?_ ?_
            · rintro L73 M74 ⟨p71, e72, e75, e76⟩
              rw [e75, e76]
              clear e75 e76 L73 M74
              clear hq70
              rw [e72] at hf
              clear e72
              try dsimp only at hf
              refine QW.then_n ?_
              refine CW.ret ?_
              have e0 := Option.some.inj hf
              subst e0
              refine QW.retG (rs := [.tmp 4]) ([.bool (p71)]) (B53) rfl ?_ rfl ?_ ?_ _ (.inl rfl)
              · exact ⟨rfl, trivial⟩
              · exact rfl
              · exact (fun w m => m)
            · skip
              refine CW.region ?_
              refine OW.rv (RV.move rfl) rfl ?_
              refine OW.rv (RV.len rfl rfl) rfl ?_
              refine OW.rv (RV.eql rfl rfl) rfl ?_
              refine OW.slot (.bool (decide (l31.length = 0))) (congrArg Value.bool (decide_eq_decide.2 (by omega))) ?_
              refine OW.rv (RV.move rfl) rfl ?_
              by_cases h77 : l31.length = 0
              · replace hq70 := if_t hq70 h77
                refine OW.slot (.bool true) (congrArg Value.bool (decide_eq_true h77)) ?_
                refine OW.skip rfl rfl rfl ?_
                refine OW.skip rfl rfl rfl ?_
                refine OW.skip rfl rfl rfl ?_
                refine OW.rv (RV.pick_t rfl rfl rfl) rfl ?_
                refine OW.rv (RV.assign rfl) rfl ?_
                refine OW.nil ?_
                exact QW.join ⟨true, (Option.some.inj hq70).symm, rfl, rfl⟩ ⟨rfl, trivial⟩ (fun w m => m.pick [] 1 rfl rfl)
              · replace hq70 := if_f hq70 h77
                refine OW.slot (.bool false) (congrArg Value.bool (decide_eq_false h77)) ?_
                refine OW.want rfl ?_
                refine OW.rv (RV.loadW rfl (List.Mem.head _) rfl rfl rfl rfl ((u8s_length _).trans Vector.length_toList)) rfl ?_
                refine OW.want rfl ?_
                refine OW.rv (RV.build0 (l := (u8s (Vector.replicate 256 0#8).toList)) rfl rfl rfl (by rw [Vector.toList_replicate, ← u8s_rep']; rfl)) rfl ?_
                refine OW.want rfl ?_
                refine OW.rv (RV.neA8 rfl rfl rfl rfl rfl rfl (Vector.length_toList) (Vector.length_toList)) rfl ?_
                refine OW.slot (.bool (!decide (x47 = (Vector.replicate 256 0#8)))) (congrArg (fun b => Value.bool (!b)) (decide_eq_decide.2 Vector.toList_inj)) ?_
                refine OW.rv (RV.pick_f rfl rfl rfl) rfl ?_
                refine OW.rv (RV.assign rfl) rfl ?_
                refine OW.nil ?_
                exact QW.join ⟨(!decide (x47 = (Vector.replicate 256 0#8))), (Option.some.inj hq70).symm, rfl, rfl⟩ ⟨rfl, trivial⟩ (fun w m => m.pick [] 1 rfl rfl)
          · skip
            refine CW.block ?_
            refine CW.loopJ (fun k L' M' => ∃ n78 : Nat, (waybilllaw10_BloomJoins.l1 l31 x47 k n78) = some q62 ∧ (n78 ≤ 9223372036854775807) ∧ L' = [(7, .slice ((ob34).map fun k => ⟨k, 0, none⟩) l31.length c35), (11, ptr (some b50) 0), (12, .int .i64 ((n78 : Nat) : Int))] ∧ M' = ((some b50, blk (u8s x47.toList) 25) :: (B53 ++ N))) (k0 := (l31.length - 0 + 2)) ⟨0, hq63, (by omega), rfl, rfl⟩ ⟨rfl, rfl, rfl, trivial⟩ (fun w m => m.pick [0] 1 rfl rfl) ?_
            clear hq63
            rintro k80 L83 M84 ⟨n78, hl81, b79, e85, e86⟩
            rw [e85, e86]
            clear e85 e86 L83 M84
            rcases k80 with _ | k80
            · rw [waybilllaw10_BloomJoins.l1] at hl81; cases hl81
            rw [waybilllaw10_BloomJoins.l1] at hl81
            refine CW.seq ?_
            refine CW.seq ?_
            refine CW.region ?_
            refine OW.rv (RV.move rfl) rfl ?_
            refine OW.rv (RV.move rfl) rfl ?_
            refine OW.rv (RV.len rfl rfl) rfl ?_
            refine OW.rv (RV.lss rfl rfl) rfl ?_
            refine OW.slot (.bool (decide (n78 < l31.length))) (congrArg Value.bool (decide_eq_decide.2 (by omega))) ?_
            refine OW.nil ?_
            refine QW.then_n ?_
            by_cases h87 : n78 < l31.length
            · replace hl81 := if_t hl81 h87
              refine CW.is_t rfl (decide_eq_true h87) ?_
              refine CW.skip ?_
              refine QW.then_n ?_
              refine CW.seq ?_
              refine CW.block ?_
              refine CW.seq ?_
              refine CW.drawsU 7 mixed (by kernel_rfl) rfl ?_
              refine UW.rv 0 rfl (by kernel_rfl) rfl (RV.loadW rfl (List.Mem.head _) rfl rfl rfl rfl ((u8s_length _).trans Vector.length_toList)) rfl ?_
              refine UW.rv 1 rfl (by kernel_rfl) rfl (RV.move rfl) rfl ?_
              refine UW.rv 2 rfl (by kernel_rfl) rfl (RV.move rfl) rfl ?_
              obtain ⟨x88, hx89, hl81⟩ := some_bind hl81
              have hl90 := lt_of_at hx89
              refine UW.rv 3 rfl (by kernel_rfl) rfl (RV.idx_r (n78) rfl rfl rfl rfl rfl (v45.isSome (by decide) hl90) (by omega)) rfl ?_
              obtain ⟨cs91, h92, h93⟩ := h33.get BsRd.len hx89
              obtain ⟨A94, c95, e97, v96⟩ := h92
              subst e97
              have m98 := v96.mx
              refine UW.rv 4 rfl (by kernel_rfl) rfl (RV.load_at rfl rfl rfl (fun w m => by have := v45.load (More.of hΦ 1 m rfl) h93 0 _ rfl; simpa [Addr.add] using this)) rfl ?_
              obtain ⟨x100, hx99, hl81⟩ := some_bind hl81
              refine UW.callG 5 rfl (by kernel_rfl) rfl Tryd.call17 rfl (fun N' hN' => bloom_Has_does w0 (More w0 Φ B53) N' (fun w m => More.of hΦ 1 (hN' w m) rfl) x47 A94 c95 x88 x100 v96 hg0 hx99) rfl ?_
              rintro _ G101 rfl
              refine UW.mem (M' := ((some b50, blk (u8s x47.toList) 25) :: (B53 ++ N))) (fun w m => m.appR) ?_
              refine UW.rv 6 rfl (by kernel_rfl) rfl (RV.not rfl) rfl ?_
              refine UW.nil (by kernel_rfl) ?_
              refine OW.nil ?_
              refine QW.then_n ?_
              by_cases h103 : x100 = true
              · replace hl81 := if_t hl81 h103
                refine CW.is_f rfl (congrArg (fun b => !b) (h103)) ?_
                refine CW.skip ?_
                refine QW.block_n ?_
                refine QW.then_n ?_
                refine CW.region ?_
                refine OW.rv (RV.move rfl) rfl ?_
                refine OW.rv (RV.add rfl rfl (by omega)) rfl ?_
                refine OW.slot (.int .i64 (((n78 + 1) : Nat) : Int)) (by first | rfl | (congr 1) | (congr 1; omega)) ?_
                refine OW.rv (RV.assign rfl) rfl ?_
                refine OW.nil ?_
                exact QW.againJ (k' := k80) (Nat.lt_succ_self _) ⟨(n78 + 1), hl81, (by omega), rfl, rfl⟩ ⟨rfl, rfl, rfl, trivial⟩ (fun w m => m.pick [0] 1 rfl rfl)
              · replace hl81 := if_f hl81 h103
                refine CW.is_t rfl (congrArg (fun b => !b) (Bool.eq_false_iff.2 h103)) ?_
                refine CW.seq ?_
                refine CW.region ?_
                refine OW.rv (RV.assign rfl) rfl ?_
                refine OW.nil ?_
                refine QW.then_n ?_
                refine CW.ret ?_
                refine QW.block_r ?_
                refine QW.then_r ?_
                refine QW.then_r ?_
                refine QW.block_r ?_
                refine QW.then_r ?_
                have hc := Option.some.inj hl81
                subst hc
                try dsimp only at hf
                refine QW.then_r ?_
                have e0 := Option.some.inj hf
                subst e0
                refine QW.retG (rs := [.tmp 4]) ([.bool false]) ((some b50, blk (u8s x47.toList) 25) :: B53) rfl ?_ rfl ?_ ?_ _ (.inl rfl)
                · exact ⟨rfl, trivial⟩
                · exact rfl
                · exact (fun w m => m)
            · replace hl81 := if_f hl81 h87
              refine CW.is_f rfl (decide_eq_false h87) ?_
              refine CW.exit ?_
              refine QW.then_x ?_
              refine QW.then_x ?_
              refine QW.block_xe ?_
              exact QW.join ⟨(Option.some.inj hl81).symm, rfl, rfl⟩ ⟨rfl, rfl, trivial⟩ (fun w m => m.pick [0] 1 rfl rfl)
      · skip
        refine CW.drawsU 23 mixed (by kernel_rfl) rfl ?_
        refine UW.rv 0 rfl (by kernel_rfl) rfl (RV.loadW rfl (List.Mem.head _) rfl rfl rfl rfl ((u8s_length _).trans Vector.length_toList)) rfl ?_
        refine UW.rv 1 rfl (by kernel_rfl) rfl (RV.loadW rfl (List.Mem.tail _ (List.Mem.tail _ (List.Mem.tail _ (List.Mem.head _)))) rfl rfl rfl rfl ((u8s_length _).trans Vector.length_toList)) rfl ?_
        refine UW.rv 2 rfl (by kernel_rfl) rfl (RV.loadW rfl (List.Mem.tail _ (List.Mem.tail _ (List.Mem.head _))) rfl rfl rfl rfl ((u8s_length _).trans Vector.length_toList)) rfl ?_
        refine UW.new 3 rfl (by kernel_rfl) rfl (NV.bsA rfl rfl (by intro x hx; simp at hx; rcases hx with rfl | rfl <;> exact (u8s_length _).trans Vector.length_toList) rfl rfl rfl (by decide) (by decide) rfl) rfl (fun b104 => ?_)
        have h107 : Reps (Ar8Rd (More w0 Φ ((ob34, blk (cs32 ++ r36) 30) :: []))) (((u8s x4.toList) : List Value) ++ ((u8s x9.toList) : List Value)) [x4, x9] := by simpa using (show Reps (Ar8Rd (More w0 Φ ((ob34, blk (cs32 ++ r36) 30) :: []))) _ [x4, x9] from (.cons Ar8Rd.mk (.cons Ar8Rd.mk .nil)))
        refine UW.mem (M' := (((some b104), blk ((((u8s x4.toList) : List Value) ++ ((u8s x9.toList) : List Value)) ++ []) 25) :: (some b50, blk (u8s x47.toList) 25) :: (some b28, blk (u8s w38.toList) 25) :: (some b12, blk (u8s x9.toList) 25) :: (some b7, blk (u8s x4.toList) 25) :: (((ob34, blk (cs32 ++ r36) 30) :: []) ++ N))) (fun w m => by simpa only [List.flatten_cons, List.flatten_nil, List.append_nil, List.append_assoc] using m) ?_
        have o105 : OwnS (some b104) ([x4, x9] : List (Vector (BitVec 8) 256)).length 2 256 (((u8s x4.toList) : List Value) ++ ((u8s x9.toList) : List Value)) [] := ⟨by simp [Ar8Rd], by simp [Ar8Rd], (fun h => nomatch h), by simp⟩
        refine UW.slot (sl (some b104) 0 ([x4, x9] : List (Vector (BitVec 8) 256)).length 2) (rfl) ?_
        refine UW.mem (M' := (some b50, blk (u8s x47.toList) 25) :: (some b28, blk (u8s w38.toList) 25) :: (some b12, blk (u8s x9.toList) 25) :: (some b7, blk (u8s x4.toList) 25) :: ((((some b104), blk ((((u8s x4.toList) : List Value) ++ ((u8s x9.toList) : List Value)) ++ []) 25) :: ((ob34, blk (cs32 ++ r36) 30) :: [])) ++ N)) (fun w m => m.pick [1, 2, 3, 4, 0] 5 rfl rfl) ?_
        replace v45 := v45.mono (Ψ := More w0 Φ (((some b104), blk ((((u8s x4.toList) : List Value) ++ ((u8s x9.toList) : List Value)) ++ []) 25) :: ((ob34, blk (cs32 ++ r36) 30) :: []))) (fun w q => More.mono (fun w m => (m).tail) q)
        replace h33 := h33.mono (BsRd.mono (Ψ := More w0 Φ (((some b104), blk ((((u8s x4.toList) : List Value) ++ ((u8s x9.toList) : List Value)) ++ []) 25) :: ((ob34, blk (cs32 ++ r36) 30) :: []))) (fun w q => More.mono (fun w m => (m).tail) q))
        replace h107 := h107.mono (Ar8Rd.mono (Ψ := More w0 Φ (((some b104), blk ((((u8s x4.toList) : List Value) ++ ((u8s x9.toList) : List Value)) ++ []) 25) :: ((ob34, blk (cs32 ++ r36) 30) :: []))) (fun w q => More.mono (fun w m => (m).tail) q))
        replace hg0 := hg0.mono (Ψ := More w0 Φ (((some b104), blk ((((u8s x4.toList) : List Value) ++ ((u8s x9.toList) : List Value)) ++ []) 25) :: ((ob34, blk (cs32 ++ r36) 30) :: []))) (fun w q => More.mono (fun w m => (m).tail) q)
        have v108 : View (More w0 Φ (((some b104), blk ((((u8s x4.toList) : List Value) ++ ((u8s x9.toList) : List Value)) ++ []) 25) :: ((ob34, blk (cs32 ++ r36) 30) :: []))) (((some b104)).map fun k => ⟨k, 0, none⟩) ([x4, x9] : List (Vector (BitVec 8) 256)).length 2 256 (((u8s x4.toList) : List Value) ++ ((u8s x9.toList) : List Value)) := o105.view (by decide) (fun w q => q.2.sublist (List.singleton_sublist.2 (List.mem_cons_self ..)))
        obtain ⟨x110, hx109, hq52⟩ := some_bind hq52
        refine UW.callG 4 rfl (by kernel_rfl) rfl Tryd.call22 rfl (fun N' hN' => bloom_Union_does w0 (More w0 Φ (((some b104), blk ((((u8s x4.toList) : List Value) ++ ((u8s x9.toList) : List Value)) ++ []) 25) :: ((ob34, blk (cs32 ++ r36) 30) :: []))) N' (fun w m => More.of hΦ 4 (hN' w m) rfl) (((some b104)).map fun k => ⟨k, 0, none⟩) 2 (((u8s x4.toList) : List Value) ++ ((u8s x9.toList) : List Value)) ([x4, x9] : List (Vector (BitVec 8) 256)) x110 v108 h107 hx109) rfl ?_
        rintro _ G111 rfl
        refine UW.mem (M' := ((some b50, blk (u8s x47.toList) 25) :: (some b28, blk (u8s w38.toList) 25) :: (some b12, blk (u8s x9.toList) 25) :: (some b7, blk (u8s x4.toList) 25) :: ((((some b104), blk ((((u8s x4.toList) : List Value) ++ ((u8s x9.toList) : List Value)) ++ []) 25) :: ((ob34, blk (cs32 ++ r36) 30) :: [])) ++ N))) (fun w m => m.appR) ?_
        refine UW.rv 5 rfl (by kernel_rfl) rfl (RV.neA8 rfl rfl rfl rfl rfl rfl (Vector.length_toList) (Vector.length_toList)) rfl ?_
        refine UW.slot (.bool (!decide (x47 = x110))) (congrArg (fun b => Value.bool (!b)) (decide_eq_decide.2 Vector.toList_inj)) ?_
        refine UW.rv 6 rfl (by kernel_rfl) rfl (RV.move rfl) rfl ?_
        by_cases h113 : x47 = x110
        · replace hq52 := if_t hq52 h113
          refine UW.slot (.bool false) (congrArg Value.bool (congrArg (fun b => !b) (decide_eq_true h113))) ?_
          refine UW.rv 7 rfl (by kernel_rfl) rfl (RV.loadW rfl (List.Mem.head _) rfl rfl rfl rfl ((u8s_length _).trans Vector.length_toList)) rfl ?_
          refine UW.rv 8 rfl (by kernel_rfl) rfl (RV.loadW rfl (List.Mem.tail _ (List.Mem.head _)) rfl rfl rfl rfl ((u8s_length _).trans Vector.length_toList)) rfl ?_
          refine UW.rv 9 rfl (by kernel_rfl) rfl (RV.neA8 rfl rfl rfl rfl rfl rfl (Vector.length_toList) (Vector.length_toList)) rfl ?_
          refine UW.slot (.bool (!decide (x47 = w38))) (congrArg (fun b => Value.bool (!b)) (decide_eq_decide.2 Vector.toList_inj)) ?_
          refine UW.rv 10 rfl (by kernel_rfl) rfl (RV.pick_f rfl rfl rfl) rfl ?_
          refine UW.rv 11 rfl (by kernel_rfl) rfl (RV.move rfl) rfl ?_
          by_cases h114 : x47 = w38
          · replace hq52 := if_t hq52 h114
            refine UW.slot (.bool false) (congrArg Value.bool (congrArg (fun b => !b) (decide_eq_true h114))) ?_
            refine UW.rv 12 rfl (by kernel_rfl) rfl (RV.loadW rfl (List.Mem.tail _ (List.Mem.tail _ (List.Mem.tail _ (List.Mem.head _)))) rfl rfl rfl rfl ((u8s_length _).trans Vector.length_toList)) rfl ?_
            refine UW.rv 13 rfl (by kernel_rfl) rfl (RV.loadW rfl (List.Mem.head _) rfl rfl rfl rfl ((u8s_length _).trans Vector.length_toList)) rfl ?_
            obtain ⟨x116, hx115, hq52⟩ := some_bind hq52
            refine UW.callG 14 rfl (by kernel_rfl) rfl Tryd.call23 rfl (fun N' hN' => bloom_Within_does w0 (More w0 Φ (((some b104), blk ((((u8s x4.toList) : List Value) ++ ((u8s x9.toList) : List Value)) ++ []) 25) :: ((ob34, blk (cs32 ++ r36) 30) :: []))) N' (fun w m => More.of hΦ 4 (hN' w m) rfl) x4 x47 x116 hx115) rfl ?_
            rintro _ G117 rfl
            refine UW.mem (M' := ((some b50, blk (u8s x47.toList) 25) :: (some b28, blk (u8s w38.toList) 25) :: (some b12, blk (u8s x9.toList) 25) :: (some b7, blk (u8s x4.toList) 25) :: ((((some b104), blk ((((u8s x4.toList) : List Value) ++ ((u8s x9.toList) : List Value)) ++ []) 25) :: ((ob34, blk (cs32 ++ r36) 30) :: [])) ++ N))) (fun w m => m.appR) ?_
            refine UW.rv 15 rfl (by kernel_rfl) rfl (RV.not rfl) rfl ?_
            refine UW.rv 16 rfl (by kernel_rfl) rfl (RV.pick_f rfl rfl rfl) rfl ?_
            refine UW.rv 17 rfl (by kernel_rfl) rfl (RV.move rfl) rfl ?_
            by_cases h119 : x116 = true
            · replace hq52 := if_t hq52 h119
              refine UW.slot (.bool false) (congrArg Value.bool (congrArg (fun b => !b) (h119))) ?_
              refine UW.rv 18 rfl (by kernel_rfl) rfl (RV.loadW rfl (List.Mem.tail _ (List.Mem.tail _ (List.Mem.head _))) rfl rfl rfl rfl ((u8s_length _).trans Vector.length_toList)) rfl ?_
              refine UW.rv 19 rfl (by kernel_rfl) rfl (RV.loadW rfl (List.Mem.head _) rfl rfl rfl rfl ((u8s_length _).trans Vector.length_toList)) rfl ?_
              obtain ⟨x121, hx120, hq52⟩ := some_bind hq52
              refine UW.callG 20 rfl (by kernel_rfl) rfl Tryd.call23 rfl (fun N' hN' => bloom_Within_does w0 (More w0 Φ (((some b104), blk ((((u8s x4.toList) : List Value) ++ ((u8s x9.toList) : List Value)) ++ []) 25) :: ((ob34, blk (cs32 ++ r36) 30) :: []))) N' (fun w m => More.of hΦ 4 (hN' w m) rfl) x9 x47 x121 hx120) rfl ?_
              rintro _ G122 rfl
              refine UW.mem (M' := ((some b50, blk (u8s x47.toList) 25) :: (some b28, blk (u8s w38.toList) 25) :: (some b12, blk (u8s x9.toList) 25) :: (some b7, blk (u8s x4.toList) 25) :: ((((some b104), blk ((((u8s x4.toList) : List Value) ++ ((u8s x9.toList) : List Value)) ++ []) 25) :: ((ob34, blk (cs32 ++ r36) 30) :: [])) ++ N))) (fun w m => m.appR) ?_
              refine UW.rv 21 rfl (by kernel_rfl) rfl (RV.not rfl) rfl ?_
              refine UW.rv 22 rfl (by kernel_rfl) rfl (RV.pick_f rfl rfl rfl) rfl ?_
              refine UW.nil (by kernel_rfl) ?_
              refine OW.nil ?_
              exact QW.join ⟨(!x121), (((some b104), blk ((((u8s x4.toList) : List Value) ++ ((u8s x9.toList) : List Value)) ++ []) 25) :: ((ob34, blk (cs32 ++ r36) 30) :: [])), (Option.some.inj hq52).symm, (fun w m => (m).tail), rfl, rfl⟩ ⟨rfl, rfl, rfl, trivial⟩ (fun w m => m.pick [0] 4 rfl rfl)
            · replace hq52 := if_f hq52 h119
              refine UW.slot (.bool true) (congrArg Value.bool (congrArg (fun b => !b) (Bool.eq_false_iff.2 h119))) ?_
              refine UW.skip 18 rfl (by kernel_rfl) rfl rfl ?_
              refine UW.skip 19 rfl (by kernel_rfl) rfl rfl ?_
              refine UW.skip 20 rfl (by kernel_rfl) rfl rfl ?_
              refine UW.skip 21 rfl (by kernel_rfl) rfl rfl ?_
              refine UW.rv 22 rfl (by kernel_rfl) rfl (RV.pick_t rfl rfl rfl) rfl ?_
              refine UW.nil (by kernel_rfl) ?_
              refine OW.nil ?_
              exact QW.join ⟨true, (((some b104), blk ((((u8s x4.toList) : List Value) ++ ((u8s x9.toList) : List Value)) ++ []) 25) :: ((ob34, blk (cs32 ++ r36) 30) :: [])), (Option.some.inj hq52).symm, (fun w m => (m).tail), rfl, rfl⟩ ⟨rfl, rfl, rfl, trivial⟩ (fun w m => m.pick [0] 4 rfl rfl)
          · replace hq52 := if_f hq52 h114
            refine UW.slot (.bool true) (congrArg Value.bool (congrArg (fun b => !b) (decide_eq_false h114))) ?_
            refine UW.skip 12 rfl (by kernel_rfl) rfl rfl ?_
            refine UW.skip 13 rfl (by kernel_rfl) rfl rfl ?_
            refine UW.skip 14 rfl (by kernel_rfl) rfl rfl ?_
            refine UW.skip 15 rfl (by kernel_rfl) rfl rfl ?_
            refine UW.rv 16 rfl (by kernel_rfl) rfl (RV.pick_t rfl rfl rfl) rfl ?_
            refine UW.rv 17 rfl (by kernel_rfl) rfl (RV.move rfl) rfl ?_
            refine UW.skip 18 rfl (by kernel_rfl) rfl rfl ?_
            refine UW.skip 19 rfl (by kernel_rfl) rfl rfl ?_
            refine UW.skip 20 rfl (by kernel_rfl) rfl rfl ?_
            refine UW.skip 21 rfl (by kernel_rfl) rfl rfl ?_
            refine UW.rv 22 rfl (by kernel_rfl) rfl (RV.pick_t rfl rfl rfl) rfl ?_
            refine UW.nil (by kernel_rfl) ?_
            refine OW.nil ?_
            exact QW.join ⟨true, (((some b104), blk ((((u8s x4.toList) : List Value) ++ ((u8s x9.toList) : List Value)) ++ []) 25) :: ((ob34, blk (cs32 ++ r36) 30) :: [])), (Option.some.inj hq52).symm, (fun w m => (m).tail), rfl, rfl⟩ ⟨rfl, rfl, rfl, trivial⟩ (fun w m => m.pick [0] 4 rfl rfl)
        · replace hq52 := if_f hq52 h113
          refine UW.slot (.bool true) (congrArg Value.bool (congrArg (fun b => !b) (decide_eq_false h113))) ?_
          refine UW.skip 7 rfl (by kernel_rfl) rfl rfl ?_
          refine UW.skip 8 rfl (by kernel_rfl) rfl rfl ?_
          refine UW.skip 9 rfl (by kernel_rfl) rfl rfl ?_
          refine UW.rv 10 rfl (by kernel_rfl) rfl (RV.pick_t rfl rfl rfl) rfl ?_
          refine UW.rv 11 rfl (by kernel_rfl) rfl (RV.move rfl) rfl ?_
          refine UW.skip 12 rfl (by kernel_rfl) rfl rfl ?_
          refine UW.skip 13 rfl (by kernel_rfl) rfl rfl ?_
          refine UW.skip 14 rfl (by kernel_rfl) rfl rfl ?_
          refine UW.skip 15 rfl (by kernel_rfl) rfl rfl ?_
          refine UW.rv 16 rfl (by kernel_rfl) rfl (RV.pick_t rfl rfl rfl) rfl ?_
          refine UW.rv 17 rfl (by kernel_rfl) rfl (RV.move rfl) rfl ?_
          refine UW.skip 18 rfl (by kernel_rfl) rfl rfl ?_
          refine UW.skip 19 rfl (by kernel_rfl) rfl rfl ?_
          refine UW.skip 20 rfl (by kernel_rfl) rfl rfl ?_
          refine UW.skip 21 rfl (by kernel_rfl) rfl rfl ?_
          refine UW.rv 22 rfl (by kernel_rfl) rfl (RV.pick_t rfl rfl rfl) rfl ?_
          refine UW.nil (by kernel_rfl) ?_
          refine OW.nil ?_
          exact QW.join ⟨true, (((some b104), blk ((((u8s x4.toList) : List Value) ++ ((u8s x9.toList) : List Value)) ++ []) 25) :: ((ob34, blk (cs32 ++ r36) 30) :: [])), (Option.some.inj hq52).symm, (fun w m => (m).tail), rfl, rfl⟩ ⟨rfl, rfl, rfl, trivial⟩ (fun w m => m.pick [0] 4 rfl rfl)
    · skip
      refine CW.block ?_
      refine CW.loopJ (fun k L' M' => ∃ l124 : List (List (BitVec 8)), ∃ z131 : Int, ∃ w133 : Vector (BitVec 8) 256, ∃ cs125 : List Value, ∃ ob127 : Option Nat, ∃ c128 : Nat, ∃ r129 : List Value, (waybilllaw10_BloomJoins.l2 a0 k l124 z131 w133) = some q29 ∧ (Reps (BsRd (More w0 Φ [])) cs125 l124) ∧ (OwnS ob127 l124.length c128 1 cs125 r129) ∧ (-9223372036854775808 ≤ z131 ∧ z131 ≤ 9223372036854775807) ∧ L' = [(0, .slice A0_ a0.length c0_), (5, ptr (some b7) 0), (6, ptr (some b12) 0), (7, sl ob127 0 l124.length c128), (9, ptr (some b28) 0), (10, .int .i64 z131)] ∧ M' = ((ob127, blk (cs125 ++ r129) 30) :: (some b28, blk (u8s w133.toList) 25) :: (some b12, blk (u8s x9.toList) 25) :: (some b7, blk (u8s x4.toList) 25) :: ([] ++ N))) (k0 := (((((a0.length : Nat) : Int) - (1 : Int))) - ((0 : Int)) + 2).toNat) ⟨l15, (((a0.length : Nat) : Int) - (1 : Int)), x9, cs16, ob18, c19, r20, hq30, h17, o21, (by omega), rfl, rfl⟩ ⟨rfl, rfl, rfl, rfl, rfl, rfl, trivial⟩ (fun w m => m.pick [1, 0, 2, 3] 4 rfl rfl) ?_
      clear hq30
      rintro k134 L137 M138 ⟨l124, z131, w133, cs125, ob127, c128, r129, hl135, h126, o130, b132, e139, e140⟩
      rw [e139, e140]
      clear e139 e140 L137 M138
      rcases k134 with _ | k134
      · rw [waybilllaw10_BloomJoins.l2] at hl135; cases hl135
      rw [waybilllaw10_BloomJoins.l2] at hl135
      have m141 := o130.mx
      refine CW.seq ?_
      refine CW.seq ?_
      refine CW.region ?_
      refine OW.rv (RV.move rfl) rfl ?_
      refine OW.rv (RV.geq rfl rfl) rfl ?_
      refine OW.nil ?_
      refine QW.then_n ?_
      by_cases h142 : (0 : Int) ≤ z131
      · replace hl135 := if_t hl135 h142
        refine CW.is_t rfl (decide_eq_true h142) ?_
        refine CW.skip ?_
        refine QW.then_n ?_
        refine CW.seq ?_
        refine CW.block ?_
        refine CW.seq ?_
        refine CW.region ?_
        refine OW.rv (RV.move rfl) rfl ?_
        refine OW.rv (RV.move rfl) rfl ?_
        refine OW.rv (RV.move rfl) rfl ?_
        obtain ⟨x143, hx144, hl135⟩ := some_bind hl135
        have hl145 := lt_of_at hx144
        refine OW.rv (RV.idx_r ((z131).toNat) rfl rfl (by omega) rfl rfl (va0.isSome (by decide) hl145) (by omega)) rfl ?_
        obtain ⟨cs146, h147, h148⟩ := ha0.get BsRd.len hx144
        obtain ⟨A149, c150, e152, v151⟩ := h147
        subst e152
        have m153 := v151.mx
        refine OW.rv (RV.load_at rfl rfl rfl (fun w m => by have := va0.load (More.of hΦ 4 m rfl) h148 0 _ rfl; simpa [Addr.add] using this)) rfl ?_
        refine OW.ofN (NV.bs1 rfl rfl rfl rfl rfl rfl) rfl (fun b154 => ?_)
        have h157 : Reps (BsRd (More w0 Φ [])) (([.slice A149 x143.length c150] : List Value)) [x143] := Reps.one (BsRd.mk v151)
        refine OW.mem (M' := (((some b154), blk ((([.slice A149 x143.length c150] : List Value)) ++ []) 30) :: (ob127, blk (cs125 ++ r129) 30) :: (some b28, blk (u8s w133.toList) 25) :: (some b12, blk (u8s x9.toList) 25) :: (some b7, blk (u8s x4.toList) 25) :: ([] ++ N))) (fun w m => m) ?_
        have o155 : OwnS (some b154) ([x143] : List (List (BitVec 8))).length 1 1 (([.slice A149 x143.length c150] : List Value)) [] := ⟨by simp [BsRd], by simp [BsRd], (fun h => nomatch h), by simp⟩
        refine OW.slot (sl (some b154) 0 ([x143] : List (List (BitVec 8))).length 1) (rfl) ?_
        refine OW.rot1 ?_
        obtain ⟨g158, hl135⟩ := some_if hl135
        have h163 := h126.app h157
        refine OW.appendOwn (s := 1) rfl rfl rfl rfl rfl rfl o130 (fun w m => m.rd0 (List.Mem.tail _ (List.Mem.head _)) (fun e => o155.nilc (by decide) e)) o155.n (h157.cell1 BsRd.one) (o155.zeroO (by decide)) (by decide) (by decide) (by first | omega | (simp only [i30, List.length_nil]; omega)) rfl rfl ((l124 ++ ([x143] : List (List (BitVec 8)))).length) (cs125 ++ (([.slice A149 x143.length c150] : List Value))) (List.length_append ..).symm rfl (fun ob159 r160 c161 o162 => ?_)
        have m164 := o162.mx
        refine OW.rv (RV.assign rfl) rfl ?_
        refine OW.nil ?_
        refine QW.then_n ?_
        refine CW.drawsX ((ob159, blk ((cs125 ++ (([.slice A149 x143.length c150] : List Value))) ++ r160) 30) :: ((some b154), blk ((([.slice A149 x143.length c150] : List Value)) ++ []) 30) :: (some b12, blk (u8s x9.toList) 25) :: (some b7, blk (u8s x4.toList) 25) :: ([] ++ N)) [6] (fun w m => m.pick [0, 1, 3, 4] 5 rfl rfl) mixed (by kernel_rfl) ?_
        refine XW.rv 0 rfl (by kernel_rfl) rfl (by kernel_rfl) (RV.loadW rfl (List.Mem.tail _ (List.Mem.tail _ (List.Mem.head _))) rfl rfl rfl rfl ((u8s_length _).trans Vector.length_toList)) rfl ?_
        refine XW.rs 1 rfl (by kernel_rfl) rfl (RV.move rfl) rfl ?_
        refine XW.rs 2 rfl (by kernel_rfl) rfl (RV.move rfl) rfl ?_
        obtain ⟨x165, hx166, hl135⟩ := some_bind hl135
        have hl167 := lt_of_at hx166
        refine XW.rs 3 rfl (by kernel_rfl) rfl (RV.idx_r ((z131).toNat) rfl rfl (by omega) rfl rfl (va0.isSome (by decide) hl167) (by omega)) rfl ?_
        obtain ⟨cs168, h169, h170⟩ := ha0.get BsRd.len hx166
        obtain ⟨A171, c172, e174, v173⟩ := h169
        subst e174
        have m175 := v173.mx
        refine XW.rs 4 rfl (by kernel_rfl) rfl (RV.load_at rfl rfl rfl (fun w m => by have := va0.load (More.of hΦ 4 m rfl) h170 0 _ rfl; simpa [Addr.add] using this)) rfl ?_
        obtain ⟨x177, hx176, hl135⟩ := some_bind hl135
        refine XW.callG 5 rfl (by kernel_rfl) rfl Tryd.call15 rfl (fun N' hN' => bloom_Add_does w0 (More w0 Φ []) N' (fun w m => More.of hΦ 5 (hN' w m) rfl) w133 A171 c172 x165 x177 v173 hg0 hx176) rfl ?_
        rintro _ G178 rfl
        refine XW.mem (M' := ((ob159, blk ((cs125 ++ (([.slice A149 x143.length c150] : List Value))) ++ r160) 30) :: ((some b154), blk ((([.slice A149 x143.length c150] : List Value)) ++ []) 30) :: (some b28, blk (u8s w133.toList) 25) :: (some b12, blk (u8s x9.toList) 25) :: (some b7, blk (u8s x4.toList) 25) :: ([] ++ N))) (fun w m => m.appR) (fun w m => m.pick [0, 1, 3, 4] 5 rfl rfl) ?_
        refine XW.mem (M' := ((some b28, blk (u8s w133.toList) 25) :: (ob159, blk ((cs125 ++ (([.slice A149 x143.length c150] : List Value))) ++ r160) 30) :: ((some b154), blk ((([.slice A149 x143.length c150] : List Value)) ++ []) 30) :: (some b12, blk (u8s x9.toList) 25) :: (some b7, blk (u8s x4.toList) 25) :: ([] ++ N))) (fun w m => m.pick [2, 0, 1] 3 rfl rfl) (fun w m => m.pick [1, 2, 3, 4] 5 rfl rfl) ?_
        refine XW.sv 6 rfl (by kernel_rfl) (SV.storeW rfl rfl rfl (u8s_one _) rfl ((u8s_length _).trans Vector.length_toList) ((u8s_length _).trans Vector.length_toList)) (fun w m => m.pick [1, 2, 3, 4] 5 rfl rfl) ?_
        refine XW.nil (by kernel_rfl) ?_
        refine QW.block_n ?_
        refine QW.then_n ?_
        refine CW.region ?_
        refine OW.rv (RV.move rfl) rfl ?_
        obtain ⟨g180, hl135⟩ := some_if hl135
        refine OW.rv (RV.sub rfl rfl (by omega)) rfl ?_
        refine OW.rv (RV.assign rfl) rfl ?_
        refine OW.nil ?_
        exact QW.againJ (k' := k134) (Nat.lt_succ_self _) ⟨(l124 ++ ([x143] : List (List (BitVec 8)))), (z131 - (1 : Int)), x177, (cs125 ++ (([.slice A149 x143.length c150] : List Value))), ob159, c161, r160, hl135, h163, o162, (by omega), rfl, rfl⟩ ⟨rfl, rfl, rfl, rfl, rfl, rfl, trivial⟩ (fun w m => m.pick [1, 0, 3, 4] 5 rfl rfl)
      · replace hl135 := if_f hl135 h142
        refine CW.is_f rfl (decide_eq_false h142) ?_
        refine CW.exit ?_
        refine QW.then_x ?_
        refine QW.then_x ?_
        refine QW.block_xe ?_
        exact QW.join ⟨l124, w133, cs125, ob127, c128, r129, (Option.some.inj hl135).symm, h126, o130, rfl, rfl⟩ ⟨rfl, rfl, rfl, rfl, trivial⟩ (fun w m => m.pick [0, 1, 2, 3] 4 rfl rfl)
  · skip
    refine CW.block ?_
    refine CW.mem (M' := ((none, blk ([] ++ []) 30) :: (some b12, blk (u8s x9.toList) 25) :: (some b7, blk (u8s x4.toList) 25) :: ([] ++ N))) (fun w m => m.nil_ent _) ?_
    refine CW.loopJ (fun k L' M' => ∃ l181 : List (List (BitVec 8)), ∃ z188 : Int, ∃ cs182 : List Value, ∃ ob184 : Option Nat, ∃ c185 : Nat, ∃ r186 : List Value, (waybilllaw10_BloomJoins.l3 a1 k l181 z188) = some q13 ∧ (Reps (BsRd (More w0 Φ [])) cs182 l181) ∧ (OwnS ob184 l181.length c185 1 cs182 r186) ∧ (-9223372036854775808 ≤ z188 ∧ z188 ≤ 9223372036854775807) ∧ L' = [(0, .slice A0_ a0.length c0_), (1, .slice A1_ a1.length c1_), (5, ptr (some b7) 0), (6, ptr (some b12) 0), (7, sl ob184 0 l181.length c185), (8, .int .i64 z188)] ∧ M' = ((ob184, blk (cs182 ++ r186) 30) :: (some b12, blk (u8s x9.toList) 25) :: (some b7, blk (u8s x4.toList) 25) :: ([] ++ N))) (k0 := (((((a1.length : Nat) : Int) - (1 : Int))) - ((0 : Int)) + 2).toNat) ⟨([] : List (List (BitVec 8))), (((a1.length : Nat) : Int) - (1 : Int)), [], none, 0, [], hq14, Reps.nil, OwnS.nil, (by omega), rfl, rfl⟩ ⟨rfl, rfl, rfl, rfl, rfl, rfl, trivial⟩ (fun w m => m.pick [0, 1, 2] 3 rfl rfl) ?_
    clear hq14
    rintro k190 L193 M194 ⟨l181, z188, cs182, ob184, c185, r186, hl191, h183, o187, b189, e195, e196⟩
    rw [e195, e196]
    clear e195 e196 L193 M194
    rcases k190 with _ | k190
    · rw [waybilllaw10_BloomJoins.l3] at hl191; cases hl191
    rw [waybilllaw10_BloomJoins.l3] at hl191
    have m197 := o187.mx
    refine CW.seq ?_
    refine CW.seq ?_
    refine CW.region ?_
    refine OW.rv (RV.move rfl) rfl ?_
    refine OW.rv (RV.geq rfl rfl) rfl ?_
    refine OW.nil ?_
    refine QW.then_n ?_
    by_cases h198 : (0 : Int) ≤ z188
    · replace hl191 := if_t hl191 h198
      refine CW.is_t rfl (decide_eq_true h198) ?_
      refine CW.skip ?_
      refine QW.then_n ?_
      refine CW.seq ?_
      refine CW.block ?_
      refine CW.drawsU 10 mixed (by kernel_rfl) rfl ?_
      refine UW.rv 0 rfl (by kernel_rfl) rfl (RV.move rfl) rfl ?_
      refine UW.rv 1 rfl (by kernel_rfl) rfl (RV.move rfl) rfl ?_
      refine UW.rv 2 rfl (by kernel_rfl) rfl (RV.move rfl) rfl ?_
      obtain ⟨x199, hx200, hl191⟩ := some_bind hl191
      have hl201 := lt_of_at hx200
      refine UW.rv 3 rfl (by kernel_rfl) rfl (RV.idx_r ((z188).toNat) rfl rfl (by omega) rfl rfl (va1.isSome (by decide) hl201) (by omega)) rfl ?_
      obtain ⟨cs202, h203, h204⟩ := ha1.get BsRd.len hx200
      obtain ⟨A205, c206, e208, v207⟩ := h203
      subst e208
      have m209 := v207.mx
      refine UW.rv 4 rfl (by kernel_rfl) rfl (RV.load_at rfl rfl rfl (fun w m => by have := va1.load (More.of hΦ 3 m rfl) h204 0 _ rfl; simpa [Addr.add] using this)) rfl ?_
      refine UW.rv 5 rfl (by kernel_rfl) rfl (RV.move rfl) rfl ?_
      refine UW.rv 6 rfl (by kernel_rfl) rfl (RV.move rfl) rfl ?_
      obtain ⟨x210, hx211, hl191⟩ := some_bind hl191
      have hl212 := lt_of_at hx211
      refine UW.rv 7 rfl (by kernel_rfl) rfl (RV.idx_r ((z188).toNat) rfl rfl (by omega) rfl rfl (va1.isSome (by decide) hl212) (by omega)) rfl ?_
      obtain ⟨cs213, h214, h215⟩ := ha1.get BsRd.len hx211
      obtain ⟨A216, c217, e219, v218⟩ := h214
      subst e219
      have m220 := v218.mx
      refine UW.rv 8 rfl (by kernel_rfl) rfl (RV.load_at rfl rfl rfl (fun w m => by have := va1.load (More.of hΦ 3 m rfl) h215 0 _ rfl; simpa [Addr.add] using this)) rfl ?_
      refine UW.new 9 rfl (by kernel_rfl) rfl (NV.bsN rfl rfl rfl (by decide) (by decide) rfl rfl rfl rfl) rfl (fun b221 => ?_)
      have h224 : Reps (BsRd (More w0 Φ [])) (([.slice A205 x199.length c206] : List Value) ++ ([.slice A216 x210.length c217] : List Value)) [x199, x210] := by simpa using (show Reps (BsRd (More w0 Φ [])) _ [x199, x210] from (.cons (BsRd.mk v207) (.cons (BsRd.mk v218) .nil)))
      refine UW.mem (M' := (((some b221), blk ((([.slice A205 x199.length c206] : List Value) ++ ([.slice A216 x210.length c217] : List Value)) ++ []) 30) :: (ob184, blk (cs182 ++ r186) 30) :: (some b12, blk (u8s x9.toList) 25) :: (some b7, blk (u8s x4.toList) 25) :: ([] ++ N))) (fun w m => m) ?_
      have o222 : OwnS (some b221) ([x199, x210] : List (List (BitVec 8))).length 2 1 (([.slice A205 x199.length c206] : List Value) ++ ([.slice A216 x210.length c217] : List Value)) [] := ⟨by simp [BsRd], by simp [BsRd], (fun h => nomatch h), by simp⟩
      refine UW.slot (sl (some b221) 0 ([x199, x210] : List (List (BitVec 8))).length 2) (rfl) ?_
      refine UW.nil (by kernel_rfl) ?_
      refine OW.rot1 ?_
      obtain ⟨g225, hl191⟩ := some_if hl191
      have h230 := h183.app h224
      refine OW.appendOwn (s := 1) rfl rfl rfl rfl rfl rfl o187 (fun w m => m.rd0 (List.Mem.tail _ (List.Mem.head _)) (fun e => o222.nilc (by decide) e)) o222.n (h224.cell1 BsRd.one) (o222.zeroO (by decide)) (by decide) (by decide) (by first | omega | (simp only [i30, List.length_nil]; omega)) rfl rfl ((l181 ++ ([x199, x210] : List (List (BitVec 8)))).length) (cs182 ++ (([.slice A205 x199.length c206] : List Value) ++ ([.slice A216 x210.length c217] : List Value))) (List.length_append ..).symm rfl (fun ob226 r227 c228 o229 => ?_)
      have m231 := o229.mx
      refine OW.rv (RV.assign rfl) rfl ?_
      refine OW.nil ?_
      refine QW.block_n ?_
      refine QW.then_n ?_
      refine CW.region ?_
      refine OW.rv (RV.move rfl) rfl ?_
      obtain ⟨g232, hl191⟩ := some_if hl191
      refine OW.rv (RV.sub rfl rfl (by omega)) rfl ?_
      refine OW.rv (RV.assign rfl) rfl ?_
      refine OW.nil ?_
      exact QW.againJ (k' := k190) (Nat.lt_succ_self _) ⟨(l181 ++ ([x199, x210] : List (List (BitVec 8)))), (z188 - (1 : Int)), (cs182 ++ (([.slice A205 x199.length c206] : List Value) ++ ([.slice A216 x210.length c217] : List Value))), ob226, c228, r227, hl191, h230, o229, (by omega), rfl, rfl⟩ ⟨rfl, rfl, rfl, rfl, rfl, rfl, trivial⟩ (fun w m => m.pick [0, 2, 3] 4 rfl rfl)
    · replace hl191 := if_f hl191 h198
      refine CW.is_f rfl (decide_eq_false h198) ?_
      refine CW.exit ?_
      refine QW.then_x ?_
      refine QW.then_x ?_
      refine QW.block_xe ?_
      exact QW.join ⟨l181, cs182, ob184, c185, r186, (Option.some.inj hl191).symm, h183, o187, rfl, rfl⟩ ⟨rfl, rfl, rfl, rfl, trivial⟩ (fun w m => m.pick [0, 1, 2] 3 rfl rfl)
end Go.Fw.Tryd
