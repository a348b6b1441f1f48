/- Part of a proof over YtmfeghmggcpngaaDoor: rules and contracts that the law's text uses. No condition. -/
import Derived.Test.YtmfeghmggcpngaaDoorTy
import Derived.Test.YtmfeghmggcpngaaDoorExt
import Derived.Test.YtmfeghmggcpngaaDoorKecW0
import Derived.Test.YtmfeghmggcpngaaDoorBloP2
import Derived.Test.YtmfeghmggcpngaaDoorKecP2
namespace Go.Fw.Tryd
open Go Go.Proofs Go.Fw
set_option maxRecDepth 100000
set_option linter.unusedVariables false
set_option linter.unusedSimpArgs false
set_option maxHeartbeats 1000000

theorem keccak_Sponge_absorb_does (w0 : World) (Φ : Ctx) (N : List Ent) (hΦ : ∀ w, Mem w0 w N → Φ w) (b0_ : Nat) (a0 : Sponge) (new0 : Sponge) (hf : keccak_Sponge_absorb a0 = some new0) : DoesG Tryd.prog 67 [ptr (some b0_) 0] w0 [(some b0_, blk a0.C 88)] N (fun v G => ∃ B : List Ent, v = .tuple #[] ∧ G = (some b0_, blk new0.C 88) :: B) := by
  unfold keccak_Sponge_absorb at hf
  refine DoesG.enter Tryd.func67 rfl Tryd.ntmps67 rfl (M := ((some b0_, blk a0.C 88) :: ([] ++ N))) rfl ?_
  refine CW.seq ?_
  refine CW.seq ?_
  refine CW.region ?_
  refine OW.rv (RV.move rfl) rfl ?_
  refine OW.rv (RV.nilCheck rfl) rfl ?_
  refine OW.rv (RV.field rfl rfl rfl rfl) rfl ?_
  refine OW.slot (ptr (some b0_) 26) rfl ?_
  refine OW.rv (RV.loadAo rfl (List.Mem.head _) rfl rfl rfl rfl (Sponge.C_part_all _) ((u8s_length _).trans Vector.length_toList)) rfl ?_
  refine OW.rv (RV.move rfl) rfl ?_
  refine OW.nil ?_
  refine QW.then_n ?_
  obtain ⟨q1, hq2, hf⟩ := some_bind hf
  refine CW.cutJ (fun L' M' => ∃ w3 : Sponge, q1 = w3 ∧ L' = [(0, ptr (some b0_) 0)] ∧ M' = ((some b0_, blk w3.C 88) :: ([] ++ N))) ?_ ?_
  · rintro L5 M6 ⟨w3, e4, e7, e8⟩
    rw [e7, e8]
    clear e7 e8 L5 M6
    clear hq2
    rw [e4] at hf
    clear e4
    try dsimp only at hf
    refine QW.then_n ?_
    refine CW.seq ?_
    refine CW.region ?_
    refine OW.rv (RV.move rfl) rfl ?_
    refine OW.rv (RV.move rfl) rfl ?_
    refine OW.rv (RV.nilCheck rfl) rfl ?_
    refine OW.rv (RV.field rfl rfl rfl rfl) rfl ?_
    refine OW.slot (ptr (some b0_) 1) rfl ?_
    refine OW.rv (RV.loadAo rfl (List.Mem.head _) rfl rfl rfl rfl (Sponge.C_lanes_all _) ((u64s_length _).trans Vector.length_toList)) rfl ?_
    obtain ⟨x10, hx9, hf⟩ := some_bind hf
    refine OW.callG Tryd.call71 rfl (keccak_Permute_does w0 (More w0 Φ []) ((some b0_, blk w3.C 88) :: ([] ++ N)) (fun w m => More.of hΦ 1 m rfl) w3.lanes x10 hx9) rfl rfl ?_
    rintro _ G11 rfl
    refine OW.mem (M' := ((some b0_, blk w3.C 88) :: ([] ++ N))) (fun w m => m.appR) ?_
    refine OW.rv (RV.nilCheck rfl) rfl ?_
    refine OW.rv (RV.field rfl rfl rfl rfl) rfl ?_
    refine OW.slot (ptr (some b0_) 1) rfl ?_
    refine OW.sv (SV.storeAs rfl rfl rfl (u64s_one _) rfl ((u64s_length _).trans Vector.length_toList) (by rw [Sponge.C_length]; first | omega | decide)) ?_
    refine OW.cells ({ w3 with lanes := x10 } : Sponge).C (Sponge.C_lanes_spl _ _) ?_
    refine OW.nil ?_
    refine QW.then_n ?_
    refine CW.region ?_
    refine OW.rv (RV.move rfl) rfl ?_
    refine OW.rv (RV.nilCheck rfl) rfl ?_
    refine OW.rv (RV.field rfl rfl rfl rfl) rfl ?_
    refine OW.slot (ptr (some b0_) 162) rfl ?_
    refine OW.sv (SV.store rfl rfl rfl rfl rfl (by rw [Sponge.C_length]; omega)) ?_
    refine OW.cells ({ ({ w3 with lanes := x10 } : Sponge) with held := (0 : Int) } : Sponge).C (Sponge.C_held_set _ _) ?_
    refine OW.nil ?_
    have e0 := Option.some.inj hf
    subst e0
    refine QW.retG (rs := []) ([]) ((some b0_, blk ({ ({ w3 with lanes := x10 } : Sponge) with held := (0 : Int) } : Sponge).C 88) :: []) rfl ?_ rfl ?_ ?_ _ (.inr rfl)
    · exact trivial
    · exact ⟨[], rfl, rfl⟩
    · exact (fun w m => m.pick [0] 1 rfl rfl)
  · skip
    refine CW.block ?_
    refine CW.loopJ (fun k L' M' => ∃ n13 : Nat, ∃ w15 : Sponge, (keccak_Sponge_absorb.l1 a0 k n13 w15) = some q1 ∧ (n13 ≤ 9223372036854775807) ∧ L' = [(0, ptr (some b0_) 0), (7, .agg (u8s a0.part.toList).toArray), (8, .int .i64 ((n13 : Nat) : Int))] ∧ M' = ((some b0_, blk w15.C 88) :: ([] ++ N))) (k0 := (136 - 0 + 2)) ⟨0, a0, hq2, (by omega), rfl, rfl⟩ ⟨rfl, rfl, rfl, trivial⟩ (fun w m => m.pick [0] 1 rfl rfl) ?_
    clear hq2
    rintro k16 L19 M20 ⟨n13, w15, hl17, b14, e21, e22⟩
    rw [e21, e22]
    clear e21 e22 L19 M20
    rcases k16 with _ | k16
    · rw [keccak_Sponge_absorb.l1] at hl17; cases hl17
    rw [keccak_Sponge_absorb.l1] at hl17
    refine CW.seq ?_
    refine CW.region ?_
    refine OW.rv (RV.lss rfl rfl) rfl ?_
    refine OW.slot (.bool (decide (n13 < 136))) (congrArg Value.bool (decide_eq_decide.2 (by omega))) ?_
    refine OW.nil ?_
    refine QW.then_n ?_
    refine CW.seq ?_
    by_cases h23 : n13 < 136
    · replace hl17 := if_t hl17 h23
      refine CW.is_t rfl (decide_eq_true h23) ?_
      refine CW.skip ?_
      refine QW.then_n ?_
      refine CW.seq ?_
      refine CW.block ?_
      refine CW.seq ?_
      refine CW.region ?_
      refine OW.rv (RV.move rfl) rfl ?_
      obtain ⟨x24, hx25, hl17⟩ := some_bind hl17
      have hl26 := (Vector.getElem?_eq_some_iff.1 hx25).1
      refine OW.rv (RV.indexV (n13) rfl rfl rfl rfl rfl rfl rfl (by omega) (u8s_at (vat hx25))) rfl ?_
      refine OW.rv (RV.assign rfl) rfl ?_
      refine OW.rv (RV.assign rfl) rfl ?_
      refine OW.nil ?_
      refine QW.then_n ?_
      refine CW.drawsX (([] ++ N)) [17] (fun w m => m.pick [] 1 rfl rfl) mixed (by kernel_rfl) ?_
      refine XW.rs 0 rfl (by kernel_rfl) rfl (RV.move rfl) rfl ?_
      refine XW.rs 1 rfl (by kernel_rfl) rfl (RV.move rfl) rfl ?_
      refine XW.rs 2 rfl (by kernel_rfl) rfl (RV.quo rfl rfl (by omega) (by omega) (by omega)) rfl ?_
      refine XW.slot (.int .i64 ((n13 / 8 : Nat) : Int)) (by first | rfl | (congr 1; omega)) ?_
      refine XW.rs 3 rfl (by kernel_rfl) rfl (RV.nilCheck rfl) rfl ?_
      refine XW.rs 4 rfl (by kernel_rfl) rfl (RV.field rfl rfl rfl rfl) rfl ?_
      refine XW.slot (ptr (some b0_) 1) rfl ?_
      obtain ⟨g27, hl17⟩ := some_if hl17
      refine XW.rs 5 rfl (by kernel_rfl) rfl (RV.idx_a ((n13 / 8)) rfl rfl rfl rfl rfl (by omega)) rfl ?_
      obtain ⟨x28, hx29, hl17⟩ := some_bind hl17
      refine XW.rv 6 rfl (by kernel_rfl) rfl (by kernel_rfl) (RV.load rfl (List.Mem.head _) rfl rfl rfl (Sponge.C_lanes _ hx29)) rfl ?_
      refine XW.rs 7 rfl (by kernel_rfl) rfl (RV.move rfl) rfl ?_
      refine XW.rs 8 rfl (by kernel_rfl) rfl (RV.conv8_64 rfl (by first | rfl | exact lit8 _ rfl) rfl rfl) rfl ?_
      refine XW.rs 9 rfl (by kernel_rfl) rfl (RV.move rfl) rfl ?_
      refine XW.rs 10 rfl (by kernel_rfl) rfl (RV.rem rfl rfl (by omega) (by omega)) rfl ?_
      refine XW.slot (.int .i64 ((n13 % 8 : Nat) : Int)) (by first | rfl | (congr 1; omega)) ?_
      refine XW.rs 11 rfl (by kernel_rfl) rfl (RV.mul rfl rfl (by omega)) rfl ?_
      refine XW.slot (.int .i64 (((8 * (n13 % 8)) : Nat) : Int)) (by first | rfl | (congr 1) | (congr 1; omega)) ?_
      refine XW.rs 12 rfl (by kernel_rfl) rfl (RV.shl64 (s := (8 * (n13 % 8))) rfl (by first | rfl | exact lit64 _ rfl) rfl (by first | rfl | (congr 1))) rfl ?_
      refine XW.rs 13 rfl (by kernel_rfl) rfl (RV.xor64 rfl (by first | rfl | exact lit64 _ rfl) rfl (by first | rfl | exact lit64 _ rfl)) rfl ?_
      refine XW.rs 14 rfl (by kernel_rfl) rfl (RV.nilCheck rfl) rfl ?_
      refine XW.rs 15 rfl (by kernel_rfl) rfl (RV.field rfl rfl rfl rfl) rfl ?_
      refine XW.slot (ptr (some b0_) 1) rfl ?_
      refine XW.rs 16 rfl (by kernel_rfl) rfl (RV.idx_a ((n13 / 8)) rfl rfl rfl rfl rfl (by omega)) rfl ?_
      refine XW.sv 17 rfl (by kernel_rfl) (SV.store rfl rfl rfl rfl rfl (by rw [Sponge.C_length]; omega)) (fun w m => m.pick [] 1 rfl rfl) ?_
      refine XW.cells ({ w15 with lanes := w15.lanes.setIfInBounds (n13 / 8) (x28 ^^^ ((x24.setWidth 64) <<< (8 * (n13 % 8)))) } : Sponge).C (Sponge.C_lanes_set _ (by omega) _) ?_
      refine XW.nil (by kernel_rfl) ?_
      refine QW.block_n ?_
      refine QW.then_n ?_
      refine CW.region ?_
      refine OW.rv (RV.add rfl rfl (by omega)) rfl ?_
      refine OW.slot (.int .i64 (((n13 + 1) : Nat) : Int)) (by first | rfl | (congr 1) | (congr 1; omega)) ?_
      refine OW.rv (RV.move rfl) rfl ?_
      refine OW.nil ?_
      exact QW.againJ (k' := k16) (Nat.lt_succ_self _) ⟨(n13 + 1), ({ w15 with lanes := w15.lanes.setIfInBounds (n13 / 8) (x28 ^^^ ((x24.setWidth 64) <<< (8 * (n13 % 8)))) } : Sponge), hl17, (by omega), rfl, rfl⟩ ⟨rfl, rfl, rfl, trivial⟩ (fun w m => m.pick [0] 1 rfl rfl)
    · replace hl17 := if_f hl17 h23
      refine CW.is_f rfl (decide_eq_false h23) ?_
      refine CW.exit ?_
      refine QW.then_x ?_
      refine QW.then_x ?_
      refine QW.block_xe ?_
      exact QW.join ⟨w15, (Option.some.inj hl17).symm, rfl, rfl⟩ ⟨rfl, trivial⟩ (fun w m => m.pick [0] 1 rfl rfl)

theorem keccak_Sponge_Write_does (w0 : World) (Φ : Ctx) (N : List Ent) (hΦ : ∀ w, Mem w0 w N → Φ w) (b0_ : Nat) (a0 : Sponge) (A1_ : Option Addr) (c1_ : Nat) (a1 : List (BitVec 8)) (new0 : Sponge) (va1 : View Φ A1_ a1.length c1_ 1 (u8s a1)) (hf : keccak_Sponge_Write a0 a1 = some new0) : DoesG Tryd.prog 58 [ptr (some b0_) 0, .slice A1_ a1.length c1_] w0 [(some b0_, blk a0.C 88)] N (fun v G => ∃ B : List Ent, v = .tuple #[] ∧ G = (some b0_, blk new0.C 88) :: B) := by
  unfold keccak_Sponge_Write at hf
  replace va1 := va1.mono (Ψ := More w0 Φ []) (fun w q => q.1)
  have m1 := va1.mx
  refine DoesG.enter Tryd.func58 rfl Tryd.ntmps58 rfl (M := ((some b0_, blk a0.C 88) :: ([] ++ N))) rfl ?_
  refine CW.seq ?_
  refine CW.seq ?_
  refine CW.region ?_
  refine OW.rv (RV.move rfl) rfl ?_
  refine OW.rv (RV.eqlS rfl rfl rfl) rfl ?_
  refine OW.nil ?_
  refine QW.then_n ?_
  refine CW.is_f rfl rfl ?_
  refine CW.skip ?_
  refine QW.then_n ?_
  refine CW.seq ?_
  refine CW.region ?_
  refine OW.rv (RV.move rfl) rfl ?_
  refine OW.rv (RV.nilCheck rfl) rfl ?_
  refine OW.rv (RV.field rfl rfl rfl rfl) rfl ?_
  refine OW.slot (ptr (some b0_) 163) rfl ?_
  refine OW.rv (RV.load rfl (List.Mem.head _) rfl rfl rfl (Sponge.C_long _)) rfl ?_
  refine OW.rv (RV.move rfl) rfl ?_
  refine OW.rv (RV.len rfl rfl) rfl ?_
  obtain ⟨g2, hf⟩ := some_if hf
  refine OW.rv (RV.add rfl rfl (by omega)) rfl ?_
  refine OW.rv (RV.nilCheck rfl) rfl ?_
  refine OW.rv (RV.field rfl rfl rfl rfl) rfl ?_
  refine OW.slot (ptr (some b0_) 163) rfl ?_
  refine OW.sv (SV.store rfl rfl rfl rfl rfl (by rw [Sponge.C_length]; omega)) ?_
  refine OW.cells ({ a0 with long := (a0.long + ((a1.length : Nat) : Int)) } : Sponge).C (Sponge.C_long_set _ _) ?_
  refine OW.nil ?_
  refine QW.then_n ?_
  obtain ⟨q3, hq4, hf⟩ := some_bind hf
  refine CW.cutJ (fun L' M' => ∃ w7 : Sponge, ∃ B5 : List Ent, q3 = w7 ∧ (∀ w, Mem w0 w B5 → Mem w0 w []) ∧ L' = [] ∧ M' = ((some b0_, blk w7.C 88) :: (B5 ++ N))) ?_ ?_
  · rintro L9 M10 ⟨w7, B5, e8, hB6, e11, e12⟩
    rw [e11, e12]
    clear e11 e12 L9 M10
    clear hq4
    rw [e8] at hf
    clear e8
    try dsimp only at hf
    have e0 := Option.some.inj hf
    subst e0
    refine QW.retG (rs := []) ([]) ((some b0_, blk w7.C 88) :: B5) rfl ?_ rfl ?_ ?_ _ (.inr rfl)
    · exact trivial
    · exact ⟨B5, rfl, rfl⟩
    · exact (fun w m => m.pick [0] 1 rfl rfl)
  · skip
    refine CW.block ?_
    refine CW.loopJ (fun k L' M' => ∃ l15 : List (BitVec 8), ∃ w19 : Sponge, ∃ B13 : List Ent, ∃ A16 : Option Addr, ∃ c17 : Nat, (keccak_Sponge_Write.l1 k l15 w19) = some q3 ∧ (∀ w, Mem w0 w B13 → Mem w0 w []) ∧ (View (More w0 Φ B13) A16 l15.length c17 1 (u8s l15)) ∧ L' = [(0, ptr (some b0_) 0), (1, .slice A16 l15.length c17)] ∧ M' = ((some b0_, blk w19.C 88) :: (B13 ++ N))) (k0 := (a1.length - 0 + 2)) ⟨a1, ({ a0 with long := (a0.long + ((a1.length : Nat) : Int)) } : Sponge), [], A1_, c1_, hq4, (fun w m => m), va1, rfl, rfl⟩ ⟨rfl, rfl, trivial⟩ (fun w m => m.pick [0] 1 rfl rfl) ?_
    clear hq4
    rintro k20 L23 M24 ⟨l15, w19, B13, A16, c17, hl21, hB14, v18, e25, e26⟩
    rw [e25, e26]
    clear e25 e26 L23 M24
    rcases k20 with _ | k20
    · rw [keccak_Sponge_Write.l1] at hl21; cases hl21
    rw [keccak_Sponge_Write.l1] at hl21
    have m27 := v18.mx
    refine CW.seq ?_
    refine CW.seq ?_
    refine CW.region ?_
    refine OW.rv (RV.move rfl) rfl ?_
    refine OW.rv (RV.len rfl rfl) rfl ?_
    refine OW.rv (RV.gtr rfl rfl) rfl ?_
    refine OW.slot (.bool (decide (0 < l15.length))) (congrArg Value.bool (decide_eq_decide.2 (by omega))) ?_
    refine OW.nil ?_
    refine QW.then_n ?_
    by_cases h28 : 0 < l15.length
    · replace hl21 := if_t hl21 h28
      refine CW.is_t rfl (decide_eq_true h28) ?_
      refine CW.skip ?_
      refine QW.then_n ?_
      refine CW.block ?_
      refine CW.seq ?_
      refine CW.drawsU 9 mixed (by kernel_rfl) rfl ?_
      refine UW.rv 0 rfl (by kernel_rfl) rfl (RV.move rfl) rfl ?_
      refine UW.rv 1 rfl (by kernel_rfl) rfl (RV.nilCheck rfl) rfl ?_
      refine UW.rv 2 rfl (by kernel_rfl) rfl (RV.field rfl rfl rfl rfl) rfl ?_
      refine UW.slot (ptr (some b0_) 26) rfl ?_
      refine UW.rv 3 rfl (by kernel_rfl) rfl (RV.move rfl) rfl ?_
      refine UW.rv 4 rfl (by kernel_rfl) rfl (RV.nilCheck rfl) rfl ?_
      refine UW.rv 5 rfl (by kernel_rfl) rfl (RV.field rfl rfl rfl rfl) rfl ?_
      refine UW.slot (ptr (some b0_) 162) rfl ?_
      refine UW.rv 6 rfl (by kernel_rfl) rfl (RV.load rfl (List.Mem.head _) rfl rfl rfl (Sponge.C_held _)) rfl ?_
      obtain ⟨g29, hl21⟩ := some_if hl21
      obtain ⟨g30, hl21⟩ := some_if hl21
      refine UW.rv 7 rfl (by kernel_rfl) rfl (RV.arr_loS ((w19.held).toNat) rfl rfl (by omega) rfl rfl (by omega)) rfl ?_
      refine UW.rv 8 rfl (by kernel_rfl) rfl (RV.move rfl) rfl ?_
      refine UW.nil (by kernel_rfl) ?_
      refine OW.copy (ob := some b0_) (off := 26 + ((w19.held).toNat)) rfl rfl rfl rfl (fun h => nomatch h) (by rw [Sponge.C_length]; omega) (fun w m => v18.rd w (More.of hΦ 1 m rfl)) (u8s_length _) (u8s_one _) (v18.zero (by decide)) rfl ?_
      refine OW.cells ({ w19 with part := cpV w19.part ((w19.held).toNat) (l15.take (min l15.length (136 - ((w19.held).toNat)))) } : Sponge).C (by rw [u8s_take]; exact Sponge.C_part_cpy _ (by rw [List.length_take]; omega)) ?_
      refine OW.rv (RV.assign rfl) rfl ?_
      refine OW.nil ?_
      refine QW.then_n ?_
      refine CW.seq ?_
      refine CW.region ?_
      refine OW.rv (RV.move rfl) rfl ?_
      refine OW.rv (RV.move rfl) rfl ?_
      obtain ⟨g32, hl21⟩ := some_if hl21
      refine OW.rv (RV.cut_lo (s := 1) ((min l15.length (136 - ((w19.held).toNat)))) rfl rfl (by omega) rfl rfl (by omega)) rfl ?_
      refine OW.slot (.slice (subA A16 c17 (min l15.length (136 - ((w19.held).toNat))) 1) (l15.drop (min l15.length (136 - ((w19.held).toNat)))).length (c17 - (min l15.length (136 - ((w19.held).toNat))))) (by rw [show ((l15.drop (min l15.length (136 - ((w19.held).toNat))))).length = (l15).length - ((min l15.length (136 - ((w19.held).toNat)))) from List.length_drop]) ?_
      have v31 : View (More w0 Φ B13) (subA A16 c17 (min l15.length (136 - ((w19.held).toNat))) 1) (l15.drop (min l15.length (136 - ((w19.held).toNat)))).length (c17 - (min l15.length (136 - ((w19.held).toNat)))) 1 (u8s (l15.drop (min l15.length (136 - ((w19.held).toNat))))) := v18.lo8 (by omega)
      have m33 := v31.mx
      refine OW.rv (RV.assign rfl) rfl ?_
      refine OW.nil ?_
      refine QW.then_n ?_
      refine CW.seq ?_
      refine CW.region ?_
      refine OW.rv (RV.move rfl) rfl ?_
      refine OW.rv (RV.nilCheck rfl) rfl ?_
      refine OW.rv (RV.field rfl rfl rfl rfl) rfl ?_
      refine OW.slot (ptr (some b0_) 162) rfl ?_
      refine OW.rv (RV.load rfl (List.Mem.head _) rfl rfl rfl (Sponge.C_held _)) rfl ?_
      refine OW.rv (RV.move rfl) rfl ?_
      obtain ⟨g34, hl21⟩ := some_if hl21
      refine OW.rv (RV.add rfl rfl (by omega)) rfl ?_
      refine OW.rv (RV.nilCheck rfl) rfl ?_
      refine OW.rv (RV.field rfl rfl rfl rfl) rfl ?_
      refine OW.slot (ptr (some b0_) 162) rfl ?_
      refine OW.sv (SV.store rfl rfl rfl rfl rfl (by rw [Sponge.C_length]; omega)) ?_
      refine OW.cells ({ ({ w19 with part := cpV w19.part ((w19.held).toNat) (l15.take (min l15.length (136 - ((w19.held).toNat)))) } : Sponge) with held := (({ w19 with part := cpV w19.part ((w19.held).toNat) (l15.take (min l15.length (136 - ((w19.held).toNat)))) } : Sponge).held + (((min l15.length (136 - ((w19.held).toNat))) : Nat) : Int)) } : Sponge).C (Sponge.C_held_set _ _) ?_
      refine OW.nil ?_
      refine QW.then_n ?_
      refine CW.seq ?_
      refine CW.region ?_
      refine OW.rv (RV.move rfl) rfl ?_
      refine OW.rv (RV.nilCheck rfl) rfl ?_
      refine OW.rv (RV.field rfl rfl rfl rfl) rfl ?_
      refine OW.slot (ptr (some b0_) 162) rfl ?_
      refine OW.rv (RV.load rfl (List.Mem.head _) rfl rfl rfl (Sponge.C_held _)) rfl ?_
      refine OW.rv (RV.eql rfl rfl) rfl ?_
      refine OW.nil ?_
      refine QW.then_n ?_
      obtain ⟨q35, hq36, hl21⟩ := some_bind hl21
      refine CW.cutJ (fun L' M' => ∃ w39 : Sponge, ∃ B37 : List Ent, q35 = w39 ∧ (∀ w, Mem w0 w B37 → Mem w0 w B13) ∧ L' = [(0, ptr (some b0_) 0), (1, .slice (subA A16 c17 (min l15.length (136 - ((w19.held).toNat))) 1) (l15.drop (min l15.length (136 - ((w19.held).toNat)))).length (c17 - (min l15.length (136 - ((w19.held).toNat)))))] ∧ M' = ((some b0_, blk w39.C 88) :: (B37 ++ N))) ?_ ?_
      · rintro L41 M42 ⟨w39, B37, e40, hB38, e43, e44⟩
        rw [e43, e44]
        clear e43 e44 L41 M42
        clear hq36
        rw [e40] at hl21
        clear e40
        try dsimp only at hl21
        replace v31 := v31.mono (Ψ := More w0 Φ B37) (fun w q => More.mono (fun w m => hB38 w (m)) q)
        refine QW.block_n ?_
        exact QW.againJ (k' := k20) (Nat.lt_succ_self _) ⟨(l15.drop (min l15.length (136 - ((w19.held).toNat)))), w39, B37, (subA A16 c17 (min l15.length (136 - ((w19.held).toNat))) 1), (c17 - (min l15.length (136 - ((w19.held).toNat)))), hl21, (fun w m => hB14 w (hB38 w (m))), v31, rfl, rfl⟩ ⟨rfl, rfl, trivial⟩ (fun w m => m.pick [0] 1 rfl rfl)
      · skip
        by_cases h45 : ({ ({ w19 with part := cpV w19.part ((w19.held).toNat) (l15.take (min l15.length (136 - ((w19.held).toNat)))) } : Sponge) with held := (({ w19 with part := cpV w19.part ((w19.held).toNat) (l15.take (min l15.length (136 - ((w19.held).toNat)))) } : Sponge).held + (((min l15.length (136 - ((w19.held).toNat))) : Nat) : Int)) } : Sponge).held = (136 : Int)
        · replace hq36 := if_t hq36 h45
          refine CW.is_t rfl (decide_eq_true h45) ?_
          refine CW.region ?_
          refine OW.rv (RV.move rfl) rfl ?_
          obtain ⟨x47, hx46, hq36⟩ := some_bind hq36
          refine OW.callG Tryd.call67 rfl (keccak_Sponge_absorb_does w0 (More w0 Φ B13) ((B13 ++ N)) (fun w m => More.of hΦ 0 m rfl) b0_ ({ ({ w19 with part := cpV w19.part ((w19.held).toNat) (l15.take (min l15.length (136 - ((w19.held).toNat)))) } : Sponge) with held := (({ w19 with part := cpV w19.part ((w19.held).toNat) (l15.take (min l15.length (136 - ((w19.held).toNat)))) } : Sponge).held + (((min l15.length (136 - ((w19.held).toNat))) : Nat) : Int)) } : Sponge) x47 hx46) rfl rfl ?_
          rintro L49 M50 ⟨B48, e51, e52⟩
          rw [e51, e52]
          clear e51 e52 L49 M50
          refine OW.mem (M' := ((some b0_, blk x47.C 88) :: ((B48 ++ B13) ++ N))) (fun w m => by have h := Mem.sinkAt (A := B48) m 1 0 rfl rfl; exact h) ?_
          replace v31 := v31.mono (Ψ := More w0 Φ (B48 ++ B13)) (fun w q => More.mono (fun w m => (m).appR) q)
          replace v18 := v18.mono (Ψ := More w0 Φ (B48 ++ B13)) (fun w q => More.mono (fun w m => (m).appR) q)
          refine OW.nil ?_
          exact QW.join ⟨x47, (B48 ++ B13), (Option.some.inj hq36).symm, (fun w m => (m).appR), rfl, rfl⟩ ⟨rfl, rfl, trivial⟩ (fun w m => m.pick [0] 1 rfl rfl)
        · replace hq36 := if_f hq36 h45
          refine CW.is_f rfl (decide_eq_false h45) ?_
          refine CW.skip ?_
          exact QW.join ⟨({ ({ w19 with part := cpV w19.part ((w19.held).toNat) (l15.take (min l15.length (136 - ((w19.held).toNat)))) } : Sponge) with held := (({ w19 with part := cpV w19.part ((w19.held).toNat) (l15.take (min l15.length (136 - ((w19.held).toNat)))) } : Sponge).held + (((min l15.length (136 - ((w19.held).toNat))) : Nat) : Int)) } : Sponge), B13, (Option.some.inj hq36).symm, (fun w m => m), rfl, rfl⟩ ⟨rfl, rfl, trivial⟩ (fun w m => m.pick [0] 1 rfl rfl)
    · replace hl21 := if_f hl21 h28
      refine CW.is_f rfl (decide_eq_false h28) ?_
      refine CW.exit ?_
      refine QW.then_x ?_
      refine QW.then_x ?_
      refine QW.block_xe ?_
      exact QW.join ⟨w19, B13, (Option.some.inj hl21).symm, (fun w m => hB14 w (m)), rfl, rfl⟩ trivial (fun w m => m.pick [0] 1 rfl rfl)

theorem keccak_Sponge_Sum_does (w0 : World) (Φ : Ctx) (N : List Ent) (hΦ : ∀ w, Mem w0 w N → Φ w) (b0_ : Nat) (a0 : Sponge) (res0 : Vector (BitVec 8) 32) (new0 : Sponge) (hg0 : View Φ (some ⟨0, 0, none⟩) 2 2 1 (u8s firstL)) (hf : keccak_Sponge_Sum a0 = some (res0, new0)) : DoesG Tryd.prog 59 [ptr (some b0_) 0] w0 [(some b0_, blk a0.C 88)] N (fun v G => ∃ B : List Ent, v = .agg (u8s res0.toList).toArray ∧ G = (some b0_, blk new0.C 88) :: B) := by
  unfold keccak_Sponge_Sum at hf
  replace hg0 := hg0.mono (Ψ := More w0 Φ []) (fun w q => q.1)
  refine DoesG.enter Tryd.func59 rfl Tryd.ntmps59 rfl (M := ((some b0_, blk a0.C 88) :: ([] ++ N))) rfl ?_
  refine CW.seq ?_
  refine CW.region ?_
  refine OW.alloc (l := (u8s (Vector.replicate 32 0#8).toList)) rfl (by rw [Vector.toList_replicate, ← u8s_rep']; rfl) rfl (fun b1 => ?_)
  refine OW.nil ?_
  refine QW.then_n ?_
  refine CW.seq ?_
  refine CW.seq ?_
  refine CW.region ?_
  refine OW.rv (RV.move rfl) rfl ?_
  refine OW.rv (RV.eqlS rfl rfl rfl) rfl ?_
  refine OW.nil ?_
  refine QW.then_n ?_
  refine CW.is_f rfl rfl ?_
  refine CW.skip ?_
  refine QW.then_n ?_
  refine CW.seq ?_
  refine CW.region ?_
  refine OW.rv (RV.move rfl) rfl ?_
  refine OW.rv (RV.nilCheck rfl) rfl ?_
  refine OW.rv (RV.loadW rfl (List.Mem.tail _ (List.Mem.head _)) rfl rfl rfl rfl (Sponge.C_length _)) rfl ?_
  refine OW.alloc (l := (⟨0, (Vector.replicate 25 0#64), (Vector.replicate 136 0#8), 0, 0⟩ : Sponge).C) rfl (by kernel_rfl) rfl (fun b2 => ?_)
  refine OW.sv (SV.storeW rfl rfl rfl (Sponge.C_one _) rfl (Sponge.C_length _) (Sponge.C_length _)) ?_
  refine OW.nil ?_
  refine QW.then_n ?_
  refine CW.seq ?_
  refine CW.region ?_
  refine OW.rv (RV.field rfl rfl rfl rfl) rfl ?_
  refine OW.slot (ptr (some b2) 26) rfl ?_
  refine OW.rv (RV.field rfl rfl rfl rfl) rfl ?_
  refine OW.slot (ptr (some b2) 162) rfl ?_
  refine OW.rv (RV.load rfl (List.Mem.head _) rfl rfl rfl (Sponge.C_held _)) rfl ?_
  obtain ⟨g3, hf⟩ := some_if hf
  obtain ⟨g4, hf⟩ := some_if hf
  refine OW.rv (RV.arr_loS ((a0.held).toNat) rfl rfl (by omega) rfl rfl (by omega)) rfl ?_
  refine OW.clear (z := .int .u8 0) (b := b2) (off := 26 + ((a0.held).toNat)) rfl rfl rfl rfl rfl (by omega) (by rw [Sponge.C_length]; omega) ?_
  refine OW.cells ({ a0 with part := cpV a0.part ((a0.held).toNat) (List.replicate (136 - ((a0.held).toNat)) 0#8) } : Sponge).C (by rw [u8s_rep0]; exact Sponge.C_part_cpy _ (by rw [List.length_replicate]; omega)) ?_
  refine OW.nil ?_
  refine QW.then_n ?_
  refine CW.seq ?_
  refine CW.drawsX ((some b1, blk (u8s (Vector.replicate 32 0#8).toList) 50) :: (some b0_, blk a0.C 88) :: ([] ++ N)) [12] (fun w m => m.pick [1, 2] 3 rfl rfl) mixed (by kernel_rfl) ?_
  refine XW.rs 0 rfl (by kernel_rfl) rfl (RV.field rfl rfl rfl rfl) rfl ?_
  refine XW.slot (ptr (some b2) 162) rfl ?_
  refine XW.rv 1 rfl (by kernel_rfl) rfl (by kernel_rfl) (RV.load rfl (List.Mem.head _) rfl rfl rfl (Sponge.C_held _)) rfl ?_
  refine XW.rs 2 rfl (by kernel_rfl) rfl (RV.field rfl rfl rfl rfl) rfl ?_
  refine XW.slot (ptr (some b2) 26) rfl ?_
  obtain ⟨g5, hf⟩ := some_if hf
  obtain ⟨g6, hf⟩ := some_if hf
  refine XW.rs 3 rfl (by kernel_rfl) rfl (RV.idx_a ((({ a0 with part := cpV a0.part ((a0.held).toNat) (List.replicate (136 - ((a0.held).toNat)) 0#8) } : Sponge).held).toNat) rfl rfl (by omega) rfl rfl (by omega)) rfl ?_
  obtain ⟨x7, hx8, hf⟩ := some_bind hf
  refine XW.rv 4 rfl (by kernel_rfl) rfl (by kernel_rfl) (RV.load rfl (List.Mem.head _) rfl rfl rfl (Sponge.C_part _ hx8)) rfl ?_
  refine XW.rs 5 rfl (by kernel_rfl) rfl (RV.field rfl rfl rfl rfl) rfl ?_
  refine XW.slot (ptr (some b2) 0) rfl ?_
  refine XW.rv 6 rfl (by kernel_rfl) rfl (by kernel_rfl) (RV.load rfl (List.Mem.head _) rfl rfl rfl (Sponge.C_kind _)) rfl ?_
  obtain ⟨g9, hf⟩ := some_if hf
  obtain ⟨x10, hx11, hf⟩ := some_bind hf
  have hl12 : (({ a0 with part := cpV a0.part ((a0.held).toNat) (List.replicate (136 - ((a0.held).toNat)) 0#8) } : Sponge).kind).toNat < 2 := lt_of_at hx11
  refine XW.rs 7 rfl (by kernel_rfl) rfl (RV.idx_arr_at (a := ⟨0, 0, none⟩) rfl rfl rfl rfl (by omega) (by omega)) rfl ?_
  refine XW.slot (rptr (some ⟨0, 0, none⟩) ((({ a0 with part := cpV a0.part ((a0.held).toNat) (List.replicate (136 - ((a0.held).toNat)) 0#8) } : Sponge).kind).toNat)) (congrArg (fun k => Value.pointer (some (Addr.add ⟨0, 0, none⟩ k))) (Nat.mul_one _)) ?_
  refine XW.rs 8 rfl (by kernel_rfl) rfl (RV.load_at rfl rfl rfl (fun w m => hg0.cell (More.of hΦ 2 m rfl) (u8s_at hx11))) rfl ?_
  refine XW.rs 9 rfl (by kernel_rfl) rfl (RV.xor8 rfl (by first | rfl | exact lit8 _ rfl) rfl (by first | rfl | exact lit8 _ rfl)) rfl ?_
  refine XW.rs 10 rfl (by kernel_rfl) rfl (RV.field rfl rfl rfl rfl) rfl ?_
  refine XW.slot (ptr (some b2) 26) rfl ?_
  refine XW.rs 11 rfl (by kernel_rfl) rfl (RV.idx_a ((({ a0 with part := cpV a0.part ((a0.held).toNat) (List.replicate (136 - ((a0.held).toNat)) 0#8) } : Sponge).held).toNat) rfl rfl (by omega) rfl rfl (by omega)) rfl ?_
  refine XW.sv 12 rfl (by kernel_rfl) (SV.store rfl rfl rfl rfl rfl (by rw [Sponge.C_length]; omega)) (fun w m => m.pick [1, 2] 3 rfl rfl) ?_
  refine XW.cells ({ ({ a0 with part := cpV a0.part ((a0.held).toNat) (List.replicate (136 - ((a0.held).toNat)) 0#8) } : Sponge) with part := ({ a0 with part := cpV a0.part ((a0.held).toNat) (List.replicate (136 - ((a0.held).toNat)) 0#8) } : Sponge).part.setIfInBounds ((({ a0 with part := cpV a0.part ((a0.held).toNat) (List.replicate (136 - ((a0.held).toNat)) 0#8) } : Sponge).held).toNat) (x7 ^^^ x10) } : Sponge).C (Sponge.C_part_set _ (by omega) _) ?_
  refine XW.nil (by kernel_rfl) ?_
  refine QW.then_n ?_
  refine CW.seq ?_
  refine CW.region ?_
  refine OW.rv (RV.field rfl rfl rfl rfl) rfl ?_
  refine OW.slot (ptr (some b2) 26) rfl ?_
  refine OW.rv (RV.idx_a (135) rfl rfl rfl rfl rfl (by omega)) rfl ?_
  refine OW.rv (RV.load rfl (List.Mem.head _) rfl rfl rfl (Sponge.C_part _ (Vector.getElem?_eq_getElem (by decide)))) rfl ?_
  refine OW.rv (RV.xor8 rfl (by first | rfl | exact lit8 _ rfl) rfl (by first | rfl | exact lit8 _ rfl)) rfl ?_
  refine OW.rv (RV.field rfl rfl rfl rfl) rfl ?_
  refine OW.slot (ptr (some b2) 26) rfl ?_
  refine OW.rv (RV.idx_a (135) rfl rfl rfl rfl rfl (by omega)) rfl ?_
  refine OW.sv (SV.store rfl rfl rfl rfl rfl (by rw [Sponge.C_length]; omega)) ?_
  refine OW.cells ({ ({ ({ a0 with part := cpV a0.part ((a0.held).toNat) (List.replicate (136 - ((a0.held).toNat)) 0#8) } : Sponge) with part := ({ a0 with part := cpV a0.part ((a0.held).toNat) (List.replicate (136 - ((a0.held).toNat)) 0#8) } : Sponge).part.setIfInBounds ((({ a0 with part := cpV a0.part ((a0.held).toNat) (List.replicate (136 - ((a0.held).toNat)) 0#8) } : Sponge).held).toNat) (x7 ^^^ x10) } : Sponge) with part := ({ ({ a0 with part := cpV a0.part ((a0.held).toNat) (List.replicate (136 - ((a0.held).toNat)) 0#8) } : Sponge) with part := ({ a0 with part := cpV a0.part ((a0.held).toNat) (List.replicate (136 - ((a0.held).toNat)) 0#8) } : Sponge).part.setIfInBounds ((({ a0 with part := cpV a0.part ((a0.held).toNat) (List.replicate (136 - ((a0.held).toNat)) 0#8) } : Sponge).held).toNat) (x7 ^^^ x10) } : Sponge).part.setIfInBounds 135 (({ ({ a0 with part := cpV a0.part ((a0.held).toNat) (List.replicate (136 - ((a0.held).toNat)) 0#8) } : Sponge) with part := ({ a0 with part := cpV a0.part ((a0.held).toNat) (List.replicate (136 - ((a0.held).toNat)) 0#8) } : Sponge).part.setIfInBounds ((({ a0 with part := cpV a0.part ((a0.held).toNat) (List.replicate (136 - ((a0.held).toNat)) 0#8) } : Sponge).held).toNat) (x7 ^^^ x10) } : Sponge).part[135] ^^^ 128#8) } : Sponge).C (Sponge.C_part_set _ (by omega) _) ?_
  refine OW.nil ?_
  refine QW.then_n ?_
  refine CW.seq ?_
  refine CW.region ?_
  obtain ⟨x14, hx13, hf⟩ := some_bind hf
  refine OW.callG Tryd.call67 rfl (keccak_Sponge_absorb_does w0 (More w0 Φ []) ((some b1, blk (u8s (Vector.replicate 32 0#8).toList) 50) :: (some b0_, blk a0.C 88) :: ([] ++ N)) (fun w m => More.of hΦ 2 m rfl) b2 ({ ({ ({ a0 with part := cpV a0.part ((a0.held).toNat) (List.replicate (136 - ((a0.held).toNat)) 0#8) } : Sponge) with part := ({ a0 with part := cpV a0.part ((a0.held).toNat) (List.replicate (136 - ((a0.held).toNat)) 0#8) } : Sponge).part.setIfInBounds ((({ a0 with part := cpV a0.part ((a0.held).toNat) (List.replicate (136 - ((a0.held).toNat)) 0#8) } : Sponge).held).toNat) (x7 ^^^ x10) } : Sponge) with part := ({ ({ a0 with part := cpV a0.part ((a0.held).toNat) (List.replicate (136 - ((a0.held).toNat)) 0#8) } : Sponge) with part := ({ a0 with part := cpV a0.part ((a0.held).toNat) (List.replicate (136 - ((a0.held).toNat)) 0#8) } : Sponge).part.setIfInBounds ((({ a0 with part := cpV a0.part ((a0.held).toNat) (List.replicate (136 - ((a0.held).toNat)) 0#8) } : Sponge).held).toNat) (x7 ^^^ x10) } : Sponge).part.setIfInBounds 135 (({ ({ a0 with part := cpV a0.part ((a0.held).toNat) (List.replicate (136 - ((a0.held).toNat)) 0#8) } : Sponge) with part := ({ a0 with part := cpV a0.part ((a0.held).toNat) (List.replicate (136 - ((a0.held).toNat)) 0#8) } : Sponge).part.setIfInBounds ((({ a0 with part := cpV a0.part ((a0.held).toNat) (List.replicate (136 - ((a0.held).toNat)) 0#8) } : Sponge).held).toNat) (x7 ^^^ x10) } : Sponge).part[135] ^^^ 128#8) } : Sponge) x14 hx13) rfl rfl ?_
  rintro L16 M17 ⟨B15, e18, e19⟩
  rw [e18, e19]
  clear e18 e19 L16 M17
  refine OW.mem (M' := ((some b2, blk x14.C 88) :: (some b1, blk (u8s (Vector.replicate 32 0#8).toList) 50) :: (some b0_, blk a0.C 88) :: ((B15 ++ []) ++ N))) (fun w m => by have h := Mem.sinkAt (A := B15) m 1 2 rfl rfl; exact h) ?_
  replace hg0 := hg0.mono (Ψ := More w0 Φ (B15 ++ [])) (fun w q => More.mono (fun w m => (m).appR) q)
  refine OW.nil ?_
  refine QW.then_n ?_
  refine CW.seq ?_
  refine CW.region ?_
  refine OW.alloc (l := (u8s (Vector.replicate 32 0#8).toList)) rfl (by rw [Vector.toList_replicate, ← u8s_rep']; rfl) rfl (fun b20 => ?_)
  refine OW.nil ?_
  refine QW.then_n ?_
  refine CW.seq ?_
  refine CW.seq ?_
  refine CW.region ?_
  refine OW.rv (RV.move rfl) rfl ?_
  refine OW.nil ?_
  refine QW.then_n ?_
  obtain ⟨q21, hq22, hf⟩ := some_bind hf
  refine CW.cutJ (fun L' M' => ∃ w23 : Vector (BitVec 8) 32, q21 = w23 ∧ L' = [(2, ptr (some b1) 0), (4, ptr (some b20) 0)] ∧ M' = ((some b20, blk (u8s w23.toList) 50) :: (some b1, blk (u8s (Vector.replicate 32 0#8).toList) 50) :: (some b0_, blk a0.C 88) :: ((B15 ++ []) ++ N))) ?_ ?_
  · rintro L25 M26 ⟨w23, e24, e27, e28⟩
    rw [e27, e28]
    clear e27 e28 L25 M26
    clear hq22
    rw [e24] at hf
    clear e24
    try dsimp only at hf
    refine QW.then_n ?_
    refine CW.seq ?_
    refine CW.region ?_
    refine OW.rv (RV.loadW rfl (List.Mem.head _) rfl rfl rfl rfl ((u8s_length _).trans Vector.length_toList)) rfl ?_
    refine OW.rot1 ?_
    refine OW.sv (SV.storeW rfl rfl rfl (u8s_one _) rfl ((u8s_length _).trans Vector.length_toList) ((u8s_length _).trans Vector.length_toList)) ?_
    refine OW.nil ?_
    refine QW.then_n ?_
    refine CW.ret ?_
    have er0 := Option.some.inj hf
    obtain ⟨e0, er1⟩ := Prod.mk.inj er0
    clear er0
    subst e0
    subst er1
    refine QW.retG (rs := [.cell 2 50]) ([.agg (u8s w23.toList).toArray]) ((some b0_, blk a0.C 88) :: (B15 ++ [])) rfl ?_ rfl ?_ ?_ _ (.inl rfl)
    · exact ⟨⟨_, _, _, _, rfl, (List.Mem.head _), rfl, rfl, (congrArg some ((u8s_length _).trans Vector.length_toList).symm), rfl⟩, trivial⟩
    · exact ⟨(B15 ++ []), rfl, rfl⟩
    · exact (fun w m => m.pick [2] 3 rfl rfl)
  · skip
    refine CW.block ?_
    refine CW.loopJ (fun k L' M' => ∃ n29 : Nat, ∃ w31 : Vector (BitVec 8) 32, (keccak_Sponge_Sum.l1 x14 k n29 w31) = some q21 ∧ (n29 ≤ 9223372036854775807) ∧ L' = [(2, ptr (some b1) 0), (3, ptr (some b2) 0), (4, ptr (some b20) 0), (35, .int .i64 ((n29 : Nat) : Int))] ∧ M' = ((some b20, blk (u8s w31.toList) 50) :: (some b2, blk x14.C 88) :: (some b1, blk (u8s (Vector.replicate 32 0#8).toList) 50) :: (some b0_, blk a0.C 88) :: ((B15 ++ []) ++ N))) (k0 := (32 - 0 + 2)) ⟨0, (Vector.replicate 32 0#8), hq22, (by omega), rfl, rfl⟩ ⟨rfl, rfl, rfl, rfl, trivial⟩ (fun w m => m.pick [0, 1, 2, 3] 4 rfl rfl) ?_
    clear hq22
    rintro k32 L35 M36 ⟨n29, w31, hl33, b30, e37, e38⟩
    rw [e37, e38]
    clear e37 e38 L35 M36
    rcases k32 with _ | k32
    · rw [keccak_Sponge_Sum.l1] at hl33; cases hl33
    rw [keccak_Sponge_Sum.l1] at hl33
    refine CW.seq ?_
    refine CW.region ?_
    refine OW.rv (RV.lss rfl rfl) rfl ?_
    refine OW.slot (.bool (decide (n29 < 32))) (congrArg Value.bool (decide_eq_decide.2 (by omega))) ?_
    refine OW.nil ?_
    refine QW.then_n ?_
    refine CW.seq ?_
    by_cases h39 : n29 < 32
    · replace hl33 := if_t hl33 h39
      refine CW.is_t rfl (decide_eq_true h39) ?_
      refine CW.skip ?_
      refine QW.then_n ?_
      refine CW.seq ?_
      refine CW.block ?_
      refine CW.seq ?_
      refine CW.region ?_
      refine OW.rv (RV.move rfl) rfl ?_
      refine OW.rv (RV.assign rfl) rfl ?_
      refine OW.nil ?_
      refine QW.then_n ?_
      refine CW.region ?_
      refine OW.rv (RV.move rfl) rfl ?_
      refine OW.rv (RV.move rfl) rfl ?_
      refine OW.rv (RV.quo rfl rfl (by omega) (by omega) (by omega)) rfl ?_
      refine OW.slot (.int .i64 ((n29 / 8 : Nat) : Int)) (by first | rfl | (congr 1; omega)) ?_
      refine OW.rv (RV.field rfl rfl rfl rfl) rfl ?_
      refine OW.slot (ptr (some b2) 1) rfl ?_
      obtain ⟨g40, hl33⟩ := some_if hl33
      refine OW.rv (RV.idx_a ((n29 / 8)) rfl rfl rfl rfl rfl (by omega)) rfl ?_
      obtain ⟨x41, hx42, hl33⟩ := some_bind hl33
      refine OW.rv (RV.load rfl (List.Mem.tail _ (List.Mem.head _)) rfl rfl rfl (Sponge.C_lanes _ hx42)) rfl ?_
      refine OW.rv (RV.move rfl) rfl ?_
      refine OW.rv (RV.rem rfl rfl (by omega) (by omega)) rfl ?_
      refine OW.slot (.int .i64 ((n29 % 8 : Nat) : Int)) (by first | rfl | (congr 1; omega)) ?_
      refine OW.rv (RV.mul rfl rfl (by omega)) rfl ?_
      refine OW.slot (.int .i64 (((8 * (n29 % 8)) : Nat) : Int)) (by first | rfl | (congr 1) | (congr 1; omega)) ?_
      refine OW.rv (RV.shr64 (s := (8 * (n29 % 8))) rfl (by first | rfl | exact lit64 _ rfl) rfl (by first | rfl | (congr 1))) rfl ?_
      refine OW.rv (RV.conv64_8 rfl (by first | rfl | exact lit64 _ rfl) rfl rfl) rfl ?_
      refine OW.rv (RV.idx_a (n29) rfl rfl rfl rfl rfl (by omega)) rfl ?_
      refine OW.sv (SV.store rfl rfl rfl rfl rfl (by rw [u8s_length, Vector.length_toList]; omega)) ?_
      refine OW.cells (u8s (w31.setIfInBounds n29 ((x41 >>> (8 * (n29 % 8))).setWidth 8)).toList) (by rw [Nat.zero_add, u8s_set', vset]) ?_
      refine OW.nil ?_
      refine QW.block_n ?_
      refine QW.then_n ?_
      refine CW.region ?_
      refine OW.rv (RV.add rfl rfl (by omega)) rfl ?_
      refine OW.slot (.int .i64 (((n29 + 1) : Nat) : Int)) (by first | rfl | (congr 1) | (congr 1; omega)) ?_
      refine OW.rv (RV.move rfl) rfl ?_
      refine OW.nil ?_
      exact QW.againJ (k' := k32) (Nat.lt_succ_self _) ⟨(n29 + 1), (w31.setIfInBounds n29 ((x41 >>> (8 * (n29 % 8))).setWidth 8)), hl33, (by omega), rfl, rfl⟩ ⟨rfl, rfl, rfl, rfl, trivial⟩ (fun w m => m.pick [0, 1, 2, 3] 4 rfl rfl)
    · replace hl33 := if_f hl33 h39
      refine CW.is_f rfl (decide_eq_false h39) ?_
      refine CW.exit ?_
      refine QW.then_x ?_
      refine QW.then_x ?_
      refine QW.block_xe ?_
      exact QW.join ⟨w31, (Option.some.inj hl33).symm, rfl, rfl⟩ ⟨rfl, rfl, trivial⟩ (fun w m => m.pick [0, 2, 3] 4 rfl rfl)

theorem keccak_digest_does (w0 : World) (Φ : Ctx) (N : List Ent) (hΦ : ∀ w, Mem w0 w N → Φ w) (a0 : Int) (A1_ : Option Addr) (c1_ : Nat) (cs1_ : List Value) (a1 : List (List (BitVec 8))) (res0 : Vector (BitVec 8) 32) (ba0 : -9223372036854775808 ≤ a0 ∧ a0 ≤ 9223372036854775807) (va1 : View Φ A1_ a1.length c1_ 1 cs1_) (ha1 : Reps (BsRd Φ) cs1_ a1) (hg0 : View Φ (some ⟨0, 0, none⟩) 2 2 1 (u8s firstL)) (hf : keccak_digest a0 a1 = some res0) : DoesG Tryd.prog 37 [.int .i64 a0, .slice A1_ a1.length c1_] w0 [] N (fun v G => v = .agg (u8s res0.toList).toArray) := by
  unfold keccak_digest at hf
  replace va1 := va1.mono (Ψ := More w0 Φ []) (fun w q => q.1)
  replace hg0 := hg0.mono (Ψ := More w0 Φ []) (fun w q => q.1)
  replace ha1 := ha1.mono (BsRd.mono (Ψ := More w0 Φ []) (fun w q => q.1))
  have m1 := va1.mx
  refine DoesG.enter Tryd.func37 rfl Tryd.ntmps37 rfl (M := (([] ++ N))) rfl ?_
  refine CW.seq ?_
  refine CW.region ?_
  refine OW.alloc (l := (u8s (Vector.replicate 32 0#8).toList)) rfl (by rw [Vector.toList_replicate, ← u8s_rep']; rfl) rfl (fun b2 => ?_)
  refine OW.nil ?_
  refine QW.then_n ?_
  refine CW.seq ?_
  refine CW.region ?_
  refine OW.rv (RV.move rfl) rfl ?_
  refine OW.rv (RV.buildSt (l := (⟨0, (Vector.replicate 25 0#64), (Vector.replicate 136 0#8), 0, 0⟩ : Sponge).C) (cs := ({ (⟨0, (Vector.replicate 25 0#64), (Vector.replicate 136 0#8), 0, 0⟩ : Sponge) with kind := a0 } : Sponge).C) [(0, [.int .i64 a0])] rfl rfl rfl rfl rfl rfl rfl) rfl ?_
  refine OW.alloc (l := (⟨0, (Vector.replicate 25 0#64), (Vector.replicate 136 0#8), 0, 0⟩ : Sponge).C) rfl (by kernel_rfl) rfl (fun b3 => ?_)
  refine OW.sv (SV.storeW rfl rfl rfl (Sponge.C_one _) rfl (Sponge.C_length _) (Sponge.C_length _)) ?_
  refine OW.nil ?_
  refine QW.then_n ?_
  refine CW.seq ?_
  refine CW.seq ?_
  refine CW.region ?_
  refine OW.rv (RV.move rfl) rfl ?_
  refine OW.rv (RV.len rfl rfl) rfl ?_
  refine OW.rv (RV.move rfl) rfl ?_
  refine OW.nil ?_
  refine QW.then_n ?_
  obtain ⟨q4, hq5, hf⟩ := some_bind hf
  refine CW.cutJ (fun L' M' => ∃ w8 : Sponge, ∃ B6 : List Ent, q4 = w8 ∧ (∀ w, Mem w0 w B6 → Mem w0 w []) ∧ L' = [(4, ptr (some b2) 0), (5, ptr (some b3) 0)] ∧ M' = ((some b3, blk w8.C 88) :: (some b2, blk (u8s (Vector.replicate 32 0#8).toList) 50) :: (B6 ++ N))) ?_ ?_
  · rintro L10 M11 ⟨w8, B6, e9, hB7, e12, e13⟩
    rw [e12, e13]
    clear e12 e13 L10 M11
    clear hq5
    rw [e9] at hf
    clear e9
    try dsimp only at hf
    replace hg0 := hg0.mono (Ψ := More w0 Φ B6) (fun w q => More.mono (fun w m => hB7 w (m)) q)
    refine QW.then_n ?_
    refine CW.seq ?_
    refine CW.region ?_
    obtain ⟨⟨x15, x16⟩, hx14, hf⟩ := some_bind hf
    try dsimp only at hf
    refine OW.callG Tryd.call59 rfl (keccak_Sponge_Sum_does w0 (More w0 Φ B6) ((some b2, blk (u8s (Vector.replicate 32 0#8).toList) 50) :: (B6 ++ N)) (fun w m => More.of hΦ 1 m rfl) b3 w8 x15 x16 hg0 hx14) rfl rfl ?_
    rintro L18 M19 ⟨B17, e20, e21⟩
    rw [e20, e21]
    clear e20 e21 L18 M19
    refine OW.mem (M' := ((some b3, blk x16.C 88) :: (some b2, blk (u8s (Vector.replicate 32 0#8).toList) 50) :: ((B17 ++ B6) ++ N))) (fun w m => by have h := Mem.sinkAt (A := B17) m 1 1 rfl rfl; exact h) ?_
    replace hg0 := hg0.mono (Ψ := More w0 Φ (B17 ++ B6)) (fun w q => More.mono (fun w m => (m).appR) q)
    refine OW.rot1 ?_
    refine OW.sv (SV.storeW rfl rfl rfl (u8s_one _) rfl ((u8s_length _).trans Vector.length_toList) ((u8s_length _).trans Vector.length_toList)) ?_
    refine OW.nil ?_
    refine QW.then_n ?_
    refine CW.ret ?_
    have e0 := Option.some.inj hf
    subst e0
    refine QW.retG (rs := [.cell 4 50]) ([.agg (u8s x15.toList).toArray]) ((some b2, blk (u8s x15.toList) 50) :: (some b3, blk x16.C 88) :: (B17 ++ B6)) rfl ?_ rfl ?_ ?_ _ (.inl rfl)
    · exact ⟨⟨_, _, _, _, rfl, (List.Mem.head _), rfl, rfl, (congrArg some ((u8s_length _).trans Vector.length_toList).symm), rfl⟩, trivial⟩
    · exact rfl
    · exact (fun w m => m)
  · skip
    refine CW.block ?_
    refine CW.loopJ (fun k L' M' => ∃ n24 : Nat, ∃ w26 : Sponge, ∃ B22 : List Ent, (keccak_digest.l1 a1 k n24 w26) = some q4 ∧ (∀ w, Mem w0 w B22 → Mem w0 w []) ∧ (n24 ≤ 9223372036854775807) ∧ L' = [(4, ptr (some b2) 0), (5, ptr (some b3) 0), (10, .slice A1_ a1.length c1_), (11, .int .i64 ((a1.length : Nat) : Int)), (12, .int .i64 ((n24 : Nat) : Int))] ∧ M' = ((some b3, blk w26.C 88) :: (some b2, blk (u8s (Vector.replicate 32 0#8).toList) 50) :: (B22 ++ N))) (k0 := (a1.length - 0 + 2)) ⟨0, ({ (⟨0, (Vector.replicate 25 0#64), (Vector.replicate 136 0#8), 0, 0⟩ : Sponge) with kind := a0 } : Sponge), [], hq5, (fun w m => m), (by omega), rfl, rfl⟩ ⟨rfl, rfl, rfl, rfl, rfl, trivial⟩ (fun w m => m.pick [0, 1] 2 rfl rfl) ?_
    clear hq5
    rintro k27 L30 M31 ⟨n24, w26, B22, hl28, hB23, b25, e32, e33⟩
    rw [e32, e33]
    clear e32 e33 L30 M31
    rcases k27 with _ | k27
    · rw [keccak_digest.l1] at hl28; cases hl28
    rw [keccak_digest.l1] at hl28
    replace va1 := va1.mono (Ψ := More w0 Φ B22) (fun w q => More.mono (fun w m => hB23 w (m)) q)
    replace ha1 := ha1.mono (BsRd.mono (Ψ := More w0 Φ B22) (fun w q => More.mono (fun w m => hB23 w (m)) q))
    replace hg0 := hg0.mono (Ψ := More w0 Φ B22) (fun w q => More.mono (fun w m => hB23 w (m)) q)
    refine CW.seq ?_
    refine CW.region ?_
    refine OW.rv (RV.lss rfl rfl) rfl ?_
    refine OW.slot (.bool (decide (n24 < a1.length))) (congrArg Value.bool (decide_eq_decide.2 (by omega))) ?_
    refine OW.nil ?_
    refine QW.then_n ?_
    refine CW.seq ?_
    by_cases h34 : n24 < a1.length
    · replace hl28 := if_t hl28 h34
      refine CW.is_t rfl (decide_eq_true h34) ?_
      refine CW.skip ?_
      refine QW.then_n ?_
      refine CW.seq ?_
      refine CW.block ?_
      refine CW.seq ?_
      refine CW.region ?_
      obtain ⟨x35, hx36, hl28⟩ := some_bind hl28
      have hl37 := lt_of_at hx36
      refine OW.rv (RV.idx_r (n24) rfl rfl rfl rfl rfl (va1.isSome (by decide) hl37) (by omega)) rfl ?_
      obtain ⟨cs38, h39, h40⟩ := ha1.get BsRd.len hx36
      obtain ⟨A41, c42, e44, v43⟩ := h39
      subst e44
      have m45 := v43.mx
      refine OW.rv (RV.load_at rfl rfl rfl (fun w m => by have := va1.load (More.of hΦ 2 m rfl) h40 0 _ rfl; simpa [Addr.add] using this)) rfl ?_
      refine OW.rv (RV.assign rfl) rfl ?_
      refine OW.nil ?_
      refine QW.then_n ?_
      refine CW.region ?_
      refine OW.rv (RV.move rfl) rfl ?_
      obtain ⟨x47, hx46, hl28⟩ := some_bind hl28
      refine OW.callG Tryd.call58 rfl (keccak_Sponge_Write_does w0 (More w0 Φ B22) ((some b2, blk (u8s (Vector.replicate 32 0#8).toList) 50) :: (B22 ++ N)) (fun w m => More.of hΦ 1 m rfl) b3 w26 A41 c42 x35 x47 v43 hx46) rfl rfl ?_
      rintro L49 M50 ⟨B48, e51, e52⟩
      rw [e51, e52]
      clear e51 e52 L49 M50
      refine OW.mem (M' := ((some b3, blk x47.C 88) :: (some b2, blk (u8s (Vector.replicate 32 0#8).toList) 50) :: ((B48 ++ B22) ++ N))) (fun w m => by have h := Mem.sinkAt (A := B48) m 1 1 rfl rfl; exact h) ?_
      replace va1 := va1.mono (Ψ := More w0 Φ (B48 ++ B22)) (fun w q => More.mono (fun w m => (m).appR) q)
      replace ha1 := ha1.mono (BsRd.mono (Ψ := More w0 Φ (B48 ++ B22)) (fun w q => More.mono (fun w m => (m).appR) q))
      replace v43 := v43.mono (Ψ := More w0 Φ (B48 ++ B22)) (fun w q => More.mono (fun w m => (m).appR) q)
      replace hg0 := hg0.mono (Ψ := More w0 Φ (B48 ++ B22)) (fun w q => More.mono (fun w m => (m).appR) q)
      refine OW.nil ?_
      refine QW.block_n ?_
      refine QW.then_n ?_
      refine CW.region ?_
      refine OW.rv (RV.add rfl rfl (by omega)) rfl ?_
      refine OW.slot (.int .i64 (((n24 + 1) : Nat) : Int)) (by first | rfl | (congr 1) | (congr 1; omega)) ?_
      refine OW.rv (RV.move rfl) rfl ?_
      refine OW.nil ?_
      exact QW.againJ (k' := k27) (Nat.lt_succ_self _) ⟨(n24 + 1), x47, (B48 ++ B22), hl28, (fun w m => hB23 w ((m).appR)), (by omega), rfl, rfl⟩ ⟨rfl, rfl, rfl, rfl, rfl, trivial⟩ (fun w m => m.pick [0, 1] 2 rfl rfl)
    · replace hl28 := if_f hl28 h34
      refine CW.is_f rfl (decide_eq_false h34) ?_
      refine CW.exit ?_
      refine QW.then_x ?_
      refine QW.then_x ?_
      refine QW.block_xe ?_
      exact QW.join ⟨w26, B22, (Option.some.inj hl28).symm, (fun w m => hB23 w (m)), rfl, rfl⟩ ⟨rfl, rfl, trivial⟩ (fun w m => m.pick [0, 1] 2 rfl rfl)

theorem keccak_Sum_does (w0 : World) (Φ : Ctx) (N : List Ent) (hΦ : ∀ w, Mem w0 w N → Φ w) (A0_ : Option Addr) (c0_ : Nat) (cs0_ : List Value) (a0 : List (List (BitVec 8))) (res0 : Vector (BitVec 8) 32) (va0 : View Φ A0_ a0.length c0_ 1 cs0_) (ha0 : Reps (BsRd Φ) cs0_ a0) (hg0 : View Φ (some ⟨0, 0, none⟩) 2 2 1 (u8s firstL)) (hf : keccak_Sum a0 = some res0) : DoesG Tryd.prog 27 [.slice A0_ a0.length c0_] w0 [] N (fun v G => v = .agg (u8s res0.toList).toArray) := by
  unfold keccak_Sum at hf
  replace va0 := va0.mono (Ψ := More w0 Φ []) (fun w q => q.1)
  replace hg0 := hg0.mono (Ψ := More w0 Φ []) (fun w q => q.1)
  replace ha0 := ha0.mono (BsRd.mono (Ψ := More w0 Φ []) (fun w q => q.1))
  have m1 := va0.mx
  refine DoesG.enter Tryd.func27 rfl Tryd.ntmps27 rfl (M := (([] ++ N))) rfl ?_
  refine CW.seq ?_
  refine CW.region ?_
  refine OW.alloc (l := (u8s (Vector.replicate 32 0#8).toList)) rfl (by rw [Vector.toList_replicate, ← u8s_rep']; rfl) rfl (fun b2 => ?_)
  refine OW.nil ?_
  refine QW.then_n ?_
  refine CW.seq ?_
  refine CW.region ?_
  refine OW.rv (RV.move rfl) rfl ?_
  obtain ⟨x4, hx3, hf⟩ := some_bind hf
  refine OW.callG Tryd.call37 rfl (keccak_digest_does w0 (More w0 Φ []) ((some b2, blk (u8s (Vector.replicate 32 0#8).toList) 50) :: ([] ++ N)) (fun w m => More.of hΦ 1 m rfl) (0 : Int) A0_ c0_ cs0_ a0 x4 (by omega) va0 ha0 hg0 hx3) rfl rfl ?_
  rintro _ G5 rfl
  refine OW.mem (M' := ((some b2, blk (u8s (Vector.replicate 32 0#8).toList) 50) :: ([] ++ N))) (fun w m => m.appR) ?_
  refine OW.sv (SV.storeW rfl rfl rfl (u8s_one _) rfl ((u8s_length _).trans Vector.length_toList) ((u8s_length _).trans Vector.length_toList)) ?_
  refine OW.nil ?_
  refine QW.then_n ?_
  refine CW.ret ?_
  have e0 := Option.some.inj hf
  subst e0
  refine QW.retG (rs := [.cell 2 50]) ([.agg (u8s x4.toList).toArray]) ((some b2, blk (u8s x4.toList) 50) :: []) rfl ?_ rfl ?_ ?_ _ (.inl rfl)
  · exact ⟨⟨_, _, _, _, rfl, (List.Mem.head _), rfl, rfl, (congrArg some ((u8s_length _).trans Vector.length_toList).symm), rfl⟩, trivial⟩
  · exact rfl
  · exact (fun w m => m)

theorem bloom_Places_does (w0 : World) (Φ : Ctx) (N : List Ent) (hΦ : ∀ w, Mem w0 w N → Φ w) (A0_ : Option Addr) (c0_ : Nat) (a0 : List (BitVec 8)) (res0 : Vector (Int) 3) (va0 : View Φ A0_ a0.length c0_ 1 (u8s a0)) (hg0 : View Φ (some ⟨0, 0, none⟩) 2 2 1 (u8s firstL)) (hf : bloom_Places a0 = some res0) : DoesG Tryd.prog 13 [.slice A0_ a0.length c0_] w0 [] N (fun v G => v = .agg (i64s res0.toList).toArray) := by
  unfold bloom_Places at hf
  replace va0 := va0.mono (Ψ := More w0 Φ []) (fun w q => q.1)
  replace hg0 := hg0.mono (Ψ := More w0 Φ []) (fun w q => q.1)
  have m1 := va0.mx
  refine DoesG.enter Tryd.func13 rfl Tryd.ntmps13 rfl (M := (([] ++ N))) rfl ?_
  refine CW.seq ?_
  refine CW.region ?_
  refine OW.alloc (l := (i64s (Vector.replicate 3 0).toList)) rfl (by rw [Vector.toList_replicate, ← i64s_rep]; rfl) rfl (fun b2 => ?_)
  refine OW.nil ?_
  refine QW.then_n ?_
  refine CW.seq ?_
  refine CW.region ?_
  refine OW.rv (RV.move rfl) rfl ?_
  refine OW.ofN (NV.bs1 rfl rfl rfl rfl rfl rfl) rfl (fun b3 => ?_)
  have h6 : Reps (BsRd (More w0 Φ [])) (([.slice A0_ a0.length c0_] : List Value)) [a0] := Reps.one (BsRd.mk va0)
  refine OW.mem (M' := (((some b3), blk ((([.slice A0_ a0.length c0_] : List Value)) ++ []) 30) :: (some b2, blk (i64s (Vector.replicate 3 0).toList) 32) :: ([] ++ N))) (fun w m => m) ?_
  have o4 : OwnS (some b3) ([a0] : List (List (BitVec 8))).length 1 1 (([.slice A0_ a0.length c0_] : List Value)) [] := ⟨by simp [BsRd], by simp [BsRd], (fun h => nomatch h), by simp⟩
  refine OW.slot (sl (some b3) 0 ([a0] : List (List (BitVec 8))).length 1) (rfl) ?_
  refine OW.mem (M' := (some b2, blk (i64s (Vector.replicate 3 0).toList) 32) :: ((((some b3), blk ((([.slice A0_ a0.length c0_] : List Value)) ++ []) 30) :: []) ++ N)) (fun w m => m.pick [1, 0] 2 rfl rfl) ?_
  replace va0 := va0.mono (Ψ := More w0 Φ (((some b3), blk ((([.slice A0_ a0.length c0_] : List Value)) ++ []) 30) :: [])) (fun w q => More.mono (fun w m => (m).tail) q)
  replace h6 := h6.mono (BsRd.mono (Ψ := More w0 Φ (((some b3), blk ((([.slice A0_ a0.length c0_] : List Value)) ++ []) 30) :: [])) (fun w q => More.mono (fun w m => (m).tail) q))
  replace hg0 := hg0.mono (Ψ := More w0 Φ (((some b3), blk ((([.slice A0_ a0.length c0_] : List Value)) ++ []) 30) :: [])) (fun w q => More.mono (fun w m => (m).tail) q)
  have v7 : View (More w0 Φ (((some b3), blk ((([.slice A0_ a0.length c0_] : List Value)) ++ []) 30) :: [])) (((some b3)).map fun k => ⟨k, 0, none⟩) ([a0] : List (List (BitVec 8))).length 1 1 (([.slice A0_ a0.length c0_] : List Value)) := o4.view (by decide) (fun w q => q.2.sublist (List.singleton_sublist.2 (List.mem_cons_self ..)))
  obtain ⟨x9, hx8, hf⟩ := some_bind hf
  refine OW.callG Tryd.call27 rfl (keccak_Sum_does w0 (More w0 Φ (((some b3), blk ((([.slice A0_ a0.length c0_] : List Value)) ++ []) 30) :: [])) ((some b2, blk (i64s (Vector.replicate 3 0).toList) 32) :: ((((some b3), blk ((([.slice A0_ a0.length c0_] : List Value)) ++ []) 30) :: []) ++ N)) (fun w m => More.of hΦ 1 m rfl) (((some b3)).map fun k => ⟨k, 0, none⟩) 1 (([.slice A0_ a0.length c0_] : List Value)) ([a0] : List (List (BitVec 8))) x9 v7 h6 hg0 hx8) rfl rfl ?_
  rintro _ G10 rfl
  refine OW.mem (M' := ((some b2, blk (i64s (Vector.replicate 3 0).toList) 32) :: ((((some b3), blk ((([.slice A0_ a0.length c0_] : List Value)) ++ []) 30) :: []) ++ N))) (fun w m => m.appR) ?_
  refine OW.alloc (l := (u8s (Vector.replicate 32 0#8).toList)) rfl (by rw [Vector.toList_replicate, ← u8s_rep']; rfl) rfl (fun b12 => ?_)
  refine OW.sv (SV.storeW rfl rfl rfl (u8s_one _) rfl ((u8s_length _).trans Vector.length_toList) ((u8s_length _).trans Vector.length_toList)) ?_
  refine OW.nil ?_
  refine QW.then_n ?_
  refine CW.seq ?_
  refine CW.region ?_
  refine OW.alloc (l := (i64s (Vector.replicate 3 0).toList)) rfl (by rw [Vector.toList_replicate, ← i64s_rep]; rfl) rfl (fun b13 => ?_)
  refine OW.nil ?_
  refine QW.then_n ?_
  refine CW.seq ?_
  refine CW.seq ?_
  refine CW.region ?_
  refine OW.rv (RV.move rfl) rfl ?_
  refine OW.nil ?_
  refine QW.then_n ?_
  obtain ⟨q14, hq15, hf⟩ := some_bind hf
  refine CW.cutJ (fun L' M' => ∃ w16 : Vector (Int) 3, q14 = w16 ∧ L' = [(2, ptr (some b2) 0), (4, ptr (some b13) 0)] ∧ M' = ((some b13, blk (i64s w16.toList) 32) :: (some b2, blk (i64s (Vector.replicate 3 0).toList) 32) :: ((((some b3), blk ((([.slice A0_ a0.length c0_] : List Value)) ++ []) 30) :: []) ++ N))) ?_ ?_
  · rintro L18 M19 ⟨w16, e17, e20, e21⟩
    rw [e20, e21]
    clear e20 e21 L18 M19
    clear hq15
    rw [e17] at hf
    clear e17
    try dsimp only at hf
    refine QW.then_n ?_
    refine CW.seq ?_
    refine CW.region ?_
    refine OW.rv (RV.loadW rfl (List.Mem.head _) rfl rfl rfl rfl ((i64s_length _).trans Vector.length_toList)) rfl ?_
    refine OW.rot1 ?_
    refine OW.sv (SV.storeW rfl rfl rfl (i64s_one _) rfl ((i64s_length _).trans Vector.length_toList) ((i64s_length _).trans Vector.length_toList)) ?_
    refine OW.nil ?_
    refine QW.then_n ?_
    refine CW.ret ?_
    have e0 := Option.some.inj hf
    subst e0
    refine QW.retG (rs := [.cell 2 32]) ([.agg (i64s w16.toList).toArray]) ((some b2, blk (i64s w16.toList) 32) :: (some b13, blk (i64s w16.toList) 32) :: (((some b3), blk ((([.slice A0_ a0.length c0_] : List Value)) ++ []) 30) :: [])) rfl ?_ rfl ?_ ?_ _ (.inl rfl)
    · exact ⟨⟨_, _, _, _, rfl, (List.Mem.head _), rfl, rfl, (congrArg some ((i64s_length _).trans Vector.length_toList).symm), rfl⟩, trivial⟩
    · exact rfl
    · exact (fun w m => m)
  · skip
    refine CW.block ?_
    refine CW.loopJ (fun k L' M' => ∃ n22 : Nat, ∃ w24 : Vector (Int) 3, (bloom_Places.l1 x9 k n22 w24) = some q14 ∧ (n22 ≤ 9223372036854775807) ∧ L' = [(2, ptr (some b2) 0), (3, ptr (some b12) 0), (4, ptr (some b13) 0), (9, .int .i64 ((n22 : Nat) : Int))] ∧ M' = ((some b13, blk (i64s w24.toList) 32) :: (some b12, blk (u8s x9.toList) 50) :: (some b2, blk (i64s (Vector.replicate 3 0).toList) 32) :: ((((some b3), blk ((([.slice A0_ a0.length c0_] : List Value)) ++ []) 30) :: []) ++ N))) (k0 := (3 - 0 + 2)) ⟨0, (Vector.replicate 3 0), hq15, (by omega), rfl, rfl⟩ ⟨rfl, rfl, rfl, rfl, trivial⟩ (fun w m => m.pick [0, 1, 2] 3 rfl rfl) ?_
    clear hq15
    rintro k25 L28 M29 ⟨n22, w24, hl26, b23, e30, e31⟩
    rw [e30, e31]
    clear e30 e31 L28 M29
    rcases k25 with _ | k25
    · rw [bloom_Places.l1] at hl26; cases hl26
    rw [bloom_Places.l1] at hl26
    refine CW.seq ?_
    refine CW.region ?_
    refine OW.rv (RV.lss rfl rfl) rfl ?_
    refine OW.slot (.bool (decide (n22 < 3))) (congrArg Value.bool (decide_eq_decide.2 (by omega))) ?_
    refine OW.nil ?_
    refine QW.then_n ?_
    refine CW.seq ?_
    by_cases h32 : n22 < 3
    · replace hl26 := if_t hl26 h32
      refine CW.is_t rfl (decide_eq_true h32) ?_
      refine CW.skip ?_
      refine QW.then_n ?_
      refine CW.seq ?_
      refine CW.block ?_
      refine CW.seq ?_
      refine CW.region ?_
      refine OW.rv (RV.move rfl) rfl ?_
      refine OW.rv (RV.assign rfl) rfl ?_
      refine OW.nil ?_
      refine QW.then_n ?_
      refine CW.drawsX ((some b12, blk (u8s x9.toList) 50) :: (some b2, blk (i64s (Vector.replicate 3 0).toList) 32) :: ((((some b3), blk ((([.slice A0_ a0.length c0_] : List Value)) ++ []) 30) :: []) ++ N)) [16] (fun w m => m.pick [1, 2] 3 rfl rfl) mixed (by kernel_rfl) ?_
      refine XW.rs 0 rfl (by kernel_rfl) rfl (RV.move rfl) rfl ?_
      refine XW.rs 1 rfl (by kernel_rfl) rfl (RV.move rfl) rfl ?_
      refine XW.rs 2 rfl (by kernel_rfl) rfl (RV.mul rfl rfl (by omega)) rfl ?_
      refine XW.slot (.int .i64 (((2 * n22) : Nat) : Int)) (by first | rfl | (congr 1) | (congr 1; omega)) ?_
      obtain ⟨g33, hl26⟩ := some_if hl26
      refine XW.rs 3 rfl (by kernel_rfl) rfl (RV.idx_a ((2 * n22)) rfl rfl rfl rfl rfl (by omega)) rfl ?_
      obtain ⟨x34, hx35, hl26⟩ := some_bind hl26
      refine XW.rs 4 rfl (by kernel_rfl) rfl (RV.load rfl (List.Mem.head _) rfl rfl rfl (by rw [Nat.zero_add]; exact u8s_at (vat hx35))) rfl ?_
      refine XW.rs 5 rfl (by kernel_rfl) rfl (RV.conv8_i rfl (by first | rfl | exact lit8 _ rfl) rfl rfl) rfl ?_
      have m36 := (x34).isLt
      refine XW.rs 6 rfl (by kernel_rfl) rfl (RV.mul rfl rfl (by omega)) rfl ?_
      refine XW.slot (.int .i64 (((256 * x34.toNat) : Nat) : Int)) (by first | rfl | (congr 1) | (congr 1; omega)) ?_
      refine XW.rs 7 rfl (by kernel_rfl) rfl (RV.move rfl) rfl ?_
      refine XW.rs 8 rfl (by kernel_rfl) rfl (RV.mul rfl rfl (by omega)) rfl ?_
      refine XW.slot (.int .i64 (((2 * n22) : Nat) : Int)) (by first | rfl | (congr 1) | (congr 1; omega)) ?_
      refine XW.rs 9 rfl (by kernel_rfl) rfl (RV.add rfl rfl (by omega)) rfl ?_
      refine XW.slot (.int .i64 ((((2 * n22) + 1) : Nat) : Int)) (by first | rfl | (congr 1) | (congr 1; omega)) ?_
      obtain ⟨g37, hl26⟩ := some_if hl26
      refine XW.rs 10 rfl (by kernel_rfl) rfl (RV.idx_a (((2 * n22) + 1)) rfl rfl rfl rfl rfl (by omega)) rfl ?_
      obtain ⟨x38, hx39, hl26⟩ := some_bind hl26
      refine XW.rs 11 rfl (by kernel_rfl) rfl (RV.load rfl (List.Mem.head _) rfl rfl rfl (by rw [Nat.zero_add]; exact u8s_at (vat hx39))) rfl ?_
      refine XW.rs 12 rfl (by kernel_rfl) rfl (RV.conv8_i rfl (by first | rfl | exact lit8 _ rfl) rfl rfl) rfl ?_
      have m40 := (x38).isLt
      refine XW.rs 13 rfl (by kernel_rfl) rfl (RV.add rfl rfl (by omega)) rfl ?_
      refine XW.slot (.int .i64 ((((256 * x34.toNat) + x38.toNat) : Nat) : Int)) (by first | rfl | (congr 1) | (congr 1; omega)) ?_
      refine XW.rs 14 rfl (by kernel_rfl) rfl (RV.rem rfl rfl (by omega) (by omega)) rfl ?_
      refine XW.slot (.int .i64 ((((256 * x34.toNat) + x38.toNat) % 2048 : Nat) : Int)) (by first | rfl | (congr 1; omega)) ?_
      refine XW.rs 15 rfl (by kernel_rfl) rfl (RV.idx_a (n22) rfl rfl rfl rfl rfl (by omega)) rfl ?_
      refine XW.sv 16 rfl (by kernel_rfl) (SV.store rfl rfl rfl rfl rfl (by rw [i64s_length, Vector.length_toList]; omega)) (fun w m => m.pick [1, 2] 3 rfl rfl) ?_
      refine XW.cells (i64s (w24.setIfInBounds n22 ((((256 * x34.toNat) + x38.toNat) % 2048 : Nat) : Int)).toList) (by rw [Nat.zero_add, i64s_set, vset]) ?_
      refine XW.nil (by kernel_rfl) ?_
      refine QW.block_n ?_
      refine QW.then_n ?_
      refine CW.region ?_
      refine OW.rv (RV.add rfl rfl (by omega)) rfl ?_
      refine OW.slot (.int .i64 (((n22 + 1) : Nat) : Int)) (by first | rfl | (congr 1) | (congr 1; omega)) ?_
      refine OW.rv (RV.move rfl) rfl ?_
      refine OW.nil ?_
      exact QW.againJ (k' := k25) (Nat.lt_succ_self _) ⟨(n22 + 1), (w24.setIfInBounds n22 ((((256 * x34.toNat) + x38.toNat) % 2048 : Nat) : Int)), hl26, (by omega), rfl, rfl⟩ ⟨rfl, rfl, rfl, rfl, trivial⟩ (fun w m => m.pick [0, 1, 2] 3 rfl rfl)
    · replace hl26 := if_f hl26 h32
      refine CW.is_f rfl (decide_eq_false h32) ?_
      refine CW.exit ?_
      refine QW.then_x ?_
      refine QW.then_x ?_
      refine QW.block_xe ?_
      exact QW.join ⟨w24, (Option.some.inj hl26).symm, rfl, rfl⟩ ⟨rfl, rfl, trivial⟩ (fun w m => m.pick [0, 2] 3 rfl rfl)

theorem bloom_set_does (w0 : World) (Φ : Ctx) (N : List Ent) (hΦ : ∀ w, Mem w0 w N → Φ w) (a0 : Vector (BitVec 8) 256) (a1 : Int) (res0 : Vector (BitVec 8) 256) (ba1 : -9223372036854775808 ≤ a1 ∧ a1 ≤ 9223372036854775807) (hf : bloom_set a0 a1 = some res0) : DoesG Tryd.prog 29 [.agg (u8s a0.toList).toArray, .int .i64 a1] w0 [] N (fun v G => v = .agg (u8s res0.toList).toArray) := by
  unfold bloom_set at hf
  refine DoesG.enter Tryd.func29 rfl Tryd.ntmps29 rfl (M := (([] ++ N))) rfl ?_
  refine CW.seq ?_
  refine CW.region ?_
  refine OW.boxA rfl rfl (fun b1 => ?_)
  refine OW.alloc (l := (u8s (Vector.replicate 256 0#8).toList)) rfl (by rw [Vector.toList_replicate, ← u8s_rep']; rfl) rfl (fun b2 => ?_)
  refine OW.nil ?_
  refine QW.then_n ?_
  refine CW.seq ?_
  refine CW.drawsX ((some b2, blk (u8s (Vector.replicate 256 0#8).toList) 25) :: ([] ++ N)) [10] (fun w m => m.pick [0] 2 rfl rfl) mixed (by kernel_rfl) ?_
  refine XW.rs 0 rfl (by kernel_rfl) rfl (RV.move rfl) rfl ?_
  obtain ⟨g3, hf⟩ := some_if hf
  refine XW.rs 1 rfl (by kernel_rfl) rfl (RV.quo rfl rfl (by omega) (by omega) (by omega)) rfl ?_
  refine XW.slot (.int .i64 (((a1).toNat / 8 : Nat) : Int)) (by first | rfl | (congr 1; omega)) ?_
  refine XW.rs 2 rfl (by kernel_rfl) rfl (RV.sub rfl rfl (by omega)) rfl ?_
  obtain ⟨g4, hf⟩ := some_if hf
  obtain ⟨g5, hf⟩ := some_if hf
  refine XW.rs 3 rfl (by kernel_rfl) rfl (RV.idx_a ((((255 : Int) - (((a1).toNat / 8 : Nat) : Int))).toNat) rfl rfl (by omega) rfl rfl (by omega)) rfl ?_
  obtain ⟨x6, hx7, hf⟩ := some_bind hf
  refine XW.rv 4 rfl (by kernel_rfl) rfl (by kernel_rfl) (RV.load rfl (List.Mem.tail _ (List.Mem.head _)) rfl rfl rfl (by rw [Nat.zero_add]; exact u8s_at (vat hx7))) rfl ?_
  refine XW.rs 5 rfl (by kernel_rfl) rfl (RV.move rfl) rfl ?_
  refine XW.rs 6 rfl (by kernel_rfl) rfl (RV.rem rfl rfl (by omega) (by omega)) rfl ?_
  refine XW.slot (.int .i64 (((a1).toNat % 8 : Nat) : Int)) (by first | rfl | (congr 1; omega)) ?_
  refine XW.rs 7 rfl (by kernel_rfl) rfl (RV.shl8 (s := ((a1).toNat % 8)) rfl (by first | rfl | exact lit8 _ rfl) rfl (by first | rfl | (congr 1))) rfl ?_
  refine XW.rs 8 rfl (by kernel_rfl) rfl (RV.or8 rfl (by first | rfl | exact lit8 _ rfl) rfl (by first | rfl | exact lit8 _ rfl)) rfl ?_
  refine XW.rs 9 rfl (by kernel_rfl) rfl (RV.idx_a ((((255 : Int) - (((a1).toNat / 8 : Nat) : Int))).toNat) rfl rfl (by omega) rfl rfl (by omega)) rfl ?_
  refine XW.mem (M' := ((some b1, blk (u8s a0.toList) 25) :: (some b2, blk (u8s (Vector.replicate 256 0#8).toList) 25) :: ([] ++ N))) (fun w m => m.pick [1, 0] 2 rfl rfl) (fun w m => m.pick [1] 2 rfl rfl) ?_
  refine XW.sv 10 rfl (by kernel_rfl) (SV.store rfl rfl rfl rfl rfl (by rw [u8s_length, Vector.length_toList]; omega)) (fun w m => m.pick [1] 2 rfl rfl) ?_
  refine XW.cells (u8s (a0.setIfInBounds ((((255 : Int) - (((a1).toNat / 8 : Nat) : Int))).toNat) (x6 ||| (1#8 <<< ((a1).toNat % 8)))).toList) (by rw [Nat.zero_add, u8s_set', vset]) ?_
  refine XW.nil (by kernel_rfl) ?_
  refine QW.then_n ?_
  refine CW.seq ?_
  refine CW.region ?_
  refine OW.rv (RV.loadW rfl (List.Mem.head _) rfl rfl rfl rfl ((u8s_length _).trans Vector.length_toList)) rfl ?_
  refine OW.rot1 ?_
  refine OW.sv (SV.storeW rfl rfl rfl (u8s_one _) rfl ((u8s_length _).trans Vector.length_toList) ((u8s_length _).trans Vector.length_toList)) ?_
  refine OW.nil ?_
  refine QW.then_n ?_
  refine CW.ret ?_
  have e0 := Option.some.inj hf
  subst e0
  refine QW.retG (rs := [.cell 4 25]) ([.agg (u8s (a0.setIfInBounds ((((255 : Int) - (((a1).toNat / 8 : Nat) : Int))).toNat) (x6 ||| (1#8 <<< ((a1).toNat % 8)))).toList).toArray]) ((some b2, blk (u8s (a0.setIfInBounds ((((255 : Int) - (((a1).toNat / 8 : Nat) : Int))).toNat) (x6 ||| (1#8 <<< ((a1).toNat % 8)))).toList) 25) :: (some b1, blk (u8s (a0.setIfInBounds ((((255 : Int) - (((a1).toNat / 8 : Nat) : Int))).toNat) (x6 ||| (1#8 <<< ((a1).toNat % 8)))).toList) 25) :: []) rfl ?_ rfl ?_ ?_ _ (.inl rfl)
  · exact ⟨⟨_, _, _, _, rfl, (List.Mem.head _), rfl, rfl, (congrArg some ((u8s_length _).trans Vector.length_toList).symm), rfl⟩, trivial⟩
  · exact rfl
  · exact (fun w m => m)

theorem bloom_Add_does (w0 : World) (Φ : Ctx) (N : List Ent) (hΦ : ∀ w, Mem w0 w N → Φ w) (a0 : Vector (BitVec 8) 256) (A1_ : Option Addr) (c1_ : Nat) (a1 : List (BitVec 8)) (res0 : Vector (BitVec 8) 256) (va1 : View Φ A1_ a1.length c1_ 1 (u8s a1)) (hg0 : View Φ (some ⟨0, 0, none⟩) 2 2 1 (u8s firstL)) (hf : bloom_Add a0 a1 = some res0) : DoesG Tryd.prog 15 [.agg (u8s a0.toList).toArray, .slice A1_ a1.length c1_] w0 [] N (fun v G => v = .agg (u8s res0.toList).toArray) := by
  unfold bloom_Add at hf
  replace va1 := va1.mono (Ψ := More w0 Φ []) (fun w q => q.1)
  replace hg0 := hg0.mono (Ψ := More w0 Φ []) (fun w q => q.1)
  have m1 := va1.mx
  refine DoesG.enter Tryd.func15 rfl Tryd.ntmps15 rfl (M := (([] ++ N))) rfl ?_
  refine CW.seq ?_
  refine CW.region ?_
  refine OW.boxA rfl rfl (fun b2 => ?_)
  refine OW.alloc (l := (u8s (Vector.replicate 256 0#8).toList)) rfl (by rw [Vector.toList_replicate, ← u8s_rep']; rfl) rfl (fun b3 => ?_)
  refine OW.nil ?_
  refine QW.then_n ?_
  refine CW.seq ?_
  refine CW.seq ?_
  refine CW.region ?_
  refine OW.rv (RV.move rfl) rfl ?_
  obtain ⟨x5, hx4, hf⟩ := some_bind hf
  refine OW.callG Tryd.call13 rfl (bloom_Places_does w0 (More w0 Φ []) ((some b3, blk (u8s (Vector.replicate 256 0#8).toList) 25) :: (some b2, blk (u8s a0.toList) 25) :: ([] ++ N)) (fun w m => More.of hΦ 2 m rfl) A1_ c1_ a1 x5 va1 hg0 hx4) rfl rfl ?_
  rintro _ G6 rfl
  refine OW.mem (M' := ((some b3, blk (u8s (Vector.replicate 256 0#8).toList) 25) :: (some b2, blk (u8s a0.toList) 25) :: ([] ++ N))) (fun w m => m.appR) ?_
  refine OW.rv (RV.move rfl) rfl ?_
  refine OW.nil ?_
  refine QW.then_n ?_
  obtain ⟨q8, hq9, hf⟩ := some_bind hf
  refine CW.cutJ (fun L' M' => ∃ w10 : Vector (BitVec 8) 256, q8 = w10 ∧ L' = [(2, ptr (some b2) 0), (4, ptr (some b3) 0)] ∧ M' = ((some b3, blk (u8s (Vector.replicate 256 0#8).toList) 25) :: (some b2, blk (u8s w10.toList) 25) :: ([] ++ N))) ?_ ?_
  · rintro L12 M13 ⟨w10, e11, e14, e15⟩
    rw [e14, e15]
    clear e14 e15 L12 M13
    clear hq9
    rw [e11] at hf
    clear e11
    try dsimp only at hf
    refine QW.then_n ?_
    refine CW.seq ?_
    refine CW.region ?_
    refine OW.rv (RV.loadW rfl (List.Mem.tail _ (List.Mem.head _)) rfl rfl rfl rfl ((u8s_length _).trans Vector.length_toList)) rfl ?_
    refine OW.sv (SV.storeW rfl rfl rfl (u8s_one _) rfl ((u8s_length _).trans Vector.length_toList) ((u8s_length _).trans Vector.length_toList)) ?_
    refine OW.nil ?_
    refine QW.then_n ?_
    refine CW.ret ?_
    have e0 := Option.some.inj hf
    subst e0
    refine QW.retG (rs := [.cell 4 25]) ([.agg (u8s w10.toList).toArray]) ((some b3, blk (u8s w10.toList) 25) :: (some b2, blk (u8s w10.toList) 25) :: []) rfl ?_ rfl ?_ ?_ _ (.inl rfl)
    · exact ⟨⟨_, _, _, _, rfl, (List.Mem.head _), rfl, rfl, (congrArg some ((u8s_length _).trans Vector.length_toList).symm), rfl⟩, trivial⟩
    · exact rfl
    · exact (fun w m => m)
  · skip
    refine CW.block ?_
    refine CW.loopJ (fun k L' M' => ∃ n16 : Nat, ∃ w18 : Vector (BitVec 8) 256, (bloom_Add.l1 x5 k n16 w18) = some q8 ∧ (n16 ≤ 9223372036854775807) ∧ L' = [(2, ptr (some b2) 0), (4, ptr (some b3) 0), (8, .agg (i64s x5.toList).toArray), (9, .int .i64 ((n16 : Nat) : Int))] ∧ M' = ((some b3, blk (u8s (Vector.replicate 256 0#8).toList) 25) :: (some b2, blk (u8s w18.toList) 25) :: ([] ++ N))) (k0 := (3 - 0 + 2)) ⟨0, a0, hq9, (by omega), rfl, rfl⟩ ⟨rfl, rfl, rfl, rfl, trivial⟩ (fun w m => m.pick [0, 1] 2 rfl rfl) ?_
    clear hq9
    rintro k19 L22 M23 ⟨n16, w18, hl20, b17, e24, e25⟩
    rw [e24, e25]
    clear e24 e25 L22 M23
    rcases k19 with _ | k19
    · rw [bloom_Add.l1] at hl20; cases hl20
    rw [bloom_Add.l1] at hl20
    refine CW.seq ?_
    refine CW.region ?_
    refine OW.rv (RV.lss rfl rfl) rfl ?_
    refine OW.slot (.bool (decide (n16 < 3))) (congrArg Value.bool (decide_eq_decide.2 (by omega))) ?_
    refine OW.nil ?_
    refine QW.then_n ?_
    refine CW.seq ?_
    by_cases h26 : n16 < 3
    · replace hl20 := if_t hl20 h26
      refine CW.is_t rfl (decide_eq_true h26) ?_
      refine CW.skip ?_
      refine QW.then_n ?_
      refine CW.seq ?_
      refine CW.block ?_
      refine CW.seq ?_
      refine CW.region ?_
      obtain ⟨x27, hx28, hl20⟩ := some_bind hl20
      have hl29 := (Vector.getElem?_eq_some_iff.1 hx28).1
      refine OW.rv (RV.indexV (n16) rfl rfl rfl rfl rfl rfl rfl (by omega) (i64s_at (vat hx28))) rfl ?_
      refine OW.rv (RV.assign rfl) rfl ?_
      refine OW.nil ?_
      refine QW.then_n ?_
      refine CW.region ?_
      refine OW.rv (RV.loadW rfl (List.Mem.tail _ (List.Mem.head _)) rfl rfl rfl rfl ((u8s_length _).trans Vector.length_toList)) rfl ?_
      refine OW.rv (RV.move rfl) rfl ?_
      obtain ⟨g30, hl20⟩ := some_if hl20
      obtain ⟨x32, hx31, hl20⟩ := some_bind hl20
      refine OW.callG Tryd.call29 rfl (bloom_set_does w0 (More w0 Φ []) ((some b3, blk (u8s (Vector.replicate 256 0#8).toList) 25) :: (some b2, blk (u8s w18.toList) 25) :: ([] ++ N)) (fun w m => More.of hΦ 2 m rfl) w18 x27 x32 (by omega) hx31) rfl rfl ?_
      rintro _ G33 rfl
      refine OW.mem (M' := ((some b3, blk (u8s (Vector.replicate 256 0#8).toList) 25) :: (some b2, blk (u8s w18.toList) 25) :: ([] ++ N))) (fun w m => m.appR) ?_
      refine OW.rot1 ?_
      refine OW.sv (SV.storeW rfl rfl rfl (u8s_one _) rfl ((u8s_length _).trans Vector.length_toList) ((u8s_length _).trans Vector.length_toList)) ?_
      refine OW.nil ?_
      refine QW.block_n ?_
      refine QW.then_n ?_
      refine CW.region ?_
      refine OW.rv (RV.add rfl rfl (by omega)) rfl ?_
      refine OW.slot (.int .i64 (((n16 + 1) : Nat) : Int)) (by first | rfl | (congr 1) | (congr 1; omega)) ?_
      refine OW.rv (RV.move rfl) rfl ?_
      refine OW.nil ?_
      exact QW.againJ (k' := k19) (Nat.lt_succ_self _) ⟨(n16 + 1), x32, hl20, (by omega), rfl, rfl⟩ ⟨rfl, rfl, rfl, rfl, trivial⟩ (fun w m => m.pick [1, 0] 2 rfl rfl)
    · replace hl20 := if_f hl20 h26
      refine CW.is_f rfl (decide_eq_false h26) ?_
      refine CW.exit ?_
      refine QW.then_x ?_
      refine QW.then_x ?_
      refine QW.block_xe ?_
      exact QW.join ⟨w18, (Option.some.inj hl20).symm, rfl, rfl⟩ ⟨rfl, rfl, trivial⟩ (fun w m => m.pick [0, 1] 2 rfl rfl)

theorem bloom_Of_does (w0 : World) (Φ : Ctx) (N : List Ent) (hΦ : ∀ w, Mem w0 w N → Φ w) (A0_ : Option Addr) (c0_ : Nat) (cs0_ : List Value) (a0 : List (List (BitVec 8))) (res0 : Vector (BitVec 8) 256) (va0 : View Φ A0_ a0.length c0_ 1 cs0_) (ha0 : Reps (BsRd Φ) cs0_ a0) (hg0 : View Φ (some ⟨0, 0, none⟩) 2 2 1 (u8s firstL)) (hf : bloom_Of a0 = some res0) : DoesG Tryd.prog 9 [.slice A0_ a0.length c0_] w0 [] N (fun v G => v = .agg (u8s res0.toList).toArray) := by
  unfold bloom_Of at hf
  replace va0 := va0.mono (Ψ := More w0 Φ []) (fun w q => q.1)
  replace hg0 := hg0.mono (Ψ := More w0 Φ []) (fun w q => q.1)
  replace ha0 := ha0.mono (BsRd.mono (Ψ := More w0 Φ []) (fun w q => q.1))
  have m1 := va0.mx
  refine DoesG.enter Tryd.func9 rfl Tryd.ntmps9 rfl (M := (([] ++ N))) rfl ?_
  refine CW.seq ?_
  refine CW.region ?_
  refine OW.alloc (l := (u8s (Vector.replicate 256 0#8).toList)) rfl (by rw [Vector.toList_replicate, ← u8s_rep']; rfl) rfl (fun b2 => ?_)
  refine OW.nil ?_
  refine QW.then_n ?_
  refine CW.seq ?_
  refine CW.region ?_
  refine OW.alloc (l := (u8s (Vector.replicate 256 0#8).toList)) rfl (by rw [Vector.toList_replicate, ← u8s_rep']; rfl) rfl (fun b3 => ?_)
  refine OW.nil ?_
  refine QW.then_n ?_
  refine CW.seq ?_
  refine CW.seq ?_
  refine CW.region ?_
  refine OW.rv (RV.move rfl) rfl ?_
  refine OW.rv (RV.len rfl rfl) rfl ?_
  refine OW.rv (RV.move rfl) rfl ?_
  refine OW.nil ?_
  refine QW.then_n ?_
  obtain ⟨q4, hq5, hf⟩ := some_bind hf
  refine CW.cutJ (fun L' M' => ∃ w6 : Vector (BitVec 8) 256, q4 = w6 ∧ L' = [(2, ptr (some b2) 0), (3, ptr (some b3) 0)] ∧ M' = ((some b3, blk (u8s w6.toList) 25) :: (some b2, blk (u8s (Vector.replicate 256 0#8).toList) 25) :: ([] ++ N))) ?_ ?_
  · rintro L8 M9 ⟨w6, e7, e10, e11⟩
    rw [e10, e11]
    clear e10 e11 L8 M9
    clear hq5
    rw [e7] at hf
    clear e7
    try dsimp only at hf
    refine QW.then_n ?_
    refine CW.seq ?_
    refine CW.region ?_
    refine OW.rv (RV.loadW rfl (List.Mem.head _) rfl rfl rfl rfl ((u8s_length _).trans Vector.length_toList)) rfl ?_
    refine OW.rot1 ?_
    refine OW.sv (SV.storeW rfl rfl rfl (u8s_one _) rfl ((u8s_length _).trans Vector.length_toList) ((u8s_length _).trans Vector.length_toList)) ?_
    refine OW.nil ?_
    refine QW.then_n ?_
    refine CW.ret ?_
    have e0 := Option.some.inj hf
    subst e0
    refine QW.retG (rs := [.cell 2 25]) ([.agg (u8s w6.toList).toArray]) ((some b2, blk (u8s w6.toList) 25) :: (some b3, blk (u8s w6.toList) 25) :: []) rfl ?_ rfl ?_ ?_ _ (.inl rfl)
    · exact ⟨⟨_, _, _, _, rfl, (List.Mem.head _), rfl, rfl, (congrArg some ((u8s_length _).trans Vector.length_toList).symm), rfl⟩, trivial⟩
    · exact rfl
    · exact (fun w m => m)
  · skip
    refine CW.block ?_
    refine CW.loopJ (fun k L' M' => ∃ n12 : Nat, ∃ w14 : Vector (BitVec 8) 256, (bloom_Of.l1 a0 k n12 w14) = some q4 ∧ (n12 ≤ 9223372036854775807) ∧ L' = [(2, ptr (some b2) 0), (3, ptr (some b3) 0), (6, .slice A0_ a0.length c0_), (7, .int .i64 ((a0.length : Nat) : Int)), (8, .int .i64 ((n12 : Nat) : Int))] ∧ M' = ((some b3, blk (u8s w14.toList) 25) :: (some b2, blk (u8s (Vector.replicate 256 0#8).toList) 25) :: ([] ++ N))) (k0 := (a0.length - 0 + 2)) ⟨0, (Vector.replicate 256 0#8), hq5, (by omega), rfl, rfl⟩ ⟨rfl, rfl, rfl, rfl, rfl, trivial⟩ (fun w m => m.pick [0, 1] 2 rfl rfl) ?_
    clear hq5
    rintro k15 L18 M19 ⟨n12, w14, hl16, b13, e20, e21⟩
    rw [e20, e21]
    clear e20 e21 L18 M19
    rcases k15 with _ | k15
    · rw [bloom_Of.l1] at hl16; cases hl16
    rw [bloom_Of.l1] at hl16
    refine CW.seq ?_
    refine CW.region ?_
    refine OW.rv (RV.lss rfl rfl) rfl ?_
    refine OW.slot (.bool (decide (n12 < a0.length))) (congrArg Value.bool (decide_eq_decide.2 (by omega))) ?_
    refine OW.nil ?_
    refine QW.then_n ?_
    refine CW.seq ?_
    by_cases h22 : n12 < a0.length
    · replace hl16 := if_t hl16 h22
      refine CW.is_t rfl (decide_eq_true h22) ?_
      refine CW.skip ?_
      refine QW.then_n ?_
      refine CW.seq ?_
      refine CW.block ?_
      refine CW.seq ?_
      refine CW.region ?_
      obtain ⟨x23, hx24, hl16⟩ := some_bind hl16
      have hl25 := lt_of_at hx24
      refine OW.rv (RV.idx_r (n12) rfl rfl rfl rfl rfl (va0.isSome (by decide) hl25) (by omega)) rfl ?_
      obtain ⟨cs26, h27, h28⟩ := ha0.get BsRd.len hx24
      obtain ⟨A29, c30, e32, v31⟩ := h27
      subst e32
      have m33 := v31.mx
      refine OW.rv (RV.load_at rfl rfl rfl (fun w m => by have := va0.load (More.of hΦ 2 m rfl) h28 0 _ rfl; simpa [Addr.add] using this)) rfl ?_
      refine OW.rv (RV.assign rfl) rfl ?_
      refine OW.nil ?_
      refine QW.then_n ?_
      refine CW.region ?_
      refine OW.rv (RV.loadW rfl (List.Mem.head _) rfl rfl rfl rfl ((u8s_length _).trans Vector.length_toList)) rfl ?_
      refine OW.rv (RV.move rfl) rfl ?_
      obtain ⟨x35, hx34, hl16⟩ := some_bind hl16
      refine OW.callG Tryd.call15 rfl (bloom_Add_does w0 (More w0 Φ []) ((some b3, blk (u8s w14.toList) 25) :: (some b2, blk (u8s (Vector.replicate 256 0#8).toList) 25) :: ([] ++ N)) (fun w m => More.of hΦ 2 m rfl) w14 A29 c30 x23 x35 v31 hg0 hx34) rfl rfl ?_
      rintro _ G36 rfl
      refine OW.mem (M' := ((some b3, blk (u8s w14.toList) 25) :: (some b2, blk (u8s (Vector.replicate 256 0#8).toList) 25) :: ([] ++ N))) (fun w m => m.appR) ?_
      refine OW.sv (SV.storeW rfl rfl rfl (u8s_one _) rfl ((u8s_length _).trans Vector.length_toList) ((u8s_length _).trans Vector.length_toList)) ?_
      refine OW.nil ?_
      refine QW.block_n ?_
      refine QW.then_n ?_
      refine CW.region ?_
      refine OW.rv (RV.add rfl rfl (by omega)) rfl ?_
      refine OW.slot (.int .i64 (((n12 + 1) : Nat) : Int)) (by first | rfl | (congr 1) | (congr 1; omega)) ?_
      refine OW.rv (RV.move rfl) rfl ?_
      refine OW.nil ?_
      exact QW.againJ (k' := k15) (Nat.lt_succ_self _) ⟨(n12 + 1), x35, hl16, (by omega), rfl, rfl⟩ ⟨rfl, rfl, rfl, rfl, rfl, trivial⟩ (fun w m => m.pick [0, 1] 2 rfl rfl)
    · replace hl16 := if_f hl16 h22
      refine CW.is_f rfl (decide_eq_false h22) ?_
      refine CW.exit ?_
      refine QW.then_x ?_
      refine QW.then_x ?_
      refine QW.block_xe ?_
      exact QW.join ⟨w14, (Option.some.inj hl16).symm, rfl, rfl⟩ ⟨rfl, rfl, trivial⟩ (fun w m => m.pick [0, 1] 2 rfl rfl)

theorem bloom_Make_does (w0 : World) (Φ : Ctx) (N : List Ent) (hΦ : ∀ w, Mem w0 w N → Φ w) (A0_ : Option Addr) (c0_ : Nat) (a0 : List (Int)) (res0 : Vector (BitVec 8) 256) (res1 : Nat) (va0 : View Φ A0_ a0.length c0_ 1 (i64s a0)) (hf : bloom_Make a0 = some (res0, res1)) : DoesG Tryd.prog 21 [.slice A0_ a0.length c0_] w0 [] N (fun v G => (res1 ≤ 9223372036854775807) ∧ v = .tuple #[.agg (u8s res0.toList).toArray, .int .i64 ((res1 : Nat) : Int)]) := by
  unfold bloom_Make at hf
  replace va0 := va0.mono (Ψ := More w0 Φ []) (fun w q => q.1)
  have m1 := va0.mx
  refine DoesG.enter Tryd.func21 rfl Tryd.ntmps21 rfl (M := (([] ++ N))) rfl ?_
  refine CW.seq ?_
  refine CW.region ?_
  refine OW.alloc (l := (u8s (Vector.replicate 256 0#8).toList)) rfl (by rw [Vector.toList_replicate, ← u8s_rep']; rfl) rfl (fun b2 => ?_)
  refine OW.rv (RV.assign rfl) rfl ?_
  refine OW.nil ?_
  refine QW.then_n ?_
  refine CW.seq ?_
  refine CW.region ?_
  refine OW.alloc (l := (u8s (Vector.replicate 256 0#8).toList)) rfl (by rw [Vector.toList_replicate, ← u8s_rep']; rfl) rfl (fun b3 => ?_)
  refine OW.nil ?_
  refine QW.then_n ?_
  refine CW.seq ?_
  refine CW.seq ?_
  refine CW.region ?_
  refine OW.rv (RV.move rfl) rfl ?_
  refine OW.rv (RV.len rfl rfl) rfl ?_
  refine OW.rv (RV.move rfl) rfl ?_
  refine OW.nil ?_
  refine QW.then_n ?_
  obtain ⟨q4, hq5, hf⟩ := some_bind hf
  refine CW.cutJ (fun L' M' => ∃ w6 : Vector (BitVec 8) 256, q4 = Lp.go w6 ∧ L' = [(2, ptr (some b2) 0), (4, ptr (some b3) 0)] ∧ M' = ((some b3, blk (u8s w6.toList) 25) :: (some b2, blk (u8s (Vector.replicate 256 0#8).toList) 25) :: ([] ++ N))) ?_ ?_
  · rintro L8 M9 ⟨w6, e7, e10, e11⟩
    rw [e10, e11]
    clear e10 e11 L8 M9
    clear hq5
    rw [e7] at hf
    clear e7
    try dsimp only at hf
    refine QW.then_n ?_
    refine CW.seq ?_
    refine CW.region ?_
    refine OW.rv (RV.loadW rfl (List.Mem.head _) rfl rfl rfl rfl ((u8s_length _).trans Vector.length_toList)) rfl ?_
    refine OW.rot1 ?_
    refine OW.sv (SV.storeW rfl rfl rfl (u8s_one _) rfl ((u8s_length _).trans Vector.length_toList) ((u8s_length _).trans Vector.length_toList)) ?_
    refine OW.rv (RV.assign rfl) rfl ?_
    refine OW.nil ?_
    refine QW.then_n ?_
    refine CW.ret ?_
    have er0 := Option.some.inj hf
    obtain ⟨e0, er1⟩ := Prod.mk.inj er0
    clear er0
    subst e0
    subst er1
    refine QW.retG (rs := [.cell 2 25, .tmp 3]) ([.agg (u8s w6.toList).toArray, .int .i64 (0 : Int)]) ((some b2, blk (u8s w6.toList) 25) :: (some b3, blk (u8s w6.toList) 25) :: []) rfl ?_ rfl ?_ ?_ _ (.inl rfl)
    · exact ⟨⟨_, _, _, _, rfl, (List.Mem.head _), rfl, rfl, (congrArg some ((u8s_length _).trans Vector.length_toList).symm), rfl⟩, rfl, trivial⟩
    · exact ⟨(by omega), rfl⟩
    · exact (fun w m => m)
  · skip
    refine CW.block ?_
    refine CW.loopJ (fun k L' M' => ∃ n12 : Nat, ∃ w14 : Vector (BitVec 8) 256, (bloom_Make.l1 a0 k n12 w14) = some q4 ∧ (n12 ≤ 9223372036854775807) ∧ L' = [(2, ptr (some b2) 0), (4, ptr (some b3) 0), (7, .slice A0_ a0.length c0_), (8, .int .i64 ((a0.length : Nat) : Int)), (9, .int .i64 ((n12 : Nat) : Int))] ∧ M' = ((some b3, blk (u8s w14.toList) 25) :: (some b2, blk (u8s (Vector.replicate 256 0#8).toList) 25) :: ([] ++ N))) (k0 := (a0.length - 0 + 2)) ⟨0, (Vector.replicate 256 0#8), hq5, (by omega), rfl, rfl⟩ ⟨rfl, rfl, rfl, rfl, rfl, trivial⟩ (fun w m => m.pick [0, 1] 2 rfl rfl) ?_
    clear hq5
    rintro k15 L18 M19 ⟨n12, w14, hl16, b13, e20, e21⟩
    rw [e20, e21]
    clear e20 e21 L18 M19
    rcases k15 with _ | k15
    · rw [bloom_Make.l1] at hl16; cases hl16
    rw [bloom_Make.l1] at hl16
    refine CW.seq ?_
    refine CW.region ?_
    refine OW.rv (RV.lss rfl rfl) rfl ?_
    refine OW.slot (.bool (decide (n12 < a0.length))) (congrArg Value.bool (decide_eq_decide.2 (by omega))) ?_
    refine OW.nil ?_
    refine QW.then_n ?_
    refine CW.seq ?_
    by_cases h22 : n12 < a0.length
    · replace hl16 := if_t hl16 h22
      refine CW.is_t rfl (decide_eq_true h22) ?_
      refine CW.skip ?_
      refine QW.then_n ?_
      refine CW.seq ?_
      refine CW.block ?_
      refine CW.seq ?_
      refine CW.region ?_
      obtain ⟨x23, hx24, hl16⟩ := some_bind hl16
      have hl25 := lt_of_at hx24
      refine OW.rv (RV.idx_r (n12) rfl rfl rfl rfl rfl (va0.isSome (by decide) hl25) (by omega)) rfl ?_
      refine OW.rv (RV.load_at rfl rfl rfl (fun w m => va0.cell (More.of hΦ 2 m rfl) (i64s_at hx24))) rfl ?_
      refine OW.rv (RV.assign rfl) rfl ?_
      refine OW.nil ?_
      refine QW.then_n ?_
      refine CW.seq ?_
      refine CW.seq ?_
      obtain ⟨q26, hq27, hl16⟩ := some_bind hl16
      refine CW.cutJ (fun L' M' => ∃ p28 : Bool, q26 = p28 ∧ L' = [(2, ptr (some b2) 0), (4, ptr (some b3) 0), (6, .int .i64 x23), (7, .slice A0_ a0.length c0_), (8, .int .i64 ((a0.length : Nat) : Int)), (9, .int .i64 ((n12 : Nat) : Int)), (18, .bool (p28))] ∧ M' = ((some b3, blk (u8s w14.toList) 25) :: (some b2, blk (u8s (Vector.replicate 256 0#8).toList) 25) :: ([] ++ N))) ?_ ?_
      · rintro L30 M31 ⟨p28, e29, e32, e33⟩
        rw [e32, e33]
        clear e32 e33 L30 M31
        clear hq27
        rw [e29] at hl16
        clear e29
        try dsimp only at hl16
        refine QW.then_n ?_
        by_cases h34 : p28 = true
        · replace hl16 := if_t hl16 h34
          refine CW.is_t rfl (h34) ?_
          refine CW.seq ?_
          refine CW.region ?_
          refine OW.rv (RV.build0 (l := (u8s (Vector.replicate 256 0#8).toList)) rfl rfl rfl (by rw [Vector.toList_replicate, ← u8s_rep']; rfl)) rfl ?_
          refine OW.rot1 ?_
          refine OW.sv (SV.storeW rfl rfl rfl (u8s_one _) rfl ((u8s_length _).trans Vector.length_toList) ((u8s_length _).trans Vector.length_toList)) ?_
          refine OW.rv (RV.assign rfl) rfl ?_
          refine OW.nil ?_
          refine QW.then_n ?_
          refine CW.ret ?_
          refine QW.then_r ?_
          refine QW.block_r ?_
          refine QW.then_r ?_
          refine QW.then_r ?_
          refine QW.block_r ?_
          refine QW.then_r ?_
          have hc := Option.some.inj hl16
          subst hc
          try dsimp only at hf
          refine QW.then_r ?_
          have er0 := Option.some.inj hf
          obtain ⟨e0, er1⟩ := Prod.mk.inj er0
          clear er0
          subst e0
          subst er1
          refine QW.retG (rs := [.cell 2 25, .tmp 3]) ([.agg (u8s (Vector.replicate 256 0#8).toList).toArray, .int .i64 (1 : Int)]) ((some b2, blk (u8s (Vector.replicate 256 0#8).toList) 25) :: (some b3, blk (u8s w14.toList) 25) :: []) rfl ?_ rfl ?_ ?_ _ (.inl rfl)
          · exact ⟨⟨_, _, _, _, rfl, (List.Mem.head _), rfl, rfl, (congrArg some ((u8s_length _).trans Vector.length_toList).symm), rfl⟩, rfl, trivial⟩
          · exact ⟨(by omega), rfl⟩
          · exact (fun w m => m)
        · replace hl16 := if_f hl16 h34
          refine CW.is_f rfl (Bool.eq_false_iff.2 h34) ?_
          refine CW.skip ?_
          refine QW.then_n ?_
          refine CW.region ?_
          refine OW.rv (RV.loadW rfl (List.Mem.head _) rfl rfl rfl rfl ((u8s_length _).trans Vector.length_toList)) rfl ?_
          refine OW.rv (RV.move rfl) rfl ?_
          obtain ⟨g35, hl16⟩ := some_if hl16
          obtain ⟨x37, hx36, hl16⟩ := some_bind hl16
          refine OW.callG Tryd.call29 rfl (bloom_set_does w0 (More w0 Φ []) ((some b3, blk (u8s w14.toList) 25) :: (some b2, blk (u8s (Vector.replicate 256 0#8).toList) 25) :: ([] ++ N)) (fun w m => More.of hΦ 2 m rfl) w14 x23 x37 (by omega) hx36) rfl rfl ?_
          rintro _ G38 rfl
          refine OW.mem (M' := ((some b3, blk (u8s w14.toList) 25) :: (some b2, blk (u8s (Vector.replicate 256 0#8).toList) 25) :: ([] ++ N))) (fun w m => m.appR) ?_
          refine OW.sv (SV.storeW rfl rfl rfl (u8s_one _) rfl ((u8s_length _).trans Vector.length_toList) ((u8s_length _).trans Vector.length_toList)) ?_
          refine OW.nil ?_
          refine QW.block_n ?_
          refine QW.then_n ?_
          refine CW.region ?_
          refine OW.rv (RV.add rfl rfl (by omega)) rfl ?_
          refine OW.slot (.int .i64 (((n12 + 1) : Nat) : Int)) (by first | rfl | (congr 1) | (congr 1; omega)) ?_
          refine OW.rv (RV.move rfl) rfl ?_
          refine OW.nil ?_
          exact QW.againJ (k' := k15) (Nat.lt_succ_self _) ⟨(n12 + 1), x37, hl16, (by omega), rfl, rfl⟩ ⟨rfl, rfl, rfl, rfl, rfl, trivial⟩ (fun w m => m.pick [0, 1] 2 rfl rfl)
      · skip
        refine CW.region ?_
        refine OW.rv (RV.move rfl) rfl ?_
        refine OW.rv (RV.lss rfl rfl) rfl ?_
        refine OW.rv (RV.move rfl) rfl ?_
        by_cases h40 : x23 < (0 : Int)
        · replace hq27 := if_t hq27 h40
          refine OW.slot (.bool true) (congrArg Value.bool (decide_eq_true h40)) ?_
          refine OW.skip rfl rfl rfl ?_
          refine OW.skip rfl rfl rfl ?_
          refine OW.rv (RV.pick_t rfl rfl rfl) rfl ?_
          refine OW.nil ?_
          exact QW.join ⟨true, (Option.some.inj hq27).symm, rfl, rfl⟩ ⟨rfl, rfl, rfl, rfl, rfl, rfl, rfl, trivial⟩ (fun w m => m.pick [0, 1] 2 rfl rfl)
        · replace hq27 := if_f hq27 h40
          refine OW.slot (.bool false) (congrArg Value.bool (decide_eq_false h40)) ?_
          refine OW.want rfl ?_
          refine OW.rv (RV.move rfl) rfl ?_
          refine OW.want rfl ?_
          refine OW.rv (RV.geq rfl rfl) rfl ?_
          refine OW.rv (RV.pick_f rfl rfl rfl) rfl ?_
          refine OW.nil ?_
          exact QW.join ⟨(decide ((2048 : Int) ≤ x23)), (Option.some.inj hq27).symm, rfl, rfl⟩ ⟨rfl, rfl, rfl, rfl, rfl, rfl, rfl, trivial⟩ (fun w m => m.pick [0, 1] 2 rfl rfl)
    · replace hl16 := if_f hl16 h22
      refine CW.is_f rfl (decide_eq_false h22) ?_
      refine CW.exit ?_
      refine QW.then_x ?_
      refine QW.then_x ?_
      refine QW.block_xe ?_
      exact QW.join ⟨w14, (Option.some.inj hl16).symm, rfl, rfl⟩ ⟨rfl, rfl, trivial⟩ (fun w m => m.pick [0, 1] 2 rfl rfl)

theorem waybilllaw10_bit_does (w0 : World) (Φ : Ctx) (N : List Ent) (hΦ : ∀ w, Mem w0 w N → Φ w) (a0 : Vector (BitVec 8) 256) (a1 : Int) (res0 : Bool) (ba1 : -9223372036854775808 ≤ a1 ∧ a1 ≤ 9223372036854775807) (hf : waybilllaw10_bit a0 a1 = some res0) : DoesG Tryd.prog 20 [.agg (u8s a0.toList).toArray, .int .i64 a1] w0 [] N (fun v G => v = .bool res0) := by
  unfold waybilllaw10_bit at hf
  refine DoesG.enter Tryd.func20 rfl Tryd.ntmps20 rfl (M := (([] ++ N))) rfl ?_
  refine CW.seq ?_
  refine CW.region ?_
  refine OW.boxA rfl rfl (fun b1 => ?_)
  refine OW.rv (RV.assign rfl) rfl ?_
  refine OW.nil ?_
  refine QW.then_n ?_
  refine CW.seq ?_
  refine CW.region ?_
  refine OW.rv (RV.move rfl) rfl ?_
  obtain ⟨g2, hf⟩ := some_if hf
  refine OW.rv (RV.quo rfl rfl (by omega) (by omega) (by omega)) rfl ?_
  refine OW.slot (.int .i64 (((a1).toNat / 8 : Nat) : Int)) (by first | rfl | (congr 1; omega)) ?_
  refine OW.rv (RV.sub rfl rfl (by omega)) rfl ?_
  obtain ⟨g3, hf⟩ := some_if hf
  obtain ⟨g4, hf⟩ := some_if hf
  refine OW.rv (RV.idx_a ((((255 : Int) - (((a1).toNat / 8 : Nat) : Int))).toNat) rfl rfl (by omega) rfl rfl (by omega)) rfl ?_
  obtain ⟨x5, hx6, hf⟩ := some_bind hf
  refine OW.rv (RV.load rfl (List.Mem.head _) rfl rfl rfl (by rw [Nat.zero_add]; exact u8s_at (vat hx6))) rfl ?_
  refine OW.rv (RV.move rfl) rfl ?_
  refine OW.rv (RV.rem rfl rfl (by omega) (by omega)) rfl ?_
  refine OW.slot (.int .i64 (((a1).toNat % 8 : Nat) : Int)) (by first | rfl | (congr 1; omega)) ?_
  refine OW.rv (RV.conv_i64 rfl rfl rfl) rfl ?_
  refine OW.slot (U64 (BitVec.ofNat 64 ((a1).toNat % 8))) (congrArg U64 (BitVec.ofInt_natCast ..)) ?_
  refine OW.rv (RV.shr8 (s := (BitVec.ofNat 64 ((a1).toNat % 8)).toNat) rfl (by first | rfl | exact lit8 _ rfl) rfl (by first | rfl | (simp [U64]; done))) rfl ?_
  refine OW.rv (RV.and8 rfl (by first | rfl | exact lit8 _ rfl) rfl (by first | rfl | exact lit8 _ rfl)) rfl ?_
  refine OW.rv (RV.eql8 rfl (by first | rfl | exact lit8 _ rfl) rfl (by first | rfl | exact lit8 _ rfl)) rfl ?_
  refine OW.rv (RV.assign rfl) rfl ?_
  refine OW.nil ?_
  refine QW.then_n ?_
  refine CW.ret ?_
  have e0 := Option.some.inj hf
  subst e0
  refine QW.retG (rs := [.tmp 4]) ([.bool (decide (((x5 >>> (BitVec.ofNat 64 ((a1).toNat % 8)).toNat) &&& 1#8) = 1#8))]) ((some b1, blk (u8s a0.toList) 25) :: []) rfl ?_ rfl ?_ ?_ _ (.inl rfl)
  · exact ⟨rfl, trivial⟩
  · exact rfl
  · exact (fun w m => m)

theorem waybilllaw10_BloomHolds_does (w0 : World) (Φ : Ctx) (N : List Ent) (hΦ : ∀ w, Mem w0 w N → Φ w) (A0_ : Option Addr) (c0_ : Nat) (cs0_ : List Value) (a0 : List (List (BitVec 8))) (a1 : Int) (res0 : Bool) (va0 : View Φ A0_ a0.length c0_ 1 cs0_) (ha0 : Reps (BsRd Φ) cs0_ a0) (ba1 : -9223372036854775808 ≤ a1 ∧ a1 ≤ 9223372036854775807) (hg0 : View Φ (some ⟨0, 0, none⟩) 2 2 1 (u8s firstL)) (hf : waybilllaw10_BloomHolds a0 a1 = some res0) : DoesG Tryd.prog 5 [.slice A0_ a0.length c0_, .int .i64 a1] w0 [] N (fun v G => v = .bool res0) := by
  unfold waybilllaw10_BloomHolds at hf
  replace va0 := va0.mono (Ψ := More w0 Φ []) (fun w q => q.1)
  replace hg0 := hg0.mono (Ψ := More w0 Φ []) (fun w q => q.1)
  replace ha0 := ha0.mono (BsRd.mono (Ψ := More w0 Φ []) (fun w q => q.1))
  have m1 := va0.mx
  refine DoesG.enter Tryd.func5 rfl Tryd.ntmps5 rfl (M := (([] ++ N))) rfl ?_
  refine CW.seq ?_
  refine CW.region ?_
  refine OW.rv (RV.assign rfl) rfl ?_
  refine OW.nil ?_
  refine QW.then_n ?_
  refine CW.seq ?_
  refine CW.region ?_
  refine OW.rv (RV.move rfl) rfl ?_
  obtain ⟨x3, hx2, hf⟩ := some_bind hf
  refine OW.callG Tryd.call9 rfl (bloom_Of_does w0 (More w0 Φ []) (([] ++ N)) (fun w m => More.of hΦ 0 m rfl) A0_ c0_ cs0_ a0 x3 va0 ha0 hg0 hx2) rfl rfl ?_
  rintro _ G4 rfl
  refine OW.mem (M' := (([] ++ N))) (fun w m => m.appR) ?_
  refine OW.alloc (l := (u8s (Vector.replicate 256 0#8).toList)) rfl (by rw [Vector.toList_replicate, ← u8s_rep']; rfl) rfl (fun b6 => ?_)
  refine OW.sv (SV.storeW rfl rfl rfl (u8s_one _) rfl ((u8s_length _).trans Vector.length_toList) ((u8s_length _).trans Vector.length_toList)) ?_
  refine OW.nil ?_
  refine QW.then_n ?_
  refine CW.seq ?_
  refine CW.seq ?_
  obtain ⟨q7, hq8, hf⟩ := some_bind hf
  refine CW.cutJ (fun L' M' => ∃ p9 : Bool, q7 = p9 ∧ L' = [(0, .slice A0_ a0.length c0_), (1, .int .i64 a1), (5, ptr (some b6) 0), (18, .bool (p9))] ∧ M' = ((some b6, blk (u8s x3.toList) 25) :: ([] ++ N))) ?_ ?_
  · rintro L11 M12 ⟨p9, e10, e13, e14⟩
    rw [e13, e14]
    clear e13 e14 L11 M12
    clear hq8
    rw [e10] at hf
    clear e10
    try dsimp only at hf
    refine QW.then_n ?_
    by_cases h15 : p9 = true
    · replace hf := if_t hf h15
      refine CW.is_t rfl (h15) ?_
      refine CW.seq ?_
      obtain ⟨q16, hq17, hf⟩ := some_bind hf
      refine CW.cutJ (fun L' M' => ∃ p18 : Bool, q16 = p18 ∧ L' = [(4, .bool (p18))] ∧ M' = (([] ++ N))) ?_ ?_
      · rintro L20 M21 ⟨p18, e19, e22, e23⟩
        rw [e22, e23]
        clear e22 e23 L20 M21
        clear hq17
        rw [e19] at hf
        clear e19
        try dsimp only at hf
        refine QW.then_n ?_
        refine CW.ret ?_
        refine QW.then_r ?_
        have e0 := Option.some.inj hf
        subst e0
        refine QW.retG (rs := [.tmp 4]) ([.bool (p18)]) ([]) rfl ?_ rfl ?_ ?_ _ (.inl rfl)
        · exact ⟨rfl, trivial⟩
        · exact rfl
        · exact (fun w m => m)
      · skip
        refine CW.region ?_
        refine OW.rv (RV.move rfl) rfl ?_
        refine OW.rv (RV.len rfl rfl) rfl ?_
        refine OW.rv (RV.gtr rfl rfl) rfl ?_
        refine OW.slot (.bool (decide (0 < a0.length))) (congrArg Value.bool (decide_eq_decide.2 (by omega))) ?_
        refine OW.rv (RV.move rfl) rfl ?_
        by_cases h24 : 0 < a0.length
        · replace hq17 := if_t hq17 h24
          refine OW.slot (.bool true) (congrArg Value.bool (decide_eq_true h24)) ?_
          refine OW.skip rfl rfl rfl ?_
          refine OW.skip rfl rfl rfl ?_
          refine OW.skip rfl rfl rfl ?_
          refine OW.rv (RV.pick_t rfl rfl rfl) rfl ?_
          refine OW.rv (RV.assign rfl) rfl ?_
          refine OW.nil ?_
          exact QW.join ⟨true, (Option.some.inj hq17).symm, rfl, rfl⟩ ⟨rfl, trivial⟩ (fun w m => m.pick [] 1 rfl rfl)
        · replace hq17 := if_f hq17 h24
          refine OW.slot (.bool false) (congrArg Value.bool (decide_eq_false h24)) ?_
          refine OW.want rfl ?_
          refine OW.rv (RV.loadW rfl (List.Mem.head _) rfl rfl rfl rfl ((u8s_length _).trans Vector.length_toList)) rfl ?_
          refine OW.want rfl ?_
          refine OW.rv (RV.build0 (l := (u8s (Vector.replicate 256 0#8).toList)) rfl rfl rfl (by rw [Vector.toList_replicate, ← u8s_rep']; rfl)) rfl ?_
          refine OW.want rfl ?_
          refine OW.rv (RV.eqA8 rfl rfl rfl rfl rfl rfl (Vector.length_toList) (Vector.length_toList)) rfl ?_
          refine OW.slot (.bool (decide (x3 = (Vector.replicate 256 0#8)))) (congrArg Value.bool (decide_eq_decide.2 Vector.toList_inj)) ?_
          refine OW.rv (RV.pick_f rfl rfl rfl) rfl ?_
          refine OW.rv (RV.assign rfl) rfl ?_
          refine OW.nil ?_
          exact QW.join ⟨(decide (x3 = (Vector.replicate 256 0#8))), (Option.some.inj hq17).symm, rfl, rfl⟩ ⟨rfl, trivial⟩ (fun w m => m.pick [] 1 rfl rfl)
    · replace hf := if_f hf h15
      refine CW.is_f rfl (Bool.eq_false_iff.2 h15) ?_
      refine CW.skip ?_
      refine QW.then_n ?_
      refine CW.seq ?_
      refine CW.region ?_
      refine OW.rv (RV.assign rfl) rfl ?_
      refine OW.nil ?_
      refine QW.then_n ?_
      refine CW.seq ?_
      refine CW.seq ?_
      refine CW.region ?_
      refine OW.rv (RV.assign rfl) rfl ?_
      refine OW.nil ?_
      refine QW.then_n ?_
      obtain ⟨q25, hq26, hf⟩ := some_bind hf
      refine CW.cutJ (fun L' M' => ∃ p27 : Bool, q25 = Lp.go p27 ∧ L' = [(1, .int .i64 a1), (5, ptr (some b6) 0), (6, .bool (p27))] ∧ M' = ((some b6, blk (u8s x3.toList) 25) :: ([] ++ N))) ?_ ?_
      · rintro L29 M30 ⟨p27, e28, e31, e32⟩
        rw [e31, e32]
        clear e31 e32 L29 M30
        clear hq26
        rw [e28] at hf
        clear e28
        try dsimp only at hf
        refine QW.then_n ?_
        refine CW.seq ?_
        refine CW.region ?_
        refine OW.rv (RV.move rfl) rfl ?_
        refine OW.ofN (NV.bs1 rfl rfl rfl rfl rfl rfl) rfl (fun b33 => ?_)
        refine OW.mem (M' := (((some b33), blk ((i64s ([a1] : List (Int))) ++ []) 3) :: (some b6, blk (u8s x3.toList) 25) :: ([] ++ N))) (fun w m => by first | exact m | simpa [i64s] using m) ?_
        have o34 : OwnS (some b33) ([a1] : List (Int)).length 1 1 (i64s ([a1] : List (Int))) [] := ⟨by simp [i64s], by simp [i64s], (fun h => nomatch h), by simp⟩
        refine OW.slot (sl (some b33) 0 ([a1] : List (Int)).length 1) (rfl) ?_
        refine OW.mem (M' := (some b6, blk (u8s x3.toList) 25) :: ((((some b33), blk ((i64s ([a1] : List (Int))) ++ []) 3) :: []) ++ N)) (fun w m => m.pick [1, 0] 2 rfl rfl) ?_
        replace hg0 := hg0.mono (Ψ := More w0 Φ (((some b33), blk ((i64s ([a1] : List (Int))) ++ []) 3) :: [])) (fun w q => More.mono (fun w m => (m).tail) q)
        have v35 : View (More w0 Φ (((some b33), blk ((i64s ([a1] : List (Int))) ++ []) 3) :: [])) (((some b33)).map fun k => ⟨k, 0, none⟩) ([a1] : List (Int)).length 1 1 (i64s ([a1] : List (Int))) := o34.view (by decide) (fun w q => q.2.sublist (List.singleton_sublist.2 (List.mem_cons_self ..)))
        obtain ⟨⟨x37, x38⟩, hx36, hf⟩ := some_bind hf
        try dsimp only at hf
        refine OW.callG Tryd.call21 rfl (bloom_Make_does w0 (More w0 Φ (((some b33), blk ((i64s ([a1] : List (Int))) ++ []) 3) :: [])) ((some b6, blk (u8s x3.toList) 25) :: ((((some b33), blk ((i64s ([a1] : List (Int))) ++ []) 3) :: []) ++ N)) (fun w m => More.of hΦ 1 m rfl) (((some b33)).map fun k => ⟨k, 0, none⟩) 1 ([a1] : List (Int)) x37 x38 v35 hx36) rfl rfl ?_
        rintro _ G40 ⟨b39, rfl⟩
        refine OW.mem (M' := ((some b6, blk (u8s x3.toList) 25) :: ((((some b33), blk ((i64s ([a1] : List (Int))) ++ []) 3) :: []) ++ N))) (fun w m => m.appR) ?_
        refine OW.rv (RV.move rfl) rfl ?_
        refine OW.rv (RV.extract rfl rfl) rfl ?_
        refine OW.slot (.agg (u8s x37.toList).toArray) (rfl) ?_
        refine OW.rv (RV.extract rfl rfl) rfl ?_
        refine OW.slot (.int .i64 ((x38 : Nat) : Int)) (rfl) ?_
        refine OW.alloc (l := (u8s (Vector.replicate 256 0#8).toList)) rfl (by rw [Vector.toList_replicate, ← u8s_rep']; rfl) rfl (fun b42 => ?_)
        refine OW.sv (SV.storeW rfl rfl rfl (u8s_one _) rfl ((u8s_length _).trans Vector.length_toList) ((u8s_length _).trans Vector.length_toList)) ?_
        refine OW.rv (RV.assign rfl) rfl ?_
        refine OW.nil ?_
        refine QW.then_n ?_
        refine CW.seq ?_
        obtain ⟨q43, hq44, hf⟩ := some_bind hf
        refine CW.cutJ (fun L' M' => ∃ p45 : Bool, q43 = p45 ∧ L' = [(4, .bool (p45))] ∧ M' = (((((some b33), blk ((i64s ([a1] : List (Int))) ++ []) 3) :: []) ++ N))) ?_ ?_
        · rintro L47 M48 ⟨p45, e46, e49, e50⟩
          rw [e49, e50]
          clear e49 e50 L47 M48
          clear hq44
          rw [e46] at hf
          clear e46
          try dsimp only at hf
          refine QW.then_n ?_
          refine CW.ret ?_
          have e0 := Option.some.inj hf
          subst e0
          refine QW.retG (rs := [.tmp 4]) ([.bool (p45)]) ((((some b33), blk ((i64s ([a1] : List (Int))) ++ []) 3) :: [])) rfl ?_ rfl ?_ ?_ _ (.inl rfl)
          · exact ⟨rfl, trivial⟩
          · exact rfl
          · exact (fun w m => m)
        · skip
          refine CW.region ?_
          refine OW.rv (RV.loadW rfl (List.Mem.tail _ (List.Mem.head _)) rfl rfl rfl rfl ((u8s_length _).trans Vector.length_toList)) rfl ?_
          refine OW.rv (RV.move rfl) rfl ?_
          obtain ⟨g51, hq44⟩ := some_if hq44
          obtain ⟨x53, hx52, hq44⟩ := some_bind hq44
          refine OW.callG Tryd.call20 rfl (waybilllaw10_bit_does w0 (More w0 Φ (((some b33), blk ((i64s ([a1] : List (Int))) ++ []) 3) :: [])) ((some b42, blk (u8s x37.toList) 25) :: (some b6, blk (u8s x3.toList) 25) :: ((((some b33), blk ((i64s ([a1] : List (Int))) ++ []) 3) :: []) ++ N)) (fun w m => More.of hΦ 2 m rfl) x3 a1 x53 (by omega) hx52) rfl rfl ?_
          rintro _ G54 rfl
          refine OW.mem (M' := ((some b42, blk (u8s x37.toList) 25) :: (some b6, blk (u8s x3.toList) 25) :: ((((some b33), blk ((i64s ([a1] : List (Int))) ++ []) 3) :: []) ++ N))) (fun w m => m.appR) ?_
          refine OW.rv (RV.move rfl) rfl ?_
          refine OW.rv (RV.eqlB rfl rfl rfl) rfl ?_
          refine OW.slot (.bool (decide ((x53) = (p27)))) (by first | rfl | (congr 1) | simp) ?_
          refine OW.rv (RV.move rfl) rfl ?_
          by_cases h56 : (x53) = (p27)
          · replace hq44 := if_t hq44 h56
            refine OW.slot (.bool true) (congrArg Value.bool (decide_eq_true h56)) ?_
            refine OW.want rfl ?_
            refine OW.rv (RV.move rfl) rfl ?_
            refine OW.want rfl ?_
            refine OW.rv (RV.eql rfl rfl) rfl ?_
            refine OW.slot (.bool (decide (x38 = 0))) (congrArg Value.bool (decide_eq_decide.2 (by omega))) ?_
            refine OW.rv (RV.pick_t rfl rfl rfl) rfl ?_
            refine OW.rv (RV.move rfl) rfl ?_
            by_cases h57 : x38 = 0
            · replace hq44 := if_t hq44 h57
              refine OW.slot (.bool true) (congrArg Value.bool (decide_eq_true h57)) ?_
              refine OW.want rfl ?_
              refine OW.rv (RV.loadW rfl (List.Mem.head _) rfl rfl rfl rfl ((u8s_length _).trans Vector.length_toList)) rfl ?_
              refine OW.want rfl ?_
              refine OW.rv (RV.move rfl) rfl ?_
              refine OW.want rfl ?_
              obtain ⟨x59, hx58, hq44⟩ := some_bind hq44
              refine OW.callG Tryd.call20 rfl (waybilllaw10_bit_does w0 (More w0 Φ (((some b33), blk ((i64s ([a1] : List (Int))) ++ []) 3) :: [])) ((some b42, blk (u8s x37.toList) 25) :: (some b6, blk (u8s x3.toList) 25) :: ((((some b33), blk ((i64s ([a1] : List (Int))) ++ []) 3) :: []) ++ N)) (fun w m => More.of hΦ 2 m rfl) x37 a1 x59 (by omega) hx58) rfl rfl ?_
              rintro _ G60 rfl
              refine OW.mem (M' := ((some b42, blk (u8s x37.toList) 25) :: (some b6, blk (u8s x3.toList) 25) :: ((((some b33), blk ((i64s ([a1] : List (Int))) ++ []) 3) :: []) ++ N))) (fun w m => m.appR) ?_
              refine OW.rv (RV.pick_t rfl rfl rfl) rfl ?_
              refine OW.rv (RV.assign rfl) rfl ?_
              refine OW.nil ?_
              exact QW.join ⟨(x59), (Option.some.inj hq44).symm, rfl, rfl⟩ ⟨rfl, trivial⟩ (fun w m => m.pick [] 2 rfl rfl)
            · replace hq44 := if_f hq44 h57
              refine OW.slot (.bool false) (congrArg Value.bool (decide_eq_false h57)) ?_
              refine OW.skip rfl rfl rfl ?_
              refine OW.skip rfl rfl rfl ?_
              refine OW.skip rfl rfl rfl ?_
              refine OW.rv (RV.pick_f rfl rfl rfl) rfl ?_
              refine OW.rv (RV.assign rfl) rfl ?_
              refine OW.nil ?_
              exact QW.join ⟨false, (Option.some.inj hq44).symm, rfl, rfl⟩ ⟨rfl, trivial⟩ (fun w m => m.pick [] 2 rfl rfl)
          · replace hq44 := if_f hq44 h56
            refine OW.slot (.bool false) (congrArg Value.bool (decide_eq_false h56)) ?_
            refine OW.skip rfl rfl rfl ?_
            refine OW.skip rfl rfl rfl ?_
            refine OW.rv (RV.pick_f rfl rfl rfl) rfl ?_
            refine OW.rv (RV.move rfl) rfl ?_
            refine OW.skip rfl rfl rfl ?_
            refine OW.skip rfl rfl rfl ?_
            refine OW.skip rfl rfl rfl ?_
            refine OW.rv (RV.pick_f rfl rfl rfl) rfl ?_
            refine OW.rv (RV.assign rfl) rfl ?_
            refine OW.nil ?_
            exact QW.join ⟨false, (Option.some.inj hq44).symm, rfl, rfl⟩ ⟨rfl, trivial⟩ (fun w m => m.pick [] 2 rfl rfl)
      · skip
        refine CW.block ?_
        refine CW.loopJ (fun k L' M' => ∃ p62 : Bool, ∃ n63 : Nat, (waybilllaw10_BloomHolds.l1 a0 a1 x3 k p62 n63) = some q25 ∧ (n63 ≤ 9223372036854775807) ∧ L' = [(0, .slice A0_ a0.length c0_), (1, .int .i64 a1), (5, ptr (some b6) 0), (6, .bool (p62)), (7, .int .i64 ((n63 : Nat) : Int))] ∧ M' = ((some b6, blk (u8s x3.toList) 25) :: ([] ++ N))) (k0 := (a0.length - 0 + 2)) ⟨false, 0, hq26, (by omega), rfl, rfl⟩ ⟨rfl, rfl, rfl, rfl, rfl, trivial⟩ (fun w m => m.pick [0] 1 rfl rfl) ?_
        clear hq26
        rintro k65 L68 M69 ⟨p62, n63, hl66, b64, e70, e71⟩
        rw [e70, e71]
        clear e70 e71 L68 M69
        rcases k65 with _ | k65
        · rw [waybilllaw10_BloomHolds.l1] at hl66; cases hl66
        rw [waybilllaw10_BloomHolds.l1] at hl66
        refine CW.seq ?_
        refine CW.seq ?_
        refine CW.region ?_
        refine OW.rv (RV.move rfl) rfl ?_
        refine OW.rv (RV.move rfl) rfl ?_
        refine OW.rv (RV.len rfl rfl) rfl ?_
        refine OW.rv (RV.lss rfl rfl) rfl ?_
        refine OW.slot (.bool (decide (n63 < a0.length))) (congrArg Value.bool (decide_eq_decide.2 (by omega))) ?_
        refine OW.nil ?_
        refine QW.then_n ?_
        by_cases h72 : n63 < a0.length
        · replace hl66 := if_t hl66 h72
          refine CW.is_t rfl (decide_eq_true h72) ?_
          refine CW.skip ?_
          refine QW.then_n ?_
          refine CW.seq ?_
          refine CW.block ?_
          refine CW.seq ?_
          refine CW.region ?_
          refine OW.rv (RV.move rfl) rfl ?_
          refine OW.rv (RV.move rfl) rfl ?_
          obtain ⟨x73, hx74, hl66⟩ := some_bind hl66
          have hl75 := lt_of_at hx74
          refine OW.rv (RV.idx_r (n63) rfl rfl rfl rfl rfl (va0.isSome (by decide) hl75) (by omega)) rfl ?_
          obtain ⟨cs76, h77, h78⟩ := ha0.get BsRd.len hx74
          obtain ⟨A79, c80, e82, v81⟩ := h77
          subst e82
          have m83 := v81.mx
          refine OW.rv (RV.load_at rfl rfl rfl (fun w m => by have := va0.load (More.of hΦ 1 m rfl) h78 0 _ rfl; simpa [Addr.add] using this)) rfl ?_
          obtain ⟨x85, hx84, hl66⟩ := some_bind hl66
          refine OW.callG Tryd.call13 rfl (bloom_Places_does w0 (More w0 Φ []) ((some b6, blk (u8s x3.toList) 25) :: ([] ++ N)) (fun w m => More.of hΦ 1 m rfl) A79 c80 x73 x85 v81 hg0 hx84) rfl rfl ?_
          rintro _ G86 rfl
          refine OW.mem (M' := ((some b6, blk (u8s x3.toList) 25) :: ([] ++ N))) (fun w m => m.appR) ?_
          refine OW.alloc (l := (i64s (Vector.replicate 3 0).toList)) rfl (by rw [Vector.toList_replicate, ← i64s_rep]; rfl) rfl (fun b88 => ?_)
          refine OW.sv (SV.storeW rfl rfl rfl (i64s_one _) rfl ((i64s_length _).trans Vector.length_toList) ((i64s_length _).trans Vector.length_toList)) ?_
          refine OW.nil ?_
          refine QW.then_n ?_
          refine CW.seq ?_
          obtain ⟨q89, hq90, hl66⟩ := some_bind hl66
          refine CW.cutJ (fun L' M' => ∃ p91 : Bool, q89 = p91 ∧ L' = [(0, .slice A0_ a0.length c0_), (1, .int .i64 a1), (5, ptr (some b6) 0), (6, .bool (p91)), (7, .int .i64 ((n63 : Nat) : Int)), (8, ptr (some b88) 0)] ∧ M' = ((some b88, blk (i64s x85.toList) 32) :: (some b6, blk (u8s x3.toList) 25) :: ([] ++ N))) ?_ ?_
          · rintro L93 M94 ⟨p91, e92, e95, e96⟩
            rw [e95, e96]
            clear e95 e96 L93 M94
            clear hq90
            rw [e92] at hl66
            clear e92
            try dsimp only at hl66
            refine QW.then_n ?_
            refine CW.seq ?_
            obtain ⟨q97, hq98, hl66⟩ := some_bind hl66
            refine CW.cutJ (fun L' M' => ∃ p99 : Bool, q97 = p99 ∧ L' = [(0, .slice A0_ a0.length c0_), (1, .int .i64 a1), (5, ptr (some b6) 0), (6, .bool (p91)), (7, .int .i64 ((n63 : Nat) : Int)), (105, .bool (p99))] ∧ M' = ((some b6, blk (u8s x3.toList) 25) :: ([] ++ N))) ?_ ?_
            · rintro L101 M102 ⟨p99, e100, e103, e104⟩
              rw [e103, e104]
              clear e103 e104 L101 M102
              clear hq98
              rw [e100] at hl66
              clear e100
              try dsimp only at hl66
              refine QW.then_n ?_
              by_cases h105 : p99 = true
              · replace hl66 := if_t hl66 h105
                refine CW.is_t rfl (h105) ?_
                refine CW.seq ?_
                refine CW.region ?_
                refine OW.rv (RV.assign rfl) rfl ?_
                refine OW.nil ?_
                refine QW.then_n ?_
                refine CW.ret ?_
                refine QW.block_r ?_
                refine QW.then_r ?_
                refine QW.then_r ?_
                refine QW.block_r ?_
                refine QW.then_r ?_
                have hc := Option.some.inj hl66
                subst hc
                try dsimp only at hf
                refine QW.then_r ?_
                have e0 := Option.some.inj hf
                subst e0
                refine QW.retG (rs := [.tmp 4]) ([.bool false]) ((some b6, blk (u8s x3.toList) 25) :: []) rfl ?_ rfl ?_ ?_ _ (.inl rfl)
                · exact ⟨rfl, trivial⟩
                · exact rfl
                · exact (fun w m => m)
              · replace hl66 := if_f hl66 h105
                refine CW.is_f rfl (Bool.eq_false_iff.2 h105) ?_
                refine CW.skip ?_
                refine QW.block_n ?_
                refine QW.then_n ?_
                refine CW.region ?_
                refine OW.rv (RV.move rfl) rfl ?_
                refine OW.rv (RV.add rfl rfl (by omega)) rfl ?_
                refine OW.slot (.int .i64 (((n63 + 1) : Nat) : Int)) (by first | rfl | (congr 1) | (congr 1; omega)) ?_
                refine OW.rv (RV.assign rfl) rfl ?_
                refine OW.nil ?_
                exact QW.againJ (k' := k65) (Nat.lt_succ_self _) ⟨(p91), (n63 + 1), hl66, (by omega), rfl, rfl⟩ ⟨rfl, rfl, rfl, rfl, rfl, trivial⟩ (fun w m => m.pick [0] 1 rfl rfl)
            · skip
              refine CW.region ?_
              refine OW.rv (RV.idx_a (0) rfl rfl rfl rfl rfl (by omega)) rfl ?_
              refine OW.rv (RV.load rfl (List.Mem.head _) rfl rfl rfl (i64s_at (vat' (by decide)))) rfl ?_
              refine OW.rv (RV.lss rfl rfl) rfl ?_
              refine OW.rv (RV.move rfl) rfl ?_
              by_cases h106 : x85[0] < (0 : Int)
              · replace hq98 := if_t hq98 h106
                refine OW.slot (.bool true) (congrArg Value.bool (decide_eq_true h106)) ?_
                refine OW.skip rfl rfl rfl ?_
                refine OW.skip rfl rfl rfl ?_
                refine OW.skip rfl rfl rfl ?_
                refine OW.rv (RV.pick_t rfl rfl rfl) rfl ?_
                refine OW.rv (RV.move rfl) rfl ?_
                refine OW.skip rfl rfl rfl ?_
                refine OW.skip rfl rfl rfl ?_
                refine OW.skip rfl rfl rfl ?_
                refine OW.rv (RV.pick_t rfl rfl rfl) rfl ?_
                refine OW.rv (RV.move rfl) rfl ?_
                refine OW.skip rfl rfl rfl ?_
                refine OW.skip rfl rfl rfl ?_
                refine OW.skip rfl rfl rfl ?_
                refine OW.rv (RV.pick_t rfl rfl rfl) rfl ?_
                refine OW.rv (RV.move rfl) rfl ?_
                refine OW.skip rfl rfl rfl ?_
                refine OW.skip rfl rfl rfl ?_
                refine OW.skip rfl rfl rfl ?_
                refine OW.rv (RV.pick_t rfl rfl rfl) rfl ?_
                refine OW.rv (RV.move rfl) rfl ?_
                refine OW.skip rfl rfl rfl ?_
                refine OW.skip rfl rfl rfl ?_
                refine OW.skip rfl rfl rfl ?_
                refine OW.rv (RV.pick_t rfl rfl rfl) rfl ?_
                refine OW.rv (RV.move rfl) rfl ?_
                refine OW.skip rfl rfl rfl ?_
                refine OW.skip rfl rfl rfl ?_
                refine OW.skip rfl rfl rfl ?_
                refine OW.skip rfl rfl rfl ?_
                refine OW.skip rfl rfl rfl ?_
                refine OW.rv (RV.pick_t rfl rfl rfl) rfl ?_
                refine OW.rv (RV.move rfl) rfl ?_
                refine OW.skip rfl rfl rfl ?_
                refine OW.skip rfl rfl rfl ?_
                refine OW.skip rfl rfl rfl ?_
                refine OW.skip rfl rfl rfl ?_
                refine OW.skip rfl rfl rfl ?_
                refine OW.rv (RV.pick_t rfl rfl rfl) rfl ?_
                refine OW.rv (RV.move rfl) rfl ?_
                refine OW.skip rfl rfl rfl ?_
                refine OW.skip rfl rfl rfl ?_
                refine OW.skip rfl rfl rfl ?_
                refine OW.skip rfl rfl rfl ?_
                refine OW.skip rfl rfl rfl ?_
                refine OW.rv (RV.pick_t rfl rfl rfl) rfl ?_
                refine OW.nil ?_
                exact QW.join ⟨true, (Option.some.inj hq98).symm, rfl, rfl⟩ ⟨rfl, rfl, rfl, rfl, rfl, rfl, trivial⟩ (fun w m => m.pick [1] 2 rfl rfl)
              · replace hq98 := if_f hq98 h106
                refine OW.slot (.bool false) (congrArg Value.bool (decide_eq_false h106)) ?_
                refine OW.want rfl ?_
                refine OW.rv (RV.idx_a (0) rfl rfl rfl rfl rfl (by omega)) rfl ?_
                refine OW.want rfl ?_
                refine OW.rv (RV.load rfl (List.Mem.head _) rfl rfl rfl (i64s_at (vat' (by decide)))) rfl ?_
                refine OW.want rfl ?_
                refine OW.rv (RV.gtr rfl rfl) rfl ?_
                refine OW.rv (RV.pick_f rfl rfl rfl) rfl ?_
                refine OW.rv (RV.move rfl) rfl ?_
                by_cases h107 : (2047 : Int) < x85[0]
                · replace hq98 := if_t hq98 h107
                  refine OW.slot (.bool true) (congrArg Value.bool (decide_eq_true h107)) ?_
                  refine OW.skip rfl rfl rfl ?_
                  refine OW.skip rfl rfl rfl ?_
                  refine OW.skip rfl rfl rfl ?_
                  refine OW.rv (RV.pick_t rfl rfl rfl) rfl ?_
                  refine OW.rv (RV.move rfl) rfl ?_
                  refine OW.skip rfl rfl rfl ?_
                  refine OW.skip rfl rfl rfl ?_
                  refine OW.skip rfl rfl rfl ?_
                  refine OW.rv (RV.pick_t rfl rfl rfl) rfl ?_
                  refine OW.rv (RV.move rfl) rfl ?_
                  refine OW.skip rfl rfl rfl ?_
                  refine OW.skip rfl rfl rfl ?_
                  refine OW.skip rfl rfl rfl ?_
                  refine OW.rv (RV.pick_t rfl rfl rfl) rfl ?_
                  refine OW.rv (RV.move rfl) rfl ?_
                  refine OW.skip rfl rfl rfl ?_
                  refine OW.skip rfl rfl rfl ?_
                  refine OW.skip rfl rfl rfl ?_
                  refine OW.rv (RV.pick_t rfl rfl rfl) rfl ?_
                  refine OW.rv (RV.move rfl) rfl ?_
                  refine OW.skip rfl rfl rfl ?_
                  refine OW.skip rfl rfl rfl ?_
                  refine OW.skip rfl rfl rfl ?_
                  refine OW.skip rfl rfl rfl ?_
                  refine OW.skip rfl rfl rfl ?_
                  refine OW.rv (RV.pick_t rfl rfl rfl) rfl ?_
                  refine OW.rv (RV.move rfl) rfl ?_
                  refine OW.skip rfl rfl rfl ?_
                  refine OW.skip rfl rfl rfl ?_
                  refine OW.skip rfl rfl rfl ?_
                  refine OW.skip rfl rfl rfl ?_
                  refine OW.skip rfl rfl rfl ?_
                  refine OW.rv (RV.pick_t rfl rfl rfl) rfl ?_
                  refine OW.rv (RV.move rfl) rfl ?_
                  refine OW.skip rfl rfl rfl ?_
                  refine OW.skip rfl rfl rfl ?_
                  refine OW.skip rfl rfl rfl ?_
                  refine OW.skip rfl rfl rfl ?_
                  refine OW.skip rfl rfl rfl ?_
                  refine OW.rv (RV.pick_t rfl rfl rfl) rfl ?_
                  refine OW.nil ?_
                  exact QW.join ⟨true, (Option.some.inj hq98).symm, rfl, rfl⟩ ⟨rfl, rfl, rfl, rfl, rfl, rfl, trivial⟩ (fun w m => m.pick [1] 2 rfl rfl)
                · replace hq98 := if_f hq98 h107
                  refine OW.slot (.bool false) (congrArg Value.bool (decide_eq_false h107)) ?_
                  refine OW.want rfl ?_
                  refine OW.rv (RV.idx_a (1) rfl rfl rfl rfl rfl (by omega)) rfl ?_
                  refine OW.want rfl ?_
                  refine OW.rv (RV.load rfl (List.Mem.head _) rfl rfl rfl (i64s_at (vat' (by decide)))) rfl ?_
                  refine OW.want rfl ?_
                  refine OW.rv (RV.lss rfl rfl) rfl ?_
                  refine OW.rv (RV.pick_f rfl rfl rfl) rfl ?_
                  refine OW.rv (RV.move rfl) rfl ?_
                  by_cases h108 : x85[1] < (0 : Int)
                  · replace hq98 := if_t hq98 h108
                    refine OW.slot (.bool true) (congrArg Value.bool (decide_eq_true h108)) ?_
                    refine OW.skip rfl rfl rfl ?_
                    refine OW.skip rfl rfl rfl ?_
                    refine OW.skip rfl rfl rfl ?_
                    refine OW.rv (RV.pick_t rfl rfl rfl) rfl ?_
                    refine OW.rv (RV.move rfl) rfl ?_
                    refine OW.skip rfl rfl rfl ?_
                    refine OW.skip rfl rfl rfl ?_
                    refine OW.skip rfl rfl rfl ?_
                    refine OW.rv (RV.pick_t rfl rfl rfl) rfl ?_
                    refine OW.rv (RV.move rfl) rfl ?_
                    refine OW.skip rfl rfl rfl ?_
                    refine OW.skip rfl rfl rfl ?_
                    refine OW.skip rfl rfl rfl ?_
                    refine OW.rv (RV.pick_t rfl rfl rfl) rfl ?_
                    refine OW.rv (RV.move rfl) rfl ?_
                    refine OW.skip rfl rfl rfl ?_
                    refine OW.skip rfl rfl rfl ?_
                    refine OW.skip rfl rfl rfl ?_
                    refine OW.skip rfl rfl rfl ?_
                    refine OW.skip rfl rfl rfl ?_
                    refine OW.rv (RV.pick_t rfl rfl rfl) rfl ?_
                    refine OW.rv (RV.move rfl) rfl ?_
                    refine OW.skip rfl rfl rfl ?_
                    refine OW.skip rfl rfl rfl ?_
                    refine OW.skip rfl rfl rfl ?_
                    refine OW.skip rfl rfl rfl ?_
                    refine OW.skip rfl rfl rfl ?_
                    refine OW.rv (RV.pick_t rfl rfl rfl) rfl ?_
                    refine OW.rv (RV.move rfl) rfl ?_
                    refine OW.skip rfl rfl rfl ?_
                    refine OW.skip rfl rfl rfl ?_
                    refine OW.skip rfl rfl rfl ?_
                    refine OW.skip rfl rfl rfl ?_
                    refine OW.skip rfl rfl rfl ?_
                    refine OW.rv (RV.pick_t rfl rfl rfl) rfl ?_
                    refine OW.nil ?_
                    exact QW.join ⟨true, (Option.some.inj hq98).symm, rfl, rfl⟩ ⟨rfl, rfl, rfl, rfl, rfl, rfl, trivial⟩ (fun w m => m.pick [1] 2 rfl rfl)
                  · replace hq98 := if_f hq98 h108
                    refine OW.slot (.bool false) (congrArg Value.bool (decide_eq_false h108)) ?_
                    refine OW.want rfl ?_
                    refine OW.rv (RV.idx_a (1) rfl rfl rfl rfl rfl (by omega)) rfl ?_
                    refine OW.want rfl ?_
                    refine OW.rv (RV.load rfl (List.Mem.head _) rfl rfl rfl (i64s_at (vat' (by decide)))) rfl ?_
                    refine OW.want rfl ?_
                    refine OW.rv (RV.gtr rfl rfl) rfl ?_
                    refine OW.rv (RV.pick_f rfl rfl rfl) rfl ?_
                    refine OW.rv (RV.move rfl) rfl ?_
                    by_cases h109 : (2047 : Int) < x85[1]
                    · replace hq98 := if_t hq98 h109
                      refine OW.slot (.bool true) (congrArg Value.bool (decide_eq_true h109)) ?_
                      refine OW.skip rfl rfl rfl ?_
                      refine OW.skip rfl rfl rfl ?_
                      refine OW.skip rfl rfl rfl ?_
                      refine OW.rv (RV.pick_t rfl rfl rfl) rfl ?_
                      refine OW.rv (RV.move rfl) rfl ?_
                      refine OW.skip rfl rfl rfl ?_
                      refine OW.skip rfl rfl rfl ?_
                      refine OW.skip rfl rfl rfl ?_
                      refine OW.rv (RV.pick_t rfl rfl rfl) rfl ?_
                      refine OW.rv (RV.move rfl) rfl ?_
                      refine OW.skip rfl rfl rfl ?_
                      refine OW.skip rfl rfl rfl ?_
                      refine OW.skip rfl rfl rfl ?_
                      refine OW.skip rfl rfl rfl ?_
                      refine OW.skip rfl rfl rfl ?_
                      refine OW.rv (RV.pick_t rfl rfl rfl) rfl ?_
                      refine OW.rv (RV.move rfl) rfl ?_
                      refine OW.skip rfl rfl rfl ?_
                      refine OW.skip rfl rfl rfl ?_
                      refine OW.skip rfl rfl rfl ?_
                      refine OW.skip rfl rfl rfl ?_
                      refine OW.skip rfl rfl rfl ?_
                      refine OW.rv (RV.pick_t rfl rfl rfl) rfl ?_
                      refine OW.rv (RV.move rfl) rfl ?_
                      refine OW.skip rfl rfl rfl ?_
                      refine OW.skip rfl rfl rfl ?_
                      refine OW.skip rfl rfl rfl ?_
                      refine OW.skip rfl rfl rfl ?_
                      refine OW.skip rfl rfl rfl ?_
                      refine OW.rv (RV.pick_t rfl rfl rfl) rfl ?_
                      refine OW.nil ?_
                      exact QW.join ⟨true, (Option.some.inj hq98).symm, rfl, rfl⟩ ⟨rfl, rfl, rfl, rfl, rfl, rfl, trivial⟩ (fun w m => m.pick [1] 2 rfl rfl)
                    · replace hq98 := if_f hq98 h109
                      refine OW.slot (.bool false) (congrArg Value.bool (decide_eq_false h109)) ?_
                      refine OW.want rfl ?_
                      refine OW.rv (RV.idx_a (2) rfl rfl rfl rfl rfl (by omega)) rfl ?_
                      refine OW.want rfl ?_
                      refine OW.rv (RV.load rfl (List.Mem.head _) rfl rfl rfl (i64s_at (vat' (by decide)))) rfl ?_
                      refine OW.want rfl ?_
                      refine OW.rv (RV.lss rfl rfl) rfl ?_
                      refine OW.rv (RV.pick_f rfl rfl rfl) rfl ?_
                      refine OW.rv (RV.move rfl) rfl ?_
                      by_cases h110 : x85[2] < (0 : Int)
                      · replace hq98 := if_t hq98 h110
                        refine OW.slot (.bool true) (congrArg Value.bool (decide_eq_true h110)) ?_
                        refine OW.skip rfl rfl rfl ?_
                        refine OW.skip rfl rfl rfl ?_
                        refine OW.skip rfl rfl rfl ?_
                        refine OW.rv (RV.pick_t rfl rfl rfl) rfl ?_
                        refine OW.rv (RV.move rfl) rfl ?_
                        refine OW.skip rfl rfl rfl ?_
                        refine OW.skip rfl rfl rfl ?_
                        refine OW.skip rfl rfl rfl ?_
                        refine OW.skip rfl rfl rfl ?_
                        refine OW.skip rfl rfl rfl ?_
                        refine OW.rv (RV.pick_t rfl rfl rfl) rfl ?_
                        refine OW.rv (RV.move rfl) rfl ?_
                        refine OW.skip rfl rfl rfl ?_
                        refine OW.skip rfl rfl rfl ?_
                        refine OW.skip rfl rfl rfl ?_
                        refine OW.skip rfl rfl rfl ?_
                        refine OW.skip rfl rfl rfl ?_
                        refine OW.rv (RV.pick_t rfl rfl rfl) rfl ?_
                        refine OW.rv (RV.move rfl) rfl ?_
                        refine OW.skip rfl rfl rfl ?_
                        refine OW.skip rfl rfl rfl ?_
                        refine OW.skip rfl rfl rfl ?_
                        refine OW.skip rfl rfl rfl ?_
                        refine OW.skip rfl rfl rfl ?_
                        refine OW.rv (RV.pick_t rfl rfl rfl) rfl ?_
                        refine OW.nil ?_
                        exact QW.join ⟨true, (Option.some.inj hq98).symm, rfl, rfl⟩ ⟨rfl, rfl, rfl, rfl, rfl, rfl, trivial⟩ (fun w m => m.pick [1] 2 rfl rfl)
                      · replace hq98 := if_f hq98 h110
                        refine OW.slot (.bool false) (congrArg Value.bool (decide_eq_false h110)) ?_
                        refine OW.want rfl ?_
                        refine OW.rv (RV.idx_a (2) rfl rfl rfl rfl rfl (by omega)) rfl ?_
                        refine OW.want rfl ?_
                        refine OW.rv (RV.load rfl (List.Mem.head _) rfl rfl rfl (i64s_at (vat' (by decide)))) rfl ?_
                        refine OW.want rfl ?_
                        refine OW.rv (RV.gtr rfl rfl) rfl ?_
                        refine OW.rv (RV.pick_f rfl rfl rfl) rfl ?_
                        refine OW.rv (RV.move rfl) rfl ?_
                        by_cases h111 : (2047 : Int) < x85[2]
                        · replace hq98 := if_t hq98 h111
                          refine OW.slot (.bool true) (congrArg Value.bool (decide_eq_true h111)) ?_
                          refine OW.skip rfl rfl rfl ?_
                          refine OW.skip rfl rfl rfl ?_
                          refine OW.skip rfl rfl rfl ?_
                          refine OW.skip rfl rfl rfl ?_
                          refine OW.skip rfl rfl rfl ?_
                          refine OW.rv (RV.pick_t rfl rfl rfl) rfl ?_
                          refine OW.rv (RV.move rfl) rfl ?_
                          refine OW.skip rfl rfl rfl ?_
                          refine OW.skip rfl rfl rfl ?_
                          refine OW.skip rfl rfl rfl ?_
                          refine OW.skip rfl rfl rfl ?_
                          refine OW.skip rfl rfl rfl ?_
                          refine OW.rv (RV.pick_t rfl rfl rfl) rfl ?_
                          refine OW.rv (RV.move rfl) rfl ?_
                          refine OW.skip rfl rfl rfl ?_
                          refine OW.skip rfl rfl rfl ?_
                          refine OW.skip rfl rfl rfl ?_
                          refine OW.skip rfl rfl rfl ?_
                          refine OW.skip rfl rfl rfl ?_
                          refine OW.rv (RV.pick_t rfl rfl rfl) rfl ?_
                          refine OW.nil ?_
                          exact QW.join ⟨true, (Option.some.inj hq98).symm, rfl, rfl⟩ ⟨rfl, rfl, rfl, rfl, rfl, rfl, trivial⟩ (fun w m => m.pick [1] 2 rfl rfl)
                        · replace hq98 := if_f hq98 h111
                          refine OW.slot (.bool false) (congrArg Value.bool (decide_eq_false h111)) ?_
                          refine OW.want rfl ?_
                          refine OW.rv (RV.loadW rfl (List.Mem.tail _ (List.Mem.head _)) rfl rfl rfl rfl ((u8s_length _).trans Vector.length_toList)) rfl ?_
                          refine OW.want rfl ?_
                          refine OW.rv (RV.idx_a (0) rfl rfl rfl rfl rfl (by omega)) rfl ?_
                          refine OW.want rfl ?_
                          refine OW.rv (RV.load rfl (List.Mem.head _) rfl rfl rfl (i64s_at (vat' (by decide)))) rfl ?_
                          refine OW.want rfl ?_
                          obtain ⟨g112, hq98⟩ := some_if hq98
                          obtain ⟨x114, hx113, hq98⟩ := some_bind hq98
                          refine OW.callG Tryd.call20 rfl (waybilllaw10_bit_does w0 (More w0 Φ []) ((some b88, blk (i64s x85.toList) 32) :: (some b6, blk (u8s x3.toList) 25) :: ([] ++ N)) (fun w m => More.of hΦ 2 m rfl) x3 (x85[0]) x114 (by omega) hx113) rfl rfl ?_
                          rintro _ G115 rfl
                          refine OW.mem (M' := ((some b88, blk (i64s x85.toList) 32) :: (some b6, blk (u8s x3.toList) 25) :: ([] ++ N))) (fun w m => m.appR) ?_
                          refine OW.want rfl ?_
                          refine OW.rv (RV.not rfl) rfl ?_
                          refine OW.rv (RV.pick_f rfl rfl rfl) rfl ?_
                          refine OW.rv (RV.move rfl) rfl ?_
                          by_cases h117 : x114 = true
                          · replace hq98 := if_t hq98 h117
                            refine OW.slot (.bool false) (congrArg Value.bool (congrArg (fun b => !b) (h117))) ?_
                            refine OW.want rfl ?_
                            refine OW.rv (RV.loadW rfl (List.Mem.tail _ (List.Mem.head _)) rfl rfl rfl rfl ((u8s_length _).trans Vector.length_toList)) rfl ?_
                            refine OW.want rfl ?_
                            refine OW.rv (RV.idx_a (1) rfl rfl rfl rfl rfl (by omega)) rfl ?_
                            refine OW.want rfl ?_
                            refine OW.rv (RV.load rfl (List.Mem.head _) rfl rfl rfl (i64s_at (vat' (by decide)))) rfl ?_
                            refine OW.want rfl ?_
                            obtain ⟨g118, hq98⟩ := some_if hq98
                            obtain ⟨x120, hx119, hq98⟩ := some_bind hq98
                            refine OW.callG Tryd.call20 rfl (waybilllaw10_bit_does w0 (More w0 Φ []) ((some b88, blk (i64s x85.toList) 32) :: (some b6, blk (u8s x3.toList) 25) :: ([] ++ N)) (fun w m => More.of hΦ 2 m rfl) x3 (x85[1]) x120 (by omega) hx119) rfl rfl ?_
                            rintro _ G121 rfl
                            refine OW.mem (M' := ((some b88, blk (i64s x85.toList) 32) :: (some b6, blk (u8s x3.toList) 25) :: ([] ++ N))) (fun w m => m.appR) ?_
                            refine OW.want rfl ?_
                            refine OW.rv (RV.not rfl) rfl ?_
                            refine OW.rv (RV.pick_f rfl rfl rfl) rfl ?_
                            refine OW.rv (RV.move rfl) rfl ?_
                            by_cases h123 : x120 = true
                            · replace hq98 := if_t hq98 h123
                              refine OW.slot (.bool false) (congrArg Value.bool (congrArg (fun b => !b) (h123))) ?_
                              refine OW.want rfl ?_
                              refine OW.rv (RV.loadW rfl (List.Mem.tail _ (List.Mem.head _)) rfl rfl rfl rfl ((u8s_length _).trans Vector.length_toList)) rfl ?_
                              refine OW.want rfl ?_
                              refine OW.rv (RV.idx_a (2) rfl rfl rfl rfl rfl (by omega)) rfl ?_
                              refine OW.want rfl ?_
                              refine OW.rv (RV.load rfl (List.Mem.head _) rfl rfl rfl (i64s_at (vat' (by decide)))) rfl ?_
                              refine OW.want rfl ?_
                              obtain ⟨g124, hq98⟩ := some_if hq98
                              obtain ⟨x126, hx125, hq98⟩ := some_bind hq98
                              refine OW.callG Tryd.call20 rfl (waybilllaw10_bit_does w0 (More w0 Φ []) ((some b88, blk (i64s x85.toList) 32) :: (some b6, blk (u8s x3.toList) 25) :: ([] ++ N)) (fun w m => More.of hΦ 2 m rfl) x3 (x85[2]) x126 (by omega) hx125) rfl rfl ?_
                              rintro _ G127 rfl
                              refine OW.mem (M' := ((some b88, blk (i64s x85.toList) 32) :: (some b6, blk (u8s x3.toList) 25) :: ([] ++ N))) (fun w m => m.appR) ?_
                              refine OW.want rfl ?_
                              refine OW.rv (RV.not rfl) rfl ?_
                              refine OW.rv (RV.pick_f rfl rfl rfl) rfl ?_
                              refine OW.nil ?_
                              exact QW.join ⟨(!x126), (Option.some.inj hq98).symm, rfl, rfl⟩ ⟨rfl, rfl, rfl, rfl, rfl, rfl, trivial⟩ (fun w m => m.pick [1] 2 rfl rfl)
                            · replace hq98 := if_f hq98 h123
                              refine OW.slot (.bool true) (congrArg Value.bool (congrArg (fun b => !b) (Bool.eq_false_iff.2 h123))) ?_
                              refine OW.skip rfl rfl rfl ?_
                              refine OW.skip rfl rfl rfl ?_
                              refine OW.skip rfl rfl rfl ?_
                              refine OW.skip rfl rfl rfl ?_
                              refine OW.skip rfl rfl rfl ?_
                              refine OW.rv (RV.pick_t rfl rfl rfl) rfl ?_
                              refine OW.nil ?_
                              exact QW.join ⟨true, (Option.some.inj hq98).symm, rfl, rfl⟩ ⟨rfl, rfl, rfl, rfl, rfl, rfl, trivial⟩ (fun w m => m.pick [1] 2 rfl rfl)
                          · replace hq98 := if_f hq98 h117
                            refine OW.slot (.bool true) (congrArg Value.bool (congrArg (fun b => !b) (Bool.eq_false_iff.2 h117))) ?_
                            refine OW.skip rfl rfl rfl ?_
                            refine OW.skip rfl rfl rfl ?_
                            refine OW.skip rfl rfl rfl ?_
                            refine OW.skip rfl rfl rfl ?_
                            refine OW.skip rfl rfl rfl ?_
                            refine OW.rv (RV.pick_t rfl rfl rfl) rfl ?_
                            refine OW.rv (RV.move rfl) rfl ?_
                            refine OW.skip rfl rfl rfl ?_
                            refine OW.skip rfl rfl rfl ?_
                            refine OW.skip rfl rfl rfl ?_
                            refine OW.skip rfl rfl rfl ?_
                            refine OW.skip rfl rfl rfl ?_
                            refine OW.rv (RV.pick_t rfl rfl rfl) rfl ?_
                            refine OW.nil ?_
                            exact QW.join ⟨true, (Option.some.inj hq98).symm, rfl, rfl⟩ ⟨rfl, rfl, rfl, rfl, rfl, rfl, trivial⟩ (fun w m => m.pick [1] 2 rfl rfl)
          · skip
            refine CW.region ?_
            refine OW.rv (RV.move rfl) rfl ?_
            refine OW.rv (RV.move rfl) rfl ?_
            by_cases h129 : p62 = true
            · replace hq90 := if_t hq90 h129
              refine OW.slot (.bool true) (congrArg Value.bool (h129)) ?_
              refine OW.skip rfl rfl rfl ?_
              refine OW.skip rfl rfl rfl ?_
              refine OW.skip rfl rfl rfl ?_
              refine OW.skip rfl rfl rfl ?_
              refine OW.rv (RV.pick_t rfl rfl rfl) rfl ?_
              refine OW.rv (RV.move rfl) rfl ?_
              refine OW.skip rfl rfl rfl ?_
              refine OW.skip rfl rfl rfl ?_
              refine OW.skip rfl rfl rfl ?_
              refine OW.skip rfl rfl rfl ?_
              refine OW.rv (RV.pick_t rfl rfl rfl) rfl ?_
              refine OW.rv (RV.move rfl) rfl ?_
              refine OW.skip rfl rfl rfl ?_
              refine OW.skip rfl rfl rfl ?_
              refine OW.skip rfl rfl rfl ?_
              refine OW.skip rfl rfl rfl ?_
              refine OW.rv (RV.pick_t rfl rfl rfl) rfl ?_
              refine OW.rv (RV.assign rfl) rfl ?_
              refine OW.nil ?_
              exact QW.join ⟨true, (Option.some.inj hq90).symm, rfl, rfl⟩ ⟨rfl, rfl, rfl, rfl, rfl, rfl, trivial⟩ (fun w m => m.pick [0, 1] 2 rfl rfl)
            · replace hq90 := if_f hq90 h129
              refine OW.slot (.bool false) (congrArg Value.bool (Bool.eq_false_iff.2 h129)) ?_
              refine OW.want rfl ?_
              refine OW.rv (RV.idx_a (0) rfl rfl rfl rfl rfl (by omega)) rfl ?_
              refine OW.want rfl ?_
              refine OW.rv (RV.load rfl (List.Mem.head _) rfl rfl rfl (i64s_at (vat' (by decide)))) rfl ?_
              refine OW.want rfl ?_
              refine OW.rv (RV.move rfl) rfl ?_
              refine OW.want rfl ?_
              refine OW.rv (RV.eql rfl rfl) rfl ?_
              refine OW.rv (RV.pick_f rfl rfl rfl) rfl ?_
              refine OW.rv (RV.move rfl) rfl ?_
              by_cases h130 : x85[0] = a1
              · replace hq90 := if_t hq90 h130
                refine OW.slot (.bool true) (congrArg Value.bool (decide_eq_true h130)) ?_
                refine OW.skip rfl rfl rfl ?_
                refine OW.skip rfl rfl rfl ?_
                refine OW.skip rfl rfl rfl ?_
                refine OW.skip rfl rfl rfl ?_
                refine OW.rv (RV.pick_t rfl rfl rfl) rfl ?_
                refine OW.rv (RV.move rfl) rfl ?_
                refine OW.skip rfl rfl rfl ?_
                refine OW.skip rfl rfl rfl ?_
                refine OW.skip rfl rfl rfl ?_
                refine OW.skip rfl rfl rfl ?_
                refine OW.rv (RV.pick_t rfl rfl rfl) rfl ?_
                refine OW.rv (RV.assign rfl) rfl ?_
                refine OW.nil ?_
                exact QW.join ⟨true, (Option.some.inj hq90).symm, rfl, rfl⟩ ⟨rfl, rfl, rfl, rfl, rfl, rfl, trivial⟩ (fun w m => m.pick [0, 1] 2 rfl rfl)
              · replace hq90 := if_f hq90 h130
                refine OW.slot (.bool false) (congrArg Value.bool (decide_eq_false h130)) ?_
                refine OW.want rfl ?_
                refine OW.rv (RV.idx_a (1) rfl rfl rfl rfl rfl (by omega)) rfl ?_
                refine OW.want rfl ?_
                refine OW.rv (RV.load rfl (List.Mem.head _) rfl rfl rfl (i64s_at (vat' (by decide)))) rfl ?_
                refine OW.want rfl ?_
                refine OW.rv (RV.move rfl) rfl ?_
                refine OW.want rfl ?_
                refine OW.rv (RV.eql rfl rfl) rfl ?_
                refine OW.rv (RV.pick_f rfl rfl rfl) rfl ?_
                refine OW.rv (RV.move rfl) rfl ?_
                by_cases h131 : x85[1] = a1
                · replace hq90 := if_t hq90 h131
                  refine OW.slot (.bool true) (congrArg Value.bool (decide_eq_true h131)) ?_
                  refine OW.skip rfl rfl rfl ?_
                  refine OW.skip rfl rfl rfl ?_
                  refine OW.skip rfl rfl rfl ?_
                  refine OW.skip rfl rfl rfl ?_
                  refine OW.rv (RV.pick_t rfl rfl rfl) rfl ?_
                  refine OW.rv (RV.assign rfl) rfl ?_
                  refine OW.nil ?_
                  exact QW.join ⟨true, (Option.some.inj hq90).symm, rfl, rfl⟩ ⟨rfl, rfl, rfl, rfl, rfl, rfl, trivial⟩ (fun w m => m.pick [0, 1] 2 rfl rfl)
                · replace hq90 := if_f hq90 h131
                  refine OW.slot (.bool false) (congrArg Value.bool (decide_eq_false h131)) ?_
                  refine OW.want rfl ?_
                  refine OW.rv (RV.idx_a (2) rfl rfl rfl rfl rfl (by omega)) rfl ?_
                  refine OW.want rfl ?_
                  refine OW.rv (RV.load rfl (List.Mem.head _) rfl rfl rfl (i64s_at (vat' (by decide)))) rfl ?_
                  refine OW.want rfl ?_
                  refine OW.rv (RV.move rfl) rfl ?_
                  refine OW.want rfl ?_
                  refine OW.rv (RV.eql rfl rfl) rfl ?_
                  refine OW.rv (RV.pick_f rfl rfl rfl) rfl ?_
                  refine OW.rv (RV.assign rfl) rfl ?_
                  refine OW.nil ?_
                  exact QW.join ⟨(decide (x85[2] = a1)), (Option.some.inj hq90).symm, rfl, rfl⟩ ⟨rfl, rfl, rfl, rfl, rfl, rfl, trivial⟩ (fun w m => m.pick [0, 1] 2 rfl rfl)
        · replace hl66 := if_f hl66 h72
          refine CW.is_f rfl (decide_eq_false h72) ?_
          refine CW.exit ?_
          refine QW.then_x ?_
          refine QW.then_x ?_
          refine QW.block_xe ?_
          exact QW.join ⟨(p62), (Option.some.inj hl66).symm, rfl, rfl⟩ ⟨rfl, rfl, rfl, trivial⟩ (fun w m => m.pick [0] 1 rfl rfl)
  · skip
    refine CW.region ?_
    refine OW.rv (RV.move rfl) rfl ?_
    refine OW.rv (RV.lss rfl rfl) rfl ?_
    refine OW.rv (RV.move rfl) rfl ?_
    by_cases h132 : a1 < (0 : Int)
    · replace hq8 := if_t hq8 h132
      refine OW.slot (.bool true) (congrArg Value.bool (decide_eq_true h132)) ?_
      refine OW.skip rfl rfl rfl ?_
      refine OW.skip rfl rfl rfl ?_
      refine OW.rv (RV.pick_t rfl rfl rfl) rfl ?_
      refine OW.nil ?_
      exact QW.join ⟨true, (Option.some.inj hq8).symm, rfl, rfl⟩ ⟨rfl, rfl, rfl, rfl, trivial⟩ (fun w m => m.pick [0] 1 rfl rfl)
    · replace hq8 := if_f hq8 h132
      refine OW.slot (.bool false) (congrArg Value.bool (decide_eq_false h132)) ?_
      refine OW.want rfl ?_
      refine OW.rv (RV.move rfl) rfl ?_
      refine OW.want rfl ?_
      refine OW.rv (RV.gtr rfl rfl) rfl ?_
      refine OW.rv (RV.pick_f rfl rfl rfl) rfl ?_
      refine OW.nil ?_
      exact QW.join ⟨(decide ((2047 : Int) < a1)), (Option.some.inj hq8).symm, rfl, rfl⟩ ⟨rfl, rfl, rfl, rfl, trivial⟩ (fun w m => m.pick [0] 1 rfl rfl)
end Go.Fw.Tryd
