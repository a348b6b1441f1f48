/- Part of a proof over YtogfjkomkpbjpaaDoor: rules and contracts that the law's text uses. No condition. -/
import Derived.Test.YtogfjkomkpbjpaaDoorTy
import Derived.Test.YtogfjkomkpbjpaaDoorExt
import Derived.Test.YtogfjkomkpbjpaaDoorKecW0
import Derived.Test.YtogfjkomkpbjpaaDoorKecWR
import Derived.Test.YtogfjkomkpbjpaaDoorLent02
import Derived.Test.YtogfjkomkpbjpaaDoorKecP2
import Derived.Test.YtogfjkomkpbjpaaDoorKecP5
namespace Go.Fw.Tryd
open Go Go.Proofs Go.Fw
set_option maxRecDepth 100000
set_option linter.unusedVariables false
set_option linter.unusedSimpArgs false
set_option maxHeartbeats 1000000

theorem keccak_Sponge_absorb_does (w0 : World) (Φ : Ctx) (N : List Ent) (hΦ : ∀ w, Mem w0 w N → Φ w) (b0_ : Nat) (a0 : Sponge) (new0 : Sponge) (hf : keccak_Sponge_absorb a0 = some new0) : DoesG Tryd.prog 43 [ptr (some b0_) 0] w0 [(some b0_, blk a0.C 73)] N (fun v G => ∃ B : List Ent, v = .tuple #[] ∧ G = (some b0_, blk new0.C 73) :: B) := by
  unfold keccak_Sponge_absorb at hf
  refine DoesG.enter Tryd.func43 rfl Tryd.ntmps43 rfl (M := ((some b0_, blk a0.C 73) :: ([] ++ N))) rfl ?_
  refine CW.seq ?_
  refine CW.seq ?_
  refine CW.region ?_
  refine OW.rv (RV.move rfl) rfl ?_
  refine OW.rv (RV.nilCheck rfl) rfl ?_
  refine OW.rv (RV.field rfl rfl rfl rfl) rfl ?_
  refine OW.slot (ptr (some b0_) 26) rfl ?_
  refine OW.rv (RV.loadAo rfl (List.Mem.head _) rfl rfl rfl rfl (Sponge.C_part_all _) ((u8s_length _).trans Vector.length_toList)) rfl ?_
  refine OW.rv (RV.move rfl) rfl ?_
  refine OW.nil ?_
  refine QW.then_n ?_
  obtain ⟨q1, hq2, hf⟩ := some_bind hf
  refine CW.cutJ (fun L' M' => ∃ w3 : Sponge, q1 = w3 ∧ L' = [(0, ptr (some b0_) 0)] ∧ M' = ((some b0_, blk w3.C 73) :: ([] ++ N))) ?_ ?_
  · rintro L5 M6 ⟨w3, e4, e7, e8⟩
    rw [e7, e8]
    clear e7 e8 L5 M6
    clear hq2
    rw [e4] at hf
    clear e4
    try dsimp only at hf
    refine QW.then_n ?_
    refine CW.seq ?_
    refine CW.region ?_
    refine OW.rv (RV.move rfl) rfl ?_
    refine OW.rv (RV.move rfl) rfl ?_
    refine OW.rv (RV.nilCheck rfl) rfl ?_
    refine OW.rv (RV.field rfl rfl rfl rfl) rfl ?_
    refine OW.slot (ptr (some b0_) 1) rfl ?_
    refine OW.rv (RV.loadAo rfl (List.Mem.head _) rfl rfl rfl rfl (Sponge.C_lanes_all _) ((u64s_length _).trans Vector.length_toList)) rfl ?_
    obtain ⟨x10, hx9, hf⟩ := some_bind hf
    refine OW.callG Tryd.call9 rfl (keccak_Permute_does w0 (More w0 Φ []) ((some b0_, blk w3.C 73) :: ([] ++ N)) (fun w m => More.of hΦ 1 m rfl) w3.lanes x10 hx9) rfl rfl ?_
    rintro _ G11 rfl
    refine OW.mem (M' := ((some b0_, blk w3.C 73) :: ([] ++ N))) (fun w m => m.appR) ?_
    refine OW.rv (RV.nilCheck rfl) rfl ?_
    refine OW.rv (RV.field rfl rfl rfl rfl) rfl ?_
    refine OW.slot (ptr (some b0_) 1) rfl ?_
    refine OW.sv (SV.storeAs rfl rfl rfl (u64s_one _) rfl ((u64s_length _).trans Vector.length_toList) (by rw [Sponge.C_length]; first | omega | decide)) ?_
    refine OW.cells ({ w3 with lanes := x10 } : Sponge).C (Sponge.C_lanes_spl _ _) ?_
    refine OW.nil ?_
    refine QW.then_n ?_
    refine CW.region ?_
    refine OW.rv (RV.move rfl) rfl ?_
    refine OW.rv (RV.nilCheck rfl) rfl ?_
    refine OW.rv (RV.field rfl rfl rfl rfl) rfl ?_
    refine OW.slot (ptr (some b0_) 162) rfl ?_
    refine OW.sv (SV.store rfl rfl rfl rfl rfl (by rw [Sponge.C_length]; omega)) ?_
    refine OW.cells ({ ({ w3 with lanes := x10 } : Sponge) with held := (0 : Int) } : Sponge).C (Sponge.C_held_set _ _) ?_
    refine OW.nil ?_
    have e0 := Option.some.inj hf
    subst e0
    refine QW.retG (rs := []) ([]) ((some b0_, blk ({ ({ w3 with lanes := x10 } : Sponge) with held := (0 : Int) } : Sponge).C 73) :: []) rfl ?_ rfl ?_ ?_ _ (.inr rfl)
    · exact trivial
    · exact ⟨[], rfl, rfl⟩
    · exact (fun w m => m.pick [0] 1 rfl rfl)
  · skip
    refine CW.block ?_
    refine CW.loopJ (fun k L' M' => ∃ n13 : Nat, ∃ w15 : Sponge, (keccak_Sponge_absorb.l1 a0 k n13 w15) = some q1 ∧ (n13 ≤ 9223372036854775807) ∧ L' = [(0, ptr (some b0_) 0), (7, .agg (u8s a0.part.toList).toArray), (8, .int .i64 ((n13 : Nat) : Int))] ∧ M' = ((some b0_, blk w15.C 73) :: ([] ++ N))) (k0 := (136 - 0 + 2)) ⟨0, a0, hq2, (by omega), rfl, rfl⟩ ⟨rfl, rfl, rfl, trivial⟩ (fun w m => m.pick [0] 1 rfl rfl) ?_
    clear hq2
    rintro k16 L19 M20 ⟨n13, w15, hl17, b14, e21, e22⟩
    rw [e21, e22]
    clear e21 e22 L19 M20
    rcases k16 with _ | k16
    · rw [keccak_Sponge_absorb.l1] at hl17; cases hl17
    rw [keccak_Sponge_absorb.l1] at hl17
    refine CW.seq ?_
    refine CW.region ?_
    refine OW.rv (RV.lss rfl rfl) rfl ?_
    refine OW.slot (.bool (decide (n13 < 136))) (congrArg Value.bool (decide_eq_decide.2 (by omega))) ?_
    refine OW.nil ?_
    refine QW.then_n ?_
    refine CW.seq ?_
    by_cases h23 : n13 < 136
    · replace hl17 := if_t hl17 h23
      refine CW.is_t rfl (decide_eq_true h23) ?_
      refine CW.skip ?_
      refine QW.then_n ?_
      refine CW.seq ?_
      refine CW.block ?_
      refine CW.seq ?_
      refine CW.region ?_
      refine OW.rv (RV.move rfl) rfl ?_
      obtain ⟨x24, hx25, hl17⟩ := some_bind hl17
      have hl26 := (Vector.getElem?_eq_some_iff.1 hx25).1
      refine OW.rv (RV.indexV (n13) rfl rfl rfl rfl rfl rfl rfl (by omega) (u8s_at (vat hx25))) rfl ?_
      refine OW.rv (RV.assign rfl) rfl ?_
      refine OW.rv (RV.assign rfl) rfl ?_
      refine OW.nil ?_
      refine QW.then_n ?_
      refine CW.drawsX (([] ++ N)) [17] (fun w m => m.pick [] 1 rfl rfl) mixed (by kernel_rfl) ?_
      refine XW.rs 0 rfl (by kernel_rfl) rfl (RV.move rfl) rfl ?_
      refine XW.rs 1 rfl (by kernel_rfl) rfl (RV.move rfl) rfl ?_
      refine XW.rs 2 rfl (by kernel_rfl) rfl (RV.quo rfl rfl (by omega) (by omega) (by omega)) rfl ?_
      refine XW.slot (.int .i64 ((n13 / 8 : Nat) : Int)) (by first | rfl | (congr 1; omega)) ?_
      refine XW.rs 3 rfl (by kernel_rfl) rfl (RV.nilCheck rfl) rfl ?_
      refine XW.rs 4 rfl (by kernel_rfl) rfl (RV.field rfl rfl rfl rfl) rfl ?_
      refine XW.slot (ptr (some b0_) 1) rfl ?_
      obtain ⟨g27, hl17⟩ := some_if hl17
      refine XW.rs 5 rfl (by kernel_rfl) rfl (RV.idx_a ((n13 / 8)) rfl rfl rfl rfl rfl (by omega)) rfl ?_
      obtain ⟨x28, hx29, hl17⟩ := some_bind hl17
      refine XW.rv 6 rfl (by kernel_rfl) rfl (by kernel_rfl) (RV.load rfl (List.Mem.head _) rfl rfl rfl (Sponge.C_lanes _ hx29)) rfl ?_
      refine XW.rs 7 rfl (by kernel_rfl) rfl (RV.move rfl) rfl ?_
      refine XW.rs 8 rfl (by kernel_rfl) rfl (RV.conv8_64 rfl (by first | rfl | exact lit8 _ rfl) rfl rfl) rfl ?_
      refine XW.rs 9 rfl (by kernel_rfl) rfl (RV.move rfl) rfl ?_
      refine XW.rs 10 rfl (by kernel_rfl) rfl (RV.rem rfl rfl (by omega) (by omega)) rfl ?_
      refine XW.slot (.int .i64 ((n13 % 8 : Nat) : Int)) (by first | rfl | (congr 1; omega)) ?_
      refine XW.rs 11 rfl (by kernel_rfl) rfl (RV.mul rfl rfl (by omega)) rfl ?_
      refine XW.slot (.int .i64 (((8 * (n13 % 8)) : Nat) : Int)) (by first | rfl | (congr 1) | (congr 1; omega)) ?_
      refine XW.rs 12 rfl (by kernel_rfl) rfl (RV.shl64 (s := (8 * (n13 % 8))) rfl (by first | rfl | exact lit64 _ rfl) rfl (by first | rfl | (congr 1))) rfl ?_
      refine XW.rs 13 rfl (by kernel_rfl) rfl (RV.xor64 rfl (by first | rfl | exact lit64 _ rfl) rfl (by first | rfl | exact lit64 _ rfl)) rfl ?_
      refine XW.rs 14 rfl (by kernel_rfl) rfl (RV.nilCheck rfl) rfl ?_
      refine XW.rs 15 rfl (by kernel_rfl) rfl (RV.field rfl rfl rfl rfl) rfl ?_
      refine XW.slot (ptr (some b0_) 1) rfl ?_
      refine XW.rs 16 rfl (by kernel_rfl) rfl (RV.idx_a ((n13 / 8)) rfl rfl rfl rfl rfl (by omega)) rfl ?_
      refine XW.sv 17 rfl (by kernel_rfl) (SV.store rfl rfl rfl rfl rfl (by rw [Sponge.C_length]; omega)) (fun w m => m.pick [] 1 rfl rfl) ?_
      refine XW.cells ({ w15 with lanes := w15.lanes.setIfInBounds (n13 / 8) (x28 ^^^ ((x24.setWidth 64) <<< (8 * (n13 % 8)))) } : Sponge).C (Sponge.C_lanes_set _ (by omega) _) ?_
      refine XW.nil (by kernel_rfl) ?_
      refine QW.block_n ?_
      refine QW.then_n ?_
      refine CW.region ?_
      refine OW.rv (RV.add rfl rfl (by omega)) rfl ?_
      refine OW.slot (.int .i64 (((n13 + 1) : Nat) : Int)) (by first | rfl | (congr 1) | (congr 1; omega)) ?_
      refine OW.rv (RV.move rfl) rfl ?_
      refine OW.nil ?_
      exact QW.againJ (k' := k16) (Nat.lt_succ_self _) ⟨(n13 + 1), ({ w15 with lanes := w15.lanes.setIfInBounds (n13 / 8) (x28 ^^^ ((x24.setWidth 64) <<< (8 * (n13 % 8)))) } : Sponge), hl17, (by omega), rfl, rfl⟩ ⟨rfl, rfl, rfl, trivial⟩ (fun w m => m.pick [0] 1 rfl rfl)
    · replace hl17 := if_f hl17 h23
      refine CW.is_f rfl (decide_eq_false h23) ?_
      refine CW.exit ?_
      refine QW.then_x ?_
      refine QW.then_x ?_
      refine QW.block_xe ?_
      exact QW.join ⟨w15, (Option.some.inj hl17).symm, rfl, rfl⟩ ⟨rfl, trivial⟩ (fun w m => m.pick [0] 1 rfl rfl)

theorem keccak_Sponge_Write_does (w0 : World) (Φ : Ctx) (N : List Ent) (hΦ : ∀ w, Mem w0 w N → Φ w) (b0_ : Nat) (a0 : Sponge) (A1_ : Option Addr) (c1_ : Nat) (a1 : List (BitVec 8)) (new0 : Sponge) (va1 : View Φ A1_ a1.length c1_ 1 (u8s a1)) (hf : keccak_Sponge_Write a0 a1 = some new0) : DoesG Tryd.prog 22 [ptr (some b0_) 0, .slice A1_ a1.length c1_] w0 [(some b0_, blk a0.C 73)] N (fun v G => ∃ B : List Ent, v = .tuple #[] ∧ G = (some b0_, blk new0.C 73) :: B) := by
  unfold keccak_Sponge_Write at hf
  replace va1 := va1.mono (Ψ := More w0 Φ []) (fun w q => q.1)
  have m1 := va1.mx
  refine DoesG.enter Tryd.func22 rfl Tryd.ntmps22 rfl (M := ((some b0_, blk a0.C 73) :: ([] ++ N))) rfl ?_
  refine CW.seq ?_
  refine CW.seq ?_
  refine CW.region ?_
  refine OW.rv (RV.move rfl) rfl ?_
  refine OW.rv (RV.eqlS rfl rfl rfl) rfl ?_
  refine OW.nil ?_
  refine QW.then_n ?_
  refine CW.is_f rfl rfl ?_
  refine CW.skip ?_
  refine QW.then_n ?_
  refine CW.seq ?_
  refine CW.region ?_
  refine OW.rv (RV.move rfl) rfl ?_
  refine OW.rv (RV.nilCheck rfl) rfl ?_
  refine OW.rv (RV.field rfl rfl rfl rfl) rfl ?_
  refine OW.slot (ptr (some b0_) 163) rfl ?_
  refine OW.rv (RV.load rfl (List.Mem.head _) rfl rfl rfl (Sponge.C_long _)) rfl ?_
  refine OW.rv (RV.move rfl) rfl ?_
  refine OW.rv (RV.len rfl rfl) rfl ?_
  obtain ⟨g2, hf⟩ := some_if hf
  refine OW.rv (RV.add rfl rfl (by omega)) rfl ?_
  refine OW.rv (RV.nilCheck rfl) rfl ?_
  refine OW.rv (RV.field rfl rfl rfl rfl) rfl ?_
  refine OW.slot (ptr (some b0_) 163) rfl ?_
  refine OW.sv (SV.store rfl rfl rfl rfl rfl (by rw [Sponge.C_length]; omega)) ?_
  refine OW.cells ({ a0 with long := (a0.long + ((a1.length : Nat) : Int)) } : Sponge).C (Sponge.C_long_set _ _) ?_
  refine OW.nil ?_
  refine QW.then_n ?_
  obtain ⟨q3, hq4, hf⟩ := some_bind hf
  refine CW.cutJ (fun L' M' => ∃ w7 : Sponge, ∃ B5 : List Ent, q3 = w7 ∧ (∀ w, Mem w0 w B5 → Mem w0 w []) ∧ L' = [] ∧ M' = ((some b0_, blk w7.C 73) :: (B5 ++ N))) ?_ ?_
  · rintro L9 M10 ⟨w7, B5, e8, hB6, e11, e12⟩
    rw [e11, e12]
    clear e11 e12 L9 M10
    clear hq4
    rw [e8] at hf
    clear e8
    try dsimp only at hf
    have e0 := Option.some.inj hf
    subst e0
    refine QW.retG (rs := []) ([]) ((some b0_, blk w7.C 73) :: B5) rfl ?_ rfl ?_ ?_ _ (.inr rfl)
    · exact trivial
    · exact ⟨B5, rfl, rfl⟩
    · exact (fun w m => m.pick [0] 1 rfl rfl)
  · skip
    refine CW.block ?_
    refine CW.loopJ (fun k L' M' => ∃ l15 : List (BitVec 8), ∃ w19 : Sponge, ∃ B13 : List Ent, ∃ A16 : Option Addr, ∃ c17 : Nat, (keccak_Sponge_Write.l1 k l15 w19) = some q3 ∧ (∀ w, Mem w0 w B13 → Mem w0 w []) ∧ (View (More w0 Φ B13) A16 l15.length c17 1 (u8s l15)) ∧ L' = [(0, ptr (some b0_) 0), (1, .slice A16 l15.length c17)] ∧ M' = ((some b0_, blk w19.C 73) :: (B13 ++ N))) (k0 := (a1.length - 0 + 2)) ⟨a1, ({ a0 with long := (a0.long + ((a1.length : Nat) : Int)) } : Sponge), [], A1_, c1_, hq4, (fun w m => m), va1, rfl, rfl⟩ ⟨rfl, rfl, trivial⟩ (fun w m => m.pick [0] 1 rfl rfl) ?_
    clear hq4
    rintro k20 L23 M24 ⟨l15, w19, B13, A16, c17, hl21, hB14, v18, e25, e26⟩
    rw [e25, e26]
    clear e25 e26 L23 M24
    rcases k20 with _ | k20
    · rw [keccak_Sponge_Write.l1] at hl21; cases hl21
    rw [keccak_Sponge_Write.l1] at hl21
    have m27 := v18.mx
    refine CW.seq ?_
    refine CW.seq ?_
    refine CW.region ?_
    refine OW.rv (RV.move rfl) rfl ?_
    refine OW.rv (RV.len rfl rfl) rfl ?_
    refine OW.rv (RV.gtr rfl rfl) rfl ?_
    refine OW.slot (.bool (decide (0 < l15.length))) (congrArg Value.bool (decide_eq_decide.2 (by omega))) ?_
    refine OW.nil ?_
    refine QW.then_n ?_
    by_cases h28 : 0 < l15.length
    · replace hl21 := if_t hl21 h28
      refine CW.is_t rfl (decide_eq_true h28) ?_
      refine CW.skip ?_
      refine QW.then_n ?_
      refine CW.block ?_
      refine CW.seq ?_
      refine CW.drawsU 9 mixed (by kernel_rfl) rfl ?_
      refine UW.rv 0 rfl (by kernel_rfl) rfl (RV.move rfl) rfl ?_
      refine UW.rv 1 rfl (by kernel_rfl) rfl (RV.nilCheck rfl) rfl ?_
      refine UW.rv 2 rfl (by kernel_rfl) rfl (RV.field rfl rfl rfl rfl) rfl ?_
      refine UW.slot (ptr (some b0_) 26) rfl ?_
      refine UW.rv 3 rfl (by kernel_rfl) rfl (RV.move rfl) rfl ?_
      refine UW.rv 4 rfl (by kernel_rfl) rfl (RV.nilCheck rfl) rfl ?_
      refine UW.rv 5 rfl (by kernel_rfl) rfl (RV.field rfl rfl rfl rfl) rfl ?_
      refine UW.slot (ptr (some b0_) 162) rfl ?_
      refine UW.rv 6 rfl (by kernel_rfl) rfl (RV.load rfl (List.Mem.head _) rfl rfl rfl (Sponge.C_held _)) rfl ?_
      obtain ⟨g29, hl21⟩ := some_if hl21
      obtain ⟨g30, hl21⟩ := some_if hl21
      refine UW.rv 7 rfl (by kernel_rfl) rfl (RV.arr_loS ((w19.held).toNat) rfl rfl (by omega) rfl rfl (by omega)) rfl ?_
      refine UW.rv 8 rfl (by kernel_rfl) rfl (RV.move rfl) rfl ?_
      refine UW.nil (by kernel_rfl) ?_
      refine OW.copy (ob := some b0_) (off := 26 + ((w19.held).toNat)) rfl rfl rfl rfl (fun h => nomatch h) (by rw [Sponge.C_length]; omega) (fun w m => v18.rd w (More.of hΦ 1 m rfl)) (u8s_length _) (u8s_one _) (v18.zero (by decide)) rfl ?_
      refine OW.cells ({ w19 with part := cpV w19.part ((w19.held).toNat) (l15.take (min l15.length (136 - ((w19.held).toNat)))) } : Sponge).C (by rw [u8s_take]; exact Sponge.C_part_cpy _ (by rw [List.length_take]; omega)) ?_
      refine OW.rv (RV.assign rfl) rfl ?_
      refine OW.nil ?_
      refine QW.then_n ?_
      refine CW.seq ?_
      refine CW.region ?_
      refine OW.rv (RV.move rfl) rfl ?_
      refine OW.rv (RV.move rfl) rfl ?_
      obtain ⟨g32, hl21⟩ := some_if hl21
      refine OW.rv (RV.cut_lo (s := 1) ((min l15.length (136 - ((w19.held).toNat)))) rfl rfl (by omega) rfl rfl (by omega)) rfl ?_
      refine OW.slot (.slice (subA A16 c17 (min l15.length (136 - ((w19.held).toNat))) 1) (l15.drop (min l15.length (136 - ((w19.held).toNat)))).length (c17 - (min l15.length (136 - ((w19.held).toNat))))) (by rw [show ((l15.drop (min l15.length (136 - ((w19.held).toNat))))).length = (l15).length - ((min l15.length (136 - ((w19.held).toNat)))) from List.length_drop]) ?_
      have v31 : View (More w0 Φ B13) (subA A16 c17 (min l15.length (136 - ((w19.held).toNat))) 1) (l15.drop (min l15.length (136 - ((w19.held).toNat)))).length (c17 - (min l15.length (136 - ((w19.held).toNat)))) 1 (u8s (l15.drop (min l15.length (136 - ((w19.held).toNat))))) := v18.lo8 (by omega)
      have m33 := v31.mx
      refine OW.rv (RV.assign rfl) rfl ?_
      refine OW.nil ?_
      refine QW.then_n ?_
      refine CW.seq ?_
      refine CW.region ?_
      refine OW.rv (RV.move rfl) rfl ?_
      refine OW.rv (RV.nilCheck rfl) rfl ?_
      refine OW.rv (RV.field rfl rfl rfl rfl) rfl ?_
      refine OW.slot (ptr (some b0_) 162) rfl ?_
      refine OW.rv (RV.load rfl (List.Mem.head _) rfl rfl rfl (Sponge.C_held _)) rfl ?_
      refine OW.rv (RV.move rfl) rfl ?_
      obtain ⟨g34, hl21⟩ := some_if hl21
      refine OW.rv (RV.add rfl rfl (by omega)) rfl ?_
      refine OW.rv (RV.nilCheck rfl) rfl ?_
      refine OW.rv (RV.field rfl rfl rfl rfl) rfl ?_
      refine OW.slot (ptr (some b0_) 162) rfl ?_
      refine OW.sv (SV.store rfl rfl rfl rfl rfl (by rw [Sponge.C_length]; omega)) ?_
      refine OW.cells ({ ({ w19 with part := cpV w19.part ((w19.held).toNat) (l15.take (min l15.length (136 - ((w19.held).toNat)))) } : Sponge) with held := (({ w19 with part := cpV w19.part ((w19.held).toNat) (l15.take (min l15.length (136 - ((w19.held).toNat)))) } : Sponge).held + (((min l15.length (136 - ((w19.held).toNat))) : Nat) : Int)) } : Sponge).C (Sponge.C_held_set _ _) ?_
      refine OW.nil ?_
      refine QW.then_n ?_
      refine CW.seq ?_
      refine CW.region ?_
      refine OW.rv (RV.move rfl) rfl ?_
      refine OW.rv (RV.nilCheck rfl) rfl ?_
      refine OW.rv (RV.field rfl rfl rfl rfl) rfl ?_
      refine OW.slot (ptr (some b0_) 162) rfl ?_
      refine OW.rv (RV.load rfl (List.Mem.head _) rfl rfl rfl (Sponge.C_held _)) rfl ?_
      refine OW.rv (RV.eql rfl rfl) rfl ?_
      refine OW.nil ?_
      refine QW.then_n ?_
      obtain ⟨q35, hq36, hl21⟩ := some_bind hl21
      refine CW.cutJ (fun L' M' => ∃ w39 : Sponge, ∃ B37 : List Ent, q35 = w39 ∧ (∀ w, Mem w0 w B37 → Mem w0 w B13) ∧ L' = [(0, ptr (some b0_) 0), (1, .slice (subA A16 c17 (min l15.length (136 - ((w19.held).toNat))) 1) (l15.drop (min l15.length (136 - ((w19.held).toNat)))).length (c17 - (min l15.length (136 - ((w19.held).toNat)))))] ∧ M' = ((some b0_, blk w39.C 73) :: (B37 ++ N))) ?_ ?_
      · rintro L41 M42 ⟨w39, B37, e40, hB38, e43, e44⟩
        rw [e43, e44]
        clear e43 e44 L41 M42
        clear hq36
        rw [e40] at hl21
        clear e40
        try dsimp only at hl21
        replace v31 := v31.mono (Ψ := More w0 Φ B37) (fun w q => More.mono (fun w m => hB38 w (m)) q)
        refine QW.block_n ?_
        exact QW.againJ (k' := k20) (Nat.lt_succ_self _) ⟨(l15.drop (min l15.length (136 - ((w19.held).toNat)))), w39, B37, (subA A16 c17 (min l15.length (136 - ((w19.held).toNat))) 1), (c17 - (min l15.length (136 - ((w19.held).toNat)))), hl21, (fun w m => hB14 w (hB38 w (m))), v31, rfl, rfl⟩ ⟨rfl, rfl, trivial⟩ (fun w m => m.pick [0] 1 rfl rfl)
      · skip
        by_cases h45 : ({ ({ w19 with part := cpV w19.part ((w19.held).toNat) (l15.take (min l15.length (136 - ((w19.held).toNat)))) } : Sponge) with held := (({ w19 with part := cpV w19.part ((w19.held).toNat) (l15.take (min l15.length (136 - ((w19.held).toNat)))) } : Sponge).held + (((min l15.length (136 - ((w19.held).toNat))) : Nat) : Int)) } : Sponge).held = (136 : Int)
        · replace hq36 := if_t hq36 h45
          refine CW.is_t rfl (decide_eq_true h45) ?_
          refine CW.region ?_
          refine OW.rv (RV.move rfl) rfl ?_
          obtain ⟨x47, hx46, hq36⟩ := some_bind hq36
          refine OW.callG Tryd.call43 rfl (keccak_Sponge_absorb_does w0 (More w0 Φ B13) ((B13 ++ N)) (fun w m => More.of hΦ 0 m rfl) b0_ ({ ({ w19 with part := cpV w19.part ((w19.held).toNat) (l15.take (min l15.length (136 - ((w19.held).toNat)))) } : Sponge) with held := (({ w19 with part := cpV w19.part ((w19.held).toNat) (l15.take (min l15.length (136 - ((w19.held).toNat)))) } : Sponge).held + (((min l15.length (136 - ((w19.held).toNat))) : Nat) : Int)) } : Sponge) x47 hx46) rfl rfl ?_
          rintro L49 M50 ⟨B48, e51, e52⟩
          rw [e51, e52]
          clear e51 e52 L49 M50
          refine OW.mem (M' := ((some b0_, blk x47.C 73) :: ((B48 ++ B13) ++ N))) (fun w m => by have h := Mem.sinkAt (A := B48) m 1 0 rfl rfl; exact h) ?_
          replace v31 := v31.mono (Ψ := More w0 Φ (B48 ++ B13)) (fun w q => More.mono (fun w m => (m).appR) q)
          replace v18 := v18.mono (Ψ := More w0 Φ (B48 ++ B13)) (fun w q => More.mono (fun w m => (m).appR) q)
          refine OW.nil ?_
          exact QW.join ⟨x47, (B48 ++ B13), (Option.some.inj hq36).symm, (fun w m => (m).appR), rfl, rfl⟩ ⟨rfl, rfl, trivial⟩ (fun w m => m.pick [0] 1 rfl rfl)
        · replace hq36 := if_f hq36 h45
          refine CW.is_f rfl (decide_eq_false h45) ?_
          refine CW.skip ?_
          exact QW.join ⟨({ ({ w19 with part := cpV w19.part ((w19.held).toNat) (l15.take (min l15.length (136 - ((w19.held).toNat)))) } : Sponge) with held := (({ w19 with part := cpV w19.part ((w19.held).toNat) (l15.take (min l15.length (136 - ((w19.held).toNat)))) } : Sponge).held + (((min l15.length (136 - ((w19.held).toNat))) : Nat) : Int)) } : Sponge), B13, (Option.some.inj hq36).symm, (fun w m => m), rfl, rfl⟩ ⟨rfl, rfl, trivial⟩ (fun w m => m.pick [0] 1 rfl rfl)
    · replace hl21 := if_f hl21 h28
      refine CW.is_f rfl (decide_eq_false h28) ?_
      refine CW.exit ?_
      refine QW.then_x ?_
      refine QW.then_x ?_
      refine QW.block_xe ?_
      exact QW.join ⟨w19, B13, (Option.some.inj hl21).symm, (fun w m => hB14 w (m)), rfl, rfl⟩ trivial (fun w m => m.pick [0] 1 rfl rfl)

theorem keccak_Sponge_Sum_does (w0 : World) (Φ : Ctx) (N : List Ent) (hΦ : ∀ w, Mem w0 w N → Φ w) (b0_ : Nat) (a0 : Sponge) (res0 : Vector (BitVec 8) 32) (new0 : Sponge) (hg1 : View Φ (some ⟨1, 0, none⟩) 2 2 1 (u8s firstL)) (hf : keccak_Sponge_Sum a0 = some (res0, new0)) : DoesG Tryd.prog 23 [ptr (some b0_) 0] w0 [(some b0_, blk a0.C 73)] N (fun v G => ∃ B : List Ent, v = .agg (u8s res0.toList).toArray ∧ G = (some b0_, blk new0.C 73) :: B) := by
  unfold keccak_Sponge_Sum at hf
  replace hg1 := hg1.mono (Ψ := More w0 Φ []) (fun w q => q.1)
  refine DoesG.enter Tryd.func23 rfl Tryd.ntmps23 rfl (M := ((some b0_, blk a0.C 73) :: ([] ++ N))) rfl ?_
  refine CW.seq ?_
  refine CW.region ?_
  refine OW.alloc (l := (u8s (Vector.replicate 32 0#8).toList)) rfl (by rw [Vector.toList_replicate, ← u8s_rep']; rfl) rfl (fun b1 => ?_)
  refine OW.nil ?_
  refine QW.then_n ?_
  refine CW.seq ?_
  refine CW.seq ?_
  refine CW.region ?_
  refine OW.rv (RV.move rfl) rfl ?_
  refine OW.rv (RV.eqlS rfl rfl rfl) rfl ?_
  refine OW.nil ?_
  refine QW.then_n ?_
  refine CW.is_f rfl rfl ?_
  refine CW.skip ?_
  refine QW.then_n ?_
  refine CW.seq ?_
  refine CW.region ?_
  refine OW.rv (RV.move rfl) rfl ?_
  refine OW.rv (RV.nilCheck rfl) rfl ?_
  refine OW.rv (RV.loadW rfl (List.Mem.tail _ (List.Mem.head _)) rfl rfl rfl rfl (Sponge.C_length _)) rfl ?_
  refine OW.alloc (l := (⟨0, (Vector.replicate 25 0#64), (Vector.replicate 136 0#8), 0, 0⟩ : Sponge).C) rfl (by kernel_rfl) rfl (fun b2 => ?_)
  refine OW.sv (SV.storeW rfl rfl rfl (Sponge.C_one _) rfl (Sponge.C_length _) (Sponge.C_length _)) ?_
  refine OW.nil ?_
  refine QW.then_n ?_
  refine CW.seq ?_
  refine CW.region ?_
  refine OW.rv (RV.field rfl rfl rfl rfl) rfl ?_
  refine OW.slot (ptr (some b2) 26) rfl ?_
  refine OW.rv (RV.field rfl rfl rfl rfl) rfl ?_
  refine OW.slot (ptr (some b2) 162) rfl ?_
  refine OW.rv (RV.load rfl (List.Mem.head _) rfl rfl rfl (Sponge.C_held _)) rfl ?_
  obtain ⟨g3, hf⟩ := some_if hf
  obtain ⟨g4, hf⟩ := some_if hf
  refine OW.rv (RV.arr_loS ((a0.held).toNat) rfl rfl (by omega) rfl rfl (by omega)) rfl ?_
  refine OW.clear (z := .int .u8 0) (b := b2) (off := 26 + ((a0.held).toNat)) rfl rfl rfl rfl rfl (by omega) (by rw [Sponge.C_length]; omega) ?_
  refine OW.cells ({ a0 with part := cpV a0.part ((a0.held).toNat) (List.replicate (136 - ((a0.held).toNat)) 0#8) } : Sponge).C (by rw [u8s_rep0]; exact Sponge.C_part_cpy _ (by rw [List.length_replicate]; omega)) ?_
  refine OW.nil ?_
  refine QW.then_n ?_
  refine CW.seq ?_
  refine CW.drawsX ((some b1, blk (u8s (Vector.replicate 32 0#8).toList) 29) :: (some b0_, blk a0.C 73) :: ([] ++ N)) [12] (fun w m => m.pick [1, 2] 3 rfl rfl) mixed (by kernel_rfl) ?_
  refine XW.rs 0 rfl (by kernel_rfl) rfl (RV.field rfl rfl rfl rfl) rfl ?_
  refine XW.slot (ptr (some b2) 162) rfl ?_
  refine XW.rv 1 rfl (by kernel_rfl) rfl (by kernel_rfl) (RV.load rfl (List.Mem.head _) rfl rfl rfl (Sponge.C_held _)) rfl ?_
  refine XW.rs 2 rfl (by kernel_rfl) rfl (RV.field rfl rfl rfl rfl) rfl ?_
  refine XW.slot (ptr (some b2) 26) rfl ?_
  obtain ⟨g5, hf⟩ := some_if hf
  obtain ⟨g6, hf⟩ := some_if hf
  refine XW.rs 3 rfl (by kernel_rfl) rfl (RV.idx_a ((({ a0 with part := cpV a0.part ((a0.held).toNat) (List.replicate (136 - ((a0.held).toNat)) 0#8) } : Sponge).held).toNat) rfl rfl (by omega) rfl rfl (by omega)) rfl ?_
  obtain ⟨x7, hx8, hf⟩ := some_bind hf
  refine XW.rv 4 rfl (by kernel_rfl) rfl (by kernel_rfl) (RV.load rfl (List.Mem.head _) rfl rfl rfl (Sponge.C_part _ hx8)) rfl ?_
  refine XW.rs 5 rfl (by kernel_rfl) rfl (RV.field rfl rfl rfl rfl) rfl ?_
  refine XW.slot (ptr (some b2) 0) rfl ?_
  refine XW.rv 6 rfl (by kernel_rfl) rfl (by kernel_rfl) (RV.load rfl (List.Mem.head _) rfl rfl rfl (Sponge.C_kind _)) rfl ?_
  obtain ⟨g9, hf⟩ := some_if hf
  obtain ⟨x10, hx11, hf⟩ := some_bind hf
  have hl12 : (({ a0 with part := cpV a0.part ((a0.held).toNat) (List.replicate (136 - ((a0.held).toNat)) 0#8) } : Sponge).kind).toNat < 2 := lt_of_at hx11
  refine XW.rs 7 rfl (by kernel_rfl) rfl (RV.idx_arr_at (a := ⟨1, 0, none⟩) rfl rfl rfl rfl (by omega) (by omega)) rfl ?_
  refine XW.slot (rptr (some ⟨1, 0, none⟩) ((({ a0 with part := cpV a0.part ((a0.held).toNat) (List.replicate (136 - ((a0.held).toNat)) 0#8) } : Sponge).kind).toNat)) (congrArg (fun k => Value.pointer (some (Addr.add ⟨1, 0, none⟩ k))) (Nat.mul_one _)) ?_
  refine XW.rs 8 rfl (by kernel_rfl) rfl (RV.load_at rfl rfl rfl (fun w m => hg1.cell (More.of hΦ 2 m rfl) (u8s_at hx11))) rfl ?_
  refine XW.rs 9 rfl (by kernel_rfl) rfl (RV.xor8 rfl (by first | rfl | exact lit8 _ rfl) rfl (by first | rfl | exact lit8 _ rfl)) rfl ?_
  refine XW.rs 10 rfl (by kernel_rfl) rfl (RV.field rfl rfl rfl rfl) rfl ?_
  refine XW.slot (ptr (some b2) 26) rfl ?_
  refine XW.rs 11 rfl (by kernel_rfl) rfl (RV.idx_a ((({ a0 with part := cpV a0.part ((a0.held).toNat) (List.replicate (136 - ((a0.held).toNat)) 0#8) } : Sponge).held).toNat) rfl rfl (by omega) rfl rfl (by omega)) rfl ?_
  refine XW.sv 12 rfl (by kernel_rfl) (SV.store rfl rfl rfl rfl rfl (by rw [Sponge.C_length]; omega)) (fun w m => m.pick [1, 2] 3 rfl rfl) ?_
  refine XW.cells ({ ({ a0 with part := cpV a0.part ((a0.held).toNat) (List.replicate (136 - ((a0.held).toNat)) 0#8) } : Sponge) with part := ({ a0 with part := cpV a0.part ((a0.held).toNat) (List.replicate (136 - ((a0.held).toNat)) 0#8) } : Sponge).part.setIfInBounds ((({ a0 with part := cpV a0.part ((a0.held).toNat) (List.replicate (136 - ((a0.held).toNat)) 0#8) } : Sponge).held).toNat) (x7 ^^^ x10) } : Sponge).C (Sponge.C_part_set _ (by omega) _) ?_
  refine XW.nil (by kernel_rfl) ?_
  refine QW.then_n ?_
  refine CW.seq ?_
  refine CW.region ?_
  refine OW.rv (RV.field rfl rfl rfl rfl) rfl ?_
  refine OW.slot (ptr (some b2) 26) rfl ?_
  refine OW.rv (RV.idx_a (135) rfl rfl rfl rfl rfl (by omega)) rfl ?_
  refine OW.rv (RV.load rfl (List.Mem.head _) rfl rfl rfl (Sponge.C_part _ (Vector.getElem?_eq_getElem (by decide)))) rfl ?_
  refine OW.rv (RV.xor8 rfl (by first | rfl | exact lit8 _ rfl) rfl (by first | rfl | exact lit8 _ rfl)) rfl ?_
  refine OW.rv (RV.field rfl rfl rfl rfl) rfl ?_
  refine OW.slot (ptr (some b2) 26) rfl ?_
  refine OW.rv (RV.idx_a (135) rfl rfl rfl rfl rfl (by omega)) rfl ?_
  refine OW.sv (SV.store rfl rfl rfl rfl rfl (by rw [Sponge.C_length]; omega)) ?_
  refine OW.cells ({ ({ ({ a0 with part := cpV a0.part ((a0.held).toNat) (List.replicate (136 - ((a0.held).toNat)) 0#8) } : Sponge) with part := ({ a0 with part := cpV a0.part ((a0.held).toNat) (List.replicate (136 - ((a0.held).toNat)) 0#8) } : Sponge).part.setIfInBounds ((({ a0 with part := cpV a0.part ((a0.held).toNat) (List.replicate (136 - ((a0.held).toNat)) 0#8) } : Sponge).held).toNat) (x7 ^^^ x10) } : Sponge) with part := ({ ({ a0 with part := cpV a0.part ((a0.held).toNat) (List.replicate (136 - ((a0.held).toNat)) 0#8) } : Sponge) with part := ({ a0 with part := cpV a0.part ((a0.held).toNat) (List.replicate (136 - ((a0.held).toNat)) 0#8) } : Sponge).part.setIfInBounds ((({ a0 with part := cpV a0.part ((a0.held).toNat) (List.replicate (136 - ((a0.held).toNat)) 0#8) } : Sponge).held).toNat) (x7 ^^^ x10) } : Sponge).part.setIfInBounds 135 (({ ({ a0 with part := cpV a0.part ((a0.held).toNat) (List.replicate (136 - ((a0.held).toNat)) 0#8) } : Sponge) with part := ({ a0 with part := cpV a0.part ((a0.held).toNat) (List.replicate (136 - ((a0.held).toNat)) 0#8) } : Sponge).part.setIfInBounds ((({ a0 with part := cpV a0.part ((a0.held).toNat) (List.replicate (136 - ((a0.held).toNat)) 0#8) } : Sponge).held).toNat) (x7 ^^^ x10) } : Sponge).part[135] ^^^ 128#8) } : Sponge).C (Sponge.C_part_set _ (by omega) _) ?_
  refine OW.nil ?_
  refine QW.then_n ?_
  refine CW.seq ?_
  refine CW.region ?_
  obtain ⟨x14, hx13, hf⟩ := some_bind hf
  refine OW.callG Tryd.call43 rfl (keccak_Sponge_absorb_does w0 (More w0 Φ []) ((some b1, blk (u8s (Vector.replicate 32 0#8).toList) 29) :: (some b0_, blk a0.C 73) :: ([] ++ N)) (fun w m => More.of hΦ 2 m rfl) b2 ({ ({ ({ a0 with part := cpV a0.part ((a0.held).toNat) (List.replicate (136 - ((a0.held).toNat)) 0#8) } : Sponge) with part := ({ a0 with part := cpV a0.part ((a0.held).toNat) (List.replicate (136 - ((a0.held).toNat)) 0#8) } : Sponge).part.setIfInBounds ((({ a0 with part := cpV a0.part ((a0.held).toNat) (List.replicate (136 - ((a0.held).toNat)) 0#8) } : Sponge).held).toNat) (x7 ^^^ x10) } : Sponge) with part := ({ ({ a0 with part := cpV a0.part ((a0.held).toNat) (List.replicate (136 - ((a0.held).toNat)) 0#8) } : Sponge) with part := ({ a0 with part := cpV a0.part ((a0.held).toNat) (List.replicate (136 - ((a0.held).toNat)) 0#8) } : Sponge).part.setIfInBounds ((({ a0 with part := cpV a0.part ((a0.held).toNat) (List.replicate (136 - ((a0.held).toNat)) 0#8) } : Sponge).held).toNat) (x7 ^^^ x10) } : Sponge).part.setIfInBounds 135 (({ ({ a0 with part := cpV a0.part ((a0.held).toNat) (List.replicate (136 - ((a0.held).toNat)) 0#8) } : Sponge) with part := ({ a0 with part := cpV a0.part ((a0.held).toNat) (List.replicate (136 - ((a0.held).toNat)) 0#8) } : Sponge).part.setIfInBounds ((({ a0 with part := cpV a0.part ((a0.held).toNat) (List.replicate (136 - ((a0.held).toNat)) 0#8) } : Sponge).held).toNat) (x7 ^^^ x10) } : Sponge).part[135] ^^^ 128#8) } : Sponge) x14 hx13) rfl rfl ?_
  rintro L16 M17 ⟨B15, e18, e19⟩
  rw [e18, e19]
  clear e18 e19 L16 M17
  refine OW.mem (M' := ((some b2, blk x14.C 73) :: (some b1, blk (u8s (Vector.replicate 32 0#8).toList) 29) :: (some b0_, blk a0.C 73) :: ((B15 ++ []) ++ N))) (fun w m => by have h := Mem.sinkAt (A := B15) m 1 2 rfl rfl; exact h) ?_
  replace hg1 := hg1.mono (Ψ := More w0 Φ (B15 ++ [])) (fun w q => More.mono (fun w m => (m).appR) q)
  refine OW.nil ?_
  refine QW.then_n ?_
  refine CW.seq ?_
  refine CW.region ?_
  refine OW.alloc (l := (u8s (Vector.replicate 32 0#8).toList)) rfl (by rw [Vector.toList_replicate, ← u8s_rep']; rfl) rfl (fun b20 => ?_)
  refine OW.nil ?_
  refine QW.then_n ?_
  refine CW.seq ?_
  refine CW.seq ?_
  refine CW.region ?_
  refine OW.rv (RV.move rfl) rfl ?_
  refine OW.nil ?_
  refine QW.then_n ?_
  obtain ⟨q21, hq22, hf⟩ := some_bind hf
  refine CW.cutJ (fun L' M' => ∃ w23 : Vector (BitVec 8) 32, q21 = w23 ∧ L' = [(2, ptr (some b1) 0), (4, ptr (some b20) 0)] ∧ M' = ((some b20, blk (u8s w23.toList) 29) :: (some b1, blk (u8s (Vector.replicate 32 0#8).toList) 29) :: (some b0_, blk a0.C 73) :: ((B15 ++ []) ++ N))) ?_ ?_
  · rintro L25 M26 ⟨w23, e24, e27, e28⟩
    rw [e27, e28]
    clear e27 e28 L25 M26
    clear hq22
    rw [e24] at hf
    clear e24
    try dsimp only at hf
    refine QW.then_n ?_
    refine CW.seq ?_
    refine CW.region ?_
    refine OW.rv (RV.loadW rfl (List.Mem.head _) rfl rfl rfl rfl ((u8s_length _).trans Vector.length_toList)) rfl ?_
    refine OW.rot1 ?_
    refine OW.sv (SV.storeW rfl rfl rfl (u8s_one _) rfl ((u8s_length _).trans Vector.length_toList) ((u8s_length _).trans Vector.length_toList)) ?_
    refine OW.nil ?_
    refine QW.then_n ?_
    refine CW.ret ?_
    have er0 := Option.some.inj hf
    obtain ⟨e0, er1⟩ := Prod.mk.inj er0
    clear er0
    subst e0
    subst er1
    refine QW.retG (rs := [.cell 2 29]) ([.agg (u8s w23.toList).toArray]) ((some b0_, blk a0.C 73) :: (B15 ++ [])) rfl ?_ rfl ?_ ?_ _ (.inl rfl)
    · exact ⟨⟨_, _, _, _, rfl, (List.Mem.head _), rfl, rfl, (congrArg some ((u8s_length _).trans Vector.length_toList).symm), rfl⟩, trivial⟩
    · exact ⟨(B15 ++ []), rfl, rfl⟩
    · exact (fun w m => m.pick [2] 3 rfl rfl)
  · skip
    refine CW.block ?_
    refine CW.loopJ (fun k L' M' => ∃ n29 : Nat, ∃ w31 : Vector (BitVec 8) 32, (keccak_Sponge_Sum.l1 x14 k n29 w31) = some q21 ∧ (n29 ≤ 9223372036854775807) ∧ L' = [(2, ptr (some b1) 0), (3, ptr (some b2) 0), (4, ptr (some b20) 0), (35, .int .i64 ((n29 : Nat) : Int))] ∧ M' = ((some b20, blk (u8s w31.toList) 29) :: (some b2, blk x14.C 73) :: (some b1, blk (u8s (Vector.replicate 32 0#8).toList) 29) :: (some b0_, blk a0.C 73) :: ((B15 ++ []) ++ N))) (k0 := (32 - 0 + 2)) ⟨0, (Vector.replicate 32 0#8), hq22, (by omega), rfl, rfl⟩ ⟨rfl, rfl, rfl, rfl, trivial⟩ (fun w m => m.pick [0, 1, 2, 3] 4 rfl rfl) ?_
    clear hq22
    rintro k32 L35 M36 ⟨n29, w31, hl33, b30, e37, e38⟩
    rw [e37, e38]
    clear e37 e38 L35 M36
    rcases k32 with _ | k32
    · rw [keccak_Sponge_Sum.l1] at hl33; cases hl33
    rw [keccak_Sponge_Sum.l1] at hl33
    refine CW.seq ?_
    refine CW.region ?_
    refine OW.rv (RV.lss rfl rfl) rfl ?_
    refine OW.slot (.bool (decide (n29 < 32))) (congrArg Value.bool (decide_eq_decide.2 (by omega))) ?_
    refine OW.nil ?_
    refine QW.then_n ?_
    refine CW.seq ?_
    by_cases h39 : n29 < 32
    · replace hl33 := if_t hl33 h39
      refine CW.is_t rfl (decide_eq_true h39) ?_
      refine CW.skip ?_
      refine QW.then_n ?_
      refine CW.seq ?_
      refine CW.block ?_
      refine CW.seq ?_
      refine CW.region ?_
      refine OW.rv (RV.move rfl) rfl ?_
      refine OW.rv (RV.assign rfl) rfl ?_
      refine OW.nil ?_
      refine QW.then_n ?_
      refine CW.region ?_
      refine OW.rv (RV.move rfl) rfl ?_
      refine OW.rv (RV.move rfl) rfl ?_
      refine OW.rv (RV.quo rfl rfl (by omega) (by omega) (by omega)) rfl ?_
      refine OW.slot (.int .i64 ((n29 / 8 : Nat) : Int)) (by first | rfl | (congr 1; omega)) ?_
      refine OW.rv (RV.field rfl rfl rfl rfl) rfl ?_
      refine OW.slot (ptr (some b2) 1) rfl ?_
      obtain ⟨g40, hl33⟩ := some_if hl33
      refine OW.rv (RV.idx_a ((n29 / 8)) rfl rfl rfl rfl rfl (by omega)) rfl ?_
      obtain ⟨x41, hx42, hl33⟩ := some_bind hl33
      refine OW.rv (RV.load rfl (List.Mem.tail _ (List.Mem.head _)) rfl rfl rfl (Sponge.C_lanes _ hx42)) rfl ?_
      refine OW.rv (RV.move rfl) rfl ?_
      refine OW.rv (RV.rem rfl rfl (by omega) (by omega)) rfl ?_
      refine OW.slot (.int .i64 ((n29 % 8 : Nat) : Int)) (by first | rfl | (congr 1; omega)) ?_
      refine OW.rv (RV.mul rfl rfl (by omega)) rfl ?_
      refine OW.slot (.int .i64 (((8 * (n29 % 8)) : Nat) : Int)) (by first | rfl | (congr 1) | (congr 1; omega)) ?_
      refine OW.rv (RV.shr64 (s := (8 * (n29 % 8))) rfl (by first | rfl | exact lit64 _ rfl) rfl (by first | rfl | (congr 1))) rfl ?_
      refine OW.rv (RV.conv64_8 rfl (by first | rfl | exact lit64 _ rfl) rfl rfl) rfl ?_
      refine OW.rv (RV.idx_a (n29) rfl rfl rfl rfl rfl (by omega)) rfl ?_
      refine OW.sv (SV.store rfl rfl rfl rfl rfl (by rw [u8s_length, Vector.length_toList]; omega)) ?_
      refine OW.cells (u8s (w31.setIfInBounds n29 ((x41 >>> (8 * (n29 % 8))).setWidth 8)).toList) (by rw [Nat.zero_add, u8s_set', vset]) ?_
      refine OW.nil ?_
      refine QW.block_n ?_
      refine QW.then_n ?_
      refine CW.region ?_
      refine OW.rv (RV.add rfl rfl (by omega)) rfl ?_
      refine OW.slot (.int .i64 (((n29 + 1) : Nat) : Int)) (by first | rfl | (congr 1) | (congr 1; omega)) ?_
      refine OW.rv (RV.move rfl) rfl ?_
      refine OW.nil ?_
      exact QW.againJ (k' := k32) (Nat.lt_succ_self _) ⟨(n29 + 1), (w31.setIfInBounds n29 ((x41 >>> (8 * (n29 % 8))).setWidth 8)), hl33, (by omega), rfl, rfl⟩ ⟨rfl, rfl, rfl, rfl, trivial⟩ (fun w m => m.pick [0, 1, 2, 3] 4 rfl rfl)
    · replace hl33 := if_f hl33 h39
      refine CW.is_f rfl (decide_eq_false h39) ?_
      refine CW.exit ?_
      refine QW.then_x ?_
      refine QW.then_x ?_
      refine QW.block_xe ?_
      exact QW.join ⟨w31, (Option.some.inj hl33).symm, rfl, rfl⟩ ⟨rfl, rfl, trivial⟩ (fun w m => m.pick [0, 2, 3] 4 rfl rfl)

theorem keccak_digest_does (w0 : World) (Φ : Ctx) (N : List Ent) (hΦ : ∀ w, Mem w0 w N → Φ w) (a0 : Int) (A1_ : Option Addr) (c1_ : Nat) (cs1_ : List Value) (a1 : List (List (BitVec 8))) (res0 : Vector (BitVec 8) 32) (ba0 : -9223372036854775808 ≤ a0 ∧ a0 ≤ 9223372036854775807) (va1 : View Φ A1_ a1.length c1_ 1 cs1_) (ha1 : Reps (BsRd Φ) cs1_ a1) (hg1 : View Φ (some ⟨1, 0, none⟩) 2 2 1 (u8s firstL)) (hf : keccak_digest a0 a1 = some res0) : DoesG Tryd.prog 38 [.int .i64 a0, .slice A1_ a1.length c1_] w0 [] N (fun v G => v = .agg (u8s res0.toList).toArray) := by
  unfold keccak_digest at hf
  replace va1 := va1.mono (Ψ := More w0 Φ []) (fun w q => q.1)
  replace hg1 := hg1.mono (Ψ := More w0 Φ []) (fun w q => q.1)
  replace ha1 := ha1.mono (BsRd.mono (Ψ := More w0 Φ []) (fun w q => q.1))
  have m1 := va1.mx
  refine DoesG.enter Tryd.func38 rfl Tryd.ntmps38 rfl (M := (([] ++ N))) rfl ?_
  refine CW.seq ?_
  refine CW.region ?_
  refine OW.alloc (l := (u8s (Vector.replicate 32 0#8).toList)) rfl (by rw [Vector.toList_replicate, ← u8s_rep']; rfl) rfl (fun b2 => ?_)
  refine OW.nil ?_
  refine QW.then_n ?_
  refine CW.seq ?_
  refine CW.region ?_
  refine OW.rv (RV.move rfl) rfl ?_
  refine OW.rv (RV.buildSt (l := (⟨0, (Vector.replicate 25 0#64), (Vector.replicate 136 0#8), 0, 0⟩ : Sponge).C) (cs := ({ (⟨0, (Vector.replicate 25 0#64), (Vector.replicate 136 0#8), 0, 0⟩ : Sponge) with kind := a0 } : Sponge).C) [(0, [.int .i64 a0])] rfl rfl rfl rfl rfl rfl rfl) rfl ?_
  refine OW.alloc (l := (⟨0, (Vector.replicate 25 0#64), (Vector.replicate 136 0#8), 0, 0⟩ : Sponge).C) rfl (by kernel_rfl) rfl (fun b3 => ?_)
  refine OW.sv (SV.storeW rfl rfl rfl (Sponge.C_one _) rfl (Sponge.C_length _) (Sponge.C_length _)) ?_
  refine OW.nil ?_
  refine QW.then_n ?_
  refine CW.seq ?_
  refine CW.seq ?_
  refine CW.region ?_
  refine OW.rv (RV.move rfl) rfl ?_
  refine OW.rv (RV.len rfl rfl) rfl ?_
  refine OW.rv (RV.move rfl) rfl ?_
  refine OW.nil ?_
  refine QW.then_n ?_
  obtain ⟨q4, hq5, hf⟩ := some_bind hf
  refine CW.cutJ (fun L' M' => ∃ w8 : Sponge, ∃ B6 : List Ent, q4 = w8 ∧ (∀ w, Mem w0 w B6 → Mem w0 w []) ∧ L' = [(4, ptr (some b2) 0), (5, ptr (some b3) 0)] ∧ M' = ((some b3, blk w8.C 73) :: (some b2, blk (u8s (Vector.replicate 32 0#8).toList) 29) :: (B6 ++ N))) ?_ ?_
  · rintro L10 M11 ⟨w8, B6, e9, hB7, e12, e13⟩
    rw [e12, e13]
    clear e12 e13 L10 M11
    clear hq5
    rw [e9] at hf
    clear e9
    try dsimp only at hf
    replace hg1 := hg1.mono (Ψ := More w0 Φ B6) (fun w q => More.mono (fun w m => hB7 w (m)) q)
    refine QW.then_n ?_
    refine CW.seq ?_
    refine CW.region ?_
    obtain ⟨⟨x15, x16⟩, hx14, hf⟩ := some_bind hf
    try dsimp only at hf
    refine OW.callG Tryd.call23 rfl (keccak_Sponge_Sum_does w0 (More w0 Φ B6) ((some b2, blk (u8s (Vector.replicate 32 0#8).toList) 29) :: (B6 ++ N)) (fun w m => More.of hΦ 1 m rfl) b3 w8 x15 x16 hg1 hx14) rfl rfl ?_
    rintro L18 M19 ⟨B17, e20, e21⟩
    rw [e20, e21]
    clear e20 e21 L18 M19
    refine OW.mem (M' := ((some b3, blk x16.C 73) :: (some b2, blk (u8s (Vector.replicate 32 0#8).toList) 29) :: ((B17 ++ B6) ++ N))) (fun w m => by have h := Mem.sinkAt (A := B17) m 1 1 rfl rfl; exact h) ?_
    replace hg1 := hg1.mono (Ψ := More w0 Φ (B17 ++ B6)) (fun w q => More.mono (fun w m => (m).appR) q)
    refine OW.rot1 ?_
    refine OW.sv (SV.storeW rfl rfl rfl (u8s_one _) rfl ((u8s_length _).trans Vector.length_toList) ((u8s_length _).trans Vector.length_toList)) ?_
    refine OW.nil ?_
    refine QW.then_n ?_
    refine CW.ret ?_
    have e0 := Option.some.inj hf
    subst e0
    refine QW.retG (rs := [.cell 4 29]) ([.agg (u8s x15.toList).toArray]) ((some b2, blk (u8s x15.toList) 29) :: (some b3, blk x16.C 73) :: (B17 ++ B6)) rfl ?_ rfl ?_ ?_ _ (.inl rfl)
    · exact ⟨⟨_, _, _, _, rfl, (List.Mem.head _), rfl, rfl, (congrArg some ((u8s_length _).trans Vector.length_toList).symm), rfl⟩, trivial⟩
    · exact rfl
    · exact (fun w m => m)
  · skip
    refine CW.block ?_
    refine CW.loopJ (fun k L' M' => ∃ n24 : Nat, ∃ w26 : Sponge, ∃ B22 : List Ent, (keccak_digest.l1 a1 k n24 w26) = some q4 ∧ (∀ w, Mem w0 w B22 → Mem w0 w []) ∧ (n24 ≤ 9223372036854775807) ∧ L' = [(4, ptr (some b2) 0), (5, ptr (some b3) 0), (10, .slice A1_ a1.length c1_), (11, .int .i64 ((a1.length : Nat) : Int)), (12, .int .i64 ((n24 : Nat) : Int))] ∧ M' = ((some b3, blk w26.C 73) :: (some b2, blk (u8s (Vector.replicate 32 0#8).toList) 29) :: (B22 ++ N))) (k0 := (a1.length - 0 + 2)) ⟨0, ({ (⟨0, (Vector.replicate 25 0#64), (Vector.replicate 136 0#8), 0, 0⟩ : Sponge) with kind := a0 } : Sponge), [], hq5, (fun w m => m), (by omega), rfl, rfl⟩ ⟨rfl, rfl, rfl, rfl, rfl, trivial⟩ (fun w m => m.pick [0, 1] 2 rfl rfl) ?_
    clear hq5
    rintro k27 L30 M31 ⟨n24, w26, B22, hl28, hB23, b25, e32, e33⟩
    rw [e32, e33]
    clear e32 e33 L30 M31
    rcases k27 with _ | k27
    · rw [keccak_digest.l1] at hl28; cases hl28
    rw [keccak_digest.l1] at hl28
    replace va1 := va1.mono (Ψ := More w0 Φ B22) (fun w q => More.mono (fun w m => hB23 w (m)) q)
    replace ha1 := ha1.mono (BsRd.mono (Ψ := More w0 Φ B22) (fun w q => More.mono (fun w m => hB23 w (m)) q))
    replace hg1 := hg1.mono (Ψ := More w0 Φ B22) (fun w q => More.mono (fun w m => hB23 w (m)) q)
    refine CW.seq ?_
    refine CW.region ?_
    refine OW.rv (RV.lss rfl rfl) rfl ?_
    refine OW.slot (.bool (decide (n24 < a1.length))) (congrArg Value.bool (decide_eq_decide.2 (by omega))) ?_
    refine OW.nil ?_
    refine QW.then_n ?_
    refine CW.seq ?_
    by_cases h34 : n24 < a1.length
    · replace hl28 := if_t hl28 h34
      refine CW.is_t rfl (decide_eq_true h34) ?_
      refine CW.skip ?_
      refine QW.then_n ?_
      refine CW.seq ?_
      refine CW.block ?_
      refine CW.seq ?_
      refine CW.region ?_
      obtain ⟨x35, hx36, hl28⟩ := some_bind hl28
      have hl37 := lt_of_at hx36
      refine OW.rv (RV.idx_r (n24) rfl rfl rfl rfl rfl (va1.isSome (by decide) hl37) (by omega)) rfl ?_
      obtain ⟨cs38, h39, h40⟩ := ha1.get BsRd.len hx36
      obtain ⟨A41, c42, e44, v43⟩ := h39
      subst e44
      have m45 := v43.mx
      refine OW.rv (RV.load_at rfl rfl rfl (fun w m => by have := va1.load (More.of hΦ 2 m rfl) h40 0 _ rfl; simpa [Addr.add] using this)) rfl ?_
      refine OW.rv (RV.assign rfl) rfl ?_
      refine OW.nil ?_
      refine QW.then_n ?_
      refine CW.region ?_
      refine OW.rv (RV.move rfl) rfl ?_
      obtain ⟨x47, hx46, hl28⟩ := some_bind hl28
      refine OW.callG Tryd.call22 rfl (keccak_Sponge_Write_does w0 (More w0 Φ B22) ((some b2, blk (u8s (Vector.replicate 32 0#8).toList) 29) :: (B22 ++ N)) (fun w m => More.of hΦ 1 m rfl) b3 w26 A41 c42 x35 x47 v43 hx46) rfl rfl ?_
      rintro L49 M50 ⟨B48, e51, e52⟩
      rw [e51, e52]
      clear e51 e52 L49 M50
      refine OW.mem (M' := ((some b3, blk x47.C 73) :: (some b2, blk (u8s (Vector.replicate 32 0#8).toList) 29) :: ((B48 ++ B22) ++ N))) (fun w m => by have h := Mem.sinkAt (A := B48) m 1 1 rfl rfl; exact h) ?_
      replace va1 := va1.mono (Ψ := More w0 Φ (B48 ++ B22)) (fun w q => More.mono (fun w m => (m).appR) q)
      replace ha1 := ha1.mono (BsRd.mono (Ψ := More w0 Φ (B48 ++ B22)) (fun w q => More.mono (fun w m => (m).appR) q))
      replace v43 := v43.mono (Ψ := More w0 Φ (B48 ++ B22)) (fun w q => More.mono (fun w m => (m).appR) q)
      replace hg1 := hg1.mono (Ψ := More w0 Φ (B48 ++ B22)) (fun w q => More.mono (fun w m => (m).appR) q)
      refine OW.nil ?_
      refine QW.block_n ?_
      refine QW.then_n ?_
      refine CW.region ?_
      refine OW.rv (RV.add rfl rfl (by omega)) rfl ?_
      refine OW.slot (.int .i64 (((n24 + 1) : Nat) : Int)) (by first | rfl | (congr 1) | (congr 1; omega)) ?_
      refine OW.rv (RV.move rfl) rfl ?_
      refine OW.nil ?_
      exact QW.againJ (k' := k27) (Nat.lt_succ_self _) ⟨(n24 + 1), x47, (B48 ++ B22), hl28, (fun w m => hB23 w ((m).appR)), (by omega), rfl, rfl⟩ ⟨rfl, rfl, rfl, rfl, rfl, trivial⟩ (fun w m => m.pick [0, 1] 2 rfl rfl)
    · replace hl28 := if_f hl28 h34
      refine CW.is_f rfl (decide_eq_false h34) ?_
      refine CW.exit ?_
      refine QW.then_x ?_
      refine QW.then_x ?_
      refine QW.block_xe ?_
      exact QW.join ⟨w26, B22, (Option.some.inj hl28).symm, (fun w m => hB23 w (m)), rfl, rfl⟩ ⟨rfl, rfl, trivial⟩ (fun w m => m.pick [0, 1] 2 rfl rfl)

theorem keccak_Sum_does (w0 : World) (Φ : Ctx) (N : List Ent) (hΦ : ∀ w, Mem w0 w N → Φ w) (A0_ : Option Addr) (c0_ : Nat) (cs0_ : List Value) (a0 : List (List (BitVec 8))) (res0 : Vector (BitVec 8) 32) (va0 : View Φ A0_ a0.length c0_ 1 cs0_) (ha0 : Reps (BsRd Φ) cs0_ a0) (hg1 : View Φ (some ⟨1, 0, none⟩) 2 2 1 (u8s firstL)) (hf : keccak_Sum a0 = some res0) : DoesG Tryd.prog 12 [.slice A0_ a0.length c0_] w0 [] N (fun v G => v = .agg (u8s res0.toList).toArray) := by
  unfold keccak_Sum at hf
  replace va0 := va0.mono (Ψ := More w0 Φ []) (fun w q => q.1)
  replace hg1 := hg1.mono (Ψ := More w0 Φ []) (fun w q => q.1)
  replace ha0 := ha0.mono (BsRd.mono (Ψ := More w0 Φ []) (fun w q => q.1))
  have m1 := va0.mx
  refine DoesG.enter Tryd.func12 rfl Tryd.ntmps12 rfl (M := (([] ++ N))) rfl ?_
  refine CW.seq ?_
  refine CW.region ?_
  refine OW.alloc (l := (u8s (Vector.replicate 32 0#8).toList)) rfl (by rw [Vector.toList_replicate, ← u8s_rep']; rfl) rfl (fun b2 => ?_)
  refine OW.nil ?_
  refine QW.then_n ?_
  refine CW.seq ?_
  refine CW.region ?_
  refine OW.rv (RV.move rfl) rfl ?_
  obtain ⟨x4, hx3, hf⟩ := some_bind hf
  refine OW.callG Tryd.call38 rfl (keccak_digest_does w0 (More w0 Φ []) ((some b2, blk (u8s (Vector.replicate 32 0#8).toList) 29) :: ([] ++ N)) (fun w m => More.of hΦ 1 m rfl) (0 : Int) A0_ c0_ cs0_ a0 x4 (by omega) va0 ha0 hg1 hx3) rfl rfl ?_
  rintro _ G5 rfl
  refine OW.mem (M' := ((some b2, blk (u8s (Vector.replicate 32 0#8).toList) 29) :: ([] ++ N))) (fun w m => m.appR) ?_
  refine OW.sv (SV.storeW rfl rfl rfl (u8s_one _) rfl ((u8s_length _).trans Vector.length_toList) ((u8s_length _).trans Vector.length_toList)) ?_
  refine OW.nil ?_
  refine QW.then_n ?_
  refine CW.ret ?_
  have e0 := Option.some.inj hf
  subst e0
  refine QW.retG (rs := [.cell 2 29]) ([.agg (u8s x4.toList).toArray]) ((some b2, blk (u8s x4.toList) 29) :: []) rfl ?_ rfl ?_ ?_ _ (.inl rfl)
  · exact ⟨⟨_, _, _, _, rfl, (List.Mem.head _), rfl, rfl, (congrArg some ((u8s_length _).trans Vector.length_toList).symm), rfl⟩, trivial⟩
  · exact rfl
  · exact (fun w m => m)

theorem keccak_New_does (w0 : World) (Φ : Ctx) (N : List Ent) (hΦ : ∀ w, Mem w0 w N → Φ w) (a0 : Int) (res0 : Sponge) (res1 : Nat) (ba0 : -9223372036854775808 ≤ a0 ∧ a0 ≤ 9223372036854775807) (hf : keccak_New a0 = some (res0, res1)) : DoesG Tryd.prog 19 [.int .i64 a0] w0 [] N (fun v G => ∃ B : List Ent, ∃ br0 : Nat, (res1 ≤ 9223372036854775807) ∧ v = .tuple #[ptr (some br0) 0, .int .i64 ((res1 : Nat) : Int)] ∧ G = (some br0, blk res0.C 73) :: B) := by
  unfold keccak_New at hf
  refine DoesG.enter Tryd.func19 rfl Tryd.ntmps19 rfl (M := (([] ++ N))) rfl ?_
  refine CW.seq ?_
  refine CW.region ?_
  refine OW.rv (RV.assign rfl) rfl ?_
  refine OW.rv (RV.assign rfl) rfl ?_
  refine OW.nil ?_
  refine QW.then_n ?_
  refine CW.seq ?_
  refine CW.seq ?_
  obtain ⟨q1, hq2, hf⟩ := some_bind hf
  refine CW.cutJ (fun L' M' => ∃ p3 : Bool, q1 = p3 ∧ L' = [(0, .int .i64 a0), (9, .bool (p3))] ∧ M' = (([] ++ N))) ?_ ?_
  · rintro L5 M6 ⟨p3, e4, e7, e8⟩
    rw [e7, e8]
    clear e7 e8 L5 M6
    clear hq2
    rw [e4] at hf
    clear e4
    try dsimp only at hf
    refine QW.then_n ?_
    by_cases h9 : p3 = true
    · replace hf := if_t hf h9
      refine CW.is_t rfl (h9) ?_
      refine CW.seq ?_
      refine CW.region ?_
      refine OW.rv (RV.assign rfl) rfl ?_
      refine OW.rv (RV.assign rfl) rfl ?_
      refine OW.nil ?_
      refine QW.then_n ?_
      refine CW.ret ?_
      refine QW.then_r ?_
      cases hf
    · replace hf := if_f hf h9
      refine CW.is_f rfl (Bool.eq_false_iff.2 h9) ?_
      refine CW.skip ?_
      refine QW.then_n ?_
      refine CW.seq ?_
      refine CW.region ?_
      refine OW.rv (RV.move rfl) rfl ?_
      refine OW.rv (RV.buildSt (l := (⟨0, (Vector.replicate 25 0#64), (Vector.replicate 136 0#8), 0, 0⟩ : Sponge).C) (cs := ({ (⟨0, (Vector.replicate 25 0#64), (Vector.replicate 136 0#8), 0, 0⟩ : Sponge) with kind := a0 } : Sponge).C) [(0, [.int .i64 a0])] rfl rfl rfl rfl rfl rfl rfl) rfl ?_
      refine OW.boxA rfl rfl (fun b10 => ?_)
      refine OW.rv (RV.assign rfl) rfl ?_
      refine OW.rv (RV.assign rfl) rfl ?_
      refine OW.nil ?_
      refine QW.then_n ?_
      refine CW.ret ?_
      have er0 := Option.some.inj hf
      obtain ⟨e0, er1⟩ := Prod.mk.inj er0
      clear er0
      subst e0
      subst er1
      refine QW.retG (rs := [.tmp 2, .tmp 3]) ([ptr (some b10) 0, .int .i64 (0 : Int)]) ((some b10, blk ({ (⟨0, (Vector.replicate 25 0#64), (Vector.replicate 136 0#8), 0, 0⟩ : Sponge) with kind := a0 } : Sponge).C 73) :: []) rfl ?_ rfl ?_ ?_ _ (.inl rfl)
      · exact ⟨rfl, rfl, trivial⟩
      · exact ⟨[], b10, (by omega), rfl, rfl⟩
      · exact (fun w m => m.pick [0] 1 rfl rfl)
  · skip
    refine CW.region ?_
    refine OW.rv (RV.move rfl) rfl ?_
    refine OW.rv (RV.neq rfl rfl) rfl ?_
    refine OW.rv (RV.move rfl) rfl ?_
    by_cases h11 : a0 = (0 : Int)
    · replace hq2 := if_t hq2 h11
      refine OW.slot (.bool false) (congrArg Value.bool (congrArg (fun b => !b) (decide_eq_true h11))) ?_
      refine OW.skip rfl rfl rfl ?_
      refine OW.skip rfl rfl rfl ?_
      refine OW.rv (RV.pick_f rfl rfl rfl) rfl ?_
      refine OW.nil ?_
      exact QW.join ⟨false, (Option.some.inj hq2).symm, rfl, rfl⟩ ⟨rfl, rfl, trivial⟩ (fun w m => m.pick [] 0 rfl rfl)
    · replace hq2 := if_f hq2 h11
      refine OW.slot (.bool true) (congrArg Value.bool (congrArg (fun b => !b) (decide_eq_false h11))) ?_
      refine OW.want rfl ?_
      refine OW.rv (RV.move rfl) rfl ?_
      refine OW.want rfl ?_
      refine OW.rv (RV.neq rfl rfl) rfl ?_
      refine OW.rv (RV.pick_t rfl rfl rfl) rfl ?_
      refine OW.nil ?_
      exact QW.join ⟨(!decide (a0 = (1 : Int))), (Option.some.inj hq2).symm, rfl, rfl⟩ ⟨rfl, rfl, trivial⟩ (fun w m => m.pick [] 0 rfl rfl)

theorem keccak_Sha3_does (w0 : World) (Φ : Ctx) (N : List Ent) (hΦ : ∀ w, Mem w0 w N → Φ w) (A0_ : Option Addr) (c0_ : Nat) (cs0_ : List Value) (a0 : List (List (BitVec 8))) (res0 : Vector (BitVec 8) 32) (va0 : View Φ A0_ a0.length c0_ 1 cs0_) (ha0 : Reps (BsRd Φ) cs0_ a0) (hg1 : View Φ (some ⟨1, 0, none⟩) 2 2 1 (u8s firstL)) (hf : keccak_Sha3 a0 = some res0) : DoesG Tryd.prog 13 [.slice A0_ a0.length c0_] w0 [] N (fun v G => v = .agg (u8s res0.toList).toArray) := by
  unfold keccak_Sha3 at hf
  replace va0 := va0.mono (Ψ := More w0 Φ []) (fun w q => q.1)
  replace hg1 := hg1.mono (Ψ := More w0 Φ []) (fun w q => q.1)
  replace ha0 := ha0.mono (BsRd.mono (Ψ := More w0 Φ []) (fun w q => q.1))
  have m1 := va0.mx
  refine DoesG.enter Tryd.func13 rfl Tryd.ntmps13 rfl (M := (([] ++ N))) rfl ?_
  refine CW.seq ?_
  refine CW.region ?_
  refine OW.alloc (l := (u8s (Vector.replicate 32 0#8).toList)) rfl (by rw [Vector.toList_replicate, ← u8s_rep']; rfl) rfl (fun b2 => ?_)
  refine OW.nil ?_
  refine QW.then_n ?_
  refine CW.seq ?_
  refine CW.region ?_
  refine OW.rv (RV.move rfl) rfl ?_
  obtain ⟨x4, hx3, hf⟩ := some_bind hf
  refine OW.callG Tryd.call38 rfl (keccak_digest_does w0 (More w0 Φ []) ((some b2, blk (u8s (Vector.replicate 32 0#8).toList) 29) :: ([] ++ N)) (fun w m => More.of hΦ 1 m rfl) (1 : Int) A0_ c0_ cs0_ a0 x4 (by omega) va0 ha0 hg1 hx3) rfl rfl ?_
  rintro _ G5 rfl
  refine OW.mem (M' := ((some b2, blk (u8s (Vector.replicate 32 0#8).toList) 29) :: ([] ++ N))) (fun w m => m.appR) ?_
  refine OW.sv (SV.storeW rfl rfl rfl (u8s_one _) rfl ((u8s_length _).trans Vector.length_toList) ((u8s_length _).trans Vector.length_toList)) ?_
  refine OW.nil ?_
  refine QW.then_n ?_
  refine CW.ret ?_
  have e0 := Option.some.inj hf
  subst e0
  refine QW.retG (rs := [.cell 2 29]) ([.agg (u8s x4.toList).toArray]) ((some b2, blk (u8s x4.toList) 29) :: []) rfl ?_ rfl ?_ ?_ _ (.inl rfl)
  · exact ⟨⟨_, _, _, _, rfl, (List.Mem.head _), rfl, rfl, (congrArg some ((u8s_length _).trans Vector.length_toList).symm), rfl⟩, trivial⟩
  · exact rfl
  · exact (fun w m => m)

theorem keccak_Sponge_Len_does (w0 : World) (Φ : Ctx) (N : List Ent) (hΦ : ∀ w, Mem w0 w N → Φ w) (b0_ : Nat) (a0 : Sponge) (res0 : Int) (new0 : Sponge) (hf : keccak_Sponge_Len a0 = some (res0, new0)) : DoesG Tryd.prog 24 [ptr (some b0_) 0] w0 [(some b0_, blk a0.C 73)] N (fun v G => ∃ B : List Ent, (-9223372036854775808 ≤ res0 ∧ res0 ≤ 9223372036854775807) ∧ v = .int .i64 res0 ∧ G = (some b0_, blk new0.C 73) :: B) := by
  unfold keccak_Sponge_Len at hf
  refine DoesG.enter Tryd.func24 rfl Tryd.ntmps24 rfl (M := ((some b0_, blk a0.C 73) :: ([] ++ N))) rfl ?_
  refine CW.seq ?_
  refine CW.region ?_
  refine OW.rv (RV.assign rfl) rfl ?_
  refine OW.nil ?_
  refine QW.then_n ?_
  refine CW.seq ?_
  refine CW.seq ?_
  refine CW.region ?_
  refine OW.rv (RV.move rfl) rfl ?_
  refine OW.rv (RV.eqlS rfl rfl rfl) rfl ?_
  refine OW.nil ?_
  refine QW.then_n ?_
  refine CW.is_f rfl rfl ?_
  refine CW.skip ?_
  refine QW.then_n ?_
  refine CW.seq ?_
  refine CW.region ?_
  refine OW.rv (RV.move rfl) rfl ?_
  refine OW.rv (RV.nilCheck rfl) rfl ?_
  refine OW.rv (RV.field rfl rfl rfl rfl) rfl ?_
  refine OW.slot (ptr (some b0_) 163) rfl ?_
  refine OW.rv (RV.load rfl (List.Mem.head _) rfl rfl rfl (Sponge.C_long _)) rfl ?_
  obtain ⟨g1, hf⟩ := some_if hf
  refine OW.rv (RV.assign rfl) rfl ?_
  refine OW.nil ?_
  refine QW.then_n ?_
  refine CW.ret ?_
  have er0 := Option.some.inj hf
  obtain ⟨e0, er1⟩ := Prod.mk.inj er0
  clear er0
  subst e0
  subst er1
  refine QW.retG (rs := [.tmp 2]) ([.int .i64 a0.long]) ((some b0_, blk a0.C 73) :: []) rfl ?_ rfl ?_ ?_ _ (.inl rfl)
  · exact ⟨rfl, trivial⟩
  · exact ⟨[], (by omega), rfl, rfl⟩
  · exact (fun w m => m.pick [0] 1 rfl rfl)

theorem waybilllaw02_num_does (w0 : World) (Φ : Ctx) (N : List Ent) (hΦ : ∀ w, Mem w0 w N → Φ w) (a0 : Int) (res0 : Int) (ba0 : -9223372036854775808 ≤ a0 ∧ a0 ≤ 9223372036854775807) (hf : waybilllaw02_num a0 = some res0) : DoesG Tryd.prog 20 [.int .i64 a0] w0 [] N (fun v G => (-9223372036854775808 ≤ res0 ∧ res0 ≤ 9223372036854775807) ∧ v = .int .i64 res0) := by
  unfold waybilllaw02_num at hf
  refine DoesG.enter Tryd.func20 rfl Tryd.ntmps20 rfl (M := (([] ++ N))) rfl ?_
  refine CW.seq ?_
  refine CW.region ?_
  refine OW.rv (RV.assign rfl) rfl ?_
  refine OW.nil ?_
  refine QW.then_n ?_
  refine CW.seq ?_
  refine CW.region ?_
  refine OW.rv (RV.move rfl) rfl ?_
  refine OW.rv (RV.assign rfl) rfl ?_
  refine OW.nil ?_
  refine QW.then_n ?_
  refine CW.ret ?_
  have e0 := Option.some.inj hf
  subst e0
  refine QW.retG (rs := [.tmp 2]) ([.int .i64 a0]) ([]) rfl ?_ rfl ?_ ?_ _ (.inl rfl)
  · exact ⟨rfl, trivial⟩
  · exact ⟨(by omega), rfl⟩
  · exact (fun w m => m)

theorem waybilllaw02_none_does (w0 : World) (Φ : Ctx) (N : List Ent) (hΦ : ∀ w, Mem w0 w N → Φ w) (res0 : Vector (BitVec 8) 32) (hf : waybilllaw02_none = some res0) : DoesG Tryd.prog 18 [] w0 [] N (fun v G => v = .agg (u8s res0.toList).toArray) := by
  unfold waybilllaw02_none at hf
  refine DoesG.enter Tryd.func18 rfl Tryd.ntmps18 rfl (M := (([] ++ N))) rfl ?_
  refine CW.seq ?_
  refine CW.region ?_
  refine OW.alloc (l := (u8s (Vector.replicate 32 0#8).toList)) rfl (by rw [Vector.toList_replicate, ← u8s_rep']; rfl) rfl (fun b1 => ?_)
  refine OW.nil ?_
  refine QW.then_n ?_
  refine CW.seq ?_
  refine CW.region ?_
  refine OW.rv (RV.buildA (l := (u8s (Vector.replicate 32 0#8).toList)) (cs := (u8s (((((((((((((((((((((((((((((((((Vector.replicate 32 0#8).setIfInBounds 0 (197#8)).setIfInBounds 1 (210#8)).setIfInBounds 2 (70#8)).setIfInBounds 3 (1#8)).setIfInBounds 4 (134#8)).setIfInBounds 5 (247#8)).setIfInBounds 6 (35#8)).setIfInBounds 7 (60#8)).setIfInBounds 8 (146#8)).setIfInBounds 9 (126#8)).setIfInBounds 10 (125#8)).setIfInBounds 11 (178#8)).setIfInBounds 12 (220#8)).setIfInBounds 13 (199#8)).setIfInBounds 14 (3#8)).setIfInBounds 15 (192#8)).setIfInBounds 16 (229#8)).setIfInBounds 17 (0#8)).setIfInBounds 18 (182#8)).setIfInBounds 19 (83#8)).setIfInBounds 20 (202#8)).setIfInBounds 21 (130#8)).setIfInBounds 22 (39#8)).setIfInBounds 23 (59#8)).setIfInBounds 24 (123#8)).setIfInBounds 25 (250#8)).setIfInBounds 26 (216#8)).setIfInBounds 27 (4#8)).setIfInBounds 28 (93#8)).setIfInBounds 29 (133#8)).setIfInBounds 30 (164#8)).setIfInBounds 31 (112#8)).toList)) rfl rfl rfl (by rw [Vector.toList_replicate, ← u8s_rep']; rfl) rfl rfl (by simp only [setL, List.foldl, ← vset, Vector.toList_replicate, ← u8s_set'] <;> rfl)) rfl ?_
  refine OW.sv (SV.storeW rfl rfl rfl (u8s_one _) rfl ((u8s_length _).trans Vector.length_toList) ((u8s_length _).trans Vector.length_toList)) ?_
  refine OW.nil ?_
  refine QW.then_n ?_
  refine CW.ret ?_
  have e0 := Option.some.inj hf
  subst e0
  refine QW.retG (rs := [.cell 0 29]) ([.agg (u8s (((((((((((((((((((((((((((((((((Vector.replicate 32 0#8).setIfInBounds 0 (197#8)).setIfInBounds 1 (210#8)).setIfInBounds 2 (70#8)).setIfInBounds 3 (1#8)).setIfInBounds 4 (134#8)).setIfInBounds 5 (247#8)).setIfInBounds 6 (35#8)).setIfInBounds 7 (60#8)).setIfInBounds 8 (146#8)).setIfInBounds 9 (126#8)).setIfInBounds 10 (125#8)).setIfInBounds 11 (178#8)).setIfInBounds 12 (220#8)).setIfInBounds 13 (199#8)).setIfInBounds 14 (3#8)).setIfInBounds 15 (192#8)).setIfInBounds 16 (229#8)).setIfInBounds 17 (0#8)).setIfInBounds 18 (182#8)).setIfInBounds 19 (83#8)).setIfInBounds 20 (202#8)).setIfInBounds 21 (130#8)).setIfInBounds 22 (39#8)).setIfInBounds 23 (59#8)).setIfInBounds 24 (123#8)).setIfInBounds 25 (250#8)).setIfInBounds 26 (216#8)).setIfInBounds 27 (4#8)).setIfInBounds 28 (93#8)).setIfInBounds 29 (133#8)).setIfInBounds 30 (164#8)).setIfInBounds 31 (112#8)).toList).toArray]) ((some b1, blk (u8s (((((((((((((((((((((((((((((((((Vector.replicate 32 0#8).setIfInBounds 0 (197#8)).setIfInBounds 1 (210#8)).setIfInBounds 2 (70#8)).setIfInBounds 3 (1#8)).setIfInBounds 4 (134#8)).setIfInBounds 5 (247#8)).setIfInBounds 6 (35#8)).setIfInBounds 7 (60#8)).setIfInBounds 8 (146#8)).setIfInBounds 9 (126#8)).setIfInBounds 10 (125#8)).setIfInBounds 11 (178#8)).setIfInBounds 12 (220#8)).setIfInBounds 13 (199#8)).setIfInBounds 14 (3#8)).setIfInBounds 15 (192#8)).setIfInBounds 16 (229#8)).setIfInBounds 17 (0#8)).setIfInBounds 18 (182#8)).setIfInBounds 19 (83#8)).setIfInBounds 20 (202#8)).setIfInBounds 21 (130#8)).setIfInBounds 22 (39#8)).setIfInBounds 23 (59#8)).setIfInBounds 24 (123#8)).setIfInBounds 25 (250#8)).setIfInBounds 26 (216#8)).setIfInBounds 27 (4#8)).setIfInBounds 28 (93#8)).setIfInBounds 29 (133#8)).setIfInBounds 30 (164#8)).setIfInBounds 31 (112#8)).toList) 29) :: []) rfl ?_ rfl ?_ ?_ _ (.inl rfl)
  · exact ⟨⟨_, _, _, _, rfl, (List.Mem.head _), rfl, rfl, (congrArg some ((u8s_length _).trans Vector.length_toList).symm), rfl⟩, trivial⟩
  · exact rfl
  · exact (fun w m => m)

theorem waybilllaw02_KeccakCuts_does (w0 : World) (Φ : Ctx) (N : List Ent) (hΦ : ∀ w, Mem w0 w N → Φ w) (A0_ : Option Addr) (c0_ : Nat) (a0 : List (BitVec 8)) (A1_ : Option Addr) (c1_ : Nat) (a1 : List (Int)) (res0 : Bool) (va0 : View Φ A0_ a0.length c0_ 1 (u8s a0)) (va1 : View Φ A1_ a1.length c1_ 1 (i64s a1)) (hg1 : View Φ (some ⟨1, 0, none⟩) 2 2 1 (u8s firstL)) (hf : waybilllaw02_KeccakCuts a0 a1 = some res0) : DoesG Tryd.prog 5 [.slice A0_ a0.length c0_, .slice A1_ a1.length c1_] w0 [] N (fun v G => v = .bool res0) := by
  unfold waybilllaw02_KeccakCuts at hf
  replace va0 := va0.mono (Ψ := More w0 Φ []) (fun w q => q.1)
  replace va1 := va1.mono (Ψ := More w0 Φ []) (fun w q => q.1)
  replace hg1 := hg1.mono (Ψ := More w0 Φ []) (fun w q => q.1)
  have m1 := va0.mx
  have m2 := va1.mx
  refine DoesG.enter Tryd.func5 rfl Tryd.ntmps5 rfl (M := (([] ++ N))) rfl ?_
  refine CW.seq ?_
  refine CW.region ?_
  refine OW.rv (RV.assign rfl) rfl ?_
  refine OW.nil ?_
  refine QW.then_n ?_
  refine CW.seq ?_
  refine CW.seq ?_
  refine CW.region ?_
  obtain ⟨x4, hx3, hf⟩ := some_bind hf
  refine OW.callG Tryd.call12 rfl (keccak_Sum_does w0 (More w0 Φ []) (([] ++ N)) (fun w m => More.of hΦ 0 m rfl) none 0 [] [] x4 View.nil .nil hg1 hx3) rfl rfl ?_
  rintro _ G5 rfl
  refine OW.mem (M' := (([] ++ N))) (fun w m => m.appR) ?_
  obtain ⟨x8, hx7, hf⟩ := some_bind hf
  refine OW.callG Tryd.call18 rfl (waybilllaw02_none_does w0 (More w0 Φ []) (([] ++ N)) (fun w m => More.of hΦ 0 m rfl) x8 hx7) rfl rfl ?_
  rintro _ G9 rfl
  refine OW.mem (M' := (([] ++ N))) (fun w m => m.appR) ?_
  refine OW.rv (RV.neA8 rfl rfl rfl rfl rfl rfl (Vector.length_toList) (Vector.length_toList)) rfl ?_
  refine OW.slot (.bool (!decide (x4 = x8))) (congrArg (fun b => Value.bool (!b)) (decide_eq_decide.2 Vector.toList_inj)) ?_
  refine OW.nil ?_
  refine QW.then_n ?_
  by_cases h11 : x4 = x8
  · replace hf := if_t hf h11
    refine CW.is_f rfl (congrArg (fun b => !b) (decide_eq_true h11)) ?_
    refine CW.skip ?_
    refine QW.then_n ?_
    refine CW.seq ?_
    refine CW.region ?_
    refine OW.rv (RV.assign rfl) rfl ?_
    refine OW.nil ?_
    refine QW.then_n ?_
    refine CW.seq ?_
    refine CW.region ?_
    obtain ⟨⟨x13, x14⟩, hx12, hf⟩ := some_bind hf
    try dsimp only at hf
    refine OW.callG Tryd.call19 rfl (keccak_New_does w0 (More w0 Φ []) (([] ++ N)) (fun w m => More.of hΦ 0 m rfl) (0 : Int) x13 x14 (by omega) hx12) rfl rfl ?_
    rintro L18 M19 ⟨B15, b16, b17, e20, e21⟩
    rw [e20, e21]
    clear e20 e21 L18 M19
    refine OW.mem (M' := ((some b16, blk x13.C 73) :: ((B15 ++ []) ++ N))) (fun w m => by have h := Mem.sinkAt (A := B15) m 1 0 rfl rfl; exact h) ?_
    replace va0 := va0.mono (Ψ := More w0 Φ (B15 ++ [])) (fun w q => More.mono (fun w m => (m).appR) q)
    replace va1 := va1.mono (Ψ := More w0 Φ (B15 ++ [])) (fun w q => More.mono (fun w m => (m).appR) q)
    replace hg1 := hg1.mono (Ψ := More w0 Φ (B15 ++ [])) (fun w q => More.mono (fun w m => (m).appR) q)
    refine OW.rv (RV.move rfl) rfl ?_
    refine OW.rv (RV.extract rfl rfl) rfl ?_
    refine OW.slot (ptr (some b16) 0) (rfl) ?_
    refine OW.rv (RV.extract rfl rfl) rfl ?_
    refine OW.slot (.int .i64 ((x14 : Nat) : Int)) (rfl) ?_
    refine OW.rv (RV.assign rfl) rfl ?_
    refine OW.rv (RV.assign rfl) rfl ?_
    refine OW.nil ?_
    refine QW.then_n ?_
    refine CW.seq ?_
    refine CW.region ?_
    obtain ⟨⟨x23, x24⟩, hx22, hf⟩ := some_bind hf
    try dsimp only at hf
    refine OW.callG Tryd.call19 rfl (keccak_New_does w0 (More w0 Φ (B15 ++ [])) ((some b16, blk x13.C 73) :: ((B15 ++ []) ++ N)) (fun w m => More.of hΦ 1 m rfl) (1 : Int) x23 x24 (by omega) hx22) rfl rfl ?_
    rintro L28 M29 ⟨B25, b26, b27, e30, e31⟩
    rw [e30, e31]
    clear e30 e31 L28 M29
    refine OW.mem (M' := ((some b26, blk x23.C 73) :: (some b16, blk x13.C 73) :: ((B25 ++ (B15 ++ [])) ++ N))) (fun w m => by have h := Mem.sinkAt (A := B25) m 1 1 rfl rfl; exact h) ?_
    replace va0 := va0.mono (Ψ := More w0 Φ (B25 ++ (B15 ++ []))) (fun w q => More.mono (fun w m => (m).appR) q)
    replace va1 := va1.mono (Ψ := More w0 Φ (B25 ++ (B15 ++ []))) (fun w q => More.mono (fun w m => (m).appR) q)
    replace hg1 := hg1.mono (Ψ := More w0 Φ (B25 ++ (B15 ++ []))) (fun w q => More.mono (fun w m => (m).appR) q)
    refine OW.rv (RV.move rfl) rfl ?_
    refine OW.rv (RV.extract rfl rfl) rfl ?_
    refine OW.slot (ptr (some b26) 0) (rfl) ?_
    refine OW.rv (RV.extract rfl rfl) rfl ?_
    refine OW.slot (.int .i64 ((x24 : Nat) : Int)) (rfl) ?_
    refine OW.rv (RV.assign rfl) rfl ?_
    refine OW.rv (RV.assign rfl) rfl ?_
    refine OW.nil ?_
    refine QW.then_n ?_
    refine CW.seq ?_
    refine CW.seq ?_
    obtain ⟨q32, hq33, hf⟩ := some_bind hf
    refine CW.cutJ (fun L' M' => ∃ p34 : Bool, q32 = p34 ∧ L' = [(0, .slice A0_ a0.length c0_), (1, .slice A1_ a1.length c1_), (5, .slice none 0 0), (6, ptr (some b16) 0), (8, ptr (some b26) 0), (41, .bool (p34))] ∧ M' = ((some b26, blk x23.C 73) :: (some b16, blk x13.C 73) :: ((B25 ++ (B15 ++ [])) ++ N))) ?_ ?_
    · rintro L36 M37 ⟨p34, e35, e38, e39⟩
      rw [e38, e39]
      clear e38 e39 L36 M37
      clear hq33
      rw [e35] at hf
      clear e35
      try dsimp only at hf
      refine QW.then_n ?_
      by_cases h40 : p34 = true
      · replace hf := if_t hf h40
        refine CW.is_t rfl (h40) ?_
        refine CW.seq ?_
        refine CW.region ?_
        refine OW.rv (RV.assign rfl) rfl ?_
        refine OW.nil ?_
        refine QW.then_n ?_
        refine CW.ret ?_
        refine QW.then_r ?_
        have e0 := Option.some.inj hf
        subst e0
        refine QW.retG (rs := [.tmp 4]) ([.bool false]) ((some b26, blk x23.C 73) :: (some b16, blk x13.C 73) :: (B25 ++ (B15 ++ []))) rfl ?_ rfl ?_ ?_ _ (.inl rfl)
        · exact ⟨rfl, trivial⟩
        · exact rfl
        · exact (fun w m => m)
      · replace hf := if_f hf h40
        refine CW.is_f rfl (Bool.eq_false_iff.2 h40) ?_
        refine CW.skip ?_
        refine QW.then_n ?_
        refine CW.seq ?_
        refine CW.region ?_
        refine OW.rv (RV.assign rfl) rfl ?_
        refine OW.nil ?_
        refine QW.then_n ?_
        refine CW.seq ?_
        refine CW.seq ?_
        refine CW.region ?_
        refine OW.rv (RV.assign rfl) rfl ?_
        refine OW.nil ?_
        refine QW.then_n ?_
        obtain ⟨q41, hq42, hf⟩ := some_bind hf
        refine CW.cutJ (fun L' M' => ∃ l45 : List (List (BitVec 8)), ∃ w52 : Sponge, ∃ w53 : Sponge, ∃ B43 : List Ent, ∃ cs46 : List Value, ∃ ob48 : Option Nat, ∃ c49 : Nat, ∃ r50 : List Value, q41 = (l45, w52, w53) ∧ (∀ w, Mem w0 w B43 → Mem w0 w (B25 ++ (B15 ++ []))) ∧ (Reps (BsRd (More w0 Φ B43)) cs46 l45) ∧ (OwnS ob48 l45.length c49 1 cs46 r50) ∧ L' = [(0, .slice A0_ a0.length c0_), (5, sl ob48 0 l45.length c49), (6, ptr (some b16) 0), (8, ptr (some b26) 0)] ∧ M' = ((ob48, blk (cs46 ++ r50) 33) :: (some b26, blk w52.C 73) :: (some b16, blk w53.C 73) :: (B43 ++ N))) ?_ ?_
        · rintro L55 M56 ⟨l45, w52, w53, B43, cs46, ob48, c49, r50, e54, hB44, h47, o51, e57, e58⟩
          rw [e57, e58]
          clear e57 e58 L55 M56
          clear hq42
          rw [e54] at hf
          clear e54
          try dsimp only at hf
          replace va0 := va0.mono (Ψ := More w0 Φ B43) (fun w q => More.mono (fun w m => hB44 w (m)) q)
          replace hg1 := hg1.mono (Ψ := More w0 Φ B43) (fun w q => More.mono (fun w m => hB44 w (m)) q)
          have m59 := o51.mx
          refine QW.then_n ?_
          refine CW.seq ?_
          refine CW.region ?_
          refine OW.rv (RV.move rfl) rfl ?_
          obtain ⟨x61, hx60, hf⟩ := some_bind hf
          refine OW.callG Tryd.call21 rfl (waybilllaw02_lent_own w0 (More w0 Φ B43) ((ob48, blk (cs46 ++ r50) 33) :: (some b26, blk w52.C 73) :: (some b16, blk w53.C 73) :: (B43 ++ N)) (fun w m => More.of hΦ 3 m rfl) A0_ c0_ a0 x61 va0 hx60) rfl rfl ?_
          rintro L67 M68 ⟨B62, ob63, c64, r65, o66, e69, e70⟩
          rw [e69, e70]
          clear e69 e70 L67 M68
          refine OW.mem (M' := ((ob63, blk ((u8s x61) ++ r65) 5) :: (ob48, blk (cs46 ++ r50) 33) :: (some b26, blk w52.C 73) :: (some b16, blk w53.C 73) :: ((B62 ++ B43) ++ N))) (fun w m => by have h := Mem.sinkAt (A := B62) m 1 3 rfl rfl; exact h) ?_
          replace va0 := va0.mono (Ψ := More w0 Φ (B62 ++ B43)) (fun w q => More.mono (fun w m => (m).appR) q)
          replace h47 := h47.mono (BsRd.mono (Ψ := More w0 Φ (B62 ++ B43)) (fun w q => More.mono (fun w m => (m).appR) q))
          replace hg1 := hg1.mono (Ψ := More w0 Φ (B62 ++ B43)) (fun w q => More.mono (fun w m => (m).appR) q)
          have m71 := o66.mx
          refine OW.mem (M' := (ob48, blk (cs46 ++ r50) 33) :: (some b26, blk w52.C 73) :: (some b16, blk w53.C 73) :: (((ob63, blk ((u8s x61) ++ r65) 5) :: (B62 ++ B43)) ++ N)) (fun w m => m.pick [1, 2, 3, 0] 4 rfl rfl) ?_
          replace va0 := va0.mono (Ψ := More w0 Φ ((ob63, blk ((u8s x61) ++ r65) 5) :: (B62 ++ B43))) (fun w q => More.mono (fun w m => (m).tail) q)
          replace h47 := h47.mono (BsRd.mono (Ψ := More w0 Φ ((ob63, blk ((u8s x61) ++ r65) 5) :: (B62 ++ B43))) (fun w q => More.mono (fun w m => (m).tail) q))
          replace hg1 := hg1.mono (Ψ := More w0 Φ ((ob63, blk ((u8s x61) ++ r65) 5) :: (B62 ++ B43))) (fun w q => More.mono (fun w m => (m).tail) q)
          have v74 : View (More w0 Φ ((ob63, blk ((u8s x61) ++ r65) 5) :: (B62 ++ B43))) ((ob63).map fun k => ⟨k, 0, none⟩) x61.length c64 1 (u8s x61) := o66.view (by decide) (fun w q => q.2.sublist (List.singleton_sublist.2 (List.mem_cons_self ..)))
          refine OW.ofN (NV.bs1 rfl rfl rfl rfl rfl rfl) rfl (fun b72 => ?_)
          have h76 : Reps (BsRd (More w0 Φ ((ob63, blk ((u8s x61) ++ r65) 5) :: (B62 ++ B43)))) (([.slice ((ob63).map fun k => ⟨k, 0, none⟩) x61.length c64] : List Value)) [x61] := Reps.one (BsRd.mk v74)
          refine OW.mem (M' := (((some b72), blk ((([.slice ((ob63).map fun k => ⟨k, 0, none⟩) x61.length c64] : List Value)) ++ []) 33) :: (ob48, blk (cs46 ++ r50) 33) :: (some b26, blk w52.C 73) :: (some b16, blk w53.C 73) :: (((ob63, blk ((u8s x61) ++ r65) 5) :: (B62 ++ B43)) ++ N))) (fun w m => m) ?_
          have o73 : OwnS (some b72) ([x61] : List (List (BitVec 8))).length 1 1 (([.slice ((ob63).map fun k => ⟨k, 0, none⟩) x61.length c64] : List Value)) [] := ⟨by simp [BsRd], by simp [BsRd], (fun h => nomatch h), by simp⟩
          refine OW.slot (sl (some b72) 0 ([x61] : List (List (BitVec 8))).length 1) (rfl) ?_
          refine OW.mem (M' := (ob48, blk (cs46 ++ r50) 33) :: (some b26, blk w52.C 73) :: (some b16, blk w53.C 73) :: ((((some b72), blk ((([.slice ((ob63).map fun k => ⟨k, 0, none⟩) x61.length c64] : List Value)) ++ []) 33) :: ((ob63, blk ((u8s x61) ++ r65) 5) :: (B62 ++ B43))) ++ N)) (fun w m => m.pick [1, 2, 3, 0] 4 rfl rfl) ?_
          replace va0 := va0.mono (Ψ := More w0 Φ (((some b72), blk ((([.slice ((ob63).map fun k => ⟨k, 0, none⟩) x61.length c64] : List Value)) ++ []) 33) :: ((ob63, blk ((u8s x61) ++ r65) 5) :: (B62 ++ B43)))) (fun w q => More.mono (fun w m => (m).tail) q)
          replace h47 := h47.mono (BsRd.mono (Ψ := More w0 Φ (((some b72), blk ((([.slice ((ob63).map fun k => ⟨k, 0, none⟩) x61.length c64] : List Value)) ++ []) 33) :: ((ob63, blk ((u8s x61) ++ r65) 5) :: (B62 ++ B43)))) (fun w q => More.mono (fun w m => (m).tail) q))
          replace v74 := v74.mono (Ψ := More w0 Φ (((some b72), blk ((([.slice ((ob63).map fun k => ⟨k, 0, none⟩) x61.length c64] : List Value)) ++ []) 33) :: ((ob63, blk ((u8s x61) ++ r65) 5) :: (B62 ++ B43)))) (fun w q => More.mono (fun w m => (m).tail) q)
          replace h76 := h76.mono (BsRd.mono (Ψ := More w0 Φ (((some b72), blk ((([.slice ((ob63).map fun k => ⟨k, 0, none⟩) x61.length c64] : List Value)) ++ []) 33) :: ((ob63, blk ((u8s x61) ++ r65) 5) :: (B62 ++ B43)))) (fun w q => More.mono (fun w m => (m).tail) q))
          replace hg1 := hg1.mono (Ψ := More w0 Φ (((some b72), blk ((([.slice ((ob63).map fun k => ⟨k, 0, none⟩) x61.length c64] : List Value)) ++ []) 33) :: ((ob63, blk ((u8s x61) ++ r65) 5) :: (B62 ++ B43)))) (fun w q => More.mono (fun w m => (m).tail) q)
          have v77 : View (More w0 Φ (((some b72), blk ((([.slice ((ob63).map fun k => ⟨k, 0, none⟩) x61.length c64] : List Value)) ++ []) 33) :: ((ob63, blk ((u8s x61) ++ r65) 5) :: (B62 ++ B43)))) (((some b72)).map fun k => ⟨k, 0, none⟩) ([x61] : List (List (BitVec 8))).length 1 1 (([.slice ((ob63).map fun k => ⟨k, 0, none⟩) x61.length c64] : List Value)) := o73.view (by decide) (fun w q => q.2.sublist (List.singleton_sublist.2 (List.mem_cons_self ..)))
          obtain ⟨x79, hx78, hf⟩ := some_bind hf
          refine OW.callG Tryd.call12 rfl (keccak_Sum_does w0 (More w0 Φ (((some b72), blk ((([.slice ((ob63).map fun k => ⟨k, 0, none⟩) x61.length c64] : List Value)) ++ []) 33) :: ((ob63, blk ((u8s x61) ++ r65) 5) :: (B62 ++ B43)))) ((ob48, blk (cs46 ++ r50) 33) :: (some b26, blk w52.C 73) :: (some b16, blk w53.C 73) :: ((((some b72), blk ((([.slice ((ob63).map fun k => ⟨k, 0, none⟩) x61.length c64] : List Value)) ++ []) 33) :: ((ob63, blk ((u8s x61) ++ r65) 5) :: (B62 ++ B43))) ++ N)) (fun w m => More.of hΦ 3 m rfl) (((some b72)).map fun k => ⟨k, 0, none⟩) 1 (([.slice ((ob63).map fun k => ⟨k, 0, none⟩) x61.length c64] : List Value)) ([x61] : List (List (BitVec 8))) x79 v77 h76 hg1 hx78) rfl rfl ?_
          rintro _ G80 rfl
          refine OW.mem (M' := ((ob48, blk (cs46 ++ r50) 33) :: (some b26, blk w52.C 73) :: (some b16, blk w53.C 73) :: ((((some b72), blk ((([.slice ((ob63).map fun k => ⟨k, 0, none⟩) x61.length c64] : List Value)) ++ []) 33) :: ((ob63, blk ((u8s x61) ++ r65) 5) :: (B62 ++ B43))) ++ N))) (fun w m => m.appR) ?_
          refine OW.alloc (l := (u8s (Vector.replicate 32 0#8).toList)) rfl (by rw [Vector.toList_replicate, ← u8s_rep']; rfl) rfl (fun b82 => ?_)
          refine OW.sv (SV.storeW rfl rfl rfl (u8s_one _) rfl ((u8s_length _).trans Vector.length_toList) ((u8s_length _).trans Vector.length_toList)) ?_
          refine OW.nil ?_
          refine QW.then_n ?_
          refine CW.seq ?_
          refine CW.region ?_
          refine OW.rv (RV.move rfl) rfl ?_
          obtain ⟨x84, hx83, hf⟩ := some_bind hf
          refine OW.callG Tryd.call21 rfl (waybilllaw02_lent_own w0 (More w0 Φ (((some b72), blk ((([.slice ((ob63).map fun k => ⟨k, 0, none⟩) x61.length c64] : List Value)) ++ []) 33) :: ((ob63, blk ((u8s x61) ++ r65) 5) :: (B62 ++ B43)))) ((some b82, blk (u8s x79.toList) 29) :: (ob48, blk (cs46 ++ r50) 33) :: (some b26, blk w52.C 73) :: (some b16, blk w53.C 73) :: ((((some b72), blk ((([.slice ((ob63).map fun k => ⟨k, 0, none⟩) x61.length c64] : List Value)) ++ []) 33) :: ((ob63, blk ((u8s x61) ++ r65) 5) :: (B62 ++ B43))) ++ N)) (fun w m => More.of hΦ 4 m rfl) A0_ c0_ a0 x84 va0 hx83) rfl rfl ?_
          rintro L90 M91 ⟨B85, ob86, c87, r88, o89, e92, e93⟩
          rw [e92, e93]
          clear e92 e93 L90 M91
          refine OW.mem (M' := ((ob86, blk ((u8s x84) ++ r88) 5) :: (some b82, blk (u8s x79.toList) 29) :: (ob48, blk (cs46 ++ r50) 33) :: (some b26, blk w52.C 73) :: (some b16, blk w53.C 73) :: ((B85 ++ (((some b72), blk ((([.slice ((ob63).map fun k => ⟨k, 0, none⟩) x61.length c64] : List Value)) ++ []) 33) :: ((ob63, blk ((u8s x61) ++ r65) 5) :: (B62 ++ B43)))) ++ N))) (fun w m => by have h := Mem.sinkAt (A := B85) m 1 4 rfl rfl; exact h) ?_
          replace va0 := va0.mono (Ψ := More w0 Φ (B85 ++ (((some b72), blk ((([.slice ((ob63).map fun k => ⟨k, 0, none⟩) x61.length c64] : List Value)) ++ []) 33) :: ((ob63, blk ((u8s x61) ++ r65) 5) :: (B62 ++ B43))))) (fun w q => More.mono (fun w m => (m).appR) q)
          replace h47 := h47.mono (BsRd.mono (Ψ := More w0 Φ (B85 ++ (((some b72), blk ((([.slice ((ob63).map fun k => ⟨k, 0, none⟩) x61.length c64] : List Value)) ++ []) 33) :: ((ob63, blk ((u8s x61) ++ r65) 5) :: (B62 ++ B43))))) (fun w q => More.mono (fun w m => (m).appR) q))
          replace v74 := v74.mono (Ψ := More w0 Φ (B85 ++ (((some b72), blk ((([.slice ((ob63).map fun k => ⟨k, 0, none⟩) x61.length c64] : List Value)) ++ []) 33) :: ((ob63, blk ((u8s x61) ++ r65) 5) :: (B62 ++ B43))))) (fun w q => More.mono (fun w m => (m).appR) q)
          replace v77 := v77.mono (Ψ := More w0 Φ (B85 ++ (((some b72), blk ((([.slice ((ob63).map fun k => ⟨k, 0, none⟩) x61.length c64] : List Value)) ++ []) 33) :: ((ob63, blk ((u8s x61) ++ r65) 5) :: (B62 ++ B43))))) (fun w q => More.mono (fun w m => (m).appR) q)
          replace h76 := h76.mono (BsRd.mono (Ψ := More w0 Φ (B85 ++ (((some b72), blk ((([.slice ((ob63).map fun k => ⟨k, 0, none⟩) x61.length c64] : List Value)) ++ []) 33) :: ((ob63, blk ((u8s x61) ++ r65) 5) :: (B62 ++ B43))))) (fun w q => More.mono (fun w m => (m).appR) q))
          replace hg1 := hg1.mono (Ψ := More w0 Φ (B85 ++ (((some b72), blk ((([.slice ((ob63).map fun k => ⟨k, 0, none⟩) x61.length c64] : List Value)) ++ []) 33) :: ((ob63, blk ((u8s x61) ++ r65) 5) :: (B62 ++ B43))))) (fun w q => More.mono (fun w m => (m).appR) q)
          have m94 := o89.mx
          refine OW.mem (M' := (some b82, blk (u8s x79.toList) 29) :: (ob48, blk (cs46 ++ r50) 33) :: (some b26, blk w52.C 73) :: (some b16, blk w53.C 73) :: (((ob86, blk ((u8s x84) ++ r88) 5) :: (B85 ++ (((some b72), blk ((([.slice ((ob63).map fun k => ⟨k, 0, none⟩) x61.length c64] : List Value)) ++ []) 33) :: ((ob63, blk ((u8s x61) ++ r65) 5) :: (B62 ++ B43))))) ++ N)) (fun w m => m.pick [1, 2, 3, 4, 0] 5 rfl rfl) ?_
          replace va0 := va0.mono (Ψ := More w0 Φ ((ob86, blk ((u8s x84) ++ r88) 5) :: (B85 ++ (((some b72), blk ((([.slice ((ob63).map fun k => ⟨k, 0, none⟩) x61.length c64] : List Value)) ++ []) 33) :: ((ob63, blk ((u8s x61) ++ r65) 5) :: (B62 ++ B43)))))) (fun w q => More.mono (fun w m => (m).tail) q)
          replace h47 := h47.mono (BsRd.mono (Ψ := More w0 Φ ((ob86, blk ((u8s x84) ++ r88) 5) :: (B85 ++ (((some b72), blk ((([.slice ((ob63).map fun k => ⟨k, 0, none⟩) x61.length c64] : List Value)) ++ []) 33) :: ((ob63, blk ((u8s x61) ++ r65) 5) :: (B62 ++ B43)))))) (fun w q => More.mono (fun w m => (m).tail) q))
          replace v74 := v74.mono (Ψ := More w0 Φ ((ob86, blk ((u8s x84) ++ r88) 5) :: (B85 ++ (((some b72), blk ((([.slice ((ob63).map fun k => ⟨k, 0, none⟩) x61.length c64] : List Value)) ++ []) 33) :: ((ob63, blk ((u8s x61) ++ r65) 5) :: (B62 ++ B43)))))) (fun w q => More.mono (fun w m => (m).tail) q)
          replace v77 := v77.mono (Ψ := More w0 Φ ((ob86, blk ((u8s x84) ++ r88) 5) :: (B85 ++ (((some b72), blk ((([.slice ((ob63).map fun k => ⟨k, 0, none⟩) x61.length c64] : List Value)) ++ []) 33) :: ((ob63, blk ((u8s x61) ++ r65) 5) :: (B62 ++ B43)))))) (fun w q => More.mono (fun w m => (m).tail) q)
          replace h76 := h76.mono (BsRd.mono (Ψ := More w0 Φ ((ob86, blk ((u8s x84) ++ r88) 5) :: (B85 ++ (((some b72), blk ((([.slice ((ob63).map fun k => ⟨k, 0, none⟩) x61.length c64] : List Value)) ++ []) 33) :: ((ob63, blk ((u8s x61) ++ r65) 5) :: (B62 ++ B43)))))) (fun w q => More.mono (fun w m => (m).tail) q))
          replace hg1 := hg1.mono (Ψ := More w0 Φ ((ob86, blk ((u8s x84) ++ r88) 5) :: (B85 ++ (((some b72), blk ((([.slice ((ob63).map fun k => ⟨k, 0, none⟩) x61.length c64] : List Value)) ++ []) 33) :: ((ob63, blk ((u8s x61) ++ r65) 5) :: (B62 ++ B43)))))) (fun w q => More.mono (fun w m => (m).tail) q)
          have v97 : View (More w0 Φ ((ob86, blk ((u8s x84) ++ r88) 5) :: (B85 ++ (((some b72), blk ((([.slice ((ob63).map fun k => ⟨k, 0, none⟩) x61.length c64] : List Value)) ++ []) 33) :: ((ob63, blk ((u8s x61) ++ r65) 5) :: (B62 ++ B43)))))) ((ob86).map fun k => ⟨k, 0, none⟩) x84.length c87 1 (u8s x84) := o89.view (by decide) (fun w q => q.2.sublist (List.singleton_sublist.2 (List.mem_cons_self ..)))
          refine OW.ofN (NV.bs1 rfl rfl rfl rfl rfl rfl) rfl (fun b95 => ?_)
          have h99 : Reps (BsRd (More w0 Φ ((ob86, blk ((u8s x84) ++ r88) 5) :: (B85 ++ (((some b72), blk ((([.slice ((ob63).map fun k => ⟨k, 0, none⟩) x61.length c64] : List Value)) ++ []) 33) :: ((ob63, blk ((u8s x61) ++ r65) 5) :: (B62 ++ B43))))))) (([.slice ((ob86).map fun k => ⟨k, 0, none⟩) x84.length c87] : List Value)) [x84] := Reps.one (BsRd.mk v97)
          refine OW.mem (M' := (((some b95), blk ((([.slice ((ob86).map fun k => ⟨k, 0, none⟩) x84.length c87] : List Value)) ++ []) 33) :: (some b82, blk (u8s x79.toList) 29) :: (ob48, blk (cs46 ++ r50) 33) :: (some b26, blk w52.C 73) :: (some b16, blk w53.C 73) :: (((ob86, blk ((u8s x84) ++ r88) 5) :: (B85 ++ (((some b72), blk ((([.slice ((ob63).map fun k => ⟨k, 0, none⟩) x61.length c64] : List Value)) ++ []) 33) :: ((ob63, blk ((u8s x61) ++ r65) 5) :: (B62 ++ B43))))) ++ N))) (fun w m => m) ?_
          have o96 : OwnS (some b95) ([x84] : List (List (BitVec 8))).length 1 1 (([.slice ((ob86).map fun k => ⟨k, 0, none⟩) x84.length c87] : List Value)) [] := ⟨by simp [BsRd], by simp [BsRd], (fun h => nomatch h), by simp⟩
          refine OW.slot (sl (some b95) 0 ([x84] : List (List (BitVec 8))).length 1) (rfl) ?_
          refine OW.mem (M' := (some b82, blk (u8s x79.toList) 29) :: (ob48, blk (cs46 ++ r50) 33) :: (some b26, blk w52.C 73) :: (some b16, blk w53.C 73) :: ((((some b95), blk ((([.slice ((ob86).map fun k => ⟨k, 0, none⟩) x84.length c87] : List Value)) ++ []) 33) :: ((ob86, blk ((u8s x84) ++ r88) 5) :: (B85 ++ (((some b72), blk ((([.slice ((ob63).map fun k => ⟨k, 0, none⟩) x61.length c64] : List Value)) ++ []) 33) :: ((ob63, blk ((u8s x61) ++ r65) 5) :: (B62 ++ B43)))))) ++ N)) (fun w m => m.pick [1, 2, 3, 4, 0] 5 rfl rfl) ?_
          replace va0 := va0.mono (Ψ := More w0 Φ (((some b95), blk ((([.slice ((ob86).map fun k => ⟨k, 0, none⟩) x84.length c87] : List Value)) ++ []) 33) :: ((ob86, blk ((u8s x84) ++ r88) 5) :: (B85 ++ (((some b72), blk ((([.slice ((ob63).map fun k => ⟨k, 0, none⟩) x61.length c64] : List Value)) ++ []) 33) :: ((ob63, blk ((u8s x61) ++ r65) 5) :: (B62 ++ B43))))))) (fun w q => More.mono (fun w m => (m).tail) q)
          replace h47 := h47.mono (BsRd.mono (Ψ := More w0 Φ (((some b95), blk ((([.slice ((ob86).map fun k => ⟨k, 0, none⟩) x84.length c87] : List Value)) ++ []) 33) :: ((ob86, blk ((u8s x84) ++ r88) 5) :: (B85 ++ (((some b72), blk ((([.slice ((ob63).map fun k => ⟨k, 0, none⟩) x61.length c64] : List Value)) ++ []) 33) :: ((ob63, blk ((u8s x61) ++ r65) 5) :: (B62 ++ B43))))))) (fun w q => More.mono (fun w m => (m).tail) q))
          replace v74 := v74.mono (Ψ := More w0 Φ (((some b95), blk ((([.slice ((ob86).map fun k => ⟨k, 0, none⟩) x84.length c87] : List Value)) ++ []) 33) :: ((ob86, blk ((u8s x84) ++ r88) 5) :: (B85 ++ (((some b72), blk ((([.slice ((ob63).map fun k => ⟨k, 0, none⟩) x61.length c64] : List Value)) ++ []) 33) :: ((ob63, blk ((u8s x61) ++ r65) 5) :: (B62 ++ B43))))))) (fun w q => More.mono (fun w m => (m).tail) q)
          replace v77 := v77.mono (Ψ := More w0 Φ (((some b95), blk ((([.slice ((ob86).map fun k => ⟨k, 0, none⟩) x84.length c87] : List Value)) ++ []) 33) :: ((ob86, blk ((u8s x84) ++ r88) 5) :: (B85 ++ (((some b72), blk ((([.slice ((ob63).map fun k => ⟨k, 0, none⟩) x61.length c64] : List Value)) ++ []) 33) :: ((ob63, blk ((u8s x61) ++ r65) 5) :: (B62 ++ B43))))))) (fun w q => More.mono (fun w m => (m).tail) q)
          replace h76 := h76.mono (BsRd.mono (Ψ := More w0 Φ (((some b95), blk ((([.slice ((ob86).map fun k => ⟨k, 0, none⟩) x84.length c87] : List Value)) ++ []) 33) :: ((ob86, blk ((u8s x84) ++ r88) 5) :: (B85 ++ (((some b72), blk ((([.slice ((ob63).map fun k => ⟨k, 0, none⟩) x61.length c64] : List Value)) ++ []) 33) :: ((ob63, blk ((u8s x61) ++ r65) 5) :: (B62 ++ B43))))))) (fun w q => More.mono (fun w m => (m).tail) q))
          replace v97 := v97.mono (Ψ := More w0 Φ (((some b95), blk ((([.slice ((ob86).map fun k => ⟨k, 0, none⟩) x84.length c87] : List Value)) ++ []) 33) :: ((ob86, blk ((u8s x84) ++ r88) 5) :: (B85 ++ (((some b72), blk ((([.slice ((ob63).map fun k => ⟨k, 0, none⟩) x61.length c64] : List Value)) ++ []) 33) :: ((ob63, blk ((u8s x61) ++ r65) 5) :: (B62 ++ B43))))))) (fun w q => More.mono (fun w m => (m).tail) q)
          replace h99 := h99.mono (BsRd.mono (Ψ := More w0 Φ (((some b95), blk ((([.slice ((ob86).map fun k => ⟨k, 0, none⟩) x84.length c87] : List Value)) ++ []) 33) :: ((ob86, blk ((u8s x84) ++ r88) 5) :: (B85 ++ (((some b72), blk ((([.slice ((ob63).map fun k => ⟨k, 0, none⟩) x61.length c64] : List Value)) ++ []) 33) :: ((ob63, blk ((u8s x61) ++ r65) 5) :: (B62 ++ B43))))))) (fun w q => More.mono (fun w m => (m).tail) q))
          replace hg1 := hg1.mono (Ψ := More w0 Φ (((some b95), blk ((([.slice ((ob86).map fun k => ⟨k, 0, none⟩) x84.length c87] : List Value)) ++ []) 33) :: ((ob86, blk ((u8s x84) ++ r88) 5) :: (B85 ++ (((some b72), blk ((([.slice ((ob63).map fun k => ⟨k, 0, none⟩) x61.length c64] : List Value)) ++ []) 33) :: ((ob63, blk ((u8s x61) ++ r65) 5) :: (B62 ++ B43))))))) (fun w q => More.mono (fun w m => (m).tail) q)
          have v100 : View (More w0 Φ (((some b95), blk ((([.slice ((ob86).map fun k => ⟨k, 0, none⟩) x84.length c87] : List Value)) ++ []) 33) :: ((ob86, blk ((u8s x84) ++ r88) 5) :: (B85 ++ (((some b72), blk ((([.slice ((ob63).map fun k => ⟨k, 0, none⟩) x61.length c64] : List Value)) ++ []) 33) :: ((ob63, blk ((u8s x61) ++ r65) 5) :: (B62 ++ B43))))))) (((some b95)).map fun k => ⟨k, 0, none⟩) ([x84] : List (List (BitVec 8))).length 1 1 (([.slice ((ob86).map fun k => ⟨k, 0, none⟩) x84.length c87] : List Value)) := o96.view (by decide) (fun w q => q.2.sublist (List.singleton_sublist.2 (List.mem_cons_self ..)))
          obtain ⟨x102, hx101, hf⟩ := some_bind hf
          refine OW.callG Tryd.call13 rfl (keccak_Sha3_does w0 (More w0 Φ (((some b95), blk ((([.slice ((ob86).map fun k => ⟨k, 0, none⟩) x84.length c87] : List Value)) ++ []) 33) :: ((ob86, blk ((u8s x84) ++ r88) 5) :: (B85 ++ (((some b72), blk ((([.slice ((ob63).map fun k => ⟨k, 0, none⟩) x61.length c64] : List Value)) ++ []) 33) :: ((ob63, blk ((u8s x61) ++ r65) 5) :: (B62 ++ B43))))))) ((some b82, blk (u8s x79.toList) 29) :: (ob48, blk (cs46 ++ r50) 33) :: (some b26, blk w52.C 73) :: (some b16, blk w53.C 73) :: ((((some b95), blk ((([.slice ((ob86).map fun k => ⟨k, 0, none⟩) x84.length c87] : List Value)) ++ []) 33) :: ((ob86, blk ((u8s x84) ++ r88) 5) :: (B85 ++ (((some b72), blk ((([.slice ((ob63).map fun k => ⟨k, 0, none⟩) x61.length c64] : List Value)) ++ []) 33) :: ((ob63, blk ((u8s x61) ++ r65) 5) :: (B62 ++ B43)))))) ++ N)) (fun w m => More.of hΦ 4 m rfl) (((some b95)).map fun k => ⟨k, 0, none⟩) 1 (([.slice ((ob86).map fun k => ⟨k, 0, none⟩) x84.length c87] : List Value)) ([x84] : List (List (BitVec 8))) x102 v100 h99 hg1 hx101) rfl rfl ?_
          rintro _ G103 rfl
          refine OW.mem (M' := ((some b82, blk (u8s x79.toList) 29) :: (ob48, blk (cs46 ++ r50) 33) :: (some b26, blk w52.C 73) :: (some b16, blk w53.C 73) :: ((((some b95), blk ((([.slice ((ob86).map fun k => ⟨k, 0, none⟩) x84.length c87] : List Value)) ++ []) 33) :: ((ob86, blk ((u8s x84) ++ r88) 5) :: (B85 ++ (((some b72), blk ((([.slice ((ob63).map fun k => ⟨k, 0, none⟩) x61.length c64] : List Value)) ++ []) 33) :: ((ob63, blk ((u8s x61) ++ r65) 5) :: (B62 ++ B43)))))) ++ N))) (fun w m => m.appR) ?_
          refine OW.alloc (l := (u8s (Vector.replicate 32 0#8).toList)) rfl (by rw [Vector.toList_replicate, ← u8s_rep']; rfl) rfl (fun b105 => ?_)
          refine OW.sv (SV.storeW rfl rfl rfl (u8s_one _) rfl ((u8s_length _).trans Vector.length_toList) ((u8s_length _).trans Vector.length_toList)) ?_
          refine OW.nil ?_
          refine QW.then_n ?_
          refine CW.seq ?_
          obtain ⟨q106, hq107, hf⟩ := some_bind hf
          refine CW.cutJ (fun L' M' => ∃ p110 : Bool, ∃ B108 : List Ent, q106 = p110 ∧ (∀ w, Mem w0 w B108 → Mem w0 w (((some b95), blk ((([.slice ((ob86).map fun k => ⟨k, 0, none⟩) x84.length c87] : List Value)) ++ []) 33) :: ((ob86, blk ((u8s x84) ++ r88) 5) :: (B85 ++ (((some b72), blk ((([.slice ((ob63).map fun k => ⟨k, 0, none⟩) x61.length c64] : List Value)) ++ []) 33) :: ((ob63, blk ((u8s x61) ++ r65) 5) :: (B62 ++ B43))))))) ∧ L' = [(4, .bool (p110))] ∧ M' = ((B108 ++ N))) ?_ ?_
          · rintro L112 M113 ⟨p110, B108, e111, hB109, e114, e115⟩
            rw [e114, e115]
            clear e114 e115 L112 M113
            clear hq107
            rw [e111] at hf
            clear e111
            try dsimp only at hf
            replace hg1 := hg1.mono (Ψ := More w0 Φ B108) (fun w q => More.mono (fun w m => hB109 w (m)) q)
            refine QW.then_n ?_
            refine CW.ret ?_
            have e0 := Option.some.inj hf
            subst e0
            refine QW.retG (rs := [.tmp 4]) ([.bool (p110)]) (B108) rfl ?_ rfl ?_ ?_ _ (.inl rfl)
            · exact ⟨rfl, trivial⟩
            · exact rfl
            · exact (fun w m => m)
          · skip
            refine CW.mem (M' := (some b105, blk (u8s x102.toList) 29) :: (some b82, blk (u8s x79.toList) 29) :: (some b26, blk w52.C 73) :: (some b16, blk w53.C 73) :: (((ob48, blk (cs46 ++ r50) 33) :: (((some b95), blk ((([.slice ((ob86).map fun k => ⟨k, 0, none⟩) x84.length c87] : List Value)) ++ []) 33) :: ((ob86, blk ((u8s x84) ++ r88) 5) :: (B85 ++ (((some b72), blk ((([.slice ((ob63).map fun k => ⟨k, 0, none⟩) x61.length c64] : List Value)) ++ []) 33) :: ((ob63, blk ((u8s x61) ++ r65) 5) :: (B62 ++ B43))))))) ++ N)) (fun w m => m.pick [0, 1, 3, 4, 2] 5 rfl rfl) ?_
            replace va0 := va0.mono (Ψ := More w0 Φ ((ob48, blk (cs46 ++ r50) 33) :: (((some b95), blk ((([.slice ((ob86).map fun k => ⟨k, 0, none⟩) x84.length c87] : List Value)) ++ []) 33) :: ((ob86, blk ((u8s x84) ++ r88) 5) :: (B85 ++ (((some b72), blk ((([.slice ((ob63).map fun k => ⟨k, 0, none⟩) x61.length c64] : List Value)) ++ []) 33) :: ((ob63, blk ((u8s x61) ++ r65) 5) :: (B62 ++ B43)))))))) (fun w q => More.mono (fun w m => (m).tail) q)
            replace h47 := h47.mono (BsRd.mono (Ψ := More w0 Φ ((ob48, blk (cs46 ++ r50) 33) :: (((some b95), blk ((([.slice ((ob86).map fun k => ⟨k, 0, none⟩) x84.length c87] : List Value)) ++ []) 33) :: ((ob86, blk ((u8s x84) ++ r88) 5) :: (B85 ++ (((some b72), blk ((([.slice ((ob63).map fun k => ⟨k, 0, none⟩) x61.length c64] : List Value)) ++ []) 33) :: ((ob63, blk ((u8s x61) ++ r65) 5) :: (B62 ++ B43)))))))) (fun w q => More.mono (fun w m => (m).tail) q))
            replace v74 := v74.mono (Ψ := More w0 Φ ((ob48, blk (cs46 ++ r50) 33) :: (((some b95), blk ((([.slice ((ob86).map fun k => ⟨k, 0, none⟩) x84.length c87] : List Value)) ++ []) 33) :: ((ob86, blk ((u8s x84) ++ r88) 5) :: (B85 ++ (((some b72), blk ((([.slice ((ob63).map fun k => ⟨k, 0, none⟩) x61.length c64] : List Value)) ++ []) 33) :: ((ob63, blk ((u8s x61) ++ r65) 5) :: (B62 ++ B43)))))))) (fun w q => More.mono (fun w m => (m).tail) q)
            replace v77 := v77.mono (Ψ := More w0 Φ ((ob48, blk (cs46 ++ r50) 33) :: (((some b95), blk ((([.slice ((ob86).map fun k => ⟨k, 0, none⟩) x84.length c87] : List Value)) ++ []) 33) :: ((ob86, blk ((u8s x84) ++ r88) 5) :: (B85 ++ (((some b72), blk ((([.slice ((ob63).map fun k => ⟨k, 0, none⟩) x61.length c64] : List Value)) ++ []) 33) :: ((ob63, blk ((u8s x61) ++ r65) 5) :: (B62 ++ B43)))))))) (fun w q => More.mono (fun w m => (m).tail) q)
            replace h76 := h76.mono (BsRd.mono (Ψ := More w0 Φ ((ob48, blk (cs46 ++ r50) 33) :: (((some b95), blk ((([.slice ((ob86).map fun k => ⟨k, 0, none⟩) x84.length c87] : List Value)) ++ []) 33) :: ((ob86, blk ((u8s x84) ++ r88) 5) :: (B85 ++ (((some b72), blk ((([.slice ((ob63).map fun k => ⟨k, 0, none⟩) x61.length c64] : List Value)) ++ []) 33) :: ((ob63, blk ((u8s x61) ++ r65) 5) :: (B62 ++ B43)))))))) (fun w q => More.mono (fun w m => (m).tail) q))
            replace v97 := v97.mono (Ψ := More w0 Φ ((ob48, blk (cs46 ++ r50) 33) :: (((some b95), blk ((([.slice ((ob86).map fun k => ⟨k, 0, none⟩) x84.length c87] : List Value)) ++ []) 33) :: ((ob86, blk ((u8s x84) ++ r88) 5) :: (B85 ++ (((some b72), blk ((([.slice ((ob63).map fun k => ⟨k, 0, none⟩) x61.length c64] : List Value)) ++ []) 33) :: ((ob63, blk ((u8s x61) ++ r65) 5) :: (B62 ++ B43)))))))) (fun w q => More.mono (fun w m => (m).tail) q)
            replace v100 := v100.mono (Ψ := More w0 Φ ((ob48, blk (cs46 ++ r50) 33) :: (((some b95), blk ((([.slice ((ob86).map fun k => ⟨k, 0, none⟩) x84.length c87] : List Value)) ++ []) 33) :: ((ob86, blk ((u8s x84) ++ r88) 5) :: (B85 ++ (((some b72), blk ((([.slice ((ob63).map fun k => ⟨k, 0, none⟩) x61.length c64] : List Value)) ++ []) 33) :: ((ob63, blk ((u8s x61) ++ r65) 5) :: (B62 ++ B43)))))))) (fun w q => More.mono (fun w m => (m).tail) q)
            replace h99 := h99.mono (BsRd.mono (Ψ := More w0 Φ ((ob48, blk (cs46 ++ r50) 33) :: (((some b95), blk ((([.slice ((ob86).map fun k => ⟨k, 0, none⟩) x84.length c87] : List Value)) ++ []) 33) :: ((ob86, blk ((u8s x84) ++ r88) 5) :: (B85 ++ (((some b72), blk ((([.slice ((ob63).map fun k => ⟨k, 0, none⟩) x61.length c64] : List Value)) ++ []) 33) :: ((ob63, blk ((u8s x61) ++ r65) 5) :: (B62 ++ B43)))))))) (fun w q => More.mono (fun w m => (m).tail) q))
            replace hg1 := hg1.mono (Ψ := More w0 Φ ((ob48, blk (cs46 ++ r50) 33) :: (((some b95), blk ((([.slice ((ob86).map fun k => ⟨k, 0, none⟩) x84.length c87] : List Value)) ++ []) 33) :: ((ob86, blk ((u8s x84) ++ r88) 5) :: (B85 ++ (((some b72), blk ((([.slice ((ob63).map fun k => ⟨k, 0, none⟩) x61.length c64] : List Value)) ++ []) 33) :: ((ob63, blk ((u8s x61) ++ r65) 5) :: (B62 ++ B43)))))))) (fun w q => More.mono (fun w m => (m).tail) q)
            have v116 : View (More w0 Φ ((ob48, blk (cs46 ++ r50) 33) :: (((some b95), blk ((([.slice ((ob86).map fun k => ⟨k, 0, none⟩) x84.length c87] : List Value)) ++ []) 33) :: ((ob86, blk ((u8s x84) ++ r88) 5) :: (B85 ++ (((some b72), blk ((([.slice ((ob63).map fun k => ⟨k, 0, none⟩) x61.length c64] : List Value)) ++ []) 33) :: ((ob63, blk ((u8s x61) ++ r65) 5) :: (B62 ++ B43)))))))) ((ob48).map fun k => ⟨k, 0, none⟩) l45.length c49 1 cs46 := o51.view (by decide) (fun w q => q.2.sublist (List.singleton_sublist.2 (List.mem_cons_self ..)))
            refine CW.drawsX ((some b105, blk (u8s x102.toList) 29) :: (some b82, blk (u8s x79.toList) 29) :: (((ob48, blk (cs46 ++ r50) 33) :: (((some b95), blk ((([.slice ((ob86).map fun k => ⟨k, 0, none⟩) x84.length c87] : List Value)) ++ []) 33) :: ((ob86, blk ((u8s x84) ++ r88) 5) :: (B85 ++ (((some b72), blk ((([.slice ((ob63).map fun k => ⟨k, 0, none⟩) x61.length c64] : List Value)) ++ []) 33) :: ((ob63, blk ((u8s x61) ++ r65) 5) :: (B62 ++ B43))))))) ++ N)) [12, 18, 24] (fun w m => m.pick [0, 1] 4 rfl rfl) mixed (by kernel_rfl) ?_
            refine XW.rs 0 rfl (by kernel_rfl) rfl (RV.move rfl) rfl ?_
            refine XW.rs 2 rfl (by kernel_rfl) rfl (RV.loadW rfl (List.Mem.tail _ (List.Mem.head _)) rfl rfl rfl rfl ((u8s_length _).trans Vector.length_toList)) rfl ?_
            obtain ⟨x118, hx117, hq107⟩ := some_bind hq107
            refine XW.callG 1 rfl (by kernel_rfl) rfl Tryd.call12 rfl (fun N' hN' => keccak_Sum_does w0 (More w0 Φ ((ob48, blk (cs46 ++ r50) 33) :: (((some b95), blk ((([.slice ((ob86).map fun k => ⟨k, 0, none⟩) x84.length c87] : List Value)) ++ []) 33) :: ((ob86, blk ((u8s x84) ++ r88) 5) :: (B85 ++ (((some b72), blk ((([.slice ((ob63).map fun k => ⟨k, 0, none⟩) x61.length c64] : List Value)) ++ []) 33) :: ((ob63, blk ((u8s x61) ++ r65) 5) :: (B62 ++ B43)))))))) N' (fun w m => More.of hΦ 4 (hN' w m) rfl) ((ob48).map fun k => ⟨k, 0, none⟩) c49 cs46 l45 x118 v116 h47 hg1 hx117) rfl ?_
            rintro _ G119 rfl
            refine XW.mem (M' := ((some b105, blk (u8s x102.toList) 29) :: (some b82, blk (u8s x79.toList) 29) :: (some b26, blk w52.C 73) :: (some b16, blk w53.C 73) :: (((ob48, blk (cs46 ++ r50) 33) :: (((some b95), blk ((([.slice ((ob86).map fun k => ⟨k, 0, none⟩) x84.length c87] : List Value)) ++ []) 33) :: ((ob86, blk ((u8s x84) ++ r88) 5) :: (B85 ++ (((some b72), blk ((([.slice ((ob63).map fun k => ⟨k, 0, none⟩) x61.length c64] : List Value)) ++ []) 33) :: ((ob63, blk ((u8s x61) ++ r65) 5) :: (B62 ++ B43))))))) ++ N))) (fun w m => m.appR) (fun w m => m.pick [0, 1] 4 rfl rfl) ?_
            refine XW.rs 3 rfl (by kernel_rfl) rfl (RV.eqA8 rfl rfl rfl rfl rfl rfl (Vector.length_toList) (Vector.length_toList)) rfl ?_
            refine XW.slot (.bool (decide (x118 = x79))) (congrArg Value.bool (decide_eq_decide.2 Vector.toList_inj)) ?_
            refine XW.rs 4 rfl (by kernel_rfl) rfl (RV.move rfl) rfl ?_
            by_cases h121 : x118 = x79
            · replace hq107 := if_t hq107 h121
              refine XW.slot (.bool true) (congrArg Value.bool (decide_eq_true h121)) ?_
              refine XW.rs 5 rfl (by kernel_rfl) rfl (RV.move rfl) rfl ?_
              refine XW.rs 7 rfl (by kernel_rfl) rfl (RV.loadW rfl (List.Mem.head _) rfl rfl rfl rfl ((u8s_length _).trans Vector.length_toList)) rfl ?_
              obtain ⟨x123, hx122, hq107⟩ := some_bind hq107
              refine XW.callG 6 rfl (by kernel_rfl) rfl Tryd.call13 rfl (fun N' hN' => keccak_Sha3_does w0 (More w0 Φ ((ob48, blk (cs46 ++ r50) 33) :: (((some b95), blk ((([.slice ((ob86).map fun k => ⟨k, 0, none⟩) x84.length c87] : List Value)) ++ []) 33) :: ((ob86, blk ((u8s x84) ++ r88) 5) :: (B85 ++ (((some b72), blk ((([.slice ((ob63).map fun k => ⟨k, 0, none⟩) x61.length c64] : List Value)) ++ []) 33) :: ((ob63, blk ((u8s x61) ++ r65) 5) :: (B62 ++ B43)))))))) N' (fun w m => More.of hΦ 4 (hN' w m) rfl) ((ob48).map fun k => ⟨k, 0, none⟩) c49 cs46 l45 x123 v116 h47 hg1 hx122) rfl ?_
              rintro _ G124 rfl
              refine XW.mem (M' := ((some b105, blk (u8s x102.toList) 29) :: (some b82, blk (u8s x79.toList) 29) :: (some b26, blk w52.C 73) :: (some b16, blk w53.C 73) :: (((ob48, blk (cs46 ++ r50) 33) :: (((some b95), blk ((([.slice ((ob86).map fun k => ⟨k, 0, none⟩) x84.length c87] : List Value)) ++ []) 33) :: ((ob86, blk ((u8s x84) ++ r88) 5) :: (B85 ++ (((some b72), blk ((([.slice ((ob63).map fun k => ⟨k, 0, none⟩) x61.length c64] : List Value)) ++ []) 33) :: ((ob63, blk ((u8s x61) ++ r65) 5) :: (B62 ++ B43))))))) ++ N))) (fun w m => m.appR) (fun w m => m.pick [0, 1] 4 rfl rfl) ?_
              refine XW.rs 8 rfl (by kernel_rfl) rfl (RV.eqA8 rfl rfl rfl rfl rfl rfl (Vector.length_toList) (Vector.length_toList)) rfl ?_
              refine XW.slot (.bool (decide (x123 = x102))) (congrArg Value.bool (decide_eq_decide.2 Vector.toList_inj)) ?_
              refine XW.rs 9 rfl (by kernel_rfl) rfl (RV.pick_t rfl rfl rfl) rfl ?_
              refine XW.rs 10 rfl (by kernel_rfl) rfl (RV.move rfl) rfl ?_
              by_cases h126 : x123 = x102
              · replace hq107 := if_t hq107 h126
                refine XW.slot (.bool true) (congrArg Value.bool (decide_eq_true h126)) ?_
                refine XW.rs 11 rfl (by kernel_rfl) rfl (RV.move rfl) rfl ?_
                refine XW.rs 13 rfl (by kernel_rfl) rfl (RV.loadW rfl (List.Mem.tail _ (List.Mem.head _)) rfl rfl rfl rfl ((u8s_length _).trans Vector.length_toList)) rfl ?_
                obtain ⟨⟨x128, x129⟩, hx127, hq107⟩ := some_bind hq107
                try dsimp only at hq107
                refine XW.mem (M' := ((some b16, blk w53.C 73) :: (some b105, blk (u8s x102.toList) 29) :: (some b82, blk (u8s x79.toList) 29) :: (some b26, blk w52.C 73) :: (((ob48, blk (cs46 ++ r50) 33) :: (((some b95), blk ((([.slice ((ob86).map fun k => ⟨k, 0, none⟩) x84.length c87] : List Value)) ++ []) 33) :: ((ob86, blk ((u8s x84) ++ r88) 5) :: (B85 ++ (((some b72), blk ((([.slice ((ob63).map fun k => ⟨k, 0, none⟩) x61.length c64] : List Value)) ++ []) 33) :: ((ob63, blk ((u8s x61) ++ r65) 5) :: (B62 ++ B43))))))) ++ N))) (fun w m => m.pick [3, 0, 1, 2] 4 rfl rfl) (fun w m => m.pick [1, 2] 4 rfl rfl) ?_
                refine XW.callE 12 rfl (by kernel_rfl) rfl Tryd.call23 rfl (fun N' hN' => keccak_Sponge_Sum_does w0 (More w0 Φ ((ob48, blk (cs46 ++ r50) 33) :: (((some b95), blk ((([.slice ((ob86).map fun k => ⟨k, 0, none⟩) x84.length c87] : List Value)) ++ []) 33) :: ((ob86, blk ((u8s x84) ++ r88) 5) :: (B85 ++ (((some b72), blk ((([.slice ((ob63).map fun k => ⟨k, 0, none⟩) x61.length c64] : List Value)) ++ []) 33) :: ((ob63, blk ((u8s x61) ++ r65) 5) :: (B62 ++ B43)))))))) N' (fun w m => More.of hΦ 3 (hN' w m) rfl) b16 w53 x128 x129 hg1 hx127) (fun w m => m.pick [0, 1] 3 rfl rfl) rfl ?_
                rintro L131 M132 ⟨B130, e133, e134⟩
                rw [e133, e134]
                clear e133 e134 L131 M132
                refine XW.mem (M' := ((some b16, blk x129.C 73) :: (some b105, blk (u8s x102.toList) 29) :: (some b82, blk (u8s x79.toList) 29) :: (some b26, blk w52.C 73) :: ((B130 ++ ((ob48, blk (cs46 ++ r50) 33) :: (((some b95), blk ((([.slice ((ob86).map fun k => ⟨k, 0, none⟩) x84.length c87] : List Value)) ++ []) 33) :: ((ob86, blk ((u8s x84) ++ r88) 5) :: (B85 ++ (((some b72), blk ((([.slice ((ob63).map fun k => ⟨k, 0, none⟩) x61.length c64] : List Value)) ++ []) 33) :: ((ob63, blk ((u8s x61) ++ r65) 5) :: (B62 ++ B43)))))))) ++ N))) (fun w m => by have h := Mem.sinkAt (A := B130) m 1 3 rfl rfl; exact h) (fun w m => by have h := Mem.shrink (B := ((ob48, blk (cs46 ++ r50) 33) :: (((some b95), blk ((([.slice ((ob86).map fun k => ⟨k, 0, none⟩) x84.length c87] : List Value)) ++ []) 33) :: ((ob86, blk ((u8s x84) ++ r88) 5) :: (B85 ++ (((some b72), blk ((([.slice ((ob63).map fun k => ⟨k, 0, none⟩) x61.length c64] : List Value)) ++ []) 33) :: ((ob63, blk ((u8s x61) ++ r65) 5) :: (B62 ++ B43)))))))) (B' := (B130 ++ ((ob48, blk (cs46 ++ r50) 33) :: (((some b95), blk ((([.slice ((ob86).map fun k => ⟨k, 0, none⟩) x84.length c87] : List Value)) ++ []) 33) :: ((ob86, blk ((u8s x84) ++ r88) 5) :: (B85 ++ (((some b72), blk ((([.slice ((ob63).map fun k => ⟨k, 0, none⟩) x61.length c64] : List Value)) ++ []) 33) :: ((ob63, blk ((u8s x61) ++ r65) 5) :: (B62 ++ B43))))))))) (List.sublist_append_right _ _) (m.pick [1, 2] 4 rfl rfl) 2 rfl; exact h) ?_
                replace va0 := va0.mono (Ψ := More w0 Φ (B130 ++ ((ob48, blk (cs46 ++ r50) 33) :: (((some b95), blk ((([.slice ((ob86).map fun k => ⟨k, 0, none⟩) x84.length c87] : List Value)) ++ []) 33) :: ((ob86, blk ((u8s x84) ++ r88) 5) :: (B85 ++ (((some b72), blk ((([.slice ((ob63).map fun k => ⟨k, 0, none⟩) x61.length c64] : List Value)) ++ []) 33) :: ((ob63, blk ((u8s x61) ++ r65) 5) :: (B62 ++ B43))))))))) (fun w q => More.mono (fun w m => (m).appR) q)
                replace v116 := v116.mono (Ψ := More w0 Φ (B130 ++ ((ob48, blk (cs46 ++ r50) 33) :: (((some b95), blk ((([.slice ((ob86).map fun k => ⟨k, 0, none⟩) x84.length c87] : List Value)) ++ []) 33) :: ((ob86, blk ((u8s x84) ++ r88) 5) :: (B85 ++ (((some b72), blk ((([.slice ((ob63).map fun k => ⟨k, 0, none⟩) x61.length c64] : List Value)) ++ []) 33) :: ((ob63, blk ((u8s x61) ++ r65) 5) :: (B62 ++ B43))))))))) (fun w q => More.mono (fun w m => (m).appR) q)
                replace h47 := h47.mono (BsRd.mono (Ψ := More w0 Φ (B130 ++ ((ob48, blk (cs46 ++ r50) 33) :: (((some b95), blk ((([.slice ((ob86).map fun k => ⟨k, 0, none⟩) x84.length c87] : List Value)) ++ []) 33) :: ((ob86, blk ((u8s x84) ++ r88) 5) :: (B85 ++ (((some b72), blk ((([.slice ((ob63).map fun k => ⟨k, 0, none⟩) x61.length c64] : List Value)) ++ []) 33) :: ((ob63, blk ((u8s x61) ++ r65) 5) :: (B62 ++ B43))))))))) (fun w q => More.mono (fun w m => (m).appR) q))
                replace v74 := v74.mono (Ψ := More w0 Φ (B130 ++ ((ob48, blk (cs46 ++ r50) 33) :: (((some b95), blk ((([.slice ((ob86).map fun k => ⟨k, 0, none⟩) x84.length c87] : List Value)) ++ []) 33) :: ((ob86, blk ((u8s x84) ++ r88) 5) :: (B85 ++ (((some b72), blk ((([.slice ((ob63).map fun k => ⟨k, 0, none⟩) x61.length c64] : List Value)) ++ []) 33) :: ((ob63, blk ((u8s x61) ++ r65) 5) :: (B62 ++ B43))))))))) (fun w q => More.mono (fun w m => (m).appR) q)
                replace v77 := v77.mono (Ψ := More w0 Φ (B130 ++ ((ob48, blk (cs46 ++ r50) 33) :: (((some b95), blk ((([.slice ((ob86).map fun k => ⟨k, 0, none⟩) x84.length c87] : List Value)) ++ []) 33) :: ((ob86, blk ((u8s x84) ++ r88) 5) :: (B85 ++ (((some b72), blk ((([.slice ((ob63).map fun k => ⟨k, 0, none⟩) x61.length c64] : List Value)) ++ []) 33) :: ((ob63, blk ((u8s x61) ++ r65) 5) :: (B62 ++ B43))))))))) (fun w q => More.mono (fun w m => (m).appR) q)
                replace h76 := h76.mono (BsRd.mono (Ψ := More w0 Φ (B130 ++ ((ob48, blk (cs46 ++ r50) 33) :: (((some b95), blk ((([.slice ((ob86).map fun k => ⟨k, 0, none⟩) x84.length c87] : List Value)) ++ []) 33) :: ((ob86, blk ((u8s x84) ++ r88) 5) :: (B85 ++ (((some b72), blk ((([.slice ((ob63).map fun k => ⟨k, 0, none⟩) x61.length c64] : List Value)) ++ []) 33) :: ((ob63, blk ((u8s x61) ++ r65) 5) :: (B62 ++ B43))))))))) (fun w q => More.mono (fun w m => (m).appR) q))
                replace v97 := v97.mono (Ψ := More w0 Φ (B130 ++ ((ob48, blk (cs46 ++ r50) 33) :: (((some b95), blk ((([.slice ((ob86).map fun k => ⟨k, 0, none⟩) x84.length c87] : List Value)) ++ []) 33) :: ((ob86, blk ((u8s x84) ++ r88) 5) :: (B85 ++ (((some b72), blk ((([.slice ((ob63).map fun k => ⟨k, 0, none⟩) x61.length c64] : List Value)) ++ []) 33) :: ((ob63, blk ((u8s x61) ++ r65) 5) :: (B62 ++ B43))))))))) (fun w q => More.mono (fun w m => (m).appR) q)
                replace v100 := v100.mono (Ψ := More w0 Φ (B130 ++ ((ob48, blk (cs46 ++ r50) 33) :: (((some b95), blk ((([.slice ((ob86).map fun k => ⟨k, 0, none⟩) x84.length c87] : List Value)) ++ []) 33) :: ((ob86, blk ((u8s x84) ++ r88) 5) :: (B85 ++ (((some b72), blk ((([.slice ((ob63).map fun k => ⟨k, 0, none⟩) x61.length c64] : List Value)) ++ []) 33) :: ((ob63, blk ((u8s x61) ++ r65) 5) :: (B62 ++ B43))))))))) (fun w q => More.mono (fun w m => (m).appR) q)
                replace h99 := h99.mono (BsRd.mono (Ψ := More w0 Φ (B130 ++ ((ob48, blk (cs46 ++ r50) 33) :: (((some b95), blk ((([.slice ((ob86).map fun k => ⟨k, 0, none⟩) x84.length c87] : List Value)) ++ []) 33) :: ((ob86, blk ((u8s x84) ++ r88) 5) :: (B85 ++ (((some b72), blk ((([.slice ((ob63).map fun k => ⟨k, 0, none⟩) x61.length c64] : List Value)) ++ []) 33) :: ((ob63, blk ((u8s x61) ++ r65) 5) :: (B62 ++ B43))))))))) (fun w q => More.mono (fun w m => (m).appR) q))
                replace hg1 := hg1.mono (Ψ := More w0 Φ (B130 ++ ((ob48, blk (cs46 ++ r50) 33) :: (((some b95), blk ((([.slice ((ob86).map fun k => ⟨k, 0, none⟩) x84.length c87] : List Value)) ++ []) 33) :: ((ob86, blk ((u8s x84) ++ r88) 5) :: (B85 ++ (((some b72), blk ((([.slice ((ob63).map fun k => ⟨k, 0, none⟩) x61.length c64] : List Value)) ++ []) 33) :: ((ob63, blk ((u8s x61) ++ r65) 5) :: (B62 ++ B43))))))))) (fun w q => More.mono (fun w m => (m).appR) q)
                refine XW.rs 14 rfl (by kernel_rfl) rfl (RV.eqA8 rfl rfl rfl rfl rfl rfl (Vector.length_toList) (Vector.length_toList)) rfl ?_
                refine XW.slot (.bool (decide (x128 = x79))) (congrArg Value.bool (decide_eq_decide.2 Vector.toList_inj)) ?_
                refine XW.rs 15 rfl (by kernel_rfl) rfl (RV.pick_t rfl rfl rfl) rfl ?_
                refine XW.rs 16 rfl (by kernel_rfl) rfl (RV.move rfl) rfl ?_
                by_cases h135 : x128 = x79
                · replace hq107 := if_t hq107 h135
                  refine XW.slot (.bool true) (congrArg Value.bool (decide_eq_true h135)) ?_
                  refine XW.rs 17 rfl (by kernel_rfl) rfl (RV.move rfl) rfl ?_
                  refine XW.rs 19 rfl (by kernel_rfl) rfl (RV.loadW rfl (List.Mem.head _) rfl rfl rfl rfl ((u8s_length _).trans Vector.length_toList)) rfl ?_
                  obtain ⟨⟨x137, x138⟩, hx136, hq107⟩ := some_bind hq107
                  try dsimp only at hq107
                  refine XW.mem (M' := ((some b26, blk w52.C 73) :: (some b16, blk x129.C 73) :: (some b105, blk (u8s x102.toList) 29) :: (some b82, blk (u8s x79.toList) 29) :: ((B130 ++ ((ob48, blk (cs46 ++ r50) 33) :: (((some b95), blk ((([.slice ((ob86).map fun k => ⟨k, 0, none⟩) x84.length c87] : List Value)) ++ []) 33) :: ((ob86, blk ((u8s x84) ++ r88) 5) :: (B85 ++ (((some b72), blk ((([.slice ((ob63).map fun k => ⟨k, 0, none⟩) x61.length c64] : List Value)) ++ []) 33) :: ((ob63, blk ((u8s x61) ++ r65) 5) :: (B62 ++ B43)))))))) ++ N))) (fun w m => m.pick [3, 0, 1, 2] 4 rfl rfl) (fun w m => by have h := Mem.shrink (B := ((ob48, blk (cs46 ++ r50) 33) :: (((some b95), blk ((([.slice ((ob86).map fun k => ⟨k, 0, none⟩) x84.length c87] : List Value)) ++ []) 33) :: ((ob86, blk ((u8s x84) ++ r88) 5) :: (B85 ++ (((some b72), blk ((([.slice ((ob63).map fun k => ⟨k, 0, none⟩) x61.length c64] : List Value)) ++ []) 33) :: ((ob63, blk ((u8s x61) ++ r65) 5) :: (B62 ++ B43)))))))) (B' := (B130 ++ ((ob48, blk (cs46 ++ r50) 33) :: (((some b95), blk ((([.slice ((ob86).map fun k => ⟨k, 0, none⟩) x84.length c87] : List Value)) ++ []) 33) :: ((ob86, blk ((u8s x84) ++ r88) 5) :: (B85 ++ (((some b72), blk ((([.slice ((ob63).map fun k => ⟨k, 0, none⟩) x61.length c64] : List Value)) ++ []) 33) :: ((ob63, blk ((u8s x61) ++ r65) 5) :: (B62 ++ B43))))))))) (List.sublist_append_right _ _) (m.pick [2, 3] 4 rfl rfl) 2 rfl; exact h) ?_
                  refine XW.callE 18 rfl (by kernel_rfl) rfl Tryd.call23 rfl (fun N' hN' => keccak_Sponge_Sum_does w0 (More w0 Φ (B130 ++ ((ob48, blk (cs46 ++ r50) 33) :: (((some b95), blk ((([.slice ((ob86).map fun k => ⟨k, 0, none⟩) x84.length c87] : List Value)) ++ []) 33) :: ((ob86, blk ((u8s x84) ++ r88) 5) :: (B85 ++ (((some b72), blk ((([.slice ((ob63).map fun k => ⟨k, 0, none⟩) x61.length c64] : List Value)) ++ []) 33) :: ((ob63, blk ((u8s x61) ++ r65) 5) :: (B62 ++ B43))))))))) N' (fun w m => More.of hΦ 3 (hN' w m) rfl) b26 w52 x137 x138 hg1 hx136) (fun w m => by have h := Mem.shrink (B := ((ob48, blk (cs46 ++ r50) 33) :: (((some b95), blk ((([.slice ((ob86).map fun k => ⟨k, 0, none⟩) x84.length c87] : List Value)) ++ []) 33) :: ((ob86, blk ((u8s x84) ++ r88) 5) :: (B85 ++ (((some b72), blk ((([.slice ((ob63).map fun k => ⟨k, 0, none⟩) x61.length c64] : List Value)) ++ []) 33) :: ((ob63, blk ((u8s x61) ++ r65) 5) :: (B62 ++ B43)))))))) (B' := (B130 ++ ((ob48, blk (cs46 ++ r50) 33) :: (((some b95), blk ((([.slice ((ob86).map fun k => ⟨k, 0, none⟩) x84.length c87] : List Value)) ++ []) 33) :: ((ob86, blk ((u8s x84) ++ r88) 5) :: (B85 ++ (((some b72), blk ((([.slice ((ob63).map fun k => ⟨k, 0, none⟩) x61.length c64] : List Value)) ++ []) 33) :: ((ob63, blk ((u8s x61) ++ r65) 5) :: (B62 ++ B43))))))))) (List.sublist_append_right _ _) (m.pick [1, 2] 3 rfl rfl) 2 rfl; exact h) rfl ?_
                  rintro L140 M141 ⟨B139, e142, e143⟩
                  rw [e142, e143]
                  clear e142 e143 L140 M141
                  refine XW.mem (M' := ((some b26, blk x138.C 73) :: (some b16, blk x129.C 73) :: (some b105, blk (u8s x102.toList) 29) :: (some b82, blk (u8s x79.toList) 29) :: ((B139 ++ (B130 ++ ((ob48, blk (cs46 ++ r50) 33) :: (((some b95), blk ((([.slice ((ob86).map fun k => ⟨k, 0, none⟩) x84.length c87] : List Value)) ++ []) 33) :: ((ob86, blk ((u8s x84) ++ r88) 5) :: (B85 ++ (((some b72), blk ((([.slice ((ob63).map fun k => ⟨k, 0, none⟩) x61.length c64] : List Value)) ++ []) 33) :: ((ob63, blk ((u8s x61) ++ r65) 5) :: (B62 ++ B43))))))))) ++ N))) (fun w m => by have h := Mem.sinkAt (A := B139) m 1 3 rfl rfl; exact h) (fun w m => by have h := Mem.shrink (B := ((ob48, blk (cs46 ++ r50) 33) :: (((some b95), blk ((([.slice ((ob86).map fun k => ⟨k, 0, none⟩) x84.length c87] : List Value)) ++ []) 33) :: ((ob86, blk ((u8s x84) ++ r88) 5) :: (B85 ++ (((some b72), blk ((([.slice ((ob63).map fun k => ⟨k, 0, none⟩) x61.length c64] : List Value)) ++ []) 33) :: ((ob63, blk ((u8s x61) ++ r65) 5) :: (B62 ++ B43)))))))) (B' := (B139 ++ (B130 ++ ((ob48, blk (cs46 ++ r50) 33) :: (((some b95), blk ((([.slice ((ob86).map fun k => ⟨k, 0, none⟩) x84.length c87] : List Value)) ++ []) 33) :: ((ob86, blk ((u8s x84) ++ r88) 5) :: (B85 ++ (((some b72), blk ((([.slice ((ob63).map fun k => ⟨k, 0, none⟩) x61.length c64] : List Value)) ++ []) 33) :: ((ob63, blk ((u8s x61) ++ r65) 5) :: (B62 ++ B43)))))))))) ((List.sublist_append_right _ _).trans (List.sublist_append_right _ _)) (m.pick [2, 3] 4 rfl rfl) 2 rfl; exact h) ?_
                  replace va0 := va0.mono (Ψ := More w0 Φ (B139 ++ (B130 ++ ((ob48, blk (cs46 ++ r50) 33) :: (((some b95), blk ((([.slice ((ob86).map fun k => ⟨k, 0, none⟩) x84.length c87] : List Value)) ++ []) 33) :: ((ob86, blk ((u8s x84) ++ r88) 5) :: (B85 ++ (((some b72), blk ((([.slice ((ob63).map fun k => ⟨k, 0, none⟩) x61.length c64] : List Value)) ++ []) 33) :: ((ob63, blk ((u8s x61) ++ r65) 5) :: (B62 ++ B43)))))))))) (fun w q => More.mono (fun w m => (m).appR) q)
                  replace v116 := v116.mono (Ψ := More w0 Φ (B139 ++ (B130 ++ ((ob48, blk (cs46 ++ r50) 33) :: (((some b95), blk ((([.slice ((ob86).map fun k => ⟨k, 0, none⟩) x84.length c87] : List Value)) ++ []) 33) :: ((ob86, blk ((u8s x84) ++ r88) 5) :: (B85 ++ (((some b72), blk ((([.slice ((ob63).map fun k => ⟨k, 0, none⟩) x61.length c64] : List Value)) ++ []) 33) :: ((ob63, blk ((u8s x61) ++ r65) 5) :: (B62 ++ B43)))))))))) (fun w q => More.mono (fun w m => (m).appR) q)
                  replace h47 := h47.mono (BsRd.mono (Ψ := More w0 Φ (B139 ++ (B130 ++ ((ob48, blk (cs46 ++ r50) 33) :: (((some b95), blk ((([.slice ((ob86).map fun k => ⟨k, 0, none⟩) x84.length c87] : List Value)) ++ []) 33) :: ((ob86, blk ((u8s x84) ++ r88) 5) :: (B85 ++ (((some b72), blk ((([.slice ((ob63).map fun k => ⟨k, 0, none⟩) x61.length c64] : List Value)) ++ []) 33) :: ((ob63, blk ((u8s x61) ++ r65) 5) :: (B62 ++ B43)))))))))) (fun w q => More.mono (fun w m => (m).appR) q))
                  replace v74 := v74.mono (Ψ := More w0 Φ (B139 ++ (B130 ++ ((ob48, blk (cs46 ++ r50) 33) :: (((some b95), blk ((([.slice ((ob86).map fun k => ⟨k, 0, none⟩) x84.length c87] : List Value)) ++ []) 33) :: ((ob86, blk ((u8s x84) ++ r88) 5) :: (B85 ++ (((some b72), blk ((([.slice ((ob63).map fun k => ⟨k, 0, none⟩) x61.length c64] : List Value)) ++ []) 33) :: ((ob63, blk ((u8s x61) ++ r65) 5) :: (B62 ++ B43)))))))))) (fun w q => More.mono (fun w m => (m).appR) q)
                  replace v77 := v77.mono (Ψ := More w0 Φ (B139 ++ (B130 ++ ((ob48, blk (cs46 ++ r50) 33) :: (((some b95), blk ((([.slice ((ob86).map fun k => ⟨k, 0, none⟩) x84.length c87] : List Value)) ++ []) 33) :: ((ob86, blk ((u8s x84) ++ r88) 5) :: (B85 ++ (((some b72), blk ((([.slice ((ob63).map fun k => ⟨k, 0, none⟩) x61.length c64] : List Value)) ++ []) 33) :: ((ob63, blk ((u8s x61) ++ r65) 5) :: (B62 ++ B43)))))))))) (fun w q => More.mono (fun w m => (m).appR) q)
                  replace h76 := h76.mono (BsRd.mono (Ψ := More w0 Φ (B139 ++ (B130 ++ ((ob48, blk (cs46 ++ r50) 33) :: (((some b95), blk ((([.slice ((ob86).map fun k => ⟨k, 0, none⟩) x84.length c87] : List Value)) ++ []) 33) :: ((ob86, blk ((u8s x84) ++ r88) 5) :: (B85 ++ (((some b72), blk ((([.slice ((ob63).map fun k => ⟨k, 0, none⟩) x61.length c64] : List Value)) ++ []) 33) :: ((ob63, blk ((u8s x61) ++ r65) 5) :: (B62 ++ B43)))))))))) (fun w q => More.mono (fun w m => (m).appR) q))
                  replace v97 := v97.mono (Ψ := More w0 Φ (B139 ++ (B130 ++ ((ob48, blk (cs46 ++ r50) 33) :: (((some b95), blk ((([.slice ((ob86).map fun k => ⟨k, 0, none⟩) x84.length c87] : List Value)) ++ []) 33) :: ((ob86, blk ((u8s x84) ++ r88) 5) :: (B85 ++ (((some b72), blk ((([.slice ((ob63).map fun k => ⟨k, 0, none⟩) x61.length c64] : List Value)) ++ []) 33) :: ((ob63, blk ((u8s x61) ++ r65) 5) :: (B62 ++ B43)))))))))) (fun w q => More.mono (fun w m => (m).appR) q)
                  replace v100 := v100.mono (Ψ := More w0 Φ (B139 ++ (B130 ++ ((ob48, blk (cs46 ++ r50) 33) :: (((some b95), blk ((([.slice ((ob86).map fun k => ⟨k, 0, none⟩) x84.length c87] : List Value)) ++ []) 33) :: ((ob86, blk ((u8s x84) ++ r88) 5) :: (B85 ++ (((some b72), blk ((([.slice ((ob63).map fun k => ⟨k, 0, none⟩) x61.length c64] : List Value)) ++ []) 33) :: ((ob63, blk ((u8s x61) ++ r65) 5) :: (B62 ++ B43)))))))))) (fun w q => More.mono (fun w m => (m).appR) q)
                  replace h99 := h99.mono (BsRd.mono (Ψ := More w0 Φ (B139 ++ (B130 ++ ((ob48, blk (cs46 ++ r50) 33) :: (((some b95), blk ((([.slice ((ob86).map fun k => ⟨k, 0, none⟩) x84.length c87] : List Value)) ++ []) 33) :: ((ob86, blk ((u8s x84) ++ r88) 5) :: (B85 ++ (((some b72), blk ((([.slice ((ob63).map fun k => ⟨k, 0, none⟩) x61.length c64] : List Value)) ++ []) 33) :: ((ob63, blk ((u8s x61) ++ r65) 5) :: (B62 ++ B43)))))))))) (fun w q => More.mono (fun w m => (m).appR) q))
                  replace hg1 := hg1.mono (Ψ := More w0 Φ (B139 ++ (B130 ++ ((ob48, blk (cs46 ++ r50) 33) :: (((some b95), blk ((([.slice ((ob86).map fun k => ⟨k, 0, none⟩) x84.length c87] : List Value)) ++ []) 33) :: ((ob86, blk ((u8s x84) ++ r88) 5) :: (B85 ++ (((some b72), blk ((([.slice ((ob63).map fun k => ⟨k, 0, none⟩) x61.length c64] : List Value)) ++ []) 33) :: ((ob63, blk ((u8s x61) ++ r65) 5) :: (B62 ++ B43)))))))))) (fun w q => More.mono (fun w m => (m).appR) q)
                  refine XW.rs 20 rfl (by kernel_rfl) rfl (RV.eqA8 rfl rfl rfl rfl rfl rfl (Vector.length_toList) (Vector.length_toList)) rfl ?_
                  refine XW.slot (.bool (decide (x137 = x102))) (congrArg Value.bool (decide_eq_decide.2 Vector.toList_inj)) ?_
                  refine XW.rs 21 rfl (by kernel_rfl) rfl (RV.pick_t rfl rfl rfl) rfl ?_
                  refine XW.rs 22 rfl (by kernel_rfl) rfl (RV.move rfl) rfl ?_
                  by_cases h144 : x137 = x102
                  · replace hq107 := if_t hq107 h144
                    refine XW.slot (.bool true) (congrArg Value.bool (decide_eq_true h144)) ?_
                    refine XW.rs 23 rfl (by kernel_rfl) rfl (RV.move rfl) rfl ?_
                    refine XW.rs 25 rfl (by kernel_rfl) rfl (RV.move rfl) rfl ?_
                    refine XW.rs 26 rfl (by kernel_rfl) rfl (RV.len rfl rfl) rfl ?_
                    obtain ⟨⟨x146, x147⟩, hx145, hq107⟩ := some_bind hq107
                    try dsimp only at hq107
                    refine XW.mem (M' := ((some b16, blk x129.C 73) :: (some b26, blk x138.C 73) :: (some b105, blk (u8s x102.toList) 29) :: (some b82, blk (u8s x79.toList) 29) :: ((B139 ++ (B130 ++ ((ob48, blk (cs46 ++ r50) 33) :: (((some b95), blk ((([.slice ((ob86).map fun k => ⟨k, 0, none⟩) x84.length c87] : List Value)) ++ []) 33) :: ((ob86, blk ((u8s x84) ++ r88) 5) :: (B85 ++ (((some b72), blk ((([.slice ((ob63).map fun k => ⟨k, 0, none⟩) x61.length c64] : List Value)) ++ []) 33) :: ((ob63, blk ((u8s x61) ++ r65) 5) :: (B62 ++ B43))))))))) ++ N))) (fun w m => m.pick [1, 0, 2, 3] 4 rfl rfl) (fun w m => by have h := Mem.shrink (B := ((ob48, blk (cs46 ++ r50) 33) :: (((some b95), blk ((([.slice ((ob86).map fun k => ⟨k, 0, none⟩) x84.length c87] : List Value)) ++ []) 33) :: ((ob86, blk ((u8s x84) ++ r88) 5) :: (B85 ++ (((some b72), blk ((([.slice ((ob63).map fun k => ⟨k, 0, none⟩) x61.length c64] : List Value)) ++ []) 33) :: ((ob63, blk ((u8s x61) ++ r65) 5) :: (B62 ++ B43)))))))) (B' := (B139 ++ (B130 ++ ((ob48, blk (cs46 ++ r50) 33) :: (((some b95), blk ((([.slice ((ob86).map fun k => ⟨k, 0, none⟩) x84.length c87] : List Value)) ++ []) 33) :: ((ob86, blk ((u8s x84) ++ r88) 5) :: (B85 ++ (((some b72), blk ((([.slice ((ob63).map fun k => ⟨k, 0, none⟩) x61.length c64] : List Value)) ++ []) 33) :: ((ob63, blk ((u8s x61) ++ r65) 5) :: (B62 ++ B43)))))))))) ((List.sublist_append_right _ _).trans (List.sublist_append_right _ _)) (m.pick [2, 3] 4 rfl rfl) 2 rfl; exact h) ?_
                    refine XW.callE 24 rfl (by kernel_rfl) rfl Tryd.call24 rfl (fun N' hN' => keccak_Sponge_Len_does w0 (More w0 Φ (B139 ++ (B130 ++ ((ob48, blk (cs46 ++ r50) 33) :: (((some b95), blk ((([.slice ((ob86).map fun k => ⟨k, 0, none⟩) x84.length c87] : List Value)) ++ []) 33) :: ((ob86, blk ((u8s x84) ++ r88) 5) :: (B85 ++ (((some b72), blk ((([.slice ((ob63).map fun k => ⟨k, 0, none⟩) x61.length c64] : List Value)) ++ []) 33) :: ((ob63, blk ((u8s x61) ++ r65) 5) :: (B62 ++ B43)))))))))) N' (fun w m => More.of hΦ 3 (hN' w m) rfl) b16 x129 x146 x147 hx145) (fun w m => by have h := Mem.shrink (B := ((ob48, blk (cs46 ++ r50) 33) :: (((some b95), blk ((([.slice ((ob86).map fun k => ⟨k, 0, none⟩) x84.length c87] : List Value)) ++ []) 33) :: ((ob86, blk ((u8s x84) ++ r88) 5) :: (B85 ++ (((some b72), blk ((([.slice ((ob63).map fun k => ⟨k, 0, none⟩) x61.length c64] : List Value)) ++ []) 33) :: ((ob63, blk ((u8s x61) ++ r65) 5) :: (B62 ++ B43)))))))) (B' := (B139 ++ (B130 ++ ((ob48, blk (cs46 ++ r50) 33) :: (((some b95), blk ((([.slice ((ob86).map fun k => ⟨k, 0, none⟩) x84.length c87] : List Value)) ++ []) 33) :: ((ob86, blk ((u8s x84) ++ r88) 5) :: (B85 ++ (((some b72), blk ((([.slice ((ob63).map fun k => ⟨k, 0, none⟩) x61.length c64] : List Value)) ++ []) 33) :: ((ob63, blk ((u8s x61) ++ r65) 5) :: (B62 ++ B43)))))))))) ((List.sublist_append_right _ _).trans (List.sublist_append_right _ _)) (m.pick [1, 2] 3 rfl rfl) 2 rfl; exact h) rfl ?_
                    rintro L150 M151 ⟨B148, b149, e152, e153⟩
                    rw [e152, e153]
                    clear e152 e153 L150 M151
                    refine XW.mem (M' := ((some b16, blk x147.C 73) :: (some b26, blk x138.C 73) :: (some b105, blk (u8s x102.toList) 29) :: (some b82, blk (u8s x79.toList) 29) :: ((B148 ++ (B139 ++ (B130 ++ ((ob48, blk (cs46 ++ r50) 33) :: (((some b95), blk ((([.slice ((ob86).map fun k => ⟨k, 0, none⟩) x84.length c87] : List Value)) ++ []) 33) :: ((ob86, blk ((u8s x84) ++ r88) 5) :: (B85 ++ (((some b72), blk ((([.slice ((ob63).map fun k => ⟨k, 0, none⟩) x61.length c64] : List Value)) ++ []) 33) :: ((ob63, blk ((u8s x61) ++ r65) 5) :: (B62 ++ B43)))))))))) ++ N))) (fun w m => by have h := Mem.sinkAt (A := B148) m 1 3 rfl rfl; exact h) (fun w m => by have h := Mem.shrink (B := ((ob48, blk (cs46 ++ r50) 33) :: (((some b95), blk ((([.slice ((ob86).map fun k => ⟨k, 0, none⟩) x84.length c87] : List Value)) ++ []) 33) :: ((ob86, blk ((u8s x84) ++ r88) 5) :: (B85 ++ (((some b72), blk ((([.slice ((ob63).map fun k => ⟨k, 0, none⟩) x61.length c64] : List Value)) ++ []) 33) :: ((ob63, blk ((u8s x61) ++ r65) 5) :: (B62 ++ B43)))))))) (B' := (B148 ++ (B139 ++ (B130 ++ ((ob48, blk (cs46 ++ r50) 33) :: (((some b95), blk ((([.slice ((ob86).map fun k => ⟨k, 0, none⟩) x84.length c87] : List Value)) ++ []) 33) :: ((ob86, blk ((u8s x84) ++ r88) 5) :: (B85 ++ (((some b72), blk ((([.slice ((ob63).map fun k => ⟨k, 0, none⟩) x61.length c64] : List Value)) ++ []) 33) :: ((ob63, blk ((u8s x61) ++ r65) 5) :: (B62 ++ B43))))))))))) ((List.sublist_append_right _ _).trans ((List.sublist_append_right _ _).trans (List.sublist_append_right _ _))) (m.pick [2, 3] 4 rfl rfl) 2 rfl; exact h) ?_
                    replace va0 := va0.mono (Ψ := More w0 Φ (B148 ++ (B139 ++ (B130 ++ ((ob48, blk (cs46 ++ r50) 33) :: (((some b95), blk ((([.slice ((ob86).map fun k => ⟨k, 0, none⟩) x84.length c87] : List Value)) ++ []) 33) :: ((ob86, blk ((u8s x84) ++ r88) 5) :: (B85 ++ (((some b72), blk ((([.slice ((ob63).map fun k => ⟨k, 0, none⟩) x61.length c64] : List Value)) ++ []) 33) :: ((ob63, blk ((u8s x61) ++ r65) 5) :: (B62 ++ B43))))))))))) (fun w q => More.mono (fun w m => (m).appR) q)
                    replace v116 := v116.mono (Ψ := More w0 Φ (B148 ++ (B139 ++ (B130 ++ ((ob48, blk (cs46 ++ r50) 33) :: (((some b95), blk ((([.slice ((ob86).map fun k => ⟨k, 0, none⟩) x84.length c87] : List Value)) ++ []) 33) :: ((ob86, blk ((u8s x84) ++ r88) 5) :: (B85 ++ (((some b72), blk ((([.slice ((ob63).map fun k => ⟨k, 0, none⟩) x61.length c64] : List Value)) ++ []) 33) :: ((ob63, blk ((u8s x61) ++ r65) 5) :: (B62 ++ B43))))))))))) (fun w q => More.mono (fun w m => (m).appR) q)
                    replace h47 := h47.mono (BsRd.mono (Ψ := More w0 Φ (B148 ++ (B139 ++ (B130 ++ ((ob48, blk (cs46 ++ r50) 33) :: (((some b95), blk ((([.slice ((ob86).map fun k => ⟨k, 0, none⟩) x84.length c87] : List Value)) ++ []) 33) :: ((ob86, blk ((u8s x84) ++ r88) 5) :: (B85 ++ (((some b72), blk ((([.slice ((ob63).map fun k => ⟨k, 0, none⟩) x61.length c64] : List Value)) ++ []) 33) :: ((ob63, blk ((u8s x61) ++ r65) 5) :: (B62 ++ B43))))))))))) (fun w q => More.mono (fun w m => (m).appR) q))
                    replace v74 := v74.mono (Ψ := More w0 Φ (B148 ++ (B139 ++ (B130 ++ ((ob48, blk (cs46 ++ r50) 33) :: (((some b95), blk ((([.slice ((ob86).map fun k => ⟨k, 0, none⟩) x84.length c87] : List Value)) ++ []) 33) :: ((ob86, blk ((u8s x84) ++ r88) 5) :: (B85 ++ (((some b72), blk ((([.slice ((ob63).map fun k => ⟨k, 0, none⟩) x61.length c64] : List Value)) ++ []) 33) :: ((ob63, blk ((u8s x61) ++ r65) 5) :: (B62 ++ B43))))))))))) (fun w q => More.mono (fun w m => (m).appR) q)
                    replace v77 := v77.mono (Ψ := More w0 Φ (B148 ++ (B139 ++ (B130 ++ ((ob48, blk (cs46 ++ r50) 33) :: (((some b95), blk ((([.slice ((ob86).map fun k => ⟨k, 0, none⟩) x84.length c87] : List Value)) ++ []) 33) :: ((ob86, blk ((u8s x84) ++ r88) 5) :: (B85 ++ (((some b72), blk ((([.slice ((ob63).map fun k => ⟨k, 0, none⟩) x61.length c64] : List Value)) ++ []) 33) :: ((ob63, blk ((u8s x61) ++ r65) 5) :: (B62 ++ B43))))))))))) (fun w q => More.mono (fun w m => (m).appR) q)
                    replace h76 := h76.mono (BsRd.mono (Ψ := More w0 Φ (B148 ++ (B139 ++ (B130 ++ ((ob48, blk (cs46 ++ r50) 33) :: (((some b95), blk ((([.slice ((ob86).map fun k => ⟨k, 0, none⟩) x84.length c87] : List Value)) ++ []) 33) :: ((ob86, blk ((u8s x84) ++ r88) 5) :: (B85 ++ (((some b72), blk ((([.slice ((ob63).map fun k => ⟨k, 0, none⟩) x61.length c64] : List Value)) ++ []) 33) :: ((ob63, blk ((u8s x61) ++ r65) 5) :: (B62 ++ B43))))))))))) (fun w q => More.mono (fun w m => (m).appR) q))
                    replace v97 := v97.mono (Ψ := More w0 Φ (B148 ++ (B139 ++ (B130 ++ ((ob48, blk (cs46 ++ r50) 33) :: (((some b95), blk ((([.slice ((ob86).map fun k => ⟨k, 0, none⟩) x84.length c87] : List Value)) ++ []) 33) :: ((ob86, blk ((u8s x84) ++ r88) 5) :: (B85 ++ (((some b72), blk ((([.slice ((ob63).map fun k => ⟨k, 0, none⟩) x61.length c64] : List Value)) ++ []) 33) :: ((ob63, blk ((u8s x61) ++ r65) 5) :: (B62 ++ B43))))))))))) (fun w q => More.mono (fun w m => (m).appR) q)
                    replace v100 := v100.mono (Ψ := More w0 Φ (B148 ++ (B139 ++ (B130 ++ ((ob48, blk (cs46 ++ r50) 33) :: (((some b95), blk ((([.slice ((ob86).map fun k => ⟨k, 0, none⟩) x84.length c87] : List Value)) ++ []) 33) :: ((ob86, blk ((u8s x84) ++ r88) 5) :: (B85 ++ (((some b72), blk ((([.slice ((ob63).map fun k => ⟨k, 0, none⟩) x61.length c64] : List Value)) ++ []) 33) :: ((ob63, blk ((u8s x61) ++ r65) 5) :: (B62 ++ B43))))))))))) (fun w q => More.mono (fun w m => (m).appR) q)
                    replace h99 := h99.mono (BsRd.mono (Ψ := More w0 Φ (B148 ++ (B139 ++ (B130 ++ ((ob48, blk (cs46 ++ r50) 33) :: (((some b95), blk ((([.slice ((ob86).map fun k => ⟨k, 0, none⟩) x84.length c87] : List Value)) ++ []) 33) :: ((ob86, blk ((u8s x84) ++ r88) 5) :: (B85 ++ (((some b72), blk ((([.slice ((ob63).map fun k => ⟨k, 0, none⟩) x61.length c64] : List Value)) ++ []) 33) :: ((ob63, blk ((u8s x61) ++ r65) 5) :: (B62 ++ B43))))))))))) (fun w q => More.mono (fun w m => (m).appR) q))
                    replace hg1 := hg1.mono (Ψ := More w0 Φ (B148 ++ (B139 ++ (B130 ++ ((ob48, blk (cs46 ++ r50) 33) :: (((some b95), blk ((([.slice ((ob86).map fun k => ⟨k, 0, none⟩) x84.length c87] : List Value)) ++ []) 33) :: ((ob86, blk ((u8s x84) ++ r88) 5) :: (B85 ++ (((some b72), blk ((([.slice ((ob63).map fun k => ⟨k, 0, none⟩) x61.length c64] : List Value)) ++ []) 33) :: ((ob63, blk ((u8s x61) ++ r65) 5) :: (B62 ++ B43))))))))))) (fun w q => More.mono (fun w m => (m).appR) q)
                    refine XW.rs 27 rfl (by kernel_rfl) rfl (RV.eql rfl rfl) rfl ?_
                    refine XW.rs 28 rfl (by kernel_rfl) rfl (RV.pick_t rfl rfl rfl) rfl ?_
                    refine XW.rs 29 rfl (by kernel_rfl) rfl (RV.assign rfl) rfl ?_
                    refine XW.nil (by kernel_rfl) ?_
                    exact QW.join ⟨(decide (x146 = ((a0.length : Nat) : Int))), (B148 ++ (B139 ++ (B130 ++ ((ob48, blk (cs46 ++ r50) 33) :: (((some b95), blk ((([.slice ((ob86).map fun k => ⟨k, 0, none⟩) x84.length c87] : List Value)) ++ []) 33) :: ((ob86, blk ((u8s x84) ++ r88) 5) :: (B85 ++ (((some b72), blk ((([.slice ((ob63).map fun k => ⟨k, 0, none⟩) x61.length c64] : List Value)) ++ []) 33) :: ((ob63, blk ((u8s x61) ++ r65) 5) :: (B62 ++ B43)))))))))), (Option.some.inj hq107).symm, (fun w m => ((((m).appR).appR).appR).tail), rfl, rfl⟩ ⟨rfl, trivial⟩ (fun w m => m.pick [] 4 rfl rfl)
                  · replace hq107 := if_f hq107 h144
                    refine XW.slot (.bool false) (congrArg Value.bool (decide_eq_false h144)) ?_
                    refine XW.skip 23 rfl (by kernel_rfl) rfl rfl ?_
                    refine XW.skip 25 rfl (by kernel_rfl) rfl rfl ?_
                    refine XW.skip 26 rfl (by kernel_rfl) rfl rfl ?_
                    refine XW.skip 24 rfl (by kernel_rfl) rfl rfl ?_
                    refine XW.skip 27 rfl (by kernel_rfl) rfl rfl ?_
                    refine XW.rs 28 rfl (by kernel_rfl) rfl (RV.pick_f rfl rfl rfl) rfl ?_
                    refine XW.rs 29 rfl (by kernel_rfl) rfl (RV.assign rfl) rfl ?_
                    refine XW.nil (by kernel_rfl) ?_
                    exact QW.join ⟨false, (B139 ++ (B130 ++ ((ob48, blk (cs46 ++ r50) 33) :: (((some b95), blk ((([.slice ((ob86).map fun k => ⟨k, 0, none⟩) x84.length c87] : List Value)) ++ []) 33) :: ((ob86, blk ((u8s x84) ++ r88) 5) :: (B85 ++ (((some b72), blk ((([.slice ((ob63).map fun k => ⟨k, 0, none⟩) x61.length c64] : List Value)) ++ []) 33) :: ((ob63, blk ((u8s x61) ++ r65) 5) :: (B62 ++ B43))))))))), (Option.some.inj hq107).symm, (fun w m => (((m).appR).appR).tail), rfl, rfl⟩ ⟨rfl, trivial⟩ (fun w m => m.pick [] 4 rfl rfl)
                · replace hq107 := if_f hq107 h135
                  refine XW.slot (.bool false) (congrArg Value.bool (decide_eq_false h135)) ?_
                  refine XW.skip 17 rfl (by kernel_rfl) rfl rfl ?_
                  refine XW.skip 19 rfl (by kernel_rfl) rfl rfl ?_
                  refine XW.skip 18 rfl (by kernel_rfl) rfl rfl ?_
                  refine XW.skip 20 rfl (by kernel_rfl) rfl rfl ?_
                  refine XW.rs 21 rfl (by kernel_rfl) rfl (RV.pick_f rfl rfl rfl) rfl ?_
                  refine XW.rs 22 rfl (by kernel_rfl) rfl (RV.move rfl) rfl ?_
                  refine XW.skip 23 rfl (by kernel_rfl) rfl rfl ?_
                  refine XW.skip 25 rfl (by kernel_rfl) rfl rfl ?_
                  refine XW.skip 26 rfl (by kernel_rfl) rfl rfl ?_
                  refine XW.skip 24 rfl (by kernel_rfl) rfl rfl ?_
                  refine XW.skip 27 rfl (by kernel_rfl) rfl rfl ?_
                  refine XW.rs 28 rfl (by kernel_rfl) rfl (RV.pick_f rfl rfl rfl) rfl ?_
                  refine XW.rs 29 rfl (by kernel_rfl) rfl (RV.assign rfl) rfl ?_
                  refine XW.nil (by kernel_rfl) ?_
                  exact QW.join ⟨false, (B130 ++ ((ob48, blk (cs46 ++ r50) 33) :: (((some b95), blk ((([.slice ((ob86).map fun k => ⟨k, 0, none⟩) x84.length c87] : List Value)) ++ []) 33) :: ((ob86, blk ((u8s x84) ++ r88) 5) :: (B85 ++ (((some b72), blk ((([.slice ((ob63).map fun k => ⟨k, 0, none⟩) x61.length c64] : List Value)) ++ []) 33) :: ((ob63, blk ((u8s x61) ++ r65) 5) :: (B62 ++ B43)))))))), (Option.some.inj hq107).symm, (fun w m => ((m).appR).tail), rfl, rfl⟩ ⟨rfl, trivial⟩ (fun w m => m.pick [] 4 rfl rfl)
              · replace hq107 := if_f hq107 h126
                refine XW.slot (.bool false) (congrArg Value.bool (decide_eq_false h126)) ?_
                refine XW.skip 11 rfl (by kernel_rfl) rfl rfl ?_
                refine XW.skip 13 rfl (by kernel_rfl) rfl rfl ?_
                refine XW.skip 12 rfl (by kernel_rfl) rfl rfl ?_
                refine XW.skip 14 rfl (by kernel_rfl) rfl rfl ?_
                refine XW.rs 15 rfl (by kernel_rfl) rfl (RV.pick_f rfl rfl rfl) rfl ?_
                refine XW.rs 16 rfl (by kernel_rfl) rfl (RV.move rfl) rfl ?_
                refine XW.skip 17 rfl (by kernel_rfl) rfl rfl ?_
                refine XW.skip 19 rfl (by kernel_rfl) rfl rfl ?_
                refine XW.skip 18 rfl (by kernel_rfl) rfl rfl ?_
                refine XW.skip 20 rfl (by kernel_rfl) rfl rfl ?_
                refine XW.rs 21 rfl (by kernel_rfl) rfl (RV.pick_f rfl rfl rfl) rfl ?_
                refine XW.rs 22 rfl (by kernel_rfl) rfl (RV.move rfl) rfl ?_
                refine XW.skip 23 rfl (by kernel_rfl) rfl rfl ?_
                refine XW.skip 25 rfl (by kernel_rfl) rfl rfl ?_
                refine XW.skip 26 rfl (by kernel_rfl) rfl rfl ?_
                refine XW.skip 24 rfl (by kernel_rfl) rfl rfl ?_
                refine XW.skip 27 rfl (by kernel_rfl) rfl rfl ?_
                refine XW.rs 28 rfl (by kernel_rfl) rfl (RV.pick_f rfl rfl rfl) rfl ?_
                refine XW.rs 29 rfl (by kernel_rfl) rfl (RV.assign rfl) rfl ?_
                refine XW.nil (by kernel_rfl) ?_
                exact QW.join ⟨false, ((ob48, blk (cs46 ++ r50) 33) :: (((some b95), blk ((([.slice ((ob86).map fun k => ⟨k, 0, none⟩) x84.length c87] : List Value)) ++ []) 33) :: ((ob86, blk ((u8s x84) ++ r88) 5) :: (B85 ++ (((some b72), blk ((([.slice ((ob63).map fun k => ⟨k, 0, none⟩) x61.length c64] : List Value)) ++ []) 33) :: ((ob63, blk ((u8s x61) ++ r65) 5) :: (B62 ++ B43))))))), (Option.some.inj hq107).symm, (fun w m => (m).tail), rfl, rfl⟩ ⟨rfl, trivial⟩ (fun w m => m.pick [] 4 rfl rfl)
            · replace hq107 := if_f hq107 h121
              refine XW.slot (.bool false) (congrArg Value.bool (decide_eq_false h121)) ?_
              refine XW.skip 5 rfl (by kernel_rfl) rfl rfl ?_
              refine XW.skip 7 rfl (by kernel_rfl) rfl rfl ?_
              refine XW.skip 6 rfl (by kernel_rfl) rfl rfl ?_
              refine XW.skip 8 rfl (by kernel_rfl) rfl rfl ?_
              refine XW.rs 9 rfl (by kernel_rfl) rfl (RV.pick_f rfl rfl rfl) rfl ?_
              refine XW.rs 10 rfl (by kernel_rfl) rfl (RV.move rfl) rfl ?_
              refine XW.skip 11 rfl (by kernel_rfl) rfl rfl ?_
              refine XW.skip 13 rfl (by kernel_rfl) rfl rfl ?_
              refine XW.skip 12 rfl (by kernel_rfl) rfl rfl ?_
              refine XW.skip 14 rfl (by kernel_rfl) rfl rfl ?_
              refine XW.rs 15 rfl (by kernel_rfl) rfl (RV.pick_f rfl rfl rfl) rfl ?_
              refine XW.rs 16 rfl (by kernel_rfl) rfl (RV.move rfl) rfl ?_
              refine XW.skip 17 rfl (by kernel_rfl) rfl rfl ?_
              refine XW.skip 19 rfl (by kernel_rfl) rfl rfl ?_
              refine XW.skip 18 rfl (by kernel_rfl) rfl rfl ?_
              refine XW.skip 20 rfl (by kernel_rfl) rfl rfl ?_
              refine XW.rs 21 rfl (by kernel_rfl) rfl (RV.pick_f rfl rfl rfl) rfl ?_
              refine XW.rs 22 rfl (by kernel_rfl) rfl (RV.move rfl) rfl ?_
              refine XW.skip 23 rfl (by kernel_rfl) rfl rfl ?_
              refine XW.skip 25 rfl (by kernel_rfl) rfl rfl ?_
              refine XW.skip 26 rfl (by kernel_rfl) rfl rfl ?_
              refine XW.skip 24 rfl (by kernel_rfl) rfl rfl ?_
              refine XW.skip 27 rfl (by kernel_rfl) rfl rfl ?_
              refine XW.rs 28 rfl (by kernel_rfl) rfl (RV.pick_f rfl rfl rfl) rfl ?_
              refine XW.rs 29 rfl (by kernel_rfl) rfl (RV.assign rfl) rfl ?_
              refine XW.nil (by kernel_rfl) ?_
              exact QW.join ⟨false, ((ob48, blk (cs46 ++ r50) 33) :: (((some b95), blk ((([.slice ((ob86).map fun k => ⟨k, 0, none⟩) x84.length c87] : List Value)) ++ []) 33) :: ((ob86, blk ((u8s x84) ++ r88) 5) :: (B85 ++ (((some b72), blk ((([.slice ((ob63).map fun k => ⟨k, 0, none⟩) x61.length c64] : List Value)) ++ []) 33) :: ((ob63, blk ((u8s x61) ++ r65) 5) :: (B62 ++ B43))))))), (Option.some.inj hq107).symm, (fun w m => (m).tail), rfl, rfl⟩ ⟨rfl, trivial⟩ (fun w m => m.pick [] 4 rfl rfl)
        · skip
          refine CW.block ?_
          refine CW.mem (M' := ((none, blk ([] ++ []) 33) :: (some b26, blk x23.C 73) :: (some b16, blk x13.C 73) :: ((B25 ++ (B15 ++ [])) ++ N))) (fun w m => m.nil_ent _) ?_
          refine CW.loopJ (fun k L' M' => ∃ l156 : List (List (BitVec 8)), ∃ z163 : Int, ∃ n165 : Nat, ∃ w167 : Sponge, ∃ w168 : Sponge, ∃ B154 : List Ent, ∃ cs157 : List Value, ∃ ob159 : Option Nat, ∃ c160 : Nat, ∃ r161 : List Value, (waybilllaw02_KeccakCuts.l1 a0 a1 k l156 z163 n165 w167 w168) = some q41 ∧ (∀ w, Mem w0 w B154 → Mem w0 w (B25 ++ (B15 ++ []))) ∧ (Reps (BsRd (More w0 Φ B154)) cs157 l156) ∧ (OwnS ob159 l156.length c160 1 cs157 r161) ∧ (-9223372036854775808 ≤ z163 ∧ z163 ≤ 9223372036854775807) ∧ (n165 ≤ 9223372036854775807) ∧ L' = [(0, .slice A0_ a0.length c0_), (1, .slice A1_ a1.length c1_), (5, sl ob159 0 l156.length c160), (6, ptr (some b16) 0), (8, ptr (some b26) 0), (10, .int .i64 z163), (11, .int .i64 ((n165 : Nat) : Int))] ∧ M' = ((ob159, blk (cs157 ++ r161) 33) :: (some b26, blk w167.C 73) :: (some b16, blk w168.C 73) :: (B154 ++ N))) (k0 := (a1.length - 0 + 2)) ⟨([] : List (List (BitVec 8))), (0 : Int), 0, x23, x13, (B25 ++ (B15 ++ [])), [], none, 0, [], hq42, (fun w m => m), Reps.nil, OwnS.nil, (by omega), (by omega), rfl, rfl⟩ ⟨rfl, rfl, rfl, rfl, rfl, rfl, rfl, trivial⟩ (fun w m => m.pick [0, 1, 2] 3 rfl rfl) ?_
          clear hq42
          rintro k169 L172 M173 ⟨l156, z163, n165, w167, w168, B154, cs157, ob159, c160, r161, hl170, hB155, h158, o162, b164, b166, e174, e175⟩
          rw [e174, e175]
          clear e174 e175 L172 M173
          rcases k169 with _ | k169
          · rw [waybilllaw02_KeccakCuts.l1] at hl170; cases hl170
          rw [waybilllaw02_KeccakCuts.l1] at hl170
          replace va0 := va0.mono (Ψ := More w0 Φ B154) (fun w q => More.mono (fun w m => hB155 w (m)) q)
          replace va1 := va1.mono (Ψ := More w0 Φ B154) (fun w q => More.mono (fun w m => hB155 w (m)) q)
          replace hg1 := hg1.mono (Ψ := More w0 Φ B154) (fun w q => More.mono (fun w m => hB155 w (m)) q)
          have m176 := o162.mx
          refine CW.seq ?_
          refine CW.seq ?_
          refine CW.region ?_
          refine OW.rv (RV.move rfl) rfl ?_
          refine OW.rv (RV.move rfl) rfl ?_
          refine OW.rv (RV.len rfl rfl) rfl ?_
          refine OW.rv (RV.leq rfl rfl) rfl ?_
          refine OW.slot (.bool (decide (n165 ≤ a1.length))) (congrArg Value.bool (decide_eq_decide.2 (by omega))) ?_
          refine OW.nil ?_
          refine QW.then_n ?_
          by_cases h177 : n165 ≤ a1.length
          · replace hl170 := if_t hl170 h177
            refine CW.is_t rfl (decide_eq_true h177) ?_
            refine CW.skip ?_
            refine QW.then_n ?_
            refine CW.seq ?_
            refine CW.block ?_
            refine CW.seq ?_
            refine CW.region ?_
            refine OW.rv (RV.move rfl) rfl ?_
            refine OW.rv (RV.len rfl rfl) rfl ?_
            refine OW.rv (RV.move rfl) rfl ?_
            obtain ⟨g178, hl170⟩ := some_if hl170
            refine OW.rv (RV.sub rfl rfl (by omega)) rfl ?_
            refine OW.rv (RV.assign rfl) rfl ?_
            refine OW.nil ?_
            refine QW.then_n ?_
            refine CW.seq ?_
            refine CW.seq ?_
            refine CW.region ?_
            refine OW.rv (RV.move rfl) rfl ?_
            refine OW.rv (RV.move rfl) rfl ?_
            refine OW.rv (RV.len rfl rfl) rfl ?_
            refine OW.rv (RV.lss rfl rfl) rfl ?_
            refine OW.slot (.bool (decide (n165 < a1.length))) (congrArg Value.bool (decide_eq_decide.2 (by omega))) ?_
            refine OW.nil ?_
            refine QW.then_n ?_
            obtain ⟨q179, hq180, hl170⟩ := some_bind hl170
            refine CW.cutJ (fun L' M' => ∃ z181 : Int, q179 = z181 ∧ (-9223372036854775808 ≤ z181 ∧ z181 ≤ 9223372036854775807) ∧ L' = [(0, .slice A0_ a0.length c0_), (1, .slice A1_ a1.length c1_), (5, sl ob159 0 l156.length c160), (6, ptr (some b16) 0), (8, ptr (some b26) 0), (10, .int .i64 z163), (11, .int .i64 ((n165 : Nat) : Int)), (12, .int .i64 z181)] ∧ M' = ((ob159, blk (cs157 ++ r161) 33) :: (some b26, blk w167.C 73) :: (some b16, blk w168.C 73) :: (B154 ++ N))) ?_ ?_
            · rintro L184 M185 ⟨z181, e183, b182, e186, e187⟩
              rw [e186, e187]
              clear e186 e187 L184 M185
              clear hq180
              rw [e183] at hl170
              clear e183
              try dsimp only at hl170
              have m188 := o162.mx
              refine QW.then_n ?_
              refine CW.seq ?_
              refine CW.region ?_
              refine OW.rv (RV.move rfl) rfl ?_
              refine OW.rv (RV.move rfl) rfl ?_
              refine OW.rv (RV.move rfl) rfl ?_
              refine OW.rv (RV.move rfl) rfl ?_
              refine OW.rv (RV.move rfl) rfl ?_
              obtain ⟨g189, hl170⟩ := some_if hl170
              refine OW.rv (RV.add rfl rfl (by omega)) rfl ?_
              obtain ⟨g191, hl170⟩ := some_if hl170
              obtain ⟨g192, hl170⟩ := some_if hl170
              obtain ⟨g193, hl170⟩ := some_if hl170
              obtain ⟨g194, hl170⟩ := some_if hl170
              have hle := va0.le
              refine OW.rv (RV.cut_both (s := 1) ((z163).toNat) (((z163 + z181)).toNat) rfl rfl rfl (by omega) (by omega) rfl rfl (by omega) (by omega)) rfl ?_
              refine OW.slot (.slice (subA A0_ c0_ ((z163).toNat) 1) ((a0.take (((z163 + z181)).toNat)).drop ((z163).toNat)).length (c0_ - (z163).toNat)) (by rw [show (((a0.take (((z163 + z181)).toNat)).drop ((z163).toNat))).length = (((z163 + z181)).toNat) - ((z163).toNat) from List.length_drop.trans (by rw [List.length_take, Nat.min_eq_left (by omega)])]) ?_
              have v190 : View (More w0 Φ B154) (subA A0_ c0_ ((z163).toNat) 1) ((a0.take (((z163 + z181)).toNat)).drop ((z163).toNat)).length (c0_ - (z163).toNat) 1 (u8s ((a0.take (((z163 + z181)).toNat)).drop ((z163).toNat))) := va0.mid8 (by omega) (by omega)
              have m195 := v190.mx
              obtain ⟨x197, hx196, hl170⟩ := some_bind hl170
              refine OW.callG Tryd.call21 rfl (waybilllaw02_lent_own w0 (More w0 Φ B154) ((ob159, blk (cs157 ++ r161) 33) :: (some b26, blk w167.C 73) :: (some b16, blk w168.C 73) :: (B154 ++ N)) (fun w m => More.of hΦ 3 m rfl) (subA A0_ c0_ ((z163).toNat) 1) (c0_ - (z163).toNat) ((a0.take (((z163 + z181)).toNat)).drop ((z163).toNat)) x197 v190 hx196) rfl rfl ?_
              rintro L203 M204 ⟨B198, ob199, c200, r201, o202, e205, e206⟩
              rw [e205, e206]
              clear e205 e206 L203 M204
              refine OW.mem (M' := ((ob199, blk ((u8s x197) ++ r201) 5) :: (ob159, blk (cs157 ++ r161) 33) :: (some b26, blk w167.C 73) :: (some b16, blk w168.C 73) :: ((B198 ++ B154) ++ N))) (fun w m => by have h := Mem.sinkAt (A := B198) m 1 3 rfl rfl; exact h) ?_
              replace va0 := va0.mono (Ψ := More w0 Φ (B198 ++ B154)) (fun w q => More.mono (fun w m => (m).appR) q)
              replace va1 := va1.mono (Ψ := More w0 Φ (B198 ++ B154)) (fun w q => More.mono (fun w m => (m).appR) q)
              replace h158 := h158.mono (BsRd.mono (Ψ := More w0 Φ (B198 ++ B154)) (fun w q => More.mono (fun w m => (m).appR) q))
              replace v190 := v190.mono (Ψ := More w0 Φ (B198 ++ B154)) (fun w q => More.mono (fun w m => (m).appR) q)
              replace hg1 := hg1.mono (Ψ := More w0 Φ (B198 ++ B154)) (fun w q => More.mono (fun w m => (m).appR) q)
              have m207 := o202.mx
              refine OW.mem (M' := (ob159, blk (cs157 ++ r161) 33) :: (some b26, blk w167.C 73) :: (some b16, blk w168.C 73) :: (((ob199, blk ((u8s x197) ++ r201) 5) :: (B198 ++ B154)) ++ N)) (fun w m => m.pick [1, 2, 3, 0] 4 rfl rfl) ?_
              replace va0 := va0.mono (Ψ := More w0 Φ ((ob199, blk ((u8s x197) ++ r201) 5) :: (B198 ++ B154))) (fun w q => More.mono (fun w m => (m).tail) q)
              replace va1 := va1.mono (Ψ := More w0 Φ ((ob199, blk ((u8s x197) ++ r201) 5) :: (B198 ++ B154))) (fun w q => More.mono (fun w m => (m).tail) q)
              replace h158 := h158.mono (BsRd.mono (Ψ := More w0 Φ ((ob199, blk ((u8s x197) ++ r201) 5) :: (B198 ++ B154))) (fun w q => More.mono (fun w m => (m).tail) q))
              replace v190 := v190.mono (Ψ := More w0 Φ ((ob199, blk ((u8s x197) ++ r201) 5) :: (B198 ++ B154))) (fun w q => More.mono (fun w m => (m).tail) q)
              replace hg1 := hg1.mono (Ψ := More w0 Φ ((ob199, blk ((u8s x197) ++ r201) 5) :: (B198 ++ B154))) (fun w q => More.mono (fun w m => (m).tail) q)
              have v210 : View (More w0 Φ ((ob199, blk ((u8s x197) ++ r201) 5) :: (B198 ++ B154))) ((ob199).map fun k => ⟨k, 0, none⟩) x197.length c200 1 (u8s x197) := o202.view (by decide) (fun w q => q.2.sublist (List.singleton_sublist.2 (List.mem_cons_self ..)))
              refine OW.ofN (NV.bs1 rfl rfl rfl rfl rfl rfl) rfl (fun b208 => ?_)
              have h212 : Reps (BsRd (More w0 Φ ((ob199, blk ((u8s x197) ++ r201) 5) :: (B198 ++ B154)))) (([.slice ((ob199).map fun k => ⟨k, 0, none⟩) x197.length c200] : List Value)) [x197] := Reps.one (BsRd.mk v210)
              refine OW.mem (M' := (((some b208), blk ((([.slice ((ob199).map fun k => ⟨k, 0, none⟩) x197.length c200] : List Value)) ++ []) 33) :: (ob159, blk (cs157 ++ r161) 33) :: (some b26, blk w167.C 73) :: (some b16, blk w168.C 73) :: (((ob199, blk ((u8s x197) ++ r201) 5) :: (B198 ++ B154)) ++ N))) (fun w m => m) ?_
              have o209 : OwnS (some b208) ([x197] : List (List (BitVec 8))).length 1 1 (([.slice ((ob199).map fun k => ⟨k, 0, none⟩) x197.length c200] : List Value)) [] := ⟨by simp [BsRd], by simp [BsRd], (fun h => nomatch h), by simp⟩
              refine OW.slot (sl (some b208) 0 ([x197] : List (List (BitVec 8))).length 1) (rfl) ?_
              refine OW.rot1 ?_
              obtain ⟨g213, hl170⟩ := some_if hl170
              have h218 := h158.app h212
              refine OW.appendOwn (s := 1) rfl rfl rfl rfl rfl rfl o162 (fun w m => m.rd0 (List.Mem.tail _ (List.Mem.head _)) (fun e => o209.nilc (by decide) e)) o209.n (h212.cell1 BsRd.one) (o209.zeroO (by decide)) (by decide) (by decide) (by first | omega | (simp only [i33, List.length_nil]; omega)) rfl rfl ((l156 ++ ([x197] : List (List (BitVec 8)))).length) (cs157 ++ (([.slice ((ob199).map fun k => ⟨k, 0, none⟩) x197.length c200] : List Value))) (List.length_append ..).symm rfl (fun ob214 r215 c216 o217 => ?_)
              have m219 := o217.mx
              refine OW.rv (RV.assign rfl) rfl ?_
              refine OW.nil ?_
              refine QW.then_n ?_
              refine CW.seq ?_
              refine CW.region ?_
              refine OW.rv (RV.move rfl) rfl ?_
              refine OW.rv (RV.move rfl) rfl ?_
              refine OW.rv (RV.move rfl) rfl ?_
              refine OW.rv (RV.move rfl) rfl ?_
              refine OW.rv (RV.move rfl) rfl ?_
              refine OW.rv (RV.add rfl rfl (by omega)) rfl ?_
              have hle := va0.le
              refine OW.rv (RV.cut_both (s := 1) ((z163).toNat) (((z163 + z181)).toNat) rfl rfl rfl (by omega) (by omega) rfl rfl (by omega) (by omega)) rfl ?_
              refine OW.slot (.slice (subA A0_ c0_ ((z163).toNat) 1) ((a0.take (((z163 + z181)).toNat)).drop ((z163).toNat)).length (c0_ - (z163).toNat)) (by rw [show (((a0.take (((z163 + z181)).toNat)).drop ((z163).toNat))).length = (((z163 + z181)).toNat) - ((z163).toNat) from List.length_drop.trans (by rw [List.length_take, Nat.min_eq_left (by omega)])]) ?_
              have v220 : View (More w0 Φ ((ob199, blk ((u8s x197) ++ r201) 5) :: (B198 ++ B154))) (subA A0_ c0_ ((z163).toNat) 1) ((a0.take (((z163 + z181)).toNat)).drop ((z163).toNat)).length (c0_ - (z163).toNat) 1 (u8s ((a0.take (((z163 + z181)).toNat)).drop ((z163).toNat))) := va0.mid8 (by omega) (by omega)
              have m221 := v220.mx
              obtain ⟨x223, hx222, hl170⟩ := some_bind hl170
              refine OW.callG Tryd.call21 rfl (waybilllaw02_lent_own w0 (More w0 Φ ((ob199, blk ((u8s x197) ++ r201) 5) :: (B198 ++ B154))) ((ob214, blk ((cs157 ++ (([.slice ((ob199).map fun k => ⟨k, 0, none⟩) x197.length c200] : List Value))) ++ r215) 33) :: ((some b208), blk ((([.slice ((ob199).map fun k => ⟨k, 0, none⟩) x197.length c200] : List Value)) ++ []) 33) :: (some b26, blk w167.C 73) :: (some b16, blk w168.C 73) :: (((ob199, blk ((u8s x197) ++ r201) 5) :: (B198 ++ B154)) ++ N)) (fun w m => More.of hΦ 4 m rfl) (subA A0_ c0_ ((z163).toNat) 1) (c0_ - (z163).toNat) ((a0.take (((z163 + z181)).toNat)).drop ((z163).toNat)) x223 v220 hx222) rfl rfl ?_
              rintro L229 M230 ⟨B224, ob225, c226, r227, o228, e231, e232⟩
              rw [e231, e232]
              clear e231 e232 L229 M230
              refine OW.mem (M' := ((ob225, blk ((u8s x223) ++ r227) 5) :: (ob214, blk ((cs157 ++ (([.slice ((ob199).map fun k => ⟨k, 0, none⟩) x197.length c200] : List Value))) ++ r215) 33) :: ((some b208), blk ((([.slice ((ob199).map fun k => ⟨k, 0, none⟩) x197.length c200] : List Value)) ++ []) 33) :: (some b26, blk w167.C 73) :: (some b16, blk w168.C 73) :: ((B224 ++ ((ob199, blk ((u8s x197) ++ r201) 5) :: (B198 ++ B154))) ++ N))) (fun w m => by have h := Mem.sinkAt (A := B224) m 1 4 rfl rfl; exact h) ?_
              replace va0 := va0.mono (Ψ := More w0 Φ (B224 ++ ((ob199, blk ((u8s x197) ++ r201) 5) :: (B198 ++ B154)))) (fun w q => More.mono (fun w m => (m).appR) q)
              replace va1 := va1.mono (Ψ := More w0 Φ (B224 ++ ((ob199, blk ((u8s x197) ++ r201) 5) :: (B198 ++ B154)))) (fun w q => More.mono (fun w m => (m).appR) q)
              replace h218 := h218.mono (BsRd.mono (Ψ := More w0 Φ (B224 ++ ((ob199, blk ((u8s x197) ++ r201) 5) :: (B198 ++ B154)))) (fun w q => More.mono (fun w m => (m).appR) q))
              replace h158 := h158.mono (BsRd.mono (Ψ := More w0 Φ (B224 ++ ((ob199, blk ((u8s x197) ++ r201) 5) :: (B198 ++ B154)))) (fun w q => More.mono (fun w m => (m).appR) q))
              replace v190 := v190.mono (Ψ := More w0 Φ (B224 ++ ((ob199, blk ((u8s x197) ++ r201) 5) :: (B198 ++ B154)))) (fun w q => More.mono (fun w m => (m).appR) q)
              replace v210 := v210.mono (Ψ := More w0 Φ (B224 ++ ((ob199, blk ((u8s x197) ++ r201) 5) :: (B198 ++ B154)))) (fun w q => More.mono (fun w m => (m).appR) q)
              replace h212 := h212.mono (BsRd.mono (Ψ := More w0 Φ (B224 ++ ((ob199, blk ((u8s x197) ++ r201) 5) :: (B198 ++ B154)))) (fun w q => More.mono (fun w m => (m).appR) q))
              replace v220 := v220.mono (Ψ := More w0 Φ (B224 ++ ((ob199, blk ((u8s x197) ++ r201) 5) :: (B198 ++ B154)))) (fun w q => More.mono (fun w m => (m).appR) q)
              replace hg1 := hg1.mono (Ψ := More w0 Φ (B224 ++ ((ob199, blk ((u8s x197) ++ r201) 5) :: (B198 ++ B154)))) (fun w q => More.mono (fun w m => (m).appR) q)
              have m233 := o228.mx
              refine OW.mem (M' := (ob214, blk ((cs157 ++ (([.slice ((ob199).map fun k => ⟨k, 0, none⟩) x197.length c200] : List Value))) ++ r215) 33) :: ((some b208), blk ((([.slice ((ob199).map fun k => ⟨k, 0, none⟩) x197.length c200] : List Value)) ++ []) 33) :: (some b26, blk w167.C 73) :: (some b16, blk w168.C 73) :: (((ob225, blk ((u8s x223) ++ r227) 5) :: (B224 ++ ((ob199, blk ((u8s x197) ++ r201) 5) :: (B198 ++ B154)))) ++ N)) (fun w m => m.pick [1, 2, 3, 4, 0] 5 rfl rfl) ?_
              replace va0 := va0.mono (Ψ := More w0 Φ ((ob225, blk ((u8s x223) ++ r227) 5) :: (B224 ++ ((ob199, blk ((u8s x197) ++ r201) 5) :: (B198 ++ B154))))) (fun w q => More.mono (fun w m => (m).tail) q)
              replace va1 := va1.mono (Ψ := More w0 Φ ((ob225, blk ((u8s x223) ++ r227) 5) :: (B224 ++ ((ob199, blk ((u8s x197) ++ r201) 5) :: (B198 ++ B154))))) (fun w q => More.mono (fun w m => (m).tail) q)
              replace h218 := h218.mono (BsRd.mono (Ψ := More w0 Φ ((ob225, blk ((u8s x223) ++ r227) 5) :: (B224 ++ ((ob199, blk ((u8s x197) ++ r201) 5) :: (B198 ++ B154))))) (fun w q => More.mono (fun w m => (m).tail) q))
              replace h158 := h158.mono (BsRd.mono (Ψ := More w0 Φ ((ob225, blk ((u8s x223) ++ r227) 5) :: (B224 ++ ((ob199, blk ((u8s x197) ++ r201) 5) :: (B198 ++ B154))))) (fun w q => More.mono (fun w m => (m).tail) q))
              replace v190 := v190.mono (Ψ := More w0 Φ ((ob225, blk ((u8s x223) ++ r227) 5) :: (B224 ++ ((ob199, blk ((u8s x197) ++ r201) 5) :: (B198 ++ B154))))) (fun w q => More.mono (fun w m => (m).tail) q)
              replace v210 := v210.mono (Ψ := More w0 Φ ((ob225, blk ((u8s x223) ++ r227) 5) :: (B224 ++ ((ob199, blk ((u8s x197) ++ r201) 5) :: (B198 ++ B154))))) (fun w q => More.mono (fun w m => (m).tail) q)
              replace h212 := h212.mono (BsRd.mono (Ψ := More w0 Φ ((ob225, blk ((u8s x223) ++ r227) 5) :: (B224 ++ ((ob199, blk ((u8s x197) ++ r201) 5) :: (B198 ++ B154))))) (fun w q => More.mono (fun w m => (m).tail) q))
              replace v220 := v220.mono (Ψ := More w0 Φ ((ob225, blk ((u8s x223) ++ r227) 5) :: (B224 ++ ((ob199, blk ((u8s x197) ++ r201) 5) :: (B198 ++ B154))))) (fun w q => More.mono (fun w m => (m).tail) q)
              replace hg1 := hg1.mono (Ψ := More w0 Φ ((ob225, blk ((u8s x223) ++ r227) 5) :: (B224 ++ ((ob199, blk ((u8s x197) ++ r201) 5) :: (B198 ++ B154))))) (fun w q => More.mono (fun w m => (m).tail) q)
              have v234 : View (More w0 Φ ((ob225, blk ((u8s x223) ++ r227) 5) :: (B224 ++ ((ob199, blk ((u8s x197) ++ r201) 5) :: (B198 ++ B154))))) ((ob225).map fun k => ⟨k, 0, none⟩) x223.length c226 1 (u8s x223) := o228.view (by decide) (fun w q => q.2.sublist (List.singleton_sublist.2 (List.mem_cons_self ..)))
              obtain ⟨x236, hx235, hl170⟩ := some_bind hl170
              refine OW.mem (M' := ((some b16, blk w168.C 73) :: (ob214, blk ((cs157 ++ (([.slice ((ob199).map fun k => ⟨k, 0, none⟩) x197.length c200] : List Value))) ++ r215) 33) :: ((some b208), blk ((([.slice ((ob199).map fun k => ⟨k, 0, none⟩) x197.length c200] : List Value)) ++ []) 33) :: (some b26, blk w167.C 73) :: (((ob225, blk ((u8s x223) ++ r227) 5) :: (B224 ++ ((ob199, blk ((u8s x197) ++ r201) 5) :: (B198 ++ B154)))) ++ N))) (fun w m => m.pick [3, 0, 1, 2] 4 rfl rfl) ?_
              refine OW.callG Tryd.call22 rfl (keccak_Sponge_Write_does w0 (More w0 Φ ((ob225, blk ((u8s x223) ++ r227) 5) :: (B224 ++ ((ob199, blk ((u8s x197) ++ r201) 5) :: (B198 ++ B154))))) ((ob214, blk ((cs157 ++ (([.slice ((ob199).map fun k => ⟨k, 0, none⟩) x197.length c200] : List Value))) ++ r215) 33) :: ((some b208), blk ((([.slice ((ob199).map fun k => ⟨k, 0, none⟩) x197.length c200] : List Value)) ++ []) 33) :: (some b26, blk w167.C 73) :: (((ob225, blk ((u8s x223) ++ r227) 5) :: (B224 ++ ((ob199, blk ((u8s x197) ++ r201) 5) :: (B198 ++ B154)))) ++ N)) (fun w m => More.of hΦ 3 m rfl) b16 w168 ((ob225).map fun k => ⟨k, 0, none⟩) c226 x223 x236 v234 hx235) rfl rfl ?_
              rintro L238 M239 ⟨B237, e240, e241⟩
              rw [e240, e241]
              clear e240 e241 L238 M239
              refine OW.mem (M' := ((some b16, blk x236.C 73) :: (ob214, blk ((cs157 ++ (([.slice ((ob199).map fun k => ⟨k, 0, none⟩) x197.length c200] : List Value))) ++ r215) 33) :: ((some b208), blk ((([.slice ((ob199).map fun k => ⟨k, 0, none⟩) x197.length c200] : List Value)) ++ []) 33) :: (some b26, blk w167.C 73) :: ((B237 ++ ((ob225, blk ((u8s x223) ++ r227) 5) :: (B224 ++ ((ob199, blk ((u8s x197) ++ r201) 5) :: (B198 ++ B154))))) ++ N))) (fun w m => by have h := Mem.sinkAt (A := B237) m 1 3 rfl rfl; exact h) ?_
              replace va0 := va0.mono (Ψ := More w0 Φ (B237 ++ ((ob225, blk ((u8s x223) ++ r227) 5) :: (B224 ++ ((ob199, blk ((u8s x197) ++ r201) 5) :: (B198 ++ B154)))))) (fun w q => More.mono (fun w m => (m).appR) q)
              replace va1 := va1.mono (Ψ := More w0 Φ (B237 ++ ((ob225, blk ((u8s x223) ++ r227) 5) :: (B224 ++ ((ob199, blk ((u8s x197) ++ r201) 5) :: (B198 ++ B154)))))) (fun w q => More.mono (fun w m => (m).appR) q)
              replace h218 := h218.mono (BsRd.mono (Ψ := More w0 Φ (B237 ++ ((ob225, blk ((u8s x223) ++ r227) 5) :: (B224 ++ ((ob199, blk ((u8s x197) ++ r201) 5) :: (B198 ++ B154)))))) (fun w q => More.mono (fun w m => (m).appR) q))
              replace h158 := h158.mono (BsRd.mono (Ψ := More w0 Φ (B237 ++ ((ob225, blk ((u8s x223) ++ r227) 5) :: (B224 ++ ((ob199, blk ((u8s x197) ++ r201) 5) :: (B198 ++ B154)))))) (fun w q => More.mono (fun w m => (m).appR) q))
              replace v190 := v190.mono (Ψ := More w0 Φ (B237 ++ ((ob225, blk ((u8s x223) ++ r227) 5) :: (B224 ++ ((ob199, blk ((u8s x197) ++ r201) 5) :: (B198 ++ B154)))))) (fun w q => More.mono (fun w m => (m).appR) q)
              replace v210 := v210.mono (Ψ := More w0 Φ (B237 ++ ((ob225, blk ((u8s x223) ++ r227) 5) :: (B224 ++ ((ob199, blk ((u8s x197) ++ r201) 5) :: (B198 ++ B154)))))) (fun w q => More.mono (fun w m => (m).appR) q)
              replace h212 := h212.mono (BsRd.mono (Ψ := More w0 Φ (B237 ++ ((ob225, blk ((u8s x223) ++ r227) 5) :: (B224 ++ ((ob199, blk ((u8s x197) ++ r201) 5) :: (B198 ++ B154)))))) (fun w q => More.mono (fun w m => (m).appR) q))
              replace v220 := v220.mono (Ψ := More w0 Φ (B237 ++ ((ob225, blk ((u8s x223) ++ r227) 5) :: (B224 ++ ((ob199, blk ((u8s x197) ++ r201) 5) :: (B198 ++ B154)))))) (fun w q => More.mono (fun w m => (m).appR) q)
              replace v234 := v234.mono (Ψ := More w0 Φ (B237 ++ ((ob225, blk ((u8s x223) ++ r227) 5) :: (B224 ++ ((ob199, blk ((u8s x197) ++ r201) 5) :: (B198 ++ B154)))))) (fun w q => More.mono (fun w m => (m).appR) q)
              replace hg1 := hg1.mono (Ψ := More w0 Φ (B237 ++ ((ob225, blk ((u8s x223) ++ r227) 5) :: (B224 ++ ((ob199, blk ((u8s x197) ++ r201) 5) :: (B198 ++ B154)))))) (fun w q => More.mono (fun w m => (m).appR) q)
              refine OW.nil ?_
              refine QW.then_n ?_
              refine CW.seq ?_
              refine CW.region ?_
              refine OW.rv (RV.move rfl) rfl ?_
              refine OW.rv (RV.move rfl) rfl ?_
              refine OW.rv (RV.move rfl) rfl ?_
              refine OW.rv (RV.move rfl) rfl ?_
              refine OW.rv (RV.move rfl) rfl ?_
              refine OW.rv (RV.add rfl rfl (by omega)) rfl ?_
              have hle := va0.le
              refine OW.rv (RV.cut_both (s := 1) ((z163).toNat) (((z163 + z181)).toNat) rfl rfl rfl (by omega) (by omega) rfl rfl (by omega) (by omega)) rfl ?_
              refine OW.slot (.slice (subA A0_ c0_ ((z163).toNat) 1) ((a0.take (((z163 + z181)).toNat)).drop ((z163).toNat)).length (c0_ - (z163).toNat)) (by rw [show (((a0.take (((z163 + z181)).toNat)).drop ((z163).toNat))).length = (((z163 + z181)).toNat) - ((z163).toNat) from List.length_drop.trans (by rw [List.length_take, Nat.min_eq_left (by omega)])]) ?_
              have v242 : View (More w0 Φ (B237 ++ ((ob225, blk ((u8s x223) ++ r227) 5) :: (B224 ++ ((ob199, blk ((u8s x197) ++ r201) 5) :: (B198 ++ B154)))))) (subA A0_ c0_ ((z163).toNat) 1) ((a0.take (((z163 + z181)).toNat)).drop ((z163).toNat)).length (c0_ - (z163).toNat) 1 (u8s ((a0.take (((z163 + z181)).toNat)).drop ((z163).toNat))) := va0.mid8 (by omega) (by omega)
              have m243 := v242.mx
              obtain ⟨x245, hx244, hl170⟩ := some_bind hl170
              refine OW.callG Tryd.call21 rfl (waybilllaw02_lent_own w0 (More w0 Φ (B237 ++ ((ob225, blk ((u8s x223) ++ r227) 5) :: (B224 ++ ((ob199, blk ((u8s x197) ++ r201) 5) :: (B198 ++ B154)))))) ((some b16, blk x236.C 73) :: (ob214, blk ((cs157 ++ (([.slice ((ob199).map fun k => ⟨k, 0, none⟩) x197.length c200] : List Value))) ++ r215) 33) :: ((some b208), blk ((([.slice ((ob199).map fun k => ⟨k, 0, none⟩) x197.length c200] : List Value)) ++ []) 33) :: (some b26, blk w167.C 73) :: ((B237 ++ ((ob225, blk ((u8s x223) ++ r227) 5) :: (B224 ++ ((ob199, blk ((u8s x197) ++ r201) 5) :: (B198 ++ B154))))) ++ N)) (fun w m => More.of hΦ 4 m rfl) (subA A0_ c0_ ((z163).toNat) 1) (c0_ - (z163).toNat) ((a0.take (((z163 + z181)).toNat)).drop ((z163).toNat)) x245 v242 hx244) rfl rfl ?_
              rintro L251 M252 ⟨B246, ob247, c248, r249, o250, e253, e254⟩
              rw [e253, e254]
              clear e253 e254 L251 M252
              refine OW.mem (M' := ((ob247, blk ((u8s x245) ++ r249) 5) :: (some b16, blk x236.C 73) :: (ob214, blk ((cs157 ++ (([.slice ((ob199).map fun k => ⟨k, 0, none⟩) x197.length c200] : List Value))) ++ r215) 33) :: ((some b208), blk ((([.slice ((ob199).map fun k => ⟨k, 0, none⟩) x197.length c200] : List Value)) ++ []) 33) :: (some b26, blk w167.C 73) :: ((B246 ++ (B237 ++ ((ob225, blk ((u8s x223) ++ r227) 5) :: (B224 ++ ((ob199, blk ((u8s x197) ++ r201) 5) :: (B198 ++ B154)))))) ++ N))) (fun w m => by have h := Mem.sinkAt (A := B246) m 1 4 rfl rfl; exact h) ?_
              replace va0 := va0.mono (Ψ := More w0 Φ (B246 ++ (B237 ++ ((ob225, blk ((u8s x223) ++ r227) 5) :: (B224 ++ ((ob199, blk ((u8s x197) ++ r201) 5) :: (B198 ++ B154))))))) (fun w q => More.mono (fun w m => (m).appR) q)
              replace va1 := va1.mono (Ψ := More w0 Φ (B246 ++ (B237 ++ ((ob225, blk ((u8s x223) ++ r227) 5) :: (B224 ++ ((ob199, blk ((u8s x197) ++ r201) 5) :: (B198 ++ B154))))))) (fun w q => More.mono (fun w m => (m).appR) q)
              replace h218 := h218.mono (BsRd.mono (Ψ := More w0 Φ (B246 ++ (B237 ++ ((ob225, blk ((u8s x223) ++ r227) 5) :: (B224 ++ ((ob199, blk ((u8s x197) ++ r201) 5) :: (B198 ++ B154))))))) (fun w q => More.mono (fun w m => (m).appR) q))
              replace h158 := h158.mono (BsRd.mono (Ψ := More w0 Φ (B246 ++ (B237 ++ ((ob225, blk ((u8s x223) ++ r227) 5) :: (B224 ++ ((ob199, blk ((u8s x197) ++ r201) 5) :: (B198 ++ B154))))))) (fun w q => More.mono (fun w m => (m).appR) q))
              replace v190 := v190.mono (Ψ := More w0 Φ (B246 ++ (B237 ++ ((ob225, blk ((u8s x223) ++ r227) 5) :: (B224 ++ ((ob199, blk ((u8s x197) ++ r201) 5) :: (B198 ++ B154))))))) (fun w q => More.mono (fun w m => (m).appR) q)
              replace v210 := v210.mono (Ψ := More w0 Φ (B246 ++ (B237 ++ ((ob225, blk ((u8s x223) ++ r227) 5) :: (B224 ++ ((ob199, blk ((u8s x197) ++ r201) 5) :: (B198 ++ B154))))))) (fun w q => More.mono (fun w m => (m).appR) q)
              replace h212 := h212.mono (BsRd.mono (Ψ := More w0 Φ (B246 ++ (B237 ++ ((ob225, blk ((u8s x223) ++ r227) 5) :: (B224 ++ ((ob199, blk ((u8s x197) ++ r201) 5) :: (B198 ++ B154))))))) (fun w q => More.mono (fun w m => (m).appR) q))
              replace v220 := v220.mono (Ψ := More w0 Φ (B246 ++ (B237 ++ ((ob225, blk ((u8s x223) ++ r227) 5) :: (B224 ++ ((ob199, blk ((u8s x197) ++ r201) 5) :: (B198 ++ B154))))))) (fun w q => More.mono (fun w m => (m).appR) q)
              replace v234 := v234.mono (Ψ := More w0 Φ (B246 ++ (B237 ++ ((ob225, blk ((u8s x223) ++ r227) 5) :: (B224 ++ ((ob199, blk ((u8s x197) ++ r201) 5) :: (B198 ++ B154))))))) (fun w q => More.mono (fun w m => (m).appR) q)
              replace v242 := v242.mono (Ψ := More w0 Φ (B246 ++ (B237 ++ ((ob225, blk ((u8s x223) ++ r227) 5) :: (B224 ++ ((ob199, blk ((u8s x197) ++ r201) 5) :: (B198 ++ B154))))))) (fun w q => More.mono (fun w m => (m).appR) q)
              replace hg1 := hg1.mono (Ψ := More w0 Φ (B246 ++ (B237 ++ ((ob225, blk ((u8s x223) ++ r227) 5) :: (B224 ++ ((ob199, blk ((u8s x197) ++ r201) 5) :: (B198 ++ B154))))))) (fun w q => More.mono (fun w m => (m).appR) q)
              have m255 := o250.mx
              refine OW.mem (M' := (some b16, blk x236.C 73) :: (ob214, blk ((cs157 ++ (([.slice ((ob199).map fun k => ⟨k, 0, none⟩) x197.length c200] : List Value))) ++ r215) 33) :: ((some b208), blk ((([.slice ((ob199).map fun k => ⟨k, 0, none⟩) x197.length c200] : List Value)) ++ []) 33) :: (some b26, blk w167.C 73) :: (((ob247, blk ((u8s x245) ++ r249) 5) :: (B246 ++ (B237 ++ ((ob225, blk ((u8s x223) ++ r227) 5) :: (B224 ++ ((ob199, blk ((u8s x197) ++ r201) 5) :: (B198 ++ B154))))))) ++ N)) (fun w m => m.pick [1, 2, 3, 4, 0] 5 rfl rfl) ?_
              replace va0 := va0.mono (Ψ := More w0 Φ ((ob247, blk ((u8s x245) ++ r249) 5) :: (B246 ++ (B237 ++ ((ob225, blk ((u8s x223) ++ r227) 5) :: (B224 ++ ((ob199, blk ((u8s x197) ++ r201) 5) :: (B198 ++ B154)))))))) (fun w q => More.mono (fun w m => (m).tail) q)
              replace va1 := va1.mono (Ψ := More w0 Φ ((ob247, blk ((u8s x245) ++ r249) 5) :: (B246 ++ (B237 ++ ((ob225, blk ((u8s x223) ++ r227) 5) :: (B224 ++ ((ob199, blk ((u8s x197) ++ r201) 5) :: (B198 ++ B154)))))))) (fun w q => More.mono (fun w m => (m).tail) q)
              replace h218 := h218.mono (BsRd.mono (Ψ := More w0 Φ ((ob247, blk ((u8s x245) ++ r249) 5) :: (B246 ++ (B237 ++ ((ob225, blk ((u8s x223) ++ r227) 5) :: (B224 ++ ((ob199, blk ((u8s x197) ++ r201) 5) :: (B198 ++ B154)))))))) (fun w q => More.mono (fun w m => (m).tail) q))
              replace h158 := h158.mono (BsRd.mono (Ψ := More w0 Φ ((ob247, blk ((u8s x245) ++ r249) 5) :: (B246 ++ (B237 ++ ((ob225, blk ((u8s x223) ++ r227) 5) :: (B224 ++ ((ob199, blk ((u8s x197) ++ r201) 5) :: (B198 ++ B154)))))))) (fun w q => More.mono (fun w m => (m).tail) q))
              replace v190 := v190.mono (Ψ := More w0 Φ ((ob247, blk ((u8s x245) ++ r249) 5) :: (B246 ++ (B237 ++ ((ob225, blk ((u8s x223) ++ r227) 5) :: (B224 ++ ((ob199, blk ((u8s x197) ++ r201) 5) :: (B198 ++ B154)))))))) (fun w q => More.mono (fun w m => (m).tail) q)
              replace v210 := v210.mono (Ψ := More w0 Φ ((ob247, blk ((u8s x245) ++ r249) 5) :: (B246 ++ (B237 ++ ((ob225, blk ((u8s x223) ++ r227) 5) :: (B224 ++ ((ob199, blk ((u8s x197) ++ r201) 5) :: (B198 ++ B154)))))))) (fun w q => More.mono (fun w m => (m).tail) q)
              replace h212 := h212.mono (BsRd.mono (Ψ := More w0 Φ ((ob247, blk ((u8s x245) ++ r249) 5) :: (B246 ++ (B237 ++ ((ob225, blk ((u8s x223) ++ r227) 5) :: (B224 ++ ((ob199, blk ((u8s x197) ++ r201) 5) :: (B198 ++ B154)))))))) (fun w q => More.mono (fun w m => (m).tail) q))
              replace v220 := v220.mono (Ψ := More w0 Φ ((ob247, blk ((u8s x245) ++ r249) 5) :: (B246 ++ (B237 ++ ((ob225, blk ((u8s x223) ++ r227) 5) :: (B224 ++ ((ob199, blk ((u8s x197) ++ r201) 5) :: (B198 ++ B154)))))))) (fun w q => More.mono (fun w m => (m).tail) q)
              replace v234 := v234.mono (Ψ := More w0 Φ ((ob247, blk ((u8s x245) ++ r249) 5) :: (B246 ++ (B237 ++ ((ob225, blk ((u8s x223) ++ r227) 5) :: (B224 ++ ((ob199, blk ((u8s x197) ++ r201) 5) :: (B198 ++ B154)))))))) (fun w q => More.mono (fun w m => (m).tail) q)
              replace v242 := v242.mono (Ψ := More w0 Φ ((ob247, blk ((u8s x245) ++ r249) 5) :: (B246 ++ (B237 ++ ((ob225, blk ((u8s x223) ++ r227) 5) :: (B224 ++ ((ob199, blk ((u8s x197) ++ r201) 5) :: (B198 ++ B154)))))))) (fun w q => More.mono (fun w m => (m).tail) q)
              replace hg1 := hg1.mono (Ψ := More w0 Φ ((ob247, blk ((u8s x245) ++ r249) 5) :: (B246 ++ (B237 ++ ((ob225, blk ((u8s x223) ++ r227) 5) :: (B224 ++ ((ob199, blk ((u8s x197) ++ r201) 5) :: (B198 ++ B154)))))))) (fun w q => More.mono (fun w m => (m).tail) q)
              have v256 : View (More w0 Φ ((ob247, blk ((u8s x245) ++ r249) 5) :: (B246 ++ (B237 ++ ((ob225, blk ((u8s x223) ++ r227) 5) :: (B224 ++ ((ob199, blk ((u8s x197) ++ r201) 5) :: (B198 ++ B154)))))))) ((ob247).map fun k => ⟨k, 0, none⟩) x245.length c248 1 (u8s x245) := o250.view (by decide) (fun w q => q.2.sublist (List.singleton_sublist.2 (List.mem_cons_self ..)))
              obtain ⟨x258, hx257, hl170⟩ := some_bind hl170
              refine OW.mem (M' := ((some b26, blk w167.C 73) :: (some b16, blk x236.C 73) :: (ob214, blk ((cs157 ++ (([.slice ((ob199).map fun k => ⟨k, 0, none⟩) x197.length c200] : List Value))) ++ r215) 33) :: ((some b208), blk ((([.slice ((ob199).map fun k => ⟨k, 0, none⟩) x197.length c200] : List Value)) ++ []) 33) :: (((ob247, blk ((u8s x245) ++ r249) 5) :: (B246 ++ (B237 ++ ((ob225, blk ((u8s x223) ++ r227) 5) :: (B224 ++ ((ob199, blk ((u8s x197) ++ r201) 5) :: (B198 ++ B154))))))) ++ N))) (fun w m => m.pick [3, 0, 1, 2] 4 rfl rfl) ?_
              refine OW.callG Tryd.call22 rfl (keccak_Sponge_Write_does w0 (More w0 Φ ((ob247, blk ((u8s x245) ++ r249) 5) :: (B246 ++ (B237 ++ ((ob225, blk ((u8s x223) ++ r227) 5) :: (B224 ++ ((ob199, blk ((u8s x197) ++ r201) 5) :: (B198 ++ B154)))))))) ((some b16, blk x236.C 73) :: (ob214, blk ((cs157 ++ (([.slice ((ob199).map fun k => ⟨k, 0, none⟩) x197.length c200] : List Value))) ++ r215) 33) :: ((some b208), blk ((([.slice ((ob199).map fun k => ⟨k, 0, none⟩) x197.length c200] : List Value)) ++ []) 33) :: (((ob247, blk ((u8s x245) ++ r249) 5) :: (B246 ++ (B237 ++ ((ob225, blk ((u8s x223) ++ r227) 5) :: (B224 ++ ((ob199, blk ((u8s x197) ++ r201) 5) :: (B198 ++ B154))))))) ++ N)) (fun w m => More.of hΦ 3 m rfl) b26 w167 ((ob247).map fun k => ⟨k, 0, none⟩) c248 x245 x258 v256 hx257) rfl rfl ?_
              rintro L260 M261 ⟨B259, e262, e263⟩
              rw [e262, e263]
              clear e262 e263 L260 M261
              refine OW.mem (M' := ((some b26, blk x258.C 73) :: (some b16, blk x236.C 73) :: (ob214, blk ((cs157 ++ (([.slice ((ob199).map fun k => ⟨k, 0, none⟩) x197.length c200] : List Value))) ++ r215) 33) :: ((some b208), blk ((([.slice ((ob199).map fun k => ⟨k, 0, none⟩) x197.length c200] : List Value)) ++ []) 33) :: ((B259 ++ ((ob247, blk ((u8s x245) ++ r249) 5) :: (B246 ++ (B237 ++ ((ob225, blk ((u8s x223) ++ r227) 5) :: (B224 ++ ((ob199, blk ((u8s x197) ++ r201) 5) :: (B198 ++ B154)))))))) ++ N))) (fun w m => by have h := Mem.sinkAt (A := B259) m 1 3 rfl rfl; exact h) ?_
              replace va0 := va0.mono (Ψ := More w0 Φ (B259 ++ ((ob247, blk ((u8s x245) ++ r249) 5) :: (B246 ++ (B237 ++ ((ob225, blk ((u8s x223) ++ r227) 5) :: (B224 ++ ((ob199, blk ((u8s x197) ++ r201) 5) :: (B198 ++ B154))))))))) (fun w q => More.mono (fun w m => (m).appR) q)
              replace va1 := va1.mono (Ψ := More w0 Φ (B259 ++ ((ob247, blk ((u8s x245) ++ r249) 5) :: (B246 ++ (B237 ++ ((ob225, blk ((u8s x223) ++ r227) 5) :: (B224 ++ ((ob199, blk ((u8s x197) ++ r201) 5) :: (B198 ++ B154))))))))) (fun w q => More.mono (fun w m => (m).appR) q)
              replace h218 := h218.mono (BsRd.mono (Ψ := More w0 Φ (B259 ++ ((ob247, blk ((u8s x245) ++ r249) 5) :: (B246 ++ (B237 ++ ((ob225, blk ((u8s x223) ++ r227) 5) :: (B224 ++ ((ob199, blk ((u8s x197) ++ r201) 5) :: (B198 ++ B154))))))))) (fun w q => More.mono (fun w m => (m).appR) q))
              replace h158 := h158.mono (BsRd.mono (Ψ := More w0 Φ (B259 ++ ((ob247, blk ((u8s x245) ++ r249) 5) :: (B246 ++ (B237 ++ ((ob225, blk ((u8s x223) ++ r227) 5) :: (B224 ++ ((ob199, blk ((u8s x197) ++ r201) 5) :: (B198 ++ B154))))))))) (fun w q => More.mono (fun w m => (m).appR) q))
              replace v190 := v190.mono (Ψ := More w0 Φ (B259 ++ ((ob247, blk ((u8s x245) ++ r249) 5) :: (B246 ++ (B237 ++ ((ob225, blk ((u8s x223) ++ r227) 5) :: (B224 ++ ((ob199, blk ((u8s x197) ++ r201) 5) :: (B198 ++ B154))))))))) (fun w q => More.mono (fun w m => (m).appR) q)
              replace v210 := v210.mono (Ψ := More w0 Φ (B259 ++ ((ob247, blk ((u8s x245) ++ r249) 5) :: (B246 ++ (B237 ++ ((ob225, blk ((u8s x223) ++ r227) 5) :: (B224 ++ ((ob199, blk ((u8s x197) ++ r201) 5) :: (B198 ++ B154))))))))) (fun w q => More.mono (fun w m => (m).appR) q)
              replace h212 := h212.mono (BsRd.mono (Ψ := More w0 Φ (B259 ++ ((ob247, blk ((u8s x245) ++ r249) 5) :: (B246 ++ (B237 ++ ((ob225, blk ((u8s x223) ++ r227) 5) :: (B224 ++ ((ob199, blk ((u8s x197) ++ r201) 5) :: (B198 ++ B154))))))))) (fun w q => More.mono (fun w m => (m).appR) q))
              replace v220 := v220.mono (Ψ := More w0 Φ (B259 ++ ((ob247, blk ((u8s x245) ++ r249) 5) :: (B246 ++ (B237 ++ ((ob225, blk ((u8s x223) ++ r227) 5) :: (B224 ++ ((ob199, blk ((u8s x197) ++ r201) 5) :: (B198 ++ B154))))))))) (fun w q => More.mono (fun w m => (m).appR) q)
              replace v234 := v234.mono (Ψ := More w0 Φ (B259 ++ ((ob247, blk ((u8s x245) ++ r249) 5) :: (B246 ++ (B237 ++ ((ob225, blk ((u8s x223) ++ r227) 5) :: (B224 ++ ((ob199, blk ((u8s x197) ++ r201) 5) :: (B198 ++ B154))))))))) (fun w q => More.mono (fun w m => (m).appR) q)
              replace v242 := v242.mono (Ψ := More w0 Φ (B259 ++ ((ob247, blk ((u8s x245) ++ r249) 5) :: (B246 ++ (B237 ++ ((ob225, blk ((u8s x223) ++ r227) 5) :: (B224 ++ ((ob199, blk ((u8s x197) ++ r201) 5) :: (B198 ++ B154))))))))) (fun w q => More.mono (fun w m => (m).appR) q)
              replace v256 := v256.mono (Ψ := More w0 Φ (B259 ++ ((ob247, blk ((u8s x245) ++ r249) 5) :: (B246 ++ (B237 ++ ((ob225, blk ((u8s x223) ++ r227) 5) :: (B224 ++ ((ob199, blk ((u8s x197) ++ r201) 5) :: (B198 ++ B154))))))))) (fun w q => More.mono (fun w m => (m).appR) q)
              replace hg1 := hg1.mono (Ψ := More w0 Φ (B259 ++ ((ob247, blk ((u8s x245) ++ r249) 5) :: (B246 ++ (B237 ++ ((ob225, blk ((u8s x223) ++ r227) 5) :: (B224 ++ ((ob199, blk ((u8s x197) ++ r201) 5) :: (B198 ++ B154))))))))) (fun w q => More.mono (fun w m => (m).appR) q)
              refine OW.nil ?_
              refine QW.then_n ?_
              refine CW.region ?_
              refine OW.rv (RV.move rfl) rfl ?_
              refine OW.rv (RV.move rfl) rfl ?_
              refine OW.rv (RV.add rfl rfl (by omega)) rfl ?_
              refine OW.rv (RV.assign rfl) rfl ?_
              refine OW.nil ?_
              refine QW.block_n ?_
              refine QW.then_n ?_
              refine CW.region ?_
              refine OW.rv (RV.move rfl) rfl ?_
              refine OW.rv (RV.add rfl rfl (by omega)) rfl ?_
              refine OW.slot (.int .i64 (((n165 + 1) : Nat) : Int)) (by first | rfl | (congr 1) | (congr 1; omega)) ?_
              refine OW.rv (RV.assign rfl) rfl ?_
              refine OW.nil ?_
              exact QW.againJ (k' := k169) (Nat.lt_succ_self _) ⟨(l156 ++ ([x197] : List (List (BitVec 8)))), (z163 + z181), (n165 + 1), x258, x236, (B259 ++ ((ob247, blk ((u8s x245) ++ r249) 5) :: (B246 ++ (B237 ++ ((ob225, blk ((u8s x223) ++ r227) 5) :: (B224 ++ ((ob199, blk ((u8s x197) ++ r201) 5) :: (B198 ++ B154)))))))), (cs157 ++ (([.slice ((ob199).map fun k => ⟨k, 0, none⟩) x197.length c200] : List Value))), ob214, c216, r215, hl170, (fun w m => hB155 w (((((((((m).appR).tail).appR).appR).tail).appR).tail).appR)), h218, o217, (by omega), (by omega), rfl, rfl⟩ ⟨rfl, rfl, rfl, rfl, rfl, rfl, rfl, trivial⟩ (fun w m => m.pick [2, 0, 1] 4 rfl rfl)
            · skip
              by_cases h264 : n165 < a1.length
              · replace hq180 := if_t hq180 h264
                refine CW.is_t rfl (decide_eq_true h264) ?_
                refine CW.region ?_
                refine OW.rv (RV.move rfl) rfl ?_
                refine OW.rv (RV.move rfl) rfl ?_
                obtain ⟨x265, hx266, hq180⟩ := some_bind hq180
                have hl267 := lt_of_at hx266
                refine OW.rv (RV.idx_r (n165) rfl rfl rfl rfl rfl (va1.isSome (by decide) hl267) (by omega)) rfl ?_
                refine OW.rv (RV.load_at rfl rfl rfl (fun w m => va1.cell (More.of hΦ 3 m rfl) (i64s_at hx266))) rfl ?_
                refine OW.rv (RV.max2 rfl rfl) rfl ?_
                refine OW.rv (RV.move rfl) rfl ?_
                refine OW.rv (RV.min2 rfl rfl) rfl ?_
                refine OW.rv (RV.assign rfl) rfl ?_
                refine OW.nil ?_
                exact QW.join ⟨(min (max x265 (0 : Int)) (((a0.length : Nat) : Int) - z163)), (Option.some.inj hq180).symm, (by omega), rfl, rfl⟩ ⟨rfl, rfl, rfl, rfl, rfl, rfl, rfl, rfl, trivial⟩ (fun w m => m.pick [0, 1, 2] 3 rfl rfl)
              · replace hq180 := if_f hq180 h264
                refine CW.is_f rfl (decide_eq_false h264) ?_
                refine CW.skip ?_
                exact QW.join ⟨(((a0.length : Nat) : Int) - z163), (Option.some.inj hq180).symm, (by omega), rfl, rfl⟩ ⟨rfl, rfl, rfl, rfl, rfl, rfl, rfl, rfl, trivial⟩ (fun w m => m.pick [0, 1, 2] 3 rfl rfl)
          · replace hl170 := if_f hl170 h177
            refine CW.is_f rfl (decide_eq_false h177) ?_
            refine CW.exit ?_
            refine QW.then_x ?_
            refine QW.then_x ?_
            refine QW.block_xe ?_
            exact QW.join ⟨l156, w167, w168, B154, cs157, ob159, c160, r161, (Option.some.inj hl170).symm, (fun w m => hB155 w (m)), h158, o162, rfl, rfl⟩ ⟨rfl, rfl, rfl, rfl, trivial⟩ (fun w m => m.pick [0, 1, 2] 3 rfl rfl)
    · skip
      refine CW.region ?_
      refine OW.rv (RV.move rfl) rfl ?_
      refine OW.rv (RV.eqlS rfl rfl rfl) rfl ?_
      refine OW.rv (RV.move rfl) rfl ?_
      refine OW.want rfl ?_
      refine OW.rv (RV.move rfl) rfl ?_
      refine OW.want rfl ?_
      refine OW.rv (RV.eqlS rfl rfl rfl) rfl ?_
      refine OW.rv (RV.pick_f rfl rfl rfl) rfl ?_
      refine OW.rv (RV.move rfl) rfl ?_
      refine OW.want rfl ?_
      refine OW.rv (RV.move rfl) rfl ?_
      refine OW.want rfl ?_
      obtain ⟨x269, hx268, hq33⟩ := some_bind hq33
      refine OW.callG Tryd.call20 rfl (waybilllaw02_num_does w0 (More w0 Φ (B25 ++ (B15 ++ []))) ((some b26, blk x23.C 73) :: (some b16, blk x13.C 73) :: ((B25 ++ (B15 ++ [])) ++ N)) (fun w m => More.of hΦ 2 m rfl) ((x14 : Nat) : Int) x269 (by omega) hx268) rfl rfl ?_
      rintro _ G271 ⟨b270, rfl⟩
      refine OW.mem (M' := ((some b26, blk x23.C 73) :: (some b16, blk x13.C 73) :: ((B25 ++ (B15 ++ [])) ++ N))) (fun w m => m.appR) ?_
      refine OW.want rfl ?_
      refine OW.rv (RV.neq rfl rfl) rfl ?_
      refine OW.rv (RV.pick_f rfl rfl rfl) rfl ?_
      refine OW.rv (RV.move rfl) rfl ?_
      by_cases h273 : x269 = (0 : Int)
      · replace hq33 := if_t hq33 h273
        refine OW.slot (.bool false) (congrArg Value.bool (congrArg (fun b => !b) (decide_eq_true h273))) ?_
        refine OW.want rfl ?_
        refine OW.rv (RV.move rfl) rfl ?_
        refine OW.want rfl ?_
        obtain ⟨x275, hx274, hq33⟩ := some_bind hq33
        refine OW.callG Tryd.call20 rfl (waybilllaw02_num_does w0 (More w0 Φ (B25 ++ (B15 ++ []))) ((some b26, blk x23.C 73) :: (some b16, blk x13.C 73) :: ((B25 ++ (B15 ++ [])) ++ N)) (fun w m => More.of hΦ 2 m rfl) ((x24 : Nat) : Int) x275 (by omega) hx274) rfl rfl ?_
        rintro _ G277 ⟨b276, rfl⟩
        refine OW.mem (M' := ((some b26, blk x23.C 73) :: (some b16, blk x13.C 73) :: ((B25 ++ (B15 ++ [])) ++ N))) (fun w m => m.appR) ?_
        refine OW.want rfl ?_
        refine OW.rv (RV.neq rfl rfl) rfl ?_
        refine OW.rv (RV.pick_f rfl rfl rfl) rfl ?_
        refine OW.nil ?_
        exact QW.join ⟨(!decide (x275 = (0 : Int))), (Option.some.inj hq33).symm, rfl, rfl⟩ ⟨rfl, rfl, rfl, rfl, rfl, rfl, trivial⟩ (fun w m => m.pick [0, 1] 2 rfl rfl)
      · replace hq33 := if_f hq33 h273
        refine OW.slot (.bool true) (congrArg Value.bool (congrArg (fun b => !b) (decide_eq_false h273))) ?_
        refine OW.skip rfl rfl rfl ?_
        refine OW.skip rfl rfl rfl ?_
        refine OW.skip rfl rfl rfl ?_
        refine OW.rv (RV.pick_t rfl rfl rfl) rfl ?_
        refine OW.nil ?_
        exact QW.join ⟨true, (Option.some.inj hq33).symm, rfl, rfl⟩ ⟨rfl, rfl, rfl, rfl, rfl, rfl, trivial⟩ (fun w m => m.pick [0, 1] 2 rfl rfl)
  · replace hf := if_f hf h11
    refine CW.is_t rfl (congrArg (fun b => !b) (decide_eq_false h11)) ?_
    refine CW.seq ?_
    refine CW.region ?_
    refine OW.rv (RV.assign rfl) rfl ?_
    refine OW.nil ?_
    refine QW.then_n ?_
    refine CW.ret ?_
    refine QW.then_r ?_
    have e0 := Option.some.inj hf
    subst e0
    refine QW.retG (rs := [.tmp 4]) ([.bool false]) ([]) rfl ?_ rfl ?_ ?_ _ (.inl rfl)
    · exact ⟨rfl, trivial⟩
    · exact rfl
    · exact (fun w m => m)
end Go.Fw.Tryd
