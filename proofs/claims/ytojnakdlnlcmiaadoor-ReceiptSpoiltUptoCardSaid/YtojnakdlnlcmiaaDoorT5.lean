/- Part of a proof: rules that its law uses. -/
import Derived.Test.YtojnakdlnlcmiaaDoorT4
namespace Go.Fw.Tryd
open Go Go.Proofs Go.Fw
set_option maxRecDepth 100000
set_option linter.unusedVariables false
set_option linter.unusedSimpArgs false
set_option maxHeartbeats 1000000
theorem keccak_Sponge_Write_does (w0 : World) (Φ : Ctx) (N : List Ent) (hΦ : ∀ w, Mem w0 w N → Φ w) (b0_ : Nat) (a0 : Sponge) (A1_ : Option Addr) (c1_ : Nat) (a1 : List (BitVec 8)) (new0 : Sponge) (va1 : View Φ A1_ a1.length c1_ 1 (u8s a1)) (hf : keccak_Sponge_Write a0 a1 = some new0) : DoesG Tryd.prog 129 [ptr (some b0_) 0, .slice A1_ a1.length c1_] w0 [(some b0_, blk a0.C 186)] N (fun v G => ∃ B : List Ent, v = .tuple #[] ∧ G = (some b0_, blk new0.C 186) :: B) := by
 unfold keccak_Sponge_Write at hf
 replace va1 := va1.mono (Ψ := More w0 Φ []) (fun w q => q.1)
 have m1 := va1.mx
 refine DoesG.enter Tryd.func129 rfl Tryd.ntmps129 rfl (M := ((some b0_, blk a0.C 186) :: ([] ++ N))) rfl ?_
 refine CW.seq (CW.seq (CW.region ?_))
 refine OW.rv (RV.move rfl) rfl ?_
 refine OW.rv (RV.eqlS rfl rfl rfl) rfl ?_
 refine OW.nil (QW.then_n ?_)
 refine CW.is_f rfl rfl ?_
 refine CW.skip (QW.then_n (CW.seq (CW.region ?_)))
 refine OW.rv (RV.move rfl) rfl ?_
 refine OW.rv (RV.nilCheck rfl) rfl ?_
 refine OW.rv (RV.field rfl rfl rfl rfl) rfl ?_
 refine OW.slot (ptr (some b0_) 163) rfl ?_
 refine OW.rv (RV.load rfl (List.Mem.head _) rfl rfl rfl (Sponge.C_long _)) rfl ?_
 refine OW.rv (RV.move rfl) rfl ?_
 refine OW.rv (RV.len rfl rfl) rfl ?_
 obtain ⟨g2, hf⟩ := some_if hf
 refine OW.rv (RV.add rfl rfl (by omega)) rfl ?_
 refine OW.rv (RV.nilCheck rfl) rfl ?_
 refine OW.rv (RV.field rfl rfl rfl rfl) rfl ?_
 refine OW.slot (ptr (some b0_) 163) rfl ?_
 refine OW.sv (SV.store rfl rfl rfl rfl rfl (by rw [Sponge.C_length]; omega)) ?_
 refine OW.cells ({ a0 with long := (a0.long + ((a1.length : Nat) : Int)) } : Sponge).C (Sponge.C_long_set _ _) ?_
 refine OW.nil (QW.then_n ?_)
 obtain ⟨q3, hq4, hf⟩ := some_bind hf
 refine CW.cutJ (fun L' M' => ∃ w7 : Sponge, ∃ B5 : List Ent, q3 = w7 ∧ (∀ w, Mem w0 w B5 → Mem w0 w []) ∧ L' = [] ∧ M' = ((some b0_, blk w7.C 186) :: (B5 ++ N))) ?_ ?_
 ·rintro L9 M10 ⟨w7, B5, e8, hB6, e11, e12⟩
  rw [e11, e12]
  clear e11 e12 L9 M10
  clear hq4
  rw [e8] at hf
  clear e8
  try dsimp only at hf
  have e0 := Option.some.inj hf
  subst e0
  refine QW.retG (rs := []) ([]) ((some b0_, blk w7.C 186) :: B5) rfl ?_ rfl ?_ ?_ _ (.inr rfl)
  ·exact trivial
  ·exact ⟨B5, rfl, rfl⟩
  ·exact (fun w m => m.pick [0] 1 rfl rfl)
 ·skip
  refine CW.block ?_
  refine CW.loopJ (fun k L' M' => ∃ l15 : List (BitVec 8), ∃ w19 : Sponge, ∃ B13 : List Ent, ∃ A16 : Option Addr, ∃ c17 : Nat, (keccak_Sponge_Write.l1 k l15 w19) = some q3 ∧ (∀ w, Mem w0 w B13 → Mem w0 w []) ∧ (View (More w0 Φ B13) A16 l15.length c17 1 (u8s l15)) ∧ L' = [(0, ptr (some b0_) 0), (1, .slice A16 l15.length c17)] ∧ M' = ((some b0_, blk w19.C 186) :: (B13 ++ N))) (k0 := (a1.length - 0 + 2)) ⟨a1, ({ a0 with long := (a0.long + ((a1.length : Nat) : Int)) } : Sponge), [], A1_, c1_, hq4, (fun w m => m), va1, rfl, rfl⟩ ⟨rfl, rfl, trivial⟩ (fun w m => m.pick [0] 1 rfl rfl) ?_
  clear hq4
  rintro k20 L23 M24 ⟨l15, w19, B13, A16, c17, hl21, hB14, v18, e25, e26⟩
  rw [e25, e26]
  clear e25 e26 L23 M24
  rcases k20 with _ | k20
  ·rw [keccak_Sponge_Write.l1] at hl21; cases hl21
  rw [keccak_Sponge_Write.l1] at hl21
  have m27 := v18.mx
  refine CW.seq (CW.seq (CW.region ?_))
  refine OW.rv (RV.move rfl) rfl ?_
  refine OW.rv (RV.len rfl rfl) rfl ?_
  refine OW.rv (RV.gtr rfl rfl) rfl ?_
  refine OW.slot (.bool (decide (0 < l15.length))) (congrArg Value.bool (decide_eq_decide.2 (by omega))) ?_
  refine OW.nil (QW.then_n ?_)
  by_cases h28 : 0 < l15.length
  ·replace hl21 := if_t hl21 h28
   refine CW.is_t rfl (decide_eq_true h28) ?_
   refine CW.skip (QW.then_n (CW.block (CW.seq ?_)))
   refine CW.drawsU 9 mixed (by kernel_rfl) rfl ?_
   refine UW.rv 0 rfl (by kernel_rfl) rfl (RV.move rfl) rfl ?_
   refine UW.rv 1 rfl (by kernel_rfl) rfl (RV.nilCheck rfl) rfl ?_
   refine UW.rv 2 rfl (by kernel_rfl) rfl (RV.field rfl rfl rfl rfl) rfl ?_
   refine UW.slot (ptr (some b0_) 26) rfl ?_
   refine UW.rv 3 rfl (by kernel_rfl) rfl (RV.move rfl) rfl ?_
   refine UW.rv 4 rfl (by kernel_rfl) rfl (RV.nilCheck rfl) rfl ?_
   refine UW.rv 5 rfl (by kernel_rfl) rfl (RV.field rfl rfl rfl rfl) rfl ?_
   refine UW.slot (ptr (some b0_) 162) rfl ?_
   refine UW.rv 6 rfl (by kernel_rfl) rfl (RV.load rfl (List.Mem.head _) rfl rfl rfl (Sponge.C_held _)) rfl ?_
   obtain ⟨g29, hl21⟩ := some_if hl21
   obtain ⟨g30, hl21⟩ := some_if hl21
   refine UW.rv 7 rfl (by kernel_rfl) rfl (RV.arr_loS ((w19.held).toNat) rfl rfl (by omega) rfl rfl (by omega)) rfl ?_
   refine UW.rv 8 rfl (by kernel_rfl) rfl (RV.move rfl) rfl ?_
   refine UW.nil (by kernel_rfl) ?_
   refine OW.copy (ob := some b0_) (off := 26 + ((w19.held).toNat)) rfl rfl rfl rfl (fun h => nomatch h) (by rw [Sponge.C_length]; omega) (fun w m => v18.rd w (More.of hΦ 1 m rfl)) (u8s_length _) (u8s_one _) (v18.zero (by decide)) rfl ?_
   refine OW.cells ({ w19 with part := cpV w19.part ((w19.held).toNat) (l15.take (min l15.length (136 - ((w19.held).toNat)))) } : Sponge).C (by rw [u8s_take]; exact Sponge.C_part_cpy _ (by rw [List.length_take]; omega)) ?_
   refine OW.rv (RV.assign rfl) rfl ?_
   refine OW.nil (QW.then_n (CW.seq (CW.region ?_)))
   refine OW.rv (RV.move rfl) rfl ?_
   refine OW.rv (RV.move rfl) rfl ?_
   obtain ⟨g32, hl21⟩ := some_if hl21
   refine OW.rv (RV.cut_lo (s := 1) ((min l15.length (136 - ((w19.held).toNat)))) rfl rfl (by omega) rfl rfl (by omega)) rfl ?_
   refine OW.slot (.slice (subA A16 c17 (min l15.length (136 - ((w19.held).toNat))) 1) (l15.drop (min l15.length (136 - ((w19.held).toNat)))).length (c17 - (min l15.length (136 - ((w19.held).toNat))))) (by rw [show ((l15.drop (min l15.length (136 - ((w19.held).toNat))))).length = (l15).length - ((min l15.length (136 - ((w19.held).toNat)))) from List.length_drop]) ?_
   have v31 : View (More w0 Φ B13) (subA A16 c17 (min l15.length (136 - ((w19.held).toNat))) 1) (l15.drop (min l15.length (136 - ((w19.held).toNat)))).length (c17 - (min l15.length (136 - ((w19.held).toNat)))) 1 (u8s (l15.drop (min l15.length (136 - ((w19.held).toNat))))) := v18.lo8 (by omega)
   have m33 := v31.mx
   refine OW.rv (RV.assign rfl) rfl ?_
   refine OW.nil (QW.then_n (CW.seq (CW.region ?_)))
   refine OW.rv (RV.move rfl) rfl ?_
   refine OW.rv (RV.nilCheck rfl) rfl ?_
   refine OW.rv (RV.field rfl rfl rfl rfl) rfl ?_
   refine OW.slot (ptr (some b0_) 162) rfl ?_
   refine OW.rv (RV.load rfl (List.Mem.head _) rfl rfl rfl (Sponge.C_held _)) rfl ?_
   refine OW.rv (RV.move rfl) rfl ?_
   obtain ⟨g34, hl21⟩ := some_if hl21
   refine OW.rv (RV.add rfl rfl (by omega)) rfl ?_
   refine OW.rv (RV.nilCheck rfl) rfl ?_
   refine OW.rv (RV.field rfl rfl rfl rfl) rfl ?_
   refine OW.slot (ptr (some b0_) 162) rfl ?_
   refine OW.sv (SV.store rfl rfl rfl rfl rfl (by rw [Sponge.C_length]; omega)) ?_
   refine OW.cells ({ ({ w19 with part := cpV w19.part ((w19.held).toNat) (l15.take (min l15.length (136 - ((w19.held).toNat)))) } : Sponge) with held := (({ w19 with part := cpV w19.part ((w19.held).toNat) (l15.take (min l15.length (136 - ((w19.held).toNat)))) } : Sponge).held + (((min l15.length (136 - ((w19.held).toNat))) : Nat) : Int)) } : Sponge).C (Sponge.C_held_set _ _) ?_
   refine OW.nil (QW.then_n (CW.seq (CW.region ?_)))
   refine OW.rv (RV.move rfl) rfl ?_
   refine OW.rv (RV.nilCheck rfl) rfl ?_
   refine OW.rv (RV.field rfl rfl rfl rfl) rfl ?_
   refine OW.slot (ptr (some b0_) 162) rfl ?_
   refine OW.rv (RV.load rfl (List.Mem.head _) rfl rfl rfl (Sponge.C_held _)) rfl ?_
   refine OW.rv (RV.eql rfl rfl) rfl ?_
   refine OW.nil (QW.then_n ?_)
   obtain ⟨q35, hq36, hl21⟩ := some_bind hl21
   refine CW.cutJ (fun L' M' => ∃ w39 : Sponge, ∃ B37 : List Ent, q35 = w39 ∧ (∀ w, Mem w0 w B37 → Mem w0 w B13) ∧ L' = [(0, ptr (some b0_) 0), (1, .slice (subA A16 c17 (min l15.length (136 - ((w19.held).toNat))) 1) (l15.drop (min l15.length (136 - ((w19.held).toNat)))).length (c17 - (min l15.length (136 - ((w19.held).toNat)))))] ∧ M' = ((some b0_, blk w39.C 186) :: (B37 ++ N))) ?_ ?_
   ·rintro L41 M42 ⟨w39, B37, e40, hB38, e43, e44⟩
    rw [e43, e44]
    clear e43 e44 L41 M42
    clear hq36
    rw [e40] at hl21
    clear e40
    try dsimp only at hl21
    have gq3 : ∀ w, More w0 Φ B37 w → More w0 Φ B13 w := fun w q => More.mono (fun w m => hB38 w (m)) q
    replace v31 := v31.mono gq3
    refine QW.block_n ?_
    exact QW.againJ (k' := k20) (Nat.lt_succ_self _) ⟨(l15.drop (min l15.length (136 - ((w19.held).toNat)))), w39, B37, (subA A16 c17 (min l15.length (136 - ((w19.held).toNat))) 1), (c17 - (min l15.length (136 - ((w19.held).toNat)))), hl21, (fun w m => hB14 w (hB38 w (m))), v31, rfl, rfl⟩ ⟨rfl, rfl, trivial⟩ (fun w m => m.pick [0] 1 rfl rfl)
   ·skip
    by_cases h45 : ({ ({ w19 with part := cpV w19.part ((w19.held).toNat) (l15.take (min l15.length (136 - ((w19.held).toNat)))) } : Sponge) with held := (({ w19 with part := cpV w19.part ((w19.held).toNat) (l15.take (min l15.length (136 - ((w19.held).toNat)))) } : Sponge).held + (((min l15.length (136 - ((w19.held).toNat))) : Nat) : Int)) } : Sponge).held = (136 : Int)
    ·replace hq36 := if_t hq36 h45
     refine CW.is_t rfl (decide_eq_true h45) ?_
     refine CW.region ?_
     refine OW.rv (RV.move rfl) rfl ?_
     obtain ⟨x47, hx46, hq36⟩ := some_bind hq36
     refine OW.callG Tryd.call142 rfl (keccak_Sponge_absorb_does w0 (More w0 Φ B13) ((B13 ++ N)) (fun w m => More.of hΦ 0 m rfl) b0_ ({ ({ w19 with part := cpV w19.part ((w19.held).toNat) (l15.take (min l15.length (136 - ((w19.held).toNat)))) } : Sponge) with held := (({ w19 with part := cpV w19.part ((w19.held).toNat) (l15.take (min l15.length (136 - ((w19.held).toNat)))) } : Sponge).held + (((min l15.length (136 - ((w19.held).toNat))) : Nat) : Int)) } : Sponge) x47 hx46) rfl rfl ?_
     rintro L49 M50 ⟨B48, e51, e52⟩
     rw [e51, e52]
     clear e51 e52 L49 M50
     refine OW.mem (M' := ((some b0_, blk x47.C 186) :: ((B48 ++ B13) ++ N))) (fun w m => by have h := Mem.sinkAt (A := B48) m 1 0 rfl rfl; exact h) ?_
     have gq4 : ∀ w, More w0 Φ (B48 ++ B13) w → More w0 Φ B13 w := fun w q => More.mono (fun w m => (m).appR) q
     replace v31 := v31.mono gq4
     replace v18 := v18.mono gq4
     refine OW.nil ?_
     exact QW.join ⟨x47, (B48 ++ B13), (Option.some.inj hq36).symm, (fun w m => (m).appR), rfl, rfl⟩ ⟨rfl, rfl, trivial⟩ (fun w m => m.pick [0] 1 rfl rfl)
    ·replace hq36 := if_f hq36 h45
     refine CW.is_f rfl (decide_eq_false h45) ?_
     refine CW.skip ?_
     exact QW.join ⟨({ ({ w19 with part := cpV w19.part ((w19.held).toNat) (l15.take (min l15.length (136 - ((w19.held).toNat)))) } : Sponge) with held := (({ w19 with part := cpV w19.part ((w19.held).toNat) (l15.take (min l15.length (136 - ((w19.held).toNat)))) } : Sponge).held + (((min l15.length (136 - ((w19.held).toNat))) : Nat) : Int)) } : Sponge), B13, (Option.some.inj hq36).symm, (fun w m => m), rfl, rfl⟩ ⟨rfl, rfl, trivial⟩ (fun w m => m.pick [0] 1 rfl rfl)
  ·replace hl21 := if_f hl21 h28
   refine CW.is_f rfl (decide_eq_false h28) ?_
   refine CW.exit (QW.then_x (QW.then_x (QW.block_xe ?_)))
   exact QW.join ⟨w19, B13, (Option.some.inj hl21).symm, (fun w m => hB14 w (m)), rfl, rfl⟩ trivial (fun w m => m.pick [0] 1 rfl rfl)
theorem keccak_Sponge_Sum_does (w0 : World) (Φ : Ctx) (N : List Ent) (hΦ : ∀ w, Mem w0 w N → Φ w) (b0_ : Nat) (a0 : Sponge) (res0 : Vector (BitVec 8) 32) (new0 : Sponge) (hg2 : View Φ (some ⟨2, 0, none⟩) 2 2 1 (u8s firstL)) (hf : keccak_Sponge_Sum a0 = some (res0, new0)) : DoesG Tryd.prog 130 [ptr (some b0_) 0] w0 [(some b0_, blk a0.C 186)] N (fun v G => ∃ B : List Ent, v = .agg (u8s res0.toList).toArray ∧ G = (some b0_, blk new0.C 186) :: B) := by
 unfold keccak_Sponge_Sum at hf
 replace hg2 := hg2.mono (Ψ := More w0 Φ []) (fun w q => q.1)
 refine DoesG.enter Tryd.func130 rfl Tryd.ntmps130 rfl (M := ((some b0_, blk a0.C 186) :: ([] ++ N))) rfl ?_
 refine CW.seq (CW.region ?_)
 refine OW.alloc (l := (u8s (Vector.replicate 32 0#8).toList)) rfl (by rw [Vector.toList_replicate, ← u8s_rep']; rfl) rfl (fun b1 => ?_)
 refine OW.nil (QW.then_n (CW.seq (CW.seq (CW.region ?_))))
 refine OW.rv (RV.move rfl) rfl ?_
 refine OW.rv (RV.eqlS rfl rfl rfl) rfl ?_
 refine OW.nil (QW.then_n ?_)
 refine CW.is_f rfl rfl ?_
 refine CW.skip (QW.then_n (CW.seq (CW.region ?_)))
 refine OW.rv (RV.move rfl) rfl ?_
 refine OW.rv (RV.nilCheck rfl) rfl ?_
 refine OW.rv (RV.loadW rfl (List.Mem.tail _ (List.Mem.head _)) rfl rfl rfl rfl (Sponge.C_length _)) rfl ?_
 refine OW.alloc (l := (⟨0, (Vector.replicate 25 0#64), (Vector.replicate 136 0#8), 0, 0⟩ : Sponge).C) rfl (by kernel_rfl) rfl (fun b2 => ?_)
 refine OW.sv (SV.storeW rfl rfl rfl (Sponge.C_one _) rfl (Sponge.C_length _) (Sponge.C_length _)) ?_
 refine OW.nil (QW.then_n (CW.seq (CW.region ?_)))
 refine OW.rv (RV.field rfl rfl rfl rfl) rfl ?_
 refine OW.slot (ptr (some b2) 26) rfl ?_
 refine OW.rv (RV.field rfl rfl rfl rfl) rfl ?_
 refine OW.slot (ptr (some b2) 162) rfl ?_
 refine OW.rv (RV.load rfl (List.Mem.head _) rfl rfl rfl (Sponge.C_held _)) rfl ?_
 obtain ⟨g3, hf⟩ := some_if hf
 obtain ⟨g4, hf⟩ := some_if hf
 refine OW.rv (RV.arr_loS ((a0.held).toNat) rfl rfl (by omega) rfl rfl (by omega)) rfl ?_
 refine OW.clear (z := .int .u8 0) (b := b2) (off := 26 + ((a0.held).toNat)) rfl rfl rfl rfl rfl (by omega) (by rw [Sponge.C_length]; omega) ?_
 refine OW.cells ({ a0 with part := cpV a0.part ((a0.held).toNat) (List.replicate (136 - ((a0.held).toNat)) 0#8) } : Sponge).C (by rw [u8s_rep0]; exact Sponge.C_part_cpy _ (by rw [List.length_replicate]; omega)) ?_
 refine OW.nil (QW.then_n (CW.seq ?_))
 refine CW.drawsX ((some b1, blk (u8s (Vector.replicate 32 0#8).toList) 24) :: (some b0_, blk a0.C 186) :: ([] ++ N)) [12] (fun w m => m.pick [1, 2] 3 rfl rfl) mixed (by kernel_rfl) ?_
 refine XW.rs 0 rfl (by kernel_rfl) rfl (RV.field rfl rfl rfl rfl) rfl ?_
 refine XW.slot (ptr (some b2) 162) rfl ?_
 refine XW.rv 1 rfl (by kernel_rfl) rfl (by kernel_rfl) (RV.load rfl (List.Mem.head _) rfl rfl rfl (Sponge.C_held _)) rfl ?_
 refine XW.rs 2 rfl (by kernel_rfl) rfl (RV.field rfl rfl rfl rfl) rfl ?_
 refine XW.slot (ptr (some b2) 26) rfl ?_
 obtain ⟨g5, hf⟩ := some_if hf
 obtain ⟨g6, hf⟩ := some_if hf
 refine XW.rs 3 rfl (by kernel_rfl) rfl (RV.idx_a ((({ a0 with part := cpV a0.part ((a0.held).toNat) (List.replicate (136 - ((a0.held).toNat)) 0#8) } : Sponge).held).toNat) rfl rfl (by omega) rfl rfl (by omega)) rfl ?_
 obtain ⟨x7, hx8, hf⟩ := some_bind hf
 refine XW.rv 4 rfl (by kernel_rfl) rfl (by kernel_rfl) (RV.load rfl (List.Mem.head _) rfl rfl rfl (Sponge.C_part _ hx8)) rfl ?_
 refine XW.rs 5 rfl (by kernel_rfl) rfl (RV.field rfl rfl rfl rfl) rfl ?_
 refine XW.slot (ptr (some b2) 0) rfl ?_
 refine XW.rv 6 rfl (by kernel_rfl) rfl (by kernel_rfl) (RV.load rfl (List.Mem.head _) rfl rfl rfl (Sponge.C_kind _)) rfl ?_
 obtain ⟨g9, hf⟩ := some_if hf
 obtain ⟨x10, hx11, hf⟩ := some_bind hf
 have hl12 : (({ a0 with part := cpV a0.part ((a0.held).toNat) (List.replicate (136 - ((a0.held).toNat)) 0#8) } : Sponge).kind).toNat < 2 := lt_of_at hx11
 refine XW.rs 7 rfl (by kernel_rfl) rfl (RV.idx_arr_at (a := ⟨2, 0, none⟩) rfl rfl rfl rfl (by omega) (by omega)) rfl ?_
 refine XW.slot (rptr (some ⟨2, 0, none⟩) ((({ a0 with part := cpV a0.part ((a0.held).toNat) (List.replicate (136 - ((a0.held).toNat)) 0#8) } : Sponge).kind).toNat)) (congrArg (fun k => Value.pointer (some (Addr.add ⟨2, 0, none⟩ k))) (Nat.mul_one _)) ?_
 refine XW.rs 8 rfl (by kernel_rfl) rfl (RV.load_at rfl rfl rfl (fun w m => hg2.cell (More.of hΦ 2 m rfl) (u8s_at hx11))) rfl ?_
 refine XW.rs 9 rfl (by kernel_rfl) rfl (RV.xor8 rfl (by first | rfl | exact lit8 _ rfl) rfl (by first | rfl | exact lit8 _ rfl)) rfl ?_
 refine XW.rs 10 rfl (by kernel_rfl) rfl (RV.field rfl rfl rfl rfl) rfl ?_
 refine XW.slot (ptr (some b2) 26) rfl ?_
 refine XW.rs 11 rfl (by kernel_rfl) rfl (RV.idx_a ((({ a0 with part := cpV a0.part ((a0.held).toNat) (List.replicate (136 - ((a0.held).toNat)) 0#8) } : Sponge).held).toNat) rfl rfl (by omega) rfl rfl (by omega)) rfl ?_
 refine XW.sv 12 rfl (by kernel_rfl) (SV.store rfl rfl rfl rfl rfl (by rw [Sponge.C_length]; omega)) (fun w m => m.pick [1, 2] 3 rfl rfl) ?_
 refine XW.cells ({ ({ a0 with part := cpV a0.part ((a0.held).toNat) (List.replicate (136 - ((a0.held).toNat)) 0#8) } : Sponge) with part := ({ a0 with part := cpV a0.part ((a0.held).toNat) (List.replicate (136 - ((a0.held).toNat)) 0#8) } : Sponge).part.setIfInBounds ((({ a0 with part := cpV a0.part ((a0.held).toNat) (List.replicate (136 - ((a0.held).toNat)) 0#8) } : Sponge).held).toNat) (x7 ^^^ x10) } : Sponge).C (Sponge.C_part_set _ (by omega) _) ?_
 refine XW.nil (by kernel_rfl) ?_
 refine QW.then_n (CW.seq (CW.region ?_))
 refine OW.rv (RV.field rfl rfl rfl rfl) rfl ?_
 refine OW.slot (ptr (some b2) 26) rfl ?_
 refine OW.rv (RV.idx_a (135) rfl rfl rfl rfl rfl (by omega)) rfl ?_
 refine OW.rv (RV.load rfl (List.Mem.head _) rfl rfl rfl (Sponge.C_part _ (Vector.getElem?_eq_getElem (by decide)))) rfl ?_
 refine OW.rv (RV.xor8 rfl (by first | rfl | exact lit8 _ rfl) rfl (by first | rfl | exact lit8 _ rfl)) rfl ?_
 refine OW.rv (RV.field rfl rfl rfl rfl) rfl ?_
 refine OW.slot (ptr (some b2) 26) rfl ?_
 refine OW.rv (RV.idx_a (135) rfl rfl rfl rfl rfl (by omega)) rfl ?_
 refine OW.sv (SV.store rfl rfl rfl rfl rfl (by rw [Sponge.C_length]; omega)) ?_
 refine OW.cells ({ ({ ({ a0 with part := cpV a0.part ((a0.held).toNat) (List.replicate (136 - ((a0.held).toNat)) 0#8) } : Sponge) with part := ({ a0 with part := cpV a0.part ((a0.held).toNat) (List.replicate (136 - ((a0.held).toNat)) 0#8) } : Sponge).part.setIfInBounds ((({ a0 with part := cpV a0.part ((a0.held).toNat) (List.replicate (136 - ((a0.held).toNat)) 0#8) } : Sponge).held).toNat) (x7 ^^^ x10) } : Sponge) with part := ({ ({ a0 with part := cpV a0.part ((a0.held).toNat) (List.replicate (136 - ((a0.held).toNat)) 0#8) } : Sponge) with part := ({ a0 with part := cpV a0.part ((a0.held).toNat) (List.replicate (136 - ((a0.held).toNat)) 0#8) } : Sponge).part.setIfInBounds ((({ a0 with part := cpV a0.part ((a0.held).toNat) (List.replicate (136 - ((a0.held).toNat)) 0#8) } : Sponge).held).toNat) (x7 ^^^ x10) } : Sponge).part.setIfInBounds 135 (({ ({ a0 with part := cpV a0.part ((a0.held).toNat) (List.replicate (136 - ((a0.held).toNat)) 0#8) } : Sponge) with part := ({ a0 with part := cpV a0.part ((a0.held).toNat) (List.replicate (136 - ((a0.held).toNat)) 0#8) } : Sponge).part.setIfInBounds ((({ a0 with part := cpV a0.part ((a0.held).toNat) (List.replicate (136 - ((a0.held).toNat)) 0#8) } : Sponge).held).toNat) (x7 ^^^ x10) } : Sponge).part[135] ^^^ 128#8) } : Sponge).C (Sponge.C_part_set _ (by omega) _) ?_
 refine OW.nil (QW.then_n (CW.seq (CW.region ?_)))
 obtain ⟨x14, hx13, hf⟩ := some_bind hf
 refine OW.callG Tryd.call142 rfl (keccak_Sponge_absorb_does w0 (More w0 Φ []) ((some b1, blk (u8s (Vector.replicate 32 0#8).toList) 24) :: (some b0_, blk a0.C 186) :: ([] ++ N)) (fun w m => More.of hΦ 2 m rfl) b2 ({ ({ ({ a0 with part := cpV a0.part ((a0.held).toNat) (List.replicate (136 - ((a0.held).toNat)) 0#8) } : Sponge) with part := ({ a0 with part := cpV a0.part ((a0.held).toNat) (List.replicate (136 - ((a0.held).toNat)) 0#8) } : Sponge).part.setIfInBounds ((({ a0 with part := cpV a0.part ((a0.held).toNat) (List.replicate (136 - ((a0.held).toNat)) 0#8) } : Sponge).held).toNat) (x7 ^^^ x10) } : Sponge) with part := ({ ({ a0 with part := cpV a0.part ((a0.held).toNat) (List.replicate (136 - ((a0.held).toNat)) 0#8) } : Sponge) with part := ({ a0 with part := cpV a0.part ((a0.held).toNat) (List.replicate (136 - ((a0.held).toNat)) 0#8) } : Sponge).part.setIfInBounds ((({ a0 with part := cpV a0.part ((a0.held).toNat) (List.replicate (136 - ((a0.held).toNat)) 0#8) } : Sponge).held).toNat) (x7 ^^^ x10) } : Sponge).part.setIfInBounds 135 (({ ({ a0 with part := cpV a0.part ((a0.held).toNat) (List.replicate (136 - ((a0.held).toNat)) 0#8) } : Sponge) with part := ({ a0 with part := cpV a0.part ((a0.held).toNat) (List.replicate (136 - ((a0.held).toNat)) 0#8) } : Sponge).part.setIfInBounds ((({ a0 with part := cpV a0.part ((a0.held).toNat) (List.replicate (136 - ((a0.held).toNat)) 0#8) } : Sponge).held).toNat) (x7 ^^^ x10) } : Sponge).part[135] ^^^ 128#8) } : Sponge) x14 hx13) rfl rfl ?_
 rintro L16 M17 ⟨B15, e18, e19⟩
 rw [e18, e19]
 clear e18 e19 L16 M17
 refine OW.mem (M' := ((some b2, blk x14.C 186) :: (some b1, blk (u8s (Vector.replicate 32 0#8).toList) 24) :: (some b0_, blk a0.C 186) :: ((B15 ++ []) ++ N))) (fun w m => by have h := Mem.sinkAt (A := B15) m 1 2 rfl rfl; exact h) ?_
 have gq1 : ∀ w, More w0 Φ (B15 ++ []) w → More w0 Φ [] w := fun w q => More.mono (fun w m => (m).appR) q
 replace hg2 := hg2.mono gq1
 refine OW.nil (QW.then_n (CW.seq (CW.region ?_)))
 refine OW.alloc (l := (u8s (Vector.replicate 32 0#8).toList)) rfl (by rw [Vector.toList_replicate, ← u8s_rep']; rfl) rfl (fun b20 => ?_)
 refine OW.nil (QW.then_n (CW.seq (CW.seq (CW.region ?_))))
 refine OW.rv (RV.move rfl) rfl ?_
 refine OW.nil (QW.then_n ?_)
 obtain ⟨q21, hq22, hf⟩ := some_bind hf
 refine CW.cutJ (fun L' M' => ∃ w23 : Vector (BitVec 8) 32, q21 = w23 ∧ L' = [(2, ptr (some b1) 0), (4, ptr (some b20) 0)] ∧ M' = ((some b20, blk (u8s w23.toList) 24) :: (some b1, blk (u8s (Vector.replicate 32 0#8).toList) 24) :: (some b0_, blk a0.C 186) :: ((B15 ++ []) ++ N))) ?_ ?_
 ·rintro L25 M26 ⟨w23, e24, e27, e28⟩
  rw [e27, e28]
  clear e27 e28 L25 M26
  clear hq22
  rw [e24] at hf
  clear e24
  try dsimp only at hf
  refine QW.then_n (CW.seq (CW.region ?_))
  refine OW.rv (RV.loadW rfl (List.Mem.head _) rfl rfl rfl rfl ((u8s_length _).trans Vector.length_toList)) rfl ?_
  refine OW.rot1 ?_
  refine OW.sv (SV.storeW rfl rfl rfl (u8s_one _) rfl ((u8s_length _).trans Vector.length_toList) ((u8s_length _).trans Vector.length_toList)) ?_
  refine OW.nil (QW.then_n (CW.ret ?_))
  have er0 := Option.some.inj hf
  obtain ⟨e0, er1⟩ := Prod.mk.inj er0
  clear er0
  subst e0
  subst er1
  refine QW.retG (rs := [.cell 2 24]) ([.agg (u8s w23.toList).toArray]) ((some b0_, blk a0.C 186) :: (B15 ++ [])) rfl ?_ rfl ?_ ?_ _ (.inl rfl)
  ·exact ⟨⟨_, _, _, _, rfl, (List.Mem.head _), rfl, rfl, (congrArg some ((u8s_length _).trans Vector.length_toList).symm), rfl⟩, trivial⟩
  ·exact ⟨(B15 ++ []), rfl, rfl⟩
  ·exact (fun w m => m.pick [2] 3 rfl rfl)
 ·skip
  refine CW.block ?_
  refine CW.loopJ (fun k L' M' => ∃ n29 : Nat, ∃ w31 : Vector (BitVec 8) 32, (keccak_Sponge_Sum.l1 x14 k n29 w31) = some q21 ∧ (n29 ≤ 9223372036854775807) ∧ L' = [(2, ptr (some b1) 0), (3, ptr (some b2) 0), (4, ptr (some b20) 0), (35, .int .i64 ((n29 : Nat) : Int))] ∧ M' = ((some b20, blk (u8s w31.toList) 24) :: (some b2, blk x14.C 186) :: (some b1, blk (u8s (Vector.replicate 32 0#8).toList) 24) :: (some b0_, blk a0.C 186) :: ((B15 ++ []) ++ N))) (k0 := (32 - 0 + 2)) ⟨0, (Vector.replicate 32 0#8), hq22, (by omega), rfl, rfl⟩ ⟨rfl, rfl, rfl, rfl, trivial⟩ (fun w m => m.pick [0, 1, 2, 3] 4 rfl rfl) ?_
  clear hq22
  rintro k32 L35 M36 ⟨n29, w31, hl33, b30, e37, e38⟩
  rw [e37, e38]
  clear e37 e38 L35 M36
  rcases k32 with _ | k32
  ·rw [keccak_Sponge_Sum.l1] at hl33; cases hl33
  rw [keccak_Sponge_Sum.l1] at hl33
  refine CW.seq (CW.region ?_)
  refine OW.rv (RV.lss rfl rfl) rfl ?_
  refine OW.slot (.bool (decide (n29 < 32))) (congrArg Value.bool (decide_eq_decide.2 (by omega))) ?_
  refine OW.nil (QW.then_n (CW.seq ?_))
  by_cases h39 : n29 < 32
  ·replace hl33 := if_t hl33 h39
   refine CW.is_t rfl (decide_eq_true h39) ?_
   refine CW.skip (QW.then_n (CW.seq (CW.block (CW.seq (CW.region ?_)))))
   refine OW.rv (RV.move rfl) rfl ?_
   refine OW.rv (RV.assign rfl) rfl ?_
   refine OW.nil (QW.then_n (CW.region ?_))
   refine OW.rv (RV.move rfl) rfl ?_
   refine OW.rv (RV.move rfl) rfl ?_
   refine OW.rv (RV.quo rfl rfl (by omega) (by omega) (by omega)) rfl ?_
   refine OW.slot (.int .i64 ((n29 / 8 : Nat) : Int)) (by first | rfl | (congr 1; omega)) ?_
   refine OW.rv (RV.field rfl rfl rfl rfl) rfl ?_
   refine OW.slot (ptr (some b2) 1) rfl ?_
   obtain ⟨g40, hl33⟩ := some_if hl33
   refine OW.rv (RV.idx_a ((n29 / 8)) rfl rfl rfl rfl rfl (by omega)) rfl ?_
   obtain ⟨x41, hx42, hl33⟩ := some_bind hl33
   refine OW.rv (RV.load rfl (List.Mem.tail _ (List.Mem.head _)) rfl rfl rfl (Sponge.C_lanes _ hx42)) rfl ?_
   refine OW.rv (RV.move rfl) rfl ?_
   refine OW.rv (RV.rem rfl rfl (by omega) (by omega)) rfl ?_
   refine OW.slot (.int .i64 ((n29 % 8 : Nat) : Int)) (by first | rfl | (congr 1; omega)) ?_
   refine OW.rv (RV.mul rfl rfl (by omega)) rfl ?_
   refine OW.slot (.int .i64 (((8 * (n29 % 8)) : Nat) : Int)) (by first | rfl | (congr 1) | (congr 1; omega)) ?_
   refine OW.rv (RV.shr64 (s := (8 * (n29 % 8))) rfl (by first | rfl | exact lit64 _ rfl) rfl (by first | rfl | (congr 1))) rfl ?_
   refine OW.rv (RV.conv64_8 rfl (by first | rfl | exact lit64 _ rfl) rfl rfl) rfl ?_
   refine OW.rv (RV.idx_a (n29) rfl rfl rfl rfl rfl (by omega)) rfl ?_
   refine OW.sv (SV.store rfl rfl rfl rfl rfl (by rw [u8s_length, Vector.length_toList]; omega)) ?_
   refine OW.cells (u8s (w31.setIfInBounds n29 ((x41 >>> (8 * (n29 % 8))).setWidth 8)).toList) (by rw [Nat.zero_add, u8s_set', vset]) ?_
   refine OW.nil (QW.block_n (QW.then_n (CW.region ?_)))
   refine OW.rv (RV.add rfl rfl (by omega)) rfl ?_
   refine OW.slot (.int .i64 (((n29 + 1) : Nat) : Int)) (by first | rfl | (congr 1) | (congr 1; omega)) ?_
   refine OW.rv (RV.move rfl) rfl ?_
   refine OW.nil ?_
   exact QW.againJ (k' := k32) (Nat.lt_succ_self _) ⟨(n29 + 1), (w31.setIfInBounds n29 ((x41 >>> (8 * (n29 % 8))).setWidth 8)), hl33, (by omega), rfl, rfl⟩ ⟨rfl, rfl, rfl, rfl, trivial⟩ (fun w m => m.pick [0, 1, 2, 3] 4 rfl rfl)
  ·replace hl33 := if_f hl33 h39
   refine CW.is_f rfl (decide_eq_false h39) ?_
   refine CW.exit (QW.then_x (QW.then_x (QW.block_xe ?_)))
   exact QW.join ⟨w31, (Option.some.inj hl33).symm, rfl, rfl⟩ ⟨rfl, rfl, trivial⟩ (fun w m => m.pick [0, 2, 3] 4 rfl rfl)
theorem keccak_digest_does (w0 : World) (Φ : Ctx) (N : List Ent) (hΦ : ∀ w, Mem w0 w N → Φ w) (a0 : Int) (A1_ : Option Addr) (c1_ : Nat) (cs1_ : List Value) (a1 : List (List (BitVec 8))) (res0 : Vector (BitVec 8) 32) (ba0 : -9223372036854775808 ≤ a0 ∧ a0 ≤ 9223372036854775807) (va1 : View Φ A1_ a1.length c1_ 1 cs1_) (ha1 : Reps (BsRd Φ) cs1_ a1) (hg2 : View Φ (some ⟨2, 0, none⟩) 2 2 1 (u8s firstL)) (hf : keccak_digest a0 a1 = some res0) : DoesG Tryd.prog 107 [.int .i64 a0, .slice A1_ a1.length c1_] w0 [] N (fun v G => v = .agg (u8s res0.toList).toArray) := by
 unfold keccak_digest at hf
 replace va1 := va1.mono (Ψ := More w0 Φ []) (fun w q => q.1)
 replace hg2 := hg2.mono (Ψ := More w0 Φ []) (fun w q => q.1)
 replace ha1 := ha1.mono (BsRd.mono (Ψ := More w0 Φ []) (fun w q => q.1))
 have m1 := va1.mx
 refine DoesG.enter Tryd.func107 rfl Tryd.ntmps107 rfl (M := (([] ++ N))) rfl ?_
 refine CW.seq (CW.region ?_)
 refine OW.alloc (l := (u8s (Vector.replicate 32 0#8).toList)) rfl (by rw [Vector.toList_replicate, ← u8s_rep']; rfl) rfl (fun b2 => ?_)
 refine OW.nil (QW.then_n (CW.seq (CW.region ?_)))
 refine OW.rv (RV.move rfl) rfl ?_
 refine OW.rv (RV.buildSt (l := (⟨0, (Vector.replicate 25 0#64), (Vector.replicate 136 0#8), 0, 0⟩ : Sponge).C) (cs := ({ (⟨0, (Vector.replicate 25 0#64), (Vector.replicate 136 0#8), 0, 0⟩ : Sponge) with kind := a0 } : Sponge).C) [(0, [.int .i64 a0])] rfl rfl rfl rfl rfl rfl rfl) rfl ?_
 refine OW.alloc (l := (⟨0, (Vector.replicate 25 0#64), (Vector.replicate 136 0#8), 0, 0⟩ : Sponge).C) rfl (by kernel_rfl) rfl (fun b3 => ?_)
 refine OW.sv (SV.storeW rfl rfl rfl (Sponge.C_one _) rfl (Sponge.C_length _) (Sponge.C_length _)) ?_
 refine OW.nil (QW.then_n (CW.seq (CW.seq (CW.region ?_))))
 refine OW.rv (RV.move rfl) rfl ?_
 refine OW.rv (RV.len rfl rfl) rfl ?_
 refine OW.rv (RV.move rfl) rfl ?_
 refine OW.nil (QW.then_n ?_)
 obtain ⟨q4, hq5, hf⟩ := some_bind hf
 refine CW.cutJ (fun L' M' => ∃ w8 : Sponge, ∃ B6 : List Ent, q4 = w8 ∧ (∀ w, Mem w0 w B6 → Mem w0 w []) ∧ L' = [(4, ptr (some b2) 0), (5, ptr (some b3) 0)] ∧ M' = ((some b3, blk w8.C 186) :: (some b2, blk (u8s (Vector.replicate 32 0#8).toList) 24) :: (B6 ++ N))) ?_ ?_
 ·rintro L10 M11 ⟨w8, B6, e9, hB7, e12, e13⟩
  rw [e12, e13]
  clear e12 e13 L10 M11
  clear hq5
  rw [e9] at hf
  clear e9
  try dsimp only at hf
  have gq1 : ∀ w, More w0 Φ B6 w → More w0 Φ [] w := fun w q => More.mono (fun w m => hB7 w (m)) q
  replace hg2 := hg2.mono gq1
  refine QW.then_n (CW.seq (CW.region ?_))
  obtain ⟨⟨x15, x16⟩, hx14, hf⟩ := some_bind hf
  try dsimp only at hf
  refine OW.callG Tryd.call130 rfl (keccak_Sponge_Sum_does w0 (More w0 Φ B6) ((some b2, blk (u8s (Vector.replicate 32 0#8).toList) 24) :: (B6 ++ N)) (fun w m => More.of hΦ 1 m rfl) b3 w8 x15 x16 hg2 hx14) rfl rfl ?_
  rintro L18 M19 ⟨B17, e20, e21⟩
  rw [e20, e21]
  clear e20 e21 L18 M19
  refine OW.mem (M' := ((some b3, blk x16.C 186) :: (some b2, blk (u8s (Vector.replicate 32 0#8).toList) 24) :: ((B17 ++ B6) ++ N))) (fun w m => by have h := Mem.sinkAt (A := B17) m 1 1 rfl rfl; exact h) ?_
  have gq2 : ∀ w, More w0 Φ (B17 ++ B6) w → More w0 Φ B6 w := fun w q => More.mono (fun w m => (m).appR) q
  replace hg2 := hg2.mono gq2
  refine OW.rot1 ?_
  refine OW.sv (SV.storeW rfl rfl rfl (u8s_one _) rfl ((u8s_length _).trans Vector.length_toList) ((u8s_length _).trans Vector.length_toList)) ?_
  refine OW.nil (QW.then_n (CW.ret ?_))
  have e0 := Option.some.inj hf
  subst e0
  refine QW.retG (rs := [.cell 4 24]) ([.agg (u8s x15.toList).toArray]) ((some b2, blk (u8s x15.toList) 24) :: (some b3, blk x16.C 186) :: (B17 ++ B6)) rfl ?_ rfl ?_ ?_ _ (.inl rfl)
  ·exact ⟨⟨_, _, _, _, rfl, (List.Mem.head _), rfl, rfl, (congrArg some ((u8s_length _).trans Vector.length_toList).symm), rfl⟩, trivial⟩
  ·exact rfl
  ·exact (fun w m => m)
 ·skip
  refine CW.block ?_
  refine CW.loopJ (fun k L' M' => ∃ n24 : Nat, ∃ w26 : Sponge, ∃ B22 : List Ent, (keccak_digest.l1 a1 k n24 w26) = some q4 ∧ (∀ w, Mem w0 w B22 → Mem w0 w []) ∧ (n24 ≤ 9223372036854775807) ∧ L' = [(4, ptr (some b2) 0), (5, ptr (some b3) 0), (10, .slice A1_ a1.length c1_), (11, .int .i64 ((a1.length : Nat) : Int)), (12, .int .i64 ((n24 : Nat) : Int))] ∧ M' = ((some b3, blk w26.C 186) :: (some b2, blk (u8s (Vector.replicate 32 0#8).toList) 24) :: (B22 ++ N))) (k0 := (a1.length - 0 + 2)) ⟨0, ({ (⟨0, (Vector.replicate 25 0#64), (Vector.replicate 136 0#8), 0, 0⟩ : Sponge) with kind := a0 } : Sponge), [], hq5, (fun w m => m), (by omega), rfl, rfl⟩ ⟨rfl, rfl, rfl, rfl, rfl, trivial⟩ (fun w m => m.pick [0, 1] 2 rfl rfl) ?_
  clear hq5
  rintro k27 L30 M31 ⟨n24, w26, B22, hl28, hB23, b25, e32, e33⟩
  rw [e32, e33]
  clear e32 e33 L30 M31
  rcases k27 with _ | k27
  ·rw [keccak_digest.l1] at hl28; cases hl28
  rw [keccak_digest.l1] at hl28
  have gq3 : ∀ w, More w0 Φ B22 w → More w0 Φ [] w := fun w q => More.mono (fun w m => hB23 w (m)) q
  replace va1 := va1.mono gq3
  replace ha1 := ha1.mono (BsRd.mono gq3)
  replace hg2 := hg2.mono gq3
  refine CW.seq (CW.region ?_)
  refine OW.rv (RV.lss rfl rfl) rfl ?_
  refine OW.slot (.bool (decide (n24 < a1.length))) (congrArg Value.bool (decide_eq_decide.2 (by omega))) ?_
  refine OW.nil (QW.then_n (CW.seq ?_))
  by_cases h34 : n24 < a1.length
  ·replace hl28 := if_t hl28 h34
   refine CW.is_t rfl (decide_eq_true h34) ?_
   refine CW.skip (QW.then_n (CW.seq (CW.block (CW.seq (CW.region ?_)))))
   obtain ⟨x35, hx36, hl28⟩ := some_bind hl28
   have hl37 := lt_of_at hx36
   refine OW.rv (RV.idx_r (n24) rfl rfl rfl rfl rfl (va1.isSome (by decide) hl37) (by omega)) rfl ?_
   obtain ⟨cs38, h39, h40⟩ := ha1.get BsRd.len hx36
   obtain ⟨A41, c42, e44, v43⟩ := h39
   subst e44
   have m45 := v43.mx
   refine OW.rv (RV.load_at rfl rfl rfl (fun w m => by have := va1.load (More.of hΦ 2 m rfl) h40 0 _ rfl; simpa [Addr.add] using this)) rfl ?_
   refine OW.rv (RV.assign rfl) rfl ?_
   refine OW.nil (QW.then_n (CW.region ?_))
   refine OW.rv (RV.move rfl) rfl ?_
   obtain ⟨x47, hx46, hl28⟩ := some_bind hl28
   refine OW.callG Tryd.call129 rfl (keccak_Sponge_Write_does w0 (More w0 Φ B22) ((some b2, blk (u8s (Vector.replicate 32 0#8).toList) 24) :: (B22 ++ N)) (fun w m => More.of hΦ 1 m rfl) b3 w26 A41 c42 x35 x47 v43 hx46) rfl rfl ?_
   rintro L49 M50 ⟨B48, e51, e52⟩
   rw [e51, e52]
   clear e51 e52 L49 M50
   refine OW.mem (M' := ((some b3, blk x47.C 186) :: (some b2, blk (u8s (Vector.replicate 32 0#8).toList) 24) :: ((B48 ++ B22) ++ N))) (fun w m => by have h := Mem.sinkAt (A := B48) m 1 1 rfl rfl; exact h) ?_
   have gq4 : ∀ w, More w0 Φ (B48 ++ B22) w → More w0 Φ B22 w := fun w q => More.mono (fun w m => (m).appR) q
   replace va1 := va1.mono gq4
   replace ha1 := ha1.mono (BsRd.mono gq4)
   replace v43 := v43.mono gq4
   replace hg2 := hg2.mono gq4
   refine OW.nil (QW.block_n (QW.then_n (CW.region ?_)))
   refine OW.rv (RV.add rfl rfl (by omega)) rfl ?_
   refine OW.slot (.int .i64 (((n24 + 1) : Nat) : Int)) (by first | rfl | (congr 1) | (congr 1; omega)) ?_
   refine OW.rv (RV.move rfl) rfl ?_
   refine OW.nil ?_
   exact QW.againJ (k' := k27) (Nat.lt_succ_self _) ⟨(n24 + 1), x47, (B48 ++ B22), hl28, (fun w m => hB23 w ((m).appR)), (by omega), rfl, rfl⟩ ⟨rfl, rfl, rfl, rfl, rfl, trivial⟩ (fun w m => m.pick [0, 1] 2 rfl rfl)
  ·replace hl28 := if_f hl28 h34
   refine CW.is_f rfl (decide_eq_false h34) ?_
   refine CW.exit (QW.then_x (QW.then_x (QW.block_xe ?_)))
   exact QW.join ⟨w26, B22, (Option.some.inj hl28).symm, (fun w m => hB23 w (m)), rfl, rfl⟩ ⟨rfl, rfl, trivial⟩ (fun w m => m.pick [0, 1] 2 rfl rfl)
theorem keccak_Sum_does (w0 : World) (Φ : Ctx) (N : List Ent) (hΦ : ∀ w, Mem w0 w N → Φ w) (A0_ : Option Addr) (c0_ : Nat) (cs0_ : List Value) (a0 : List (List (BitVec 8))) (res0 : Vector (BitVec 8) 32) (va0 : View Φ A0_ a0.length c0_ 1 cs0_) (ha0 : Reps (BsRd Φ) cs0_ a0) (hg2 : View Φ (some ⟨2, 0, none⟩) 2 2 1 (u8s firstL)) (hf : keccak_Sum a0 = some res0) : DoesG Tryd.prog 80 [.slice A0_ a0.length c0_] w0 [] N (fun v G => v = .agg (u8s res0.toList).toArray) := by
 unfold keccak_Sum at hf
 replace va0 := va0.mono (Ψ := More w0 Φ []) (fun w q => q.1)
 replace hg2 := hg2.mono (Ψ := More w0 Φ []) (fun w q => q.1)
 replace ha0 := ha0.mono (BsRd.mono (Ψ := More w0 Φ []) (fun w q => q.1))
 have m1 := va0.mx
 refine DoesG.enter Tryd.func80 rfl Tryd.ntmps80 rfl (M := (([] ++ N))) rfl ?_
 refine CW.seq (CW.region ?_)
 refine OW.alloc (l := (u8s (Vector.replicate 32 0#8).toList)) rfl (by rw [Vector.toList_replicate, ← u8s_rep']; rfl) rfl (fun b2 => ?_)
 refine OW.nil (QW.then_n (CW.seq (CW.region ?_)))
 refine OW.rv (RV.move rfl) rfl ?_
 obtain ⟨x4, hx3, hf⟩ := some_bind hf
 refine OW.callG Tryd.call107 rfl (keccak_digest_does w0 (More w0 Φ []) ((some b2, blk (u8s (Vector.replicate 32 0#8).toList) 24) :: ([] ++ N)) (fun w m => More.of hΦ 1 m rfl) (0 : Int) A0_ c0_ cs0_ a0 x4 (by omega) va0 ha0 hg2 hx3) rfl rfl ?_
 rintro _ G5 rfl
 refine OW.mem (M' := ((some b2, blk (u8s (Vector.replicate 32 0#8).toList) 24) :: ([] ++ N))) (fun w m => m.appR) ?_
 refine OW.sv (SV.storeW rfl rfl rfl (u8s_one _) rfl ((u8s_length _).trans Vector.length_toList) ((u8s_length _).trans Vector.length_toList)) ?_
 refine OW.nil (QW.then_n (CW.ret ?_))
 have e0 := Option.some.inj hf
 subst e0
 refine QW.retG (rs := [.cell 2 24]) ([.agg (u8s x4.toList).toArray]) ((some b2, blk (u8s x4.toList) 24) :: []) rfl ?_ rfl ?_ ?_ _ (.inl rfl)
 ·exact ⟨⟨_, _, _, _, rfl, (List.Mem.head _), rfl, rfl, (congrArg some ((u8s_length _).trans Vector.length_toList).symm), rfl⟩, trivial⟩
 ·exact rfl
 ·exact (fun w m => m)
theorem bloom_Places_does (w0 : World) (Φ : Ctx) (N : List Ent) (hΦ : ∀ w, Mem w0 w N → Φ w) (A0_ : Option Addr) (c0_ : Nat) (a0 : List (BitVec 8)) (res0 : Vector (Int) 3) (va0 : View Φ A0_ a0.length c0_ 1 (u8s a0)) (hg2 : View Φ (some ⟨2, 0, none⟩) 2 2 1 (u8s firstL)) (hf : bloom_Places a0 = some res0) : DoesG Tryd.prog 57 [.slice A0_ a0.length c0_] w0 [] N (fun v G => v = .agg (i64s res0.toList).toArray) := by
 unfold bloom_Places at hf
 replace va0 := va0.mono (Ψ := More w0 Φ []) (fun w q => q.1)
 replace hg2 := hg2.mono (Ψ := More w0 Φ []) (fun w q => q.1)
 have m1 := va0.mx
 refine DoesG.enter Tryd.func57 rfl Tryd.ntmps57 rfl (M := (([] ++ N))) rfl ?_
 refine CW.seq (CW.region ?_)
 refine OW.alloc (l := (i64s (Vector.replicate 3 0).toList)) rfl (by rw [Vector.toList_replicate, ← i64s_rep]; rfl) rfl (fun b2 => ?_)
 refine OW.nil (QW.then_n (CW.seq (CW.region ?_)))
 refine OW.rv (RV.move rfl) rfl ?_
 refine OW.ofN (NV.bs1 rfl rfl rfl rfl rfl rfl) rfl (fun b3 => ?_)
 have h6 : Reps (BsRd (More w0 Φ [])) (([.slice A0_ a0.length c0_] : List Value)) [a0] := Reps.one (BsRd.mk va0)
 refine OW.mem (M' := (((some b3), blk ((([.slice A0_ a0.length c0_] : List Value)) ++ []) 61) :: (some b2, blk (i64s (Vector.replicate 3 0).toList) 95) :: ([] ++ N))) (fun w m => m) ?_
 have o4 : OwnS (some b3) ([a0] : List (List (BitVec 8))).length 1 1 (([.slice A0_ a0.length c0_] : List Value)) [] := ⟨by simp [BsRd], by simp [BsRd], (fun h => nomatch h), by simp⟩
 have mx_o4 := o4.mx
 refine OW.slot (sl (some b3) 0 ([a0] : List (List (BitVec 8))).length 1) (rfl) ?_
 refine OW.mem (M' := (some b2, blk (i64s (Vector.replicate 3 0).toList) 95) :: ((((some b3), blk ((([.slice A0_ a0.length c0_] : List Value)) ++ []) 61) :: []) ++ N)) (fun w m => m.pick [1, 0] 2 rfl rfl) ?_
 have gq1 : ∀ w, More w0 Φ (((some b3), blk ((([.slice A0_ a0.length c0_] : List Value)) ++ []) 61) :: []) w → More w0 Φ [] w := fun w q => More.mono (fun w m => (m).tail) q
 replace va0 := va0.mono gq1
 replace h6 := h6.mono (BsRd.mono gq1)
 replace hg2 := hg2.mono gq1
 have v7 : View (More w0 Φ (((some b3), blk ((([.slice A0_ a0.length c0_] : List Value)) ++ []) 61) :: [])) (((some b3)).map fun k => ⟨k, 0, none⟩) ([a0] : List (List (BitVec 8))).length 1 1 (([.slice A0_ a0.length c0_] : List Value)) := o4.view (by decide) (fun w q => q.2.sublist (List.singleton_sublist.2 (List.mem_cons_self ..)))
 obtain ⟨x9, hx8, hf⟩ := some_bind hf
 refine OW.callG Tryd.call80 rfl (keccak_Sum_does w0 (More w0 Φ (((some b3), blk ((([.slice A0_ a0.length c0_] : List Value)) ++ []) 61) :: [])) ((some b2, blk (i64s (Vector.replicate 3 0).toList) 95) :: ((((some b3), blk ((([.slice A0_ a0.length c0_] : List Value)) ++ []) 61) :: []) ++ N)) (fun w m => More.of hΦ 1 m rfl) (((some b3)).map fun k => ⟨k, 0, none⟩) 1 (([.slice A0_ a0.length c0_] : List Value)) ([a0] : List (List (BitVec 8))) x9 v7 h6 hg2 hx8) rfl rfl ?_
 rintro _ G10 rfl
 refine OW.mem (M' := ((some b2, blk (i64s (Vector.replicate 3 0).toList) 95) :: ((((some b3), blk ((([.slice A0_ a0.length c0_] : List Value)) ++ []) 61) :: []) ++ N))) (fun w m => m.appR) ?_
 refine OW.alloc (l := (u8s (Vector.replicate 32 0#8).toList)) rfl (by rw [Vector.toList_replicate, ← u8s_rep']; rfl) rfl (fun b12 => ?_)
 refine OW.sv (SV.storeW rfl rfl rfl (u8s_one _) rfl ((u8s_length _).trans Vector.length_toList) ((u8s_length _).trans Vector.length_toList)) ?_
 refine OW.nil (QW.then_n (CW.seq (CW.region ?_)))
 refine OW.alloc (l := (i64s (Vector.replicate 3 0).toList)) rfl (by rw [Vector.toList_replicate, ← i64s_rep]; rfl) rfl (fun b13 => ?_)
 refine OW.nil (QW.then_n (CW.seq (CW.seq (CW.region ?_))))
 refine OW.rv (RV.move rfl) rfl ?_
 refine OW.nil (QW.then_n ?_)
 obtain ⟨q14, hq15, hf⟩ := some_bind hf
 refine CW.cutJ (fun L' M' => ∃ w16 : Vector (Int) 3, q14 = w16 ∧ L' = [(2, ptr (some b2) 0), (4, ptr (some b13) 0)] ∧ M' = ((some b13, blk (i64s w16.toList) 95) :: (some b2, blk (i64s (Vector.replicate 3 0).toList) 95) :: ((((some b3), blk ((([.slice A0_ a0.length c0_] : List Value)) ++ []) 61) :: []) ++ N))) ?_ ?_
 ·rintro L18 M19 ⟨w16, e17, e20, e21⟩
  rw [e20, e21]
  clear e20 e21 L18 M19
  clear hq15
  rw [e17] at hf
  clear e17
  try dsimp only at hf
  refine QW.then_n (CW.seq (CW.region ?_))
  refine OW.rv (RV.loadW rfl (List.Mem.head _) rfl rfl rfl rfl ((i64s_length _).trans Vector.length_toList)) rfl ?_
  refine OW.rot1 ?_
  refine OW.sv (SV.storeW rfl rfl rfl (i64s_one _) rfl ((i64s_length _).trans Vector.length_toList) ((i64s_length _).trans Vector.length_toList)) ?_
  refine OW.nil (QW.then_n (CW.ret ?_))
  have e0 := Option.some.inj hf
  subst e0
  refine QW.retG (rs := [.cell 2 95]) ([.agg (i64s w16.toList).toArray]) ((some b2, blk (i64s w16.toList) 95) :: (some b13, blk (i64s w16.toList) 95) :: (((some b3), blk ((([.slice A0_ a0.length c0_] : List Value)) ++ []) 61) :: [])) rfl ?_ rfl ?_ ?_ _ (.inl rfl)
  ·exact ⟨⟨_, _, _, _, rfl, (List.Mem.head _), rfl, rfl, (congrArg some ((i64s_length _).trans Vector.length_toList).symm), rfl⟩, trivial⟩
  ·exact rfl
  ·exact (fun w m => m)
 ·skip
  refine CW.block ?_
  refine CW.loopJ (fun k L' M' => ∃ n22 : Nat, ∃ w24 : Vector (Int) 3, (bloom_Places.l1 x9 k n22 w24) = some q14 ∧ (n22 ≤ 9223372036854775807) ∧ L' = [(2, ptr (some b2) 0), (3, ptr (some b12) 0), (4, ptr (some b13) 0), (9, .int .i64 ((n22 : Nat) : Int))] ∧ M' = ((some b13, blk (i64s w24.toList) 95) :: (some b12, blk (u8s x9.toList) 24) :: (some b2, blk (i64s (Vector.replicate 3 0).toList) 95) :: ((((some b3), blk ((([.slice A0_ a0.length c0_] : List Value)) ++ []) 61) :: []) ++ N))) (k0 := (3 - 0 + 2)) ⟨0, (Vector.replicate 3 0), hq15, (by omega), rfl, rfl⟩ ⟨rfl, rfl, rfl, rfl, trivial⟩ (fun w m => m.pick [0, 1, 2] 3 rfl rfl) ?_
  clear hq15
  rintro k25 L28 M29 ⟨n22, w24, hl26, b23, e30, e31⟩
  rw [e30, e31]
  clear e30 e31 L28 M29
  rcases k25 with _ | k25
  ·rw [bloom_Places.l1] at hl26; cases hl26
  rw [bloom_Places.l1] at hl26
  refine CW.seq (CW.region ?_)
  refine OW.rv (RV.lss rfl rfl) rfl ?_
  refine OW.slot (.bool (decide (n22 < 3))) (congrArg Value.bool (decide_eq_decide.2 (by omega))) ?_
  refine OW.nil (QW.then_n (CW.seq ?_))
  by_cases h32 : n22 < 3
  ·replace hl26 := if_t hl26 h32
   refine CW.is_t rfl (decide_eq_true h32) ?_
   refine CW.skip (QW.then_n (CW.seq (CW.block (CW.seq (CW.region ?_)))))
   refine OW.rv (RV.move rfl) rfl ?_
   refine OW.rv (RV.assign rfl) rfl ?_
   refine OW.nil (QW.then_n ?_)
   refine CW.drawsX ((some b12, blk (u8s x9.toList) 24) :: (some b2, blk (i64s (Vector.replicate 3 0).toList) 95) :: ((((some b3), blk ((([.slice A0_ a0.length c0_] : List Value)) ++ []) 61) :: []) ++ N)) [16] (fun w m => m.pick [1, 2] 3 rfl rfl) mixed (by kernel_rfl) ?_
   refine XW.rs 0 rfl (by kernel_rfl) rfl (RV.move rfl) rfl ?_
   refine XW.rs 1 rfl (by kernel_rfl) rfl (RV.move rfl) rfl ?_
   refine XW.rs 2 rfl (by kernel_rfl) rfl (RV.mul rfl rfl (by omega)) rfl ?_
   refine XW.slot (.int .i64 (((2 * n22) : Nat) : Int)) (by first | rfl | (congr 1) | (congr 1; omega)) ?_
   obtain ⟨g33, hl26⟩ := some_if hl26
   refine XW.rs 3 rfl (by kernel_rfl) rfl (RV.idx_a ((2 * n22)) rfl rfl rfl rfl rfl (by omega)) rfl ?_
   obtain ⟨x34, hx35, hl26⟩ := some_bind hl26
   refine XW.rs 4 rfl (by kernel_rfl) rfl (RV.load rfl (List.Mem.head _) rfl rfl rfl (by rw [Nat.zero_add]; exact u8s_at (vat hx35))) rfl ?_
   refine XW.rs 5 rfl (by kernel_rfl) rfl (RV.conv8_i rfl (by first | rfl | exact lit8 _ rfl) rfl rfl) rfl ?_
   have m36 := (x34).isLt
   refine XW.rs 6 rfl (by kernel_rfl) rfl (RV.mul rfl rfl (by omega)) rfl ?_
   refine XW.slot (.int .i64 (((256 * x34.toNat) : Nat) : Int)) (by first | rfl | (congr 1) | (congr 1; omega)) ?_
   refine XW.rs 7 rfl (by kernel_rfl) rfl (RV.move rfl) rfl ?_
   refine XW.rs 8 rfl (by kernel_rfl) rfl (RV.mul rfl rfl (by omega)) rfl ?_
   refine XW.slot (.int .i64 (((2 * n22) : Nat) : Int)) (by first | rfl | (congr 1) | (congr 1; omega)) ?_
   refine XW.rs 9 rfl (by kernel_rfl) rfl (RV.add rfl rfl (by omega)) rfl ?_
   refine XW.slot (.int .i64 ((((2 * n22) + 1) : Nat) : Int)) (by first | rfl | (congr 1) | (congr 1; omega)) ?_
   obtain ⟨g37, hl26⟩ := some_if hl26
   refine XW.rs 10 rfl (by kernel_rfl) rfl (RV.idx_a (((2 * n22) + 1)) rfl rfl rfl rfl rfl (by omega)) rfl ?_
   obtain ⟨x38, hx39, hl26⟩ := some_bind hl26
   refine XW.rs 11 rfl (by kernel_rfl) rfl (RV.load rfl (List.Mem.head _) rfl rfl rfl (by rw [Nat.zero_add]; exact u8s_at (vat hx39))) rfl ?_
   refine XW.rs 12 rfl (by kernel_rfl) rfl (RV.conv8_i rfl (by first | rfl | exact lit8 _ rfl) rfl rfl) rfl ?_
   have m40 := (x38).isLt
   refine XW.rs 13 rfl (by kernel_rfl) rfl (RV.add rfl rfl (by omega)) rfl ?_
   refine XW.slot (.int .i64 ((((256 * x34.toNat) + x38.toNat) : Nat) : Int)) (by first | rfl | (congr 1) | (congr 1; omega)) ?_
   refine XW.rs 14 rfl (by kernel_rfl) rfl (RV.rem rfl rfl (by omega) (by omega)) rfl ?_
   refine XW.slot (.int .i64 ((((256 * x34.toNat) + x38.toNat) % 2048 : Nat) : Int)) (by first | rfl | (congr 1; omega)) ?_
   refine XW.rs 15 rfl (by kernel_rfl) rfl (RV.idx_a (n22) rfl rfl rfl rfl rfl (by omega)) rfl ?_
   refine XW.sv 16 rfl (by kernel_rfl) (SV.store rfl rfl rfl rfl rfl (by rw [i64s_length, Vector.length_toList]; omega)) (fun w m => m.pick [1, 2] 3 rfl rfl) ?_
   refine XW.cells (i64s (w24.setIfInBounds n22 ((((256 * x34.toNat) + x38.toNat) % 2048 : Nat) : Int)).toList) (by rw [Nat.zero_add, i64s_set, vset]) ?_
   refine XW.nil (by kernel_rfl) ?_
   refine QW.block_n (QW.then_n (CW.region ?_))
   refine OW.rv (RV.add rfl rfl (by omega)) rfl ?_
   refine OW.slot (.int .i64 (((n22 + 1) : Nat) : Int)) (by first | rfl | (congr 1) | (congr 1; omega)) ?_
   refine OW.rv (RV.move rfl) rfl ?_
   refine OW.nil ?_
   exact QW.againJ (k' := k25) (Nat.lt_succ_self _) ⟨(n22 + 1), (w24.setIfInBounds n22 ((((256 * x34.toNat) + x38.toNat) % 2048 : Nat) : Int)), hl26, (by omega), rfl, rfl⟩ ⟨rfl, rfl, rfl, rfl, trivial⟩ (fun w m => m.pick [0, 1, 2] 3 rfl rfl)
  ·replace hl26 := if_f hl26 h32
   refine CW.is_f rfl (decide_eq_false h32) ?_
   refine CW.exit (QW.then_x (QW.then_x (QW.block_xe ?_)))
   exact QW.join ⟨w24, (Option.some.inj hl26).symm, rfl, rfl⟩ ⟨rfl, rfl, trivial⟩ (fun w m => m.pick [0, 2] 3 rfl rfl)
theorem bloom_set_does (w0 : World) (Φ : Ctx) (N : List Ent) (hΦ : ∀ w, Mem w0 w N → Φ w) (a0 : Vector (BitVec 8) 256) (a1 : Int) (res0 : Vector (BitVec 8) 256) (ba1 : -9223372036854775808 ≤ a1 ∧ a1 ≤ 9223372036854775807) (hf : bloom_set a0 a1 = some res0) : DoesG Tryd.prog 104 [.agg (u8s a0.toList).toArray, .int .i64 a1] w0 [] N (fun v G => v = .agg (u8s res0.toList).toArray) := by
 unfold bloom_set at hf
 refine DoesG.enter Tryd.func104 rfl Tryd.ntmps104 rfl (M := (([] ++ N))) rfl ?_
 refine CW.seq (CW.region ?_)
 refine OW.boxA rfl rfl (fun b1 => ?_)
 refine OW.alloc (l := (u8s (Vector.replicate 256 0#8).toList)) rfl (by rw [Vector.toList_replicate, ← u8s_rep']; rfl) rfl (fun b2 => ?_)
 refine OW.nil (QW.then_n (CW.seq ?_))
 refine CW.drawsX ((some b2, blk (u8s (Vector.replicate 256 0#8).toList) 27) :: ([] ++ N)) [10] (fun w m => m.pick [0] 2 rfl rfl) mixed (by kernel_rfl) ?_
 refine XW.rs 0 rfl (by kernel_rfl) rfl (RV.move rfl) rfl ?_
 obtain ⟨g3, hf⟩ := some_if hf
 refine XW.rs 1 rfl (by kernel_rfl) rfl (RV.quo rfl rfl (by omega) (by omega) (by omega)) rfl ?_
 refine XW.slot (.int .i64 (((a1).toNat / 8 : Nat) : Int)) (by first | rfl | (congr 1; omega)) ?_
 refine XW.rs 2 rfl (by kernel_rfl) rfl (RV.sub rfl rfl (by omega)) rfl ?_
 obtain ⟨g4, hf⟩ := some_if hf
 obtain ⟨g5, hf⟩ := some_if hf
 refine XW.rs 3 rfl (by kernel_rfl) rfl (RV.idx_a ((((255 : Int) - (((a1).toNat / 8 : Nat) : Int))).toNat) rfl rfl (by omega) rfl rfl (by omega)) rfl ?_
 obtain ⟨x6, hx7, hf⟩ := some_bind hf
 refine XW.rv 4 rfl (by kernel_rfl) rfl (by kernel_rfl) (RV.load rfl (List.Mem.tail _ (List.Mem.head _)) rfl rfl rfl (by rw [Nat.zero_add]; exact u8s_at (vat hx7))) rfl ?_
 refine XW.rs 5 rfl (by kernel_rfl) rfl (RV.move rfl) rfl ?_
 refine XW.rs 6 rfl (by kernel_rfl) rfl (RV.rem rfl rfl (by omega) (by omega)) rfl ?_
 refine XW.slot (.int .i64 (((a1).toNat % 8 : Nat) : Int)) (by first | rfl | (congr 1; omega)) ?_
 refine XW.rs 7 rfl (by kernel_rfl) rfl (RV.shl8 (s := ((a1).toNat % 8)) rfl (by first | rfl | exact lit8 _ rfl) rfl (by first | rfl | (congr 1))) rfl ?_
 refine XW.rs 8 rfl (by kernel_rfl) rfl (RV.or8 rfl (by first | rfl | exact lit8 _ rfl) rfl (by first | rfl | exact lit8 _ rfl)) rfl ?_
 refine XW.rs 9 rfl (by kernel_rfl) rfl (RV.idx_a ((((255 : Int) - (((a1).toNat / 8 : Nat) : Int))).toNat) rfl rfl (by omega) rfl rfl (by omega)) rfl ?_
 refine XW.mem (M' := ((some b1, blk (u8s a0.toList) 27) :: (some b2, blk (u8s (Vector.replicate 256 0#8).toList) 27) :: ([] ++ N))) (fun w m => m.pick [1, 0] 2 rfl rfl) (fun w m => m.pick [1] 2 rfl rfl) ?_
 refine XW.sv 10 rfl (by kernel_rfl) (SV.store rfl rfl rfl rfl rfl (by rw [u8s_length, Vector.length_toList]; omega)) (fun w m => m.pick [1] 2 rfl rfl) ?_
 refine XW.cells (u8s (a0.setIfInBounds ((((255 : Int) - (((a1).toNat / 8 : Nat) : Int))).toNat) (x6 ||| (1#8 <<< ((a1).toNat % 8)))).toList) (by rw [Nat.zero_add, u8s_set', vset]) ?_
 refine XW.nil (by kernel_rfl) ?_
 refine QW.then_n (CW.seq (CW.region ?_))
 refine OW.rv (RV.loadW rfl (List.Mem.head _) rfl rfl rfl rfl ((u8s_length _).trans Vector.length_toList)) rfl ?_
 refine OW.rot1 ?_
 refine OW.sv (SV.storeW rfl rfl rfl (u8s_one _) rfl ((u8s_length _).trans Vector.length_toList) ((u8s_length _).trans Vector.length_toList)) ?_
 refine OW.nil (QW.then_n (CW.ret ?_))
 have e0 := Option.some.inj hf
 subst e0
 refine QW.retG (rs := [.cell 4 27]) ([.agg (u8s (a0.setIfInBounds ((((255 : Int) - (((a1).toNat / 8 : Nat) : Int))).toNat) (x6 ||| (1#8 <<< ((a1).toNat % 8)))).toList).toArray]) ((some b2, blk (u8s (a0.setIfInBounds ((((255 : Int) - (((a1).toNat / 8 : Nat) : Int))).toNat) (x6 ||| (1#8 <<< ((a1).toNat % 8)))).toList) 27) :: (some b1, blk (u8s (a0.setIfInBounds ((((255 : Int) - (((a1).toNat / 8 : Nat) : Int))).toNat) (x6 ||| (1#8 <<< ((a1).toNat % 8)))).toList) 27) :: []) rfl ?_ rfl ?_ ?_ _ (.inl rfl)
 ·exact ⟨⟨_, _, _, _, rfl, (List.Mem.head _), rfl, rfl, (congrArg some ((u8s_length _).trans Vector.length_toList).symm), rfl⟩, trivial⟩
 ·exact rfl
 ·exact (fun w m => m)
theorem bloom_Add_does (w0 : World) (Φ : Ctx) (N : List Ent) (hΦ : ∀ w, Mem w0 w N → Φ w) (a0 : Vector (BitVec 8) 256) (A1_ : Option Addr) (c1_ : Nat) (a1 : List (BitVec 8)) (res0 : Vector (BitVec 8) 256) (va1 : View Φ A1_ a1.length c1_ 1 (u8s a1)) (hg2 : View Φ (some ⟨2, 0, none⟩) 2 2 1 (u8s firstL)) (hf : bloom_Add a0 a1 = some res0) : DoesG Tryd.prog 78 [.agg (u8s a0.toList).toArray, .slice A1_ a1.length c1_] w0 [] N (fun v G => v = .agg (u8s res0.toList).toArray) := by
 unfold bloom_Add at hf
 replace va1 := va1.mono (Ψ := More w0 Φ []) (fun w q => q.1)
 replace hg2 := hg2.mono (Ψ := More w0 Φ []) (fun w q => q.1)
 have m1 := va1.mx
 refine DoesG.enter Tryd.func78 rfl Tryd.ntmps78 rfl (M := (([] ++ N))) rfl ?_
 refine CW.seq (CW.region ?_)
 refine OW.boxA rfl rfl (fun b2 => ?_)
 refine OW.alloc (l := (u8s (Vector.replicate 256 0#8).toList)) rfl (by rw [Vector.toList_replicate, ← u8s_rep']; rfl) rfl (fun b3 => ?_)
 refine OW.nil (QW.then_n (CW.seq (CW.seq (CW.region ?_))))
 refine OW.rv (RV.move rfl) rfl ?_
 obtain ⟨x5, hx4, hf⟩ := some_bind hf
 refine OW.callG Tryd.call57 rfl (bloom_Places_does w0 (More w0 Φ []) ((some b3, blk (u8s (Vector.replicate 256 0#8).toList) 27) :: (some b2, blk (u8s a0.toList) 27) :: ([] ++ N)) (fun w m => More.of hΦ 2 m rfl) A1_ c1_ a1 x5 va1 hg2 hx4) rfl rfl ?_
 rintro _ G6 rfl
 refine OW.mem (M' := ((some b3, blk (u8s (Vector.replicate 256 0#8).toList) 27) :: (some b2, blk (u8s a0.toList) 27) :: ([] ++ N))) (fun w m => m.appR) ?_
 refine OW.rv (RV.move rfl) rfl ?_
 refine OW.nil (QW.then_n ?_)
 obtain ⟨q8, hq9, hf⟩ := some_bind hf
 refine CW.cutJ (fun L' M' => ∃ w10 : Vector (BitVec 8) 256, q8 = w10 ∧ L' = [(2, ptr (some b2) 0), (4, ptr (some b3) 0)] ∧ M' = ((some b3, blk (u8s (Vector.replicate 256 0#8).toList) 27) :: (some b2, blk (u8s w10.toList) 27) :: ([] ++ N))) ?_ ?_
 ·rintro L12 M13 ⟨w10, e11, e14, e15⟩
  rw [e14, e15]
  clear e14 e15 L12 M13
  clear hq9
  rw [e11] at hf
  clear e11
  try dsimp only at hf
  refine QW.then_n (CW.seq (CW.region ?_))
  refine OW.rv (RV.loadW rfl (List.Mem.tail _ (List.Mem.head _)) rfl rfl rfl rfl ((u8s_length _).trans Vector.length_toList)) rfl ?_
  refine OW.sv (SV.storeW rfl rfl rfl (u8s_one _) rfl ((u8s_length _).trans Vector.length_toList) ((u8s_length _).trans Vector.length_toList)) ?_
  refine OW.nil (QW.then_n (CW.ret ?_))
  have e0 := Option.some.inj hf
  subst e0
  refine QW.retG (rs := [.cell 4 27]) ([.agg (u8s w10.toList).toArray]) ((some b3, blk (u8s w10.toList) 27) :: (some b2, blk (u8s w10.toList) 27) :: []) rfl ?_ rfl ?_ ?_ _ (.inl rfl)
  ·exact ⟨⟨_, _, _, _, rfl, (List.Mem.head _), rfl, rfl, (congrArg some ((u8s_length _).trans Vector.length_toList).symm), rfl⟩, trivial⟩
  ·exact rfl
  ·exact (fun w m => m)
 ·skip
  refine CW.block ?_
  refine CW.loopJ (fun k L' M' => ∃ n16 : Nat, ∃ w18 : Vector (BitVec 8) 256, (bloom_Add.l1 x5 k n16 w18) = some q8 ∧ (n16 ≤ 9223372036854775807) ∧ L' = [(2, ptr (some b2) 0), (4, ptr (some b3) 0), (8, .agg (i64s x5.toList).toArray), (9, .int .i64 ((n16 : Nat) : Int))] ∧ M' = ((some b3, blk (u8s (Vector.replicate 256 0#8).toList) 27) :: (some b2, blk (u8s w18.toList) 27) :: ([] ++ N))) (k0 := (3 - 0 + 2)) ⟨0, a0, hq9, (by omega), rfl, rfl⟩ ⟨rfl, rfl, rfl, rfl, trivial⟩ (fun w m => m.pick [0, 1] 2 rfl rfl) ?_
  clear hq9
  rintro k19 L22 M23 ⟨n16, w18, hl20, b17, e24, e25⟩
  rw [e24, e25]
  clear e24 e25 L22 M23
  rcases k19 with _ | k19
  ·rw [bloom_Add.l1] at hl20; cases hl20
  rw [bloom_Add.l1] at hl20
  refine CW.seq (CW.region ?_)
  refine OW.rv (RV.lss rfl rfl) rfl ?_
  refine OW.slot (.bool (decide (n16 < 3))) (congrArg Value.bool (decide_eq_decide.2 (by omega))) ?_
  refine OW.nil (QW.then_n (CW.seq ?_))
  by_cases h26 : n16 < 3
  ·replace hl20 := if_t hl20 h26
   refine CW.is_t rfl (decide_eq_true h26) ?_
   refine CW.skip (QW.then_n (CW.seq (CW.block (CW.seq (CW.region ?_)))))
   obtain ⟨x27, hx28, hl20⟩ := some_bind hl20
   have hl29 := (Vector.getElem?_eq_some_iff.1 hx28).1
   refine OW.rv (RV.indexV (n16) rfl rfl rfl rfl rfl rfl rfl (by omega) (i64s_at (vat hx28))) rfl ?_
   refine OW.rv (RV.assign rfl) rfl ?_
   refine OW.nil (QW.then_n (CW.region ?_))
   refine OW.rv (RV.loadW rfl (List.Mem.tail _ (List.Mem.head _)) rfl rfl rfl rfl ((u8s_length _).trans Vector.length_toList)) rfl ?_
   refine OW.rv (RV.move rfl) rfl ?_
   obtain ⟨g30, hl20⟩ := some_if hl20
   obtain ⟨x32, hx31, hl20⟩ := some_bind hl20
   refine OW.callG Tryd.call104 rfl (bloom_set_does w0 (More w0 Φ []) ((some b3, blk (u8s (Vector.replicate 256 0#8).toList) 27) :: (some b2, blk (u8s w18.toList) 27) :: ([] ++ N)) (fun w m => More.of hΦ 2 m rfl) w18 x27 x32 (by omega) hx31) rfl rfl ?_
   rintro _ G33 rfl
   refine OW.mem (M' := ((some b3, blk (u8s (Vector.replicate 256 0#8).toList) 27) :: (some b2, blk (u8s w18.toList) 27) :: ([] ++ N))) (fun w m => m.appR) ?_
   refine OW.rot1 ?_
   refine OW.sv (SV.storeW rfl rfl rfl (u8s_one _) rfl ((u8s_length _).trans Vector.length_toList) ((u8s_length _).trans Vector.length_toList)) ?_
   refine OW.nil (QW.block_n (QW.then_n (CW.region ?_)))
   refine OW.rv (RV.add rfl rfl (by omega)) rfl ?_
   refine OW.slot (.int .i64 (((n16 + 1) : Nat) : Int)) (by first | rfl | (congr 1) | (congr 1; omega)) ?_
   refine OW.rv (RV.move rfl) rfl ?_
   refine OW.nil ?_
   exact QW.againJ (k' := k19) (Nat.lt_succ_self _) ⟨(n16 + 1), x32, hl20, (by omega), rfl, rfl⟩ ⟨rfl, rfl, rfl, rfl, trivial⟩ (fun w m => m.pick [1, 0] 2 rfl rfl)
  ·replace hl20 := if_f hl20 h26
   refine CW.is_f rfl (decide_eq_false h26) ?_
   refine CW.exit (QW.then_x (QW.then_x (QW.block_xe ?_)))
   exact QW.join ⟨w18, (Option.some.inj hl20).symm, rfl, rfl⟩ ⟨rfl, rfl, trivial⟩ (fun w m => m.pick [0, 1] 2 rfl rfl)
theorem bloom_Of_does (w0 : World) (Φ : Ctx) (N : List Ent) (hΦ : ∀ w, Mem w0 w N → Φ w) (A0_ : Option Addr) (c0_ : Nat) (cs0_ : List Value) (a0 : List (List (BitVec 8))) (res0 : Vector (BitVec 8) 256) (va0 : View Φ A0_ a0.length c0_ 1 cs0_) (ha0 : Reps (BsRd Φ) cs0_ a0) (hg2 : View Φ (some ⟨2, 0, none⟩) 2 2 1 (u8s firstL)) (hf : bloom_Of a0 = some res0) : DoesG Tryd.prog 51 [.slice A0_ a0.length c0_] w0 [] N (fun v G => v = .agg (u8s res0.toList).toArray) := by
 unfold bloom_Of at hf
 replace va0 := va0.mono (Ψ := More w0 Φ []) (fun w q => q.1)
 replace hg2 := hg2.mono (Ψ := More w0 Φ []) (fun w q => q.1)
 replace ha0 := ha0.mono (BsRd.mono (Ψ := More w0 Φ []) (fun w q => q.1))
 have m1 := va0.mx
 refine DoesG.enter Tryd.func51 rfl Tryd.ntmps51 rfl (M := (([] ++ N))) rfl ?_
 refine CW.seq (CW.region ?_)
 refine OW.alloc (l := (u8s (Vector.replicate 256 0#8).toList)) rfl (by rw [Vector.toList_replicate, ← u8s_rep']; rfl) rfl (fun b2 => ?_)
 refine OW.nil (QW.then_n (CW.seq (CW.region ?_)))
 refine OW.alloc (l := (u8s (Vector.replicate 256 0#8).toList)) rfl (by rw [Vector.toList_replicate, ← u8s_rep']; rfl) rfl (fun b3 => ?_)
 refine OW.nil (QW.then_n (CW.seq (CW.seq (CW.region ?_))))
 refine OW.rv (RV.move rfl) rfl ?_
 refine OW.rv (RV.len rfl rfl) rfl ?_
 refine OW.rv (RV.move rfl) rfl ?_
 refine OW.nil (QW.then_n ?_)
 obtain ⟨q4, hq5, hf⟩ := some_bind hf
 refine CW.cutJ (fun L' M' => ∃ w6 : Vector (BitVec 8) 256, q4 = w6 ∧ L' = [(2, ptr (some b2) 0), (3, ptr (some b3) 0)] ∧ M' = ((some b3, blk (u8s w6.toList) 27) :: (some b2, blk (u8s (Vector.replicate 256 0#8).toList) 27) :: ([] ++ N))) ?_ ?_
 ·rintro L8 M9 ⟨w6, e7, e10, e11⟩
  rw [e10, e11]
  clear e10 e11 L8 M9
  clear hq5
  rw [e7] at hf
  clear e7
  try dsimp only at hf
  refine QW.then_n (CW.seq (CW.region ?_))
  refine OW.rv (RV.loadW rfl (List.Mem.head _) rfl rfl rfl rfl ((u8s_length _).trans Vector.length_toList)) rfl ?_
  refine OW.rot1 ?_
  refine OW.sv (SV.storeW rfl rfl rfl (u8s_one _) rfl ((u8s_length _).trans Vector.length_toList) ((u8s_length _).trans Vector.length_toList)) ?_
  refine OW.nil (QW.then_n (CW.ret ?_))
  have e0 := Option.some.inj hf
  subst e0
  refine QW.retG (rs := [.cell 2 27]) ([.agg (u8s w6.toList).toArray]) ((some b2, blk (u8s w6.toList) 27) :: (some b3, blk (u8s w6.toList) 27) :: []) rfl ?_ rfl ?_ ?_ _ (.inl rfl)
  ·exact ⟨⟨_, _, _, _, rfl, (List.Mem.head _), rfl, rfl, (congrArg some ((u8s_length _).trans Vector.length_toList).symm), rfl⟩, trivial⟩
  ·exact rfl
  ·exact (fun w m => m)
 ·skip
  refine CW.block ?_
  refine CW.loopJ (fun k L' M' => ∃ n12 : Nat, ∃ w14 : Vector (BitVec 8) 256, (bloom_Of.l1 a0 k n12 w14) = some q4 ∧ (n12 ≤ 9223372036854775807) ∧ L' = [(2, ptr (some b2) 0), (3, ptr (some b3) 0), (6, .slice A0_ a0.length c0_), (7, .int .i64 ((a0.length : Nat) : Int)), (8, .int .i64 ((n12 : Nat) : Int))] ∧ M' = ((some b3, blk (u8s w14.toList) 27) :: (some b2, blk (u8s (Vector.replicate 256 0#8).toList) 27) :: ([] ++ N))) (k0 := (a0.length - 0 + 2)) ⟨0, (Vector.replicate 256 0#8), hq5, (by omega), rfl, rfl⟩ ⟨rfl, rfl, rfl, rfl, rfl, trivial⟩ (fun w m => m.pick [0, 1] 2 rfl rfl) ?_
  clear hq5
  rintro k15 L18 M19 ⟨n12, w14, hl16, b13, e20, e21⟩
  rw [e20, e21]
  clear e20 e21 L18 M19
  rcases k15 with _ | k15
  ·rw [bloom_Of.l1] at hl16; cases hl16
  rw [bloom_Of.l1] at hl16
  refine CW.seq (CW.region ?_)
  refine OW.rv (RV.lss rfl rfl) rfl ?_
  refine OW.slot (.bool (decide (n12 < a0.length))) (congrArg Value.bool (decide_eq_decide.2 (by omega))) ?_
  refine OW.nil (QW.then_n (CW.seq ?_))
  by_cases h22 : n12 < a0.length
  ·replace hl16 := if_t hl16 h22
   refine CW.is_t rfl (decide_eq_true h22) ?_
   refine CW.skip (QW.then_n (CW.seq (CW.block (CW.seq (CW.region ?_)))))
   obtain ⟨x23, hx24, hl16⟩ := some_bind hl16
   have hl25 := lt_of_at hx24
   refine OW.rv (RV.idx_r (n12) rfl rfl rfl rfl rfl (va0.isSome (by decide) hl25) (by omega)) rfl ?_
   obtain ⟨cs26, h27, h28⟩ := ha0.get BsRd.len hx24
   obtain ⟨A29, c30, e32, v31⟩ := h27
   subst e32
   have m33 := v31.mx
   refine OW.rv (RV.load_at rfl rfl rfl (fun w m => by have := va0.load (More.of hΦ 2 m rfl) h28 0 _ rfl; simpa [Addr.add] using this)) rfl ?_
   refine OW.rv (RV.assign rfl) rfl ?_
   refine OW.nil (QW.then_n (CW.region ?_))
   refine OW.rv (RV.loadW rfl (List.Mem.head _) rfl rfl rfl rfl ((u8s_length _).trans Vector.length_toList)) rfl ?_
   refine OW.rv (RV.move rfl) rfl ?_
   obtain ⟨x35, hx34, hl16⟩ := some_bind hl16
   refine OW.callG Tryd.call78 rfl (bloom_Add_does w0 (More w0 Φ []) ((some b3, blk (u8s w14.toList) 27) :: (some b2, blk (u8s (Vector.replicate 256 0#8).toList) 27) :: ([] ++ N)) (fun w m => More.of hΦ 2 m rfl) w14 A29 c30 x23 x35 v31 hg2 hx34) rfl rfl ?_
   rintro _ G36 rfl
   refine OW.mem (M' := ((some b3, blk (u8s w14.toList) 27) :: (some b2, blk (u8s (Vector.replicate 256 0#8).toList) 27) :: ([] ++ N))) (fun w m => m.appR) ?_
   refine OW.sv (SV.storeW rfl rfl rfl (u8s_one _) rfl ((u8s_length _).trans Vector.length_toList) ((u8s_length _).trans Vector.length_toList)) ?_
   refine OW.nil (QW.block_n (QW.then_n (CW.region ?_)))
   refine OW.rv (RV.add rfl rfl (by omega)) rfl ?_
   refine OW.slot (.int .i64 (((n12 + 1) : Nat) : Int)) (by first | rfl | (congr 1) | (congr 1; omega)) ?_
   refine OW.rv (RV.move rfl) rfl ?_
   refine OW.nil ?_
   exact QW.againJ (k' := k15) (Nat.lt_succ_self _) ⟨(n12 + 1), x35, hl16, (by omega), rfl, rfl⟩ ⟨rfl, rfl, rfl, rfl, rfl, trivial⟩ (fun w m => m.pick [0, 1] 2 rfl rfl)
  ·replace hl16 := if_f hl16 h22
   refine CW.is_f rfl (decide_eq_false h22) ?_
   refine CW.exit (QW.then_x (QW.then_x (QW.block_xe ?_)))
   exact QW.join ⟨w14, (Option.some.inj hl16).symm, rfl, rfl⟩ ⟨rfl, rfl, trivial⟩ (fun w m => m.pick [0, 1] 2 rfl rfl)
theorem receipt_BloomOf_does (w0 : World) (Φ : Ctx) (N : List Ent) (hΦ : ∀ w, Mem w0 w N → Φ w) (A0_ : Option Addr) (c0_ : Nat) (cs0_ : List Value) (a0 : List (Log)) (res0 : Vector (BitVec 8) 256) (va0 : View Φ A0_ a0.length c0_ 22 cs0_) (ha0 : Reps (LogRd Φ) cs0_ a0) (hg2 : View Φ (some ⟨2, 0, none⟩) 2 2 1 (u8s firstL)) (hf : receipt_BloomOf a0 = some res0) : DoesG Tryd.prog 28 [.slice A0_ a0.length c0_] w0 [] N (fun v G => v = .agg (u8s res0.toList).toArray) := by
 unfold receipt_BloomOf at hf
 replace va0 := va0.mono (Ψ := More w0 Φ []) (fun w q => q.1)
 replace hg2 := hg2.mono (Ψ := More w0 Φ []) (fun w q => q.1)
 replace ha0 := ha0.mono (LogRd.mono (Ψ := More w0 Φ []) (fun w q => q.1))
 have m1 := va0.mx
 refine DoesG.enter Tryd.func28 rfl Tryd.ntmps28 rfl (M := (([] ++ N))) rfl ?_
 refine CW.seq (CW.region ?_)
 refine OW.alloc (l := (u8s (Vector.replicate 256 0#8).toList)) rfl (by rw [Vector.toList_replicate, ← u8s_rep']; rfl) rfl (fun b2 => ?_)
 refine OW.nil (QW.then_n (CW.seq (CW.region ?_)))
 refine OW.rv (RV.assign rfl) rfl ?_
 refine OW.nil (QW.then_n (CW.seq (CW.seq (CW.region ?_))))
 refine OW.rv (RV.move rfl) rfl ?_
 refine OW.rv (RV.len rfl rfl) rfl ?_
 refine OW.rv (RV.move rfl) rfl ?_
 refine OW.nil (QW.then_n ?_)
 obtain ⟨q3, hq4, hf⟩ := some_bind hf
 refine CW.cutJ (fun L' M' => ∃ l5 : List (List (BitVec 8)), ∃ cs6 : List Value, ∃ ob8 : Option Nat, ∃ c9 : Nat, ∃ r10 : List Value, q3 = l5 ∧ (Reps (BsRd (More w0 Φ [])) cs6 l5) ∧ (OwnS ob8 l5.length c9 1 cs6 r10) ∧ L' = [(2, ptr (some b2) 0), (3, sl ob8 0 l5.length c9)] ∧ M' = ((ob8, blk (cs6 ++ r10) 61) :: (some b2, blk (u8s (Vector.replicate 256 0#8).toList) 27) :: ([] ++ N))) ?_ ?_
 ·rintro L13 M14 ⟨l5, cs6, ob8, c9, r10, e12, h7, o11, e15, e16⟩
  rw [e15, e16]
  clear e15 e16 L13 M14
  clear hq4
  rw [e12] at hf
  clear e12
  try dsimp only at hf
  have m17 := o11.mx
  refine QW.then_n (CW.seq (CW.region ?_))
  refine OW.rv (RV.move rfl) rfl ?_
  refine OW.mem (M' := (some b2, blk (u8s (Vector.replicate 256 0#8).toList) 27) :: (((ob8, blk (cs6 ++ r10) 61) :: []) ++ N)) (fun w m => m.pick [1, 0] 2 rfl rfl) ?_
  have gq1 : ∀ w, More w0 Φ ((ob8, blk (cs6 ++ r10) 61) :: []) w → More w0 Φ [] w := fun w q => More.mono (fun w m => (m).tail) q
  replace h7 := h7.mono (BsRd.mono gq1)
  replace hg2 := hg2.mono gq1
  have v18 : View (More w0 Φ ((ob8, blk (cs6 ++ r10) 61) :: [])) ((ob8).map fun k => ⟨k, 0, none⟩) l5.length c9 1 cs6 := o11.view (by decide) (fun w q => q.2.sublist (List.singleton_sublist.2 (List.mem_cons_self ..)))
  obtain ⟨x20, hx19, hf⟩ := some_bind hf
  refine OW.callG Tryd.call51 rfl (bloom_Of_does w0 (More w0 Φ ((ob8, blk (cs6 ++ r10) 61) :: [])) ((some b2, blk (u8s (Vector.replicate 256 0#8).toList) 27) :: (((ob8, blk (cs6 ++ r10) 61) :: []) ++ N)) (fun w m => More.of hΦ 1 m rfl) ((ob8).map fun k => ⟨k, 0, none⟩) c9 cs6 l5 x20 v18 h7 hg2 hx19) rfl rfl ?_
  rintro _ G21 rfl
  refine OW.mem (M' := ((some b2, blk (u8s (Vector.replicate 256 0#8).toList) 27) :: (((ob8, blk (cs6 ++ r10) 61) :: []) ++ N))) (fun w m => m.appR) ?_
  refine OW.sv (SV.storeW rfl rfl rfl (u8s_one _) rfl ((u8s_length _).trans Vector.length_toList) ((u8s_length _).trans Vector.length_toList)) ?_
  refine OW.nil (QW.then_n (CW.ret ?_))
  have e0 := Option.some.inj hf
  subst e0
  refine QW.retG (rs := [.cell 2 27]) ([.agg (u8s x20.toList).toArray]) ((some b2, blk (u8s x20.toList) 27) :: ((ob8, blk (cs6 ++ r10) 61) :: [])) rfl ?_ rfl ?_ ?_ _ (.inl rfl)
  ·exact ⟨⟨_, _, _, _, rfl, (List.Mem.head _), rfl, rfl, (congrArg some ((u8s_length _).trans Vector.length_toList).symm), rfl⟩, trivial⟩
  ·exact rfl
  ·exact (fun w m => m)
 ·skip
  refine CW.block ?_
  refine CW.mem (M' := ((none, blk ([] ++ []) 61) :: (some b2, blk (u8s (Vector.replicate 256 0#8).toList) 27) :: ([] ++ N))) (fun w m => m.nil_ent _) ?_
  refine CW.loopJ (fun k L' M' => ∃ l23 : List (List (BitVec 8)), ∃ n30 : Nat, ∃ cs24 : List Value, ∃ ob26 : Option Nat, ∃ c27 : Nat, ∃ r28 : List Value, (receipt_BloomOf.l1 a0 k l23 n30) = some q3 ∧ (Reps (BsRd (More w0 Φ [])) cs24 l23) ∧ (OwnS ob26 l23.length c27 1 cs24 r28) ∧ (n30 ≤ 9223372036854775807) ∧ L' = [(0, .slice A0_ a0.length c0_), (2, ptr (some b2) 0), (3, sl ob26 0 l23.length c27), (7, .int .i64 ((a0.length : Nat) : Int)), (8, .int .i64 ((n30 : Nat) : Int))] ∧ M' = ((ob26, blk (cs24 ++ r28) 61) :: (some b2, blk (u8s (Vector.replicate 256 0#8).toList) 27) :: ([] ++ N))) (k0 := (a0.length - 0 + 2)) ⟨([] : List (List (BitVec 8))), 0, [], none, 0, [], hq4, Reps.nil, OwnS.nil, (by omega), rfl, rfl⟩ ⟨rfl, rfl, rfl, rfl, rfl, trivial⟩ (fun w m => m.pick [0, 1] 2 rfl rfl) ?_
  clear hq4
  rintro k32 L35 M36 ⟨l23, n30, cs24, ob26, c27, r28, hl33, h25, o29, b31, e37, e38⟩
  rw [e37, e38]
  clear e37 e38 L35 M36
  rcases k32 with _ | k32
  ·rw [receipt_BloomOf.l1] at hl33; cases hl33
  rw [receipt_BloomOf.l1] at hl33
  have m39 := o29.mx
  refine CW.seq (CW.region ?_)
  refine OW.rv (RV.lss rfl rfl) rfl ?_
  refine OW.slot (.bool (decide (n30 < a0.length))) (congrArg Value.bool (decide_eq_decide.2 (by omega))) ?_
  refine OW.nil (QW.then_n (CW.seq ?_))
  by_cases h40 : n30 < a0.length
  ·replace hl33 := if_t hl33 h40
   refine CW.is_t rfl (decide_eq_true h40) ?_
   refine CW.skip (QW.then_n (CW.seq (CW.block (CW.seq (CW.region ?_)))))
   refine OW.rv (RV.move rfl) rfl ?_
   refine OW.rv (RV.assign rfl) rfl ?_
   refine OW.nil (QW.then_n (CW.seq (CW.region ?_)))
   refine OW.rv (RV.move rfl) rfl ?_
   refine OW.rv (RV.move rfl) rfl ?_
   refine OW.rv (RV.move rfl) rfl ?_
   obtain ⟨x41, hx42, hl33⟩ := some_bind hl33
   have hl43 := lt_of_at hx42
   refine OW.rv (RV.idx_rs (n30) rfl rfl rfl rfl rfl (va0.isSome (by decide) hl43) (by omega)) rfl ?_
   obtain ⟨cs44, h45, h46⟩ := ha0.get LogRd.len hx42
   have h56 := h45
   obtain ⟨A47, c48, cs50, A52, c53, e55, v49, h51, v54⟩ := LogRd.opn h45
   subst e55
   have m57 := v49.mx
   have m58 := v54.mx
   refine OW.rv (RV.field_at rfl rfl rfl rfl) rfl ?_
   refine OW.rv (RV.arr_all rfl rfl rfl) rfl ?_
   refine OW.slot (.slice (some ((((A0_).getD default).add (n30 * 22)).add 0)) x41.address.toList.length 20) (by rw [Vector.length_toList]; try rfl) ?_
   have v59 : View (More w0 Φ []) (some ((((A0_).getD default).add (n30 * 22)).add 0)) x41.address.toList.length 20 1 (u8s x41.address.toList) := View.part va0 h46 (LogC.C_address_all (⟨x41.address, .slice A47 x41.topics.length c48, .slice A52 x41.data.length c53⟩ : LogC)) (by decide)
   refine OW.ofN (NV.bs1 rfl rfl rfl rfl rfl rfl) rfl (fun b60 => ?_)
   have h63 : Reps (BsRd (More w0 Φ [])) (([.slice (some ((((A0_).getD default).add (n30 * 22)).add 0)) x41.address.toList.length 20] : List Value)) [x41.address.toList] := Reps.one (BsRd.mk v59)
   refine OW.mem (M' := (((some b60), blk ((([.slice (some ((((A0_).getD default).add (n30 * 22)).add 0)) x41.address.toList.length 20] : List Value)) ++ []) 61) :: (ob26, blk (cs24 ++ r28) 61) :: (some b2, blk (u8s (Vector.replicate 256 0#8).toList) 27) :: ([] ++ N))) (fun w m => m) ?_
   have o61 : OwnS (some b60) ([x41.address.toList] : List (List (BitVec 8))).length 1 1 (([.slice (some ((((A0_).getD default).add (n30 * 22)).add 0)) x41.address.toList.length 20] : List Value)) [] := ⟨by simp [BsRd], by simp [BsRd], (fun h => nomatch h), by simp⟩
   have mx_o61 := o61.mx
   refine OW.slot (sl (some b60) 0 ([x41.address.toList] : List (List (BitVec 8))).length 1) (rfl) ?_
   refine OW.rot1 ?_
   obtain ⟨g64, hl33⟩ := some_if hl33
   have h69 := h25.app h63
   refine OW.appendOwn (s := 1) rfl rfl rfl rfl rfl rfl o29 (fun w m => m.rd0 (List.Mem.tail _ (List.Mem.head _)) (fun e => o61.nilc (by decide) e)) o61.n (h63.cell1 BsRd.one) (o61.zeroO (by decide)) (by decide) (by decide) (by first | omega | (simp only [i61, List.length_nil]; omega)) rfl rfl ((l23 ++ ([x41.address.toList] : List (List (BitVec 8)))).length) (cs24 ++ (([.slice (some ((((A0_).getD default).add (n30 * 22)).add 0)) x41.address.toList.length 20] : List Value))) (List.length_append ..).symm rfl (fun ob65 r66 c67 o68 => ?_)
   have m70 := o68.mx
   refine OW.rv (RV.assign rfl) rfl ?_
   refine OW.nil (QW.then_n (CW.seq (CW.region ?_)))
   refine OW.rv (RV.move rfl) rfl ?_
   refine OW.rv (RV.move rfl) rfl ?_
   obtain ⟨x71, hx72, hl33⟩ := some_bind hl33
   have hl73 := lt_of_at hx72
   refine OW.rv (RV.idx_rs (n30) rfl rfl rfl rfl rfl (va0.isSome (by decide) hl73) (by omega)) rfl ?_
   obtain ⟨cs74, h75, h76⟩ := ha0.get LogRd.len hx72
   have h86 := h75
   obtain ⟨A77, c78, cs80, A82, c83, e85, v79, h81, v84⟩ := LogRd.opn h75
   subst e85
   have m87 := v79.mx
   have m88 := v84.mx
   refine OW.rv (RV.field_at rfl rfl rfl rfl) rfl ?_
   refine OW.rv (RV.load_at rfl rfl rfl (fun w m => va0.load_fld (More.of hΦ 3 m rfl) h76 (LogC.C_topics (⟨x71.address, .slice A77 x71.topics.length c78, .slice A82 x71.data.length c83⟩ : LogC)))) rfl ?_
   refine OW.rv (RV.len rfl rfl) rfl ?_
   refine OW.rv (RV.move rfl) rfl ?_
   refine OW.nil (QW.then_n ?_)
   obtain ⟨q89, hq90, hl33⟩ := some_bind hl33
   refine CW.cutJ (fun L' M' => ∃ l91 : List (List (BitVec 8)), ∃ cs92 : List Value, ∃ ob94 : Option Nat, ∃ c95 : Nat, ∃ r96 : List Value, q89 = l91 ∧ (Reps (BsRd (More w0 Φ [])) cs92 l91) ∧ (OwnS ob94 l91.length c95 1 cs92 r96) ∧ L' = [(0, .slice A0_ a0.length c0_), (2, ptr (some b2) 0), (3, sl ob94 0 l91.length c95), (7, .int .i64 ((a0.length : Nat) : Int)), (8, .int .i64 ((n30 : Nat) : Int))] ∧ M' = ((ob94, blk (cs92 ++ r96) 61) :: (some b2, blk (u8s (Vector.replicate 256 0#8).toList) 27) :: ([] ++ N))) ?_ ?_
   ·rintro L99 M100 ⟨l91, cs92, ob94, c95, r96, e98, h93, o97, e101, e102⟩
    rw [e101, e102]
    clear e101 e102 L99 M100
    clear hq90
    rw [e98] at hl33
    clear e98
    try dsimp only at hl33
    have m103 := o97.mx
    refine QW.block_n (QW.then_n (CW.region ?_))
    refine OW.rv (RV.add rfl rfl (by omega)) rfl ?_
    refine OW.slot (.int .i64 (((n30 + 1) : Nat) : Int)) (by first | rfl | (congr 1) | (congr 1; omega)) ?_
    refine OW.rv (RV.move rfl) rfl ?_
    refine OW.nil ?_
    exact QW.againJ (k' := k32) (Nat.lt_succ_self _) ⟨l91, (n30 + 1), cs92, ob94, c95, r96, hl33, h93, o97, (by omega), rfl, rfl⟩ ⟨rfl, rfl, rfl, rfl, rfl, trivial⟩ (fun w m => m.pick [0, 1] 2 rfl rfl)
   ·skip
    refine CW.block ?_
    refine CW.loopJ (fun k L' M' => ∃ l104 : List (List (BitVec 8)), ∃ n111 : Nat, ∃ cs105 : List Value, ∃ ob107 : Option Nat, ∃ c108 : Nat, ∃ r109 : List Value, (receipt_BloomOf.l2 a0 n30 x71 k l104 n111) = some q89 ∧ (Reps (BsRd (More w0 Φ [])) cs105 l104) ∧ (OwnS ob107 l104.length c108 1 cs105 r109) ∧ (n111 ≤ 9223372036854775807) ∧ L' = [(0, .slice A0_ a0.length c0_), (2, ptr (some b2) 0), (3, sl ob107 0 l104.length c108), (4, .int .i64 ((n30 : Nat) : Int)), (7, .int .i64 ((a0.length : Nat) : Int)), (8, .int .i64 ((n30 : Nat) : Int)), (24, .int .i64 ((x71.topics.length : Nat) : Int)), (25, .int .i64 ((n111 : Nat) : Int))] ∧ M' = ((ob107, blk (cs105 ++ r109) 61) :: (some b2, blk (u8s (Vector.replicate 256 0#8).toList) 27) :: ([] ++ N))) (k0 := (x71.topics.length - 0 + 2)) ⟨(l23 ++ ([x41.address.toList] : List (List (BitVec 8)))), 0, (cs24 ++ (([.slice (some ((((A0_).getD default).add (n30 * 22)).add 0)) x41.address.toList.length 20] : List Value))), ob65, c67, r66, hq90, h69, o68, (by omega), rfl, rfl⟩ ⟨rfl, rfl, rfl, rfl, rfl, rfl, rfl, rfl, trivial⟩ (fun w m => m.pick [0, 2] 3 rfl rfl) ?_
    clear hq90
    rintro k113 L116 M117 ⟨l104, n111, cs105, ob107, c108, r109, hl114, h106, o110, b112, e118, e119⟩
    rw [e118, e119]
    clear e118 e119 L116 M117
    rcases k113 with _ | k113
    ·rw [receipt_BloomOf.l2] at hl114; cases hl114
    rw [receipt_BloomOf.l2] at hl114
    have m120 := o110.mx
    refine CW.seq (CW.region ?_)
    refine OW.rv (RV.lss rfl rfl) rfl ?_
    refine OW.slot (.bool (decide (n111 < x71.topics.length))) (congrArg Value.bool (decide_eq_decide.2 (by omega))) ?_
    refine OW.nil (QW.then_n (CW.seq ?_))
    by_cases h121 : n111 < x71.topics.length
    ·replace hl114 := if_t hl114 h121
     refine CW.is_t rfl (decide_eq_true h121) ?_
     refine CW.skip (QW.then_n (CW.seq (CW.block (CW.seq (CW.region ?_)))))
     refine OW.rv (RV.move rfl) rfl ?_
     refine OW.rv (RV.assign rfl) rfl ?_
     refine OW.nil (QW.then_n (CW.region ?_))
     refine OW.rv (RV.move rfl) rfl ?_
     refine OW.rv (RV.move rfl) rfl ?_
     refine OW.rv (RV.move rfl) rfl ?_
     obtain ⟨x122, hx123, hl114⟩ := some_bind hl114
     have hl124 := lt_of_at hx123
     refine OW.rv (RV.idx_rs (n30) rfl rfl rfl rfl rfl (va0.isSome (by decide) hl124) (by omega)) rfl ?_
     obtain ⟨cs125, h126, h127⟩ := ha0.get LogRd.len hx123
     have h137 := h126
     obtain ⟨A128, c129, cs131, A133, c134, e136, v130, h132, v135⟩ := LogRd.opn h126
     subst e136
     have m138 := v130.mx
     have m139 := v135.mx
     refine OW.rv (RV.field_at rfl rfl rfl rfl) rfl ?_
     refine OW.rv (RV.load_at rfl rfl rfl (fun w m => va0.load_fld (More.of hΦ 2 m rfl) h127 (LogC.C_topics (⟨x122.address, .slice A128 x122.topics.length c129, .slice A133 x122.data.length c134⟩ : LogC)))) rfl ?_
     refine OW.rv (RV.move rfl) rfl ?_
     obtain ⟨x140, hx141, hl114⟩ := some_bind hl114
     have hl142 := lt_of_at hx141
     refine OW.rv (RV.idx_rs (n111) rfl rfl rfl rfl rfl (v130.isSome (by decide) hl142) (by omega)) rfl ?_
     obtain ⟨cs143, h144, h145⟩ := h132.get Ar8Rd.len hx141
     have h144a := h144
     subst h144a
     refine OW.rv (RV.arr_all rfl rfl rfl) rfl ?_
     refine OW.slot (.slice (some (((A128).getD default).add (n111 * 32))) x140.toList.length 32) (by rw [Vector.length_toList]; try rfl) ?_
     have v146 : View (More w0 Φ []) (some (((A128).getD default).add (n111 * 32))) x140.toList.length 32 1 (u8s x140.toList) := View.elem v130 h145 (by decide)
     refine OW.ofN (NV.bs1 rfl rfl rfl rfl rfl rfl) rfl (fun b147 => ?_)
     have h150 : Reps (BsRd (More w0 Φ [])) (([.slice (some (((A128).getD default).add (n111 * 32))) x140.toList.length 32] : List Value)) [x140.toList] := Reps.one (BsRd.mk v146)
     refine OW.mem (M' := (((some b147), blk ((([.slice (some (((A128).getD default).add (n111 * 32))) x140.toList.length 32] : List Value)) ++ []) 61) :: (ob107, blk (cs105 ++ r109) 61) :: (some b2, blk (u8s (Vector.replicate 256 0#8).toList) 27) :: ([] ++ N))) (fun w m => m) ?_
     have o148 : OwnS (some b147) ([x140.toList] : List (List (BitVec 8))).length 1 1 (([.slice (some (((A128).getD default).add (n111 * 32))) x140.toList.length 32] : List Value)) [] := ⟨by simp [BsRd], by simp [BsRd], (fun h => nomatch h), by simp⟩
     have mx_o148 := o148.mx
     refine OW.slot (sl (some b147) 0 ([x140.toList] : List (List (BitVec 8))).length 1) (rfl) ?_
     refine OW.rot1 ?_
     obtain ⟨g151, hl114⟩ := some_if hl114
     have h156 := h106.app h150
     refine OW.appendOwn (s := 1) rfl rfl rfl rfl rfl rfl o110 (fun w m => m.rd0 (List.Mem.tail _ (List.Mem.head _)) (fun e => o148.nilc (by decide) e)) o148.n (h150.cell1 BsRd.one) (o148.zeroO (by decide)) (by decide) (by decide) (by first | omega | (simp only [i61, List.length_nil]; omega)) rfl rfl ((l104 ++ ([x140.toList] : List (List (BitVec 8)))).length) (cs105 ++ (([.slice (some (((A128).getD default).add (n111 * 32))) x140.toList.length 32] : List Value))) (List.length_append ..).symm rfl (fun ob152 r153 c154 o155 => ?_)
     have m157 := o155.mx
     refine OW.rv (RV.assign rfl) rfl ?_
     refine OW.nil (QW.block_n (QW.then_n (CW.region ?_)))
     refine OW.rv (RV.add rfl rfl (by omega)) rfl ?_
     refine OW.slot (.int .i64 (((n111 + 1) : Nat) : Int)) (by first | rfl | (congr 1) | (congr 1; omega)) ?_
     refine OW.rv (RV.move rfl) rfl ?_
     refine OW.nil ?_
     exact QW.againJ (k' := k113) (Nat.lt_succ_self _) ⟨(l104 ++ ([x140.toList] : List (List (BitVec 8)))), (n111 + 1), (cs105 ++ (([.slice (some (((A128).getD default).add (n111 * 32))) x140.toList.length 32] : List Value))), ob152, c154, r153, hl114, h156, o155, (by omega), rfl, rfl⟩ ⟨rfl, rfl, rfl, rfl, rfl, rfl, rfl, rfl, trivial⟩ (fun w m => m.pick [0, 2] 3 rfl rfl)
    ·replace hl114 := if_f hl114 h121
     refine CW.is_f rfl (decide_eq_false h121) ?_
     refine CW.exit (QW.then_x (QW.then_x (QW.block_xe ?_)))
     exact QW.join ⟨l104, cs105, ob107, c108, r109, (Option.some.inj hl114).symm, h106, o110, rfl, rfl⟩ ⟨rfl, rfl, rfl, rfl, rfl, trivial⟩ (fun w m => m.pick [0, 1] 2 rfl rfl)
  ·replace hl33 := if_f hl33 h40
   refine CW.is_f rfl (decide_eq_false h40) ?_
   refine CW.exit (QW.then_x (QW.then_x (QW.block_xe ?_)))
   exact QW.join ⟨l23, cs24, ob26, c27, r28, (Option.some.inj hl33).symm, h25, o29, rfl, rfl⟩ ⟨rfl, rfl, trivial⟩ (fun w m => m.pick [0, 1] 2 rfl rfl)
theorem waybilllaw17_num_does (w0 : World) (Φ : Ctx) (N : List Ent) (hΦ : ∀ w, Mem w0 w N → Φ w) (a0 : Int) (res0 : Int) (ba0 : -9223372036854775808 ≤ a0 ∧ a0 ≤ 9223372036854775807) (hf : waybilllaw17_num a0 = some res0) : DoesG Tryd.prog 15 [.int .i64 a0] w0 [] N (fun v G => (-9223372036854775808 ≤ res0 ∧ res0 ≤ 9223372036854775807) ∧ v = .int .i64 res0) := by
 unfold waybilllaw17_num at hf
 refine DoesG.enter Tryd.func15 rfl Tryd.ntmps15 rfl (M := (([] ++ N))) rfl ?_
 refine CW.seq (CW.region ?_)
 refine OW.rv (RV.assign rfl) rfl ?_
 refine OW.nil (QW.then_n (CW.seq (CW.region ?_)))
 refine OW.rv (RV.move rfl) rfl ?_
 refine OW.rv (RV.assign rfl) rfl ?_
 refine OW.nil (QW.then_n (CW.ret ?_))
 have e0 := Option.some.inj hf
 subst e0
 refine QW.retG (rs := [.tmp 2]) ([.int .i64 a0]) ([]) rfl ?_ rfl ?_ ?_ _ (.inl rfl)
 ·exact ⟨rfl, trivial⟩
 ·exact ⟨(by omega), rfl⟩
 ·exact (fun w m => m)
theorem receipt_Check_does (w0 : World) (Φ : Ctx) (N : List Ent) (hΦ : ∀ w, Mem w0 w N → Φ w) (cs0_ : List Value) (a0 : Rcpt) (res0 : Nat) (ha0 : RcptRd Φ cs0_ a0) (hg2 : View Φ (some ⟨2, 0, none⟩) 2 2 1 (u8s firstL)) (hf : receipt_Check a0 = some res0) : DoesG Tryd.prog 36 [.agg cs0_.toArray] w0 [] N (fun v G => (res0 ≤ 9223372036854775807) ∧ v = .int .i64 ((res0 : Nat) : Int)) := by
 unfold receipt_Check at hf
 replace hg2 := hg2.mono (Ψ := More w0 Φ []) (fun w q => q.1)
 replace ha0 := RcptRd.mono (Ψ := More w0 Φ []) (fun w q => q.1) _ _ ha0
 have h8 := ha0
 obtain ⟨A2, c3, cs5, e7, b1, v4, h6⟩ := RcptRd.opn ha0
 subst e7
 have m9 := v4.mx
 refine DoesG.enter Tryd.func36 rfl Tryd.ntmps36 rfl (M := (([] ++ N))) rfl ?_
 refine CW.seq (CW.region ?_)
 refine OW.boxA rfl rfl (fun b10 => ?_)
 refine OW.rv (RV.assign rfl) rfl ?_
 refine OW.nil (QW.then_n (CW.seq (CW.seq ?_)))
 obtain ⟨q11, hq12, hf⟩ := some_bind hf
 refine CW.cutJ (fun L' M' => ∃ p13 : Bool, q11 = p13 ∧ L' = [(1, ptr (some b10) 0), (12, .bool (p13))] ∧ M' = ((some b10, blk (⟨a0.kind, (a0.rooted), a0.root, a0.status, a0.used, a0.bloom, .slice A2 a0.logs.length c3⟩ : RcptC).C 30) :: ([] ++ N))) ?_ ?_
 ·rintro L15 M16 ⟨p13, e14, e17, e18⟩
  rw [e17, e18]
  clear e17 e18 L15 M16
  clear hq12
  rw [e14] at hf
  clear e14
  try dsimp only at hf
  refine QW.then_n ?_
  by_cases h19 : p13 = true
  ·replace hf := if_t hf h19
   refine CW.is_t rfl (h19) ?_
   refine CW.seq (CW.region ?_)
   refine OW.rv (RV.assign rfl) rfl ?_
   refine OW.nil (QW.then_n (CW.ret (QW.then_r ?_)))
   have e0 := Option.some.inj hf
   subst e0
   refine QW.retG (rs := [.tmp 2]) ([.int .i64 (170 : Int)]) ((some b10, blk (⟨a0.kind, (a0.rooted), a0.root, a0.status, a0.used, a0.bloom, .slice A2 a0.logs.length c3⟩ : RcptC).C 30) :: []) rfl ?_ rfl ?_ ?_ _ (.inl rfl)
   ·exact ⟨rfl, trivial⟩
   ·exact ⟨(by omega), rfl⟩
   ·exact (fun w m => m)
  ·replace hf := if_f hf h19
   refine CW.is_f rfl (Bool.eq_false_iff.2 h19) ?_
   refine CW.skip (QW.then_n (CW.seq (CW.seq ?_)))
   obtain ⟨q20, hq21, hf⟩ := some_bind hf
   refine CW.cutJ (fun L' M' => ∃ p22 : Bool, q20 = p22 ∧ L' = [(1, ptr (some b10) 0), (40, .bool (p22))] ∧ M' = ((some b10, blk (⟨a0.kind, (a0.rooted), a0.root, a0.status, a0.used, a0.bloom, .slice A2 a0.logs.length c3⟩ : RcptC).C 30) :: ([] ++ N))) ?_ ?_
   ·rintro L24 M25 ⟨p22, e23, e26, e27⟩
    rw [e26, e27]
    clear e26 e27 L24 M25
    clear hq21
    rw [e23] at hf
    clear e23
    try dsimp only at hf
    refine QW.then_n ?_
    by_cases h28 : p22 = true
    ·replace hf := if_t hf h28
     refine CW.is_t rfl (h28) ?_
     refine CW.seq (CW.region ?_)
     refine OW.rv (RV.assign rfl) rfl ?_
     refine OW.nil (QW.then_n (CW.ret (QW.then_r ?_)))
     have e0 := Option.some.inj hf
     subst e0
     refine QW.retG (rs := [.tmp 2]) ([.int .i64 (172 : Int)]) ((some b10, blk (⟨a0.kind, (a0.rooted), a0.root, a0.status, a0.used, a0.bloom, .slice A2 a0.logs.length c3⟩ : RcptC).C 30) :: []) rfl ?_ rfl ?_ ?_ _ (.inl rfl)
     ·exact ⟨rfl, trivial⟩
     ·exact ⟨(by omega), rfl⟩
     ·exact (fun w m => m)
    ·replace hf := if_f hf h28
     refine CW.is_f rfl (Bool.eq_false_iff.2 h28) ?_
     refine CW.skip (QW.then_n (CW.seq (CW.seq (CW.region ?_))))
     refine OW.rv (RV.field rfl rfl rfl rfl) rfl ?_
     refine OW.slot (ptr (some b10) 292) rfl ?_
     refine OW.rv (RV.load rfl (List.Mem.head _) rfl rfl rfl (RcptC.C_logs (⟨a0.kind, (a0.rooted), a0.root, a0.status, a0.used, a0.bloom, .slice A2 a0.logs.length c3⟩ : RcptC))) rfl ?_
     refine OW.rv (RV.len rfl rfl) rfl ?_
     refine OW.rv (RV.move rfl) rfl ?_
     refine OW.nil (QW.then_n ?_)
     obtain ⟨q29, hq30, hf⟩ := some_bind hf
     refine CW.cutJ (fun L' M' => q29 = Lp.go () ∧ L' = [(1, ptr (some b10) 0)] ∧ M' = ((some b10, blk (⟨a0.kind, (a0.rooted), a0.root, a0.status, a0.used, a0.bloom, .slice A2 a0.logs.length c3⟩ : RcptC).C 30) :: ([] ++ N))) ?_ ?_
     ·rintro L32 M33 ⟨e31, e34, e35⟩
      rw [e34, e35]
      clear e34 e35 L32 M33
      clear hq30
      rw [e31] at hf
      clear e31
      try dsimp only at hf
      refine QW.then_n (CW.seq (CW.seq ?_))
      refine CW.drawsU 6 mixed (by kernel_rfl) rfl ?_
      refine UW.rv 0 rfl (by kernel_rfl) rfl (RV.field rfl rfl rfl rfl) rfl ?_
      refine UW.slot (ptr (some b10) 36) rfl ?_
      refine UW.rv 1 rfl (by kernel_rfl) rfl (RV.loadAo rfl (List.Mem.head _) rfl rfl rfl rfl (RcptC.C_bloom_all (⟨a0.kind, (a0.rooted), a0.root, a0.status, a0.used, a0.bloom, .slice A2 a0.logs.length c3⟩ : RcptC)) ((u8s_length _).trans Vector.length_toList)) rfl ?_
      refine UW.rv 2 rfl (by kernel_rfl) rfl (RV.field rfl rfl rfl rfl) rfl ?_
      refine UW.slot (ptr (some b10) 292) rfl ?_
      refine UW.rv 3 rfl (by kernel_rfl) rfl (RV.load rfl (List.Mem.head _) rfl rfl rfl (RcptC.C_logs (⟨a0.kind, (a0.rooted), a0.root, a0.status, a0.used, a0.bloom, .slice A2 a0.logs.length c3⟩ : RcptC))) rfl ?_
      obtain ⟨x37, hx36, hf⟩ := some_bind hf
      refine UW.callG 4 rfl (by kernel_rfl) rfl Tryd.call28 rfl (fun N' hN' => receipt_BloomOf_does w0 (More w0 Φ []) N' (fun w m => More.of hΦ 1 (hN' w m) rfl) A2 c3 cs5 a0.logs x37 v4 h6 hg2 hx36) rfl ?_
      rintro _ G38 rfl
      refine UW.mem (M' := ((some b10, blk (⟨a0.kind, (a0.rooted), a0.root, a0.status, a0.used, a0.bloom, .slice A2 a0.logs.length c3⟩ : RcptC).C 30) :: ([] ++ N))) (fun w m => m.appR) ?_
      refine UW.rv 5 rfl (by kernel_rfl) rfl (RV.neA8 rfl rfl rfl rfl rfl rfl (Vector.length_toList) (Vector.length_toList)) rfl ?_
      refine UW.slot (.bool (!decide (a0.bloom = x37))) (congrArg (fun b => Value.bool (!b)) (decide_eq_decide.2 Vector.toList_inj)) ?_
      refine UW.nil (by kernel_rfl) ?_
      refine OW.nil (QW.then_n ?_)
      by_cases h40 : a0.bloom = x37
      ·replace hf := if_t hf h40
       refine CW.is_f rfl (congrArg (fun b => !b) (decide_eq_true h40)) ?_
       refine CW.skip (QW.then_n (CW.seq (CW.region ?_)))
       refine OW.rv (RV.assign rfl) rfl ?_
       refine OW.nil (QW.then_n (CW.ret ?_))
       have e0 := Option.some.inj hf
       subst e0
       refine QW.retG (rs := [.tmp 2]) ([.int .i64 (0 : Int)]) ((some b10, blk (⟨a0.kind, (a0.rooted), a0.root, a0.status, a0.used, a0.bloom, .slice A2 a0.logs.length c3⟩ : RcptC).C 30) :: []) rfl ?_ rfl ?_ ?_ _ (.inl rfl)
       ·exact ⟨rfl, trivial⟩
       ·exact ⟨(by omega), rfl⟩
       ·exact (fun w m => m)
      ·replace hf := if_f hf h40
       refine CW.is_t rfl (congrArg (fun b => !b) (decide_eq_false h40)) ?_
       refine CW.seq (CW.region ?_)
       refine OW.rv (RV.assign rfl) rfl ?_
       refine OW.nil (QW.then_n (CW.ret (QW.then_r ?_)))
       have e0 := Option.some.inj hf
       subst e0
       refine QW.retG (rs := [.tmp 2]) ([.int .i64 (173 : Int)]) ((some b10, blk (⟨a0.kind, (a0.rooted), a0.root, a0.status, a0.used, a0.bloom, .slice A2 a0.logs.length c3⟩ : RcptC).C 30) :: []) rfl ?_ rfl ?_ ?_ _ (.inl rfl)
       ·exact ⟨rfl, trivial⟩
       ·exact ⟨(by omega), rfl⟩
       ·exact (fun w m => m)
     ·skip
      refine CW.block ?_
      refine CW.loopJ (fun k L' M' => ∃ n41 : Nat, (receipt_Check.l1 a0 k n41) = some q29 ∧ (n41 ≤ 9223372036854775807) ∧ L' = [(1, ptr (some b10) 0), (42, .slice A2 a0.logs.length c3), (43, .int .i64 ((a0.logs.length : Nat) : Int)), (44, .int .i64 ((n41 : Nat) : Int))] ∧ M' = ((some b10, blk (⟨a0.kind, (a0.rooted), a0.root, a0.status, a0.used, a0.bloom, .slice A2 a0.logs.length c3⟩ : RcptC).C 30) :: ([] ++ N))) (k0 := (a0.logs.length - 0 + 2)) ⟨0, hq30, (by omega), rfl, rfl⟩ ⟨rfl, rfl, rfl, rfl, trivial⟩ (fun w m => m.pick [0] 1 rfl rfl) ?_
      clear hq30
      rintro k43 L46 M47 ⟨n41, hl44, b42, e48, e49⟩
      rw [e48, e49]
      clear e48 e49 L46 M47
      rcases k43 with _ | k43
      ·rw [receipt_Check.l1] at hl44; cases hl44
      rw [receipt_Check.l1] at hl44
      refine CW.seq (CW.region ?_)
      refine OW.rv (RV.lss rfl rfl) rfl ?_
      refine OW.slot (.bool (decide (n41 < a0.logs.length))) (congrArg Value.bool (decide_eq_decide.2 (by omega))) ?_
      refine OW.nil (QW.then_n (CW.seq ?_))
      by_cases h50 : n41 < a0.logs.length
      ·replace hl44 := if_t hl44 h50
       refine CW.is_t rfl (decide_eq_true h50) ?_
       refine CW.skip (QW.then_n (CW.seq (CW.block (CW.seq (CW.region ?_)))))
       obtain ⟨x51, hx52, hl44⟩ := some_bind hl44
       have hl53 := lt_of_at hx52
       refine OW.rv (RV.idx_rs (n41) rfl rfl rfl rfl rfl (v4.isSome (by decide) hl53) (by omega)) rfl ?_
       obtain ⟨cs54, h55, h56⟩ := h6.get LogRd.len hx52
       have h66 := h55
       obtain ⟨A57, c58, cs60, A62, c63, e65, v59, h61, v64⟩ := LogRd.opn h55
       subst e65
       have m67 := v59.mx
       have m68 := v64.mx
       refine OW.rv (RV.loadAs rfl rfl rfl rfl (fun w m => v4.load (More.of hΦ 1 m rfl) h56) (LogC.C_length _)) rfl ?_
       refine OW.alloc (l := (⟨(Vector.replicate 20 0#8), .slice none 0 0, .slice none 0 0⟩ : LogC).C) rfl (by kernel_rfl) rfl (fun b69 => ?_)
       refine OW.sv (SV.storeW rfl rfl rfl (LogC.C_one _ rfl rfl) rfl (LogC.C_length _) (LogC.C_length _)) ?_
       refine OW.nil (QW.then_n (CW.seq (CW.region ?_)))
       refine OW.rv (RV.field rfl rfl rfl rfl) rfl ?_
       refine OW.slot (ptr (some b69) 20) rfl ?_
       refine OW.rv (RV.load rfl (List.Mem.head _) rfl rfl rfl (LogC.C_topics (⟨x51.address, .slice A57 x51.topics.length c58, .slice A62 x51.data.length c63⟩ : LogC))) rfl ?_
       refine OW.rv (RV.len rfl rfl) rfl ?_
       refine OW.rv (RV.gtr rfl rfl) rfl ?_
       refine OW.slot (.bool (decide (4 < x51.topics.length))) (congrArg Value.bool (decide_eq_decide.2 (by omega))) ?_
       refine OW.nil (QW.then_n ?_)
       by_cases h70 : 4 < x51.topics.length
       ·replace hl44 := if_t hl44 h70
        refine CW.is_t rfl (decide_eq_true h70) ?_
        refine CW.seq (CW.region ?_)
        refine OW.rv (RV.assign rfl) rfl ?_
        refine OW.nil (QW.then_n (CW.ret (QW.block_r (QW.then_r (QW.then_r (QW.block_r (QW.then_r ?_)))))))
        have hc := Option.some.inj hl44
        subst hc
        try dsimp only at hf
        refine QW.then_r ?_
        have e0 := Option.some.inj hf
        subst e0
        refine QW.retG (rs := [.tmp 2]) ([.int .i64 (174 : Int)]) ((some b69, blk (⟨x51.address, .slice A57 x51.topics.length c58, .slice A62 x51.data.length c63⟩ : LogC).C 63) :: (some b10, blk (⟨a0.kind, (a0.rooted), a0.root, a0.status, a0.used, a0.bloom, .slice A2 a0.logs.length c3⟩ : RcptC).C 30) :: []) rfl ?_ rfl ?_ ?_ _ (.inl rfl)
        ·exact ⟨rfl, trivial⟩
        ·exact ⟨(by omega), rfl⟩
        ·exact (fun w m => m)
       ·replace hl44 := if_f hl44 h70
        refine CW.is_f rfl (decide_eq_false h70) ?_
        refine CW.skip (QW.block_n (QW.then_n (CW.region ?_)))
        refine OW.rv (RV.add rfl rfl (by omega)) rfl ?_
        refine OW.slot (.int .i64 (((n41 + 1) : Nat) : Int)) (by first | rfl | (congr 1) | (congr 1; omega)) ?_
        refine OW.rv (RV.move rfl) rfl ?_
        refine OW.nil ?_
        exact QW.againJ (k' := k43) (Nat.lt_succ_self _) ⟨(n41 + 1), hl44, (by omega), rfl, rfl⟩ ⟨rfl, rfl, rfl, rfl, trivial⟩ (fun w m => m.pick [1] 2 rfl rfl)
      ·replace hl44 := if_f hl44 h50
       refine CW.is_f rfl (decide_eq_false h50) ?_
       refine CW.exit (QW.then_x (QW.then_x (QW.block_xe ?_)))
       exact QW.join ⟨(Option.some.inj hl44).symm, rfl, rfl⟩ ⟨rfl, trivial⟩ (fun w m => m.pick [0] 1 rfl rfl)
   ·skip
    refine CW.region ?_
    refine OW.rv (RV.field rfl rfl rfl rfl) rfl ?_
    refine OW.slot (ptr (some b10) 1) rfl ?_
    refine OW.rv (RV.load rfl (List.Mem.head _) rfl rfl rfl (RcptC.C_rooted (⟨a0.kind, (a0.rooted), a0.root, a0.status, a0.used, a0.bloom, .slice A2 a0.logs.length c3⟩ : RcptC))) rfl ?_
    refine OW.rv (RV.move rfl) rfl ?_
    by_cases h71 : a0.rooted = true
    ·replace hq21 := if_t hq21 h71
     refine OW.slot (.bool true) (congrArg Value.bool (h71)) ?_
     refine OW.want rfl ?_
     refine OW.rv (RV.field rfl rfl rfl rfl) rfl ?_
     refine OW.slot (ptr (some b10) 0) rfl ?_
     refine OW.want rfl ?_
     refine OW.rv (RV.load rfl (List.Mem.head _) rfl rfl rfl (RcptC.C_kind (⟨a0.kind, (a0.rooted), a0.root, a0.status, a0.used, a0.bloom, .slice A2 a0.logs.length c3⟩ : RcptC))) rfl ?_
     refine OW.want rfl ?_
     refine OW.rv (RV.neq rfl rfl) rfl ?_
     refine OW.want rfl ?_
     refine OW.rv (RV.move rfl) rfl ?_
     by_cases h72 : a0.kind = (0 : Int)
     ·replace hq21 := if_t hq21 h72
      refine OW.slot (.bool false) (congrArg Value.bool (congrArg (fun b => !b) (decide_eq_true h72))) ?_
      refine OW.want rfl ?_
      refine OW.rv (RV.field rfl rfl rfl rfl) rfl ?_
      refine OW.slot (ptr (some b10) 34) rfl ?_
      refine OW.want rfl ?_
      refine OW.rv (RV.load rfl (List.Mem.head _) rfl rfl rfl (RcptC.C_status (⟨a0.kind, (a0.rooted), a0.root, a0.status, a0.used, a0.bloom, .slice A2 a0.logs.length c3⟩ : RcptC))) rfl ?_
      refine OW.want rfl ?_
      refine OW.rv (RV.neq64 rfl (by first | rfl | exact lit64 _ rfl) rfl (by first | rfl | exact lit64 _ rfl)) rfl ?_
      refine OW.want rfl ?_
      refine OW.rv (RV.pick_f rfl rfl rfl) rfl ?_
      refine OW.rv (RV.pick_t rfl rfl rfl) rfl ?_
      refine OW.rv (RV.move rfl) rfl ?_
      by_cases h73 : a0.status = 0#64
      ·replace hq21 := if_t hq21 h73
       refine OW.slot (.bool false) (congrArg Value.bool (congrArg (fun b => !b) (decide_eq_true h73))) ?_
       refine OW.want rfl ?_
       refine OW.rv (RV.field rfl rfl rfl rfl) rfl ?_
       refine OW.slot (ptr (some b10) 1) rfl ?_
       refine OW.want rfl ?_
       refine OW.rv (RV.load rfl (List.Mem.head _) rfl rfl rfl (RcptC.C_rooted (⟨a0.kind, (a0.rooted), a0.root, a0.status, a0.used, a0.bloom, .slice A2 a0.logs.length c3⟩ : RcptC))) rfl ?_
       refine OW.want rfl ?_
       refine OW.rv (RV.not rfl) rfl ?_
       refine OW.want rfl ?_
       refine OW.rv (RV.move rfl) rfl ?_
       by_cases h74 : a0.rooted = true
       ·replace hq21 := if_t hq21 h74
        refine OW.slot (.bool false) (congrArg Value.bool (congrArg (fun b => !b) (h74))) ?_
        refine OW.skip rfl rfl rfl ?_
        refine OW.skip rfl rfl rfl ?_
        refine OW.skip rfl rfl rfl ?_
        refine OW.skip rfl rfl rfl ?_
        refine OW.skip rfl rfl rfl ?_
        refine OW.skip rfl rfl rfl ?_
        refine OW.skip rfl rfl rfl ?_
        refine OW.skip rfl rfl rfl ?_
        refine OW.skip rfl rfl rfl ?_
        refine OW.want rfl ?_
        refine OW.rv (RV.pick_f rfl rfl rfl) rfl ?_
        refine OW.rv (RV.pick_f rfl rfl rfl) rfl ?_
        refine OW.nil ?_
        exact QW.join ⟨false, (Option.some.inj hq21).symm, rfl, rfl⟩ ⟨rfl, rfl, trivial⟩ (fun w m => m.pick [0] 1 rfl rfl)
       ·replace hq21 := if_f hq21 h74
        refine OW.slot (.bool true) (congrArg Value.bool (congrArg (fun b => !b) (Bool.eq_false_iff.2 h74))) ?_
        refine OW.want rfl ?_
        refine OW.rv (RV.field rfl rfl rfl rfl) rfl ?_
        refine OW.slot (ptr (some b10) 2) rfl ?_
        refine OW.want rfl ?_
        refine OW.rv (RV.loadAo rfl (List.Mem.head _) rfl rfl rfl rfl (RcptC.C_root_all (⟨a0.kind, (a0.rooted), a0.root, a0.status, a0.used, a0.bloom, .slice A2 a0.logs.length c3⟩ : RcptC)) ((u8s_length _).trans Vector.length_toList)) rfl ?_
        refine OW.want rfl ?_
        refine OW.rv (RV.build0 (l := (u8s (Vector.replicate 32 0#8).toList)) rfl rfl rfl (by rw [Vector.toList_replicate, ← u8s_rep']; rfl)) rfl ?_
        refine OW.want rfl ?_
        refine OW.rv (RV.neA8 rfl rfl rfl rfl rfl rfl (Vector.length_toList) (Vector.length_toList)) rfl ?_
        refine OW.slot (.bool (!decide (a0.root = (Vector.replicate 32 0#8)))) (congrArg (fun b => Value.bool (!b)) (decide_eq_decide.2 Vector.toList_inj)) ?_
        refine OW.want rfl ?_
        refine OW.rv (RV.move rfl) rfl ?_
        by_cases h75 : a0.root = (Vector.replicate 32 0#8)
        ·replace hq21 := if_t hq21 h75
         refine OW.slot (.bool false) (congrArg Value.bool (congrArg (fun b => !b) (decide_eq_true h75))) ?_
         refine OW.want rfl ?_
         refine OW.rv (RV.field rfl rfl rfl rfl) rfl ?_
         refine OW.slot (ptr (some b10) 34) rfl ?_
         refine OW.want rfl ?_
         refine OW.rv (RV.load rfl (List.Mem.head _) rfl rfl rfl (RcptC.C_status (⟨a0.kind, (a0.rooted), a0.root, a0.status, a0.used, a0.bloom, .slice A2 a0.logs.length c3⟩ : RcptC))) rfl ?_
         refine OW.want rfl ?_
         refine OW.rv (RV.gtr rfl rfl) rfl ?_
         refine OW.slot (.bool (decide (1 < a0.status.toNat))) (congrArg Value.bool (decide_eq_decide.2 (by first | omega | (simp; omega) | simp))) ?_
         refine OW.want rfl ?_
         refine OW.rv (RV.pick_f rfl rfl rfl) rfl ?_
         refine OW.want rfl ?_
         refine OW.rv (RV.pick_t rfl rfl rfl) rfl ?_
         refine OW.rv (RV.pick_f rfl rfl rfl) rfl ?_
         refine OW.nil ?_
         exact QW.join ⟨(decide (1 < a0.status.toNat)), (Option.some.inj hq21).symm, rfl, rfl⟩ ⟨rfl, rfl, trivial⟩ (fun w m => m.pick [0] 1 rfl rfl)
        ·replace hq21 := if_f hq21 h75
         refine OW.slot (.bool true) (congrArg Value.bool (congrArg (fun b => !b) (decide_eq_false h75))) ?_
         refine OW.skip rfl rfl rfl ?_
         refine OW.skip rfl rfl rfl ?_
         refine OW.skip rfl rfl rfl ?_
         refine OW.want rfl ?_
         refine OW.rv (RV.pick_t rfl rfl rfl) rfl ?_
         refine OW.want rfl ?_
         refine OW.rv (RV.pick_t rfl rfl rfl) rfl ?_
         refine OW.rv (RV.pick_f rfl rfl rfl) rfl ?_
         refine OW.nil ?_
         exact QW.join ⟨true, (Option.some.inj hq21).symm, rfl, rfl⟩ ⟨rfl, rfl, trivial⟩ (fun w m => m.pick [0] 1 rfl rfl)
      ·replace hq21 := if_f hq21 h73
       refine OW.slot (.bool true) (congrArg Value.bool (congrArg (fun b => !b) (decide_eq_false h73))) ?_
       refine OW.skip rfl rfl rfl ?_
       refine OW.skip rfl rfl rfl ?_
       refine OW.skip rfl rfl rfl ?_
       refine OW.skip rfl rfl rfl ?_
       refine OW.skip rfl rfl rfl ?_
       refine OW.skip rfl rfl rfl ?_
       refine OW.skip rfl rfl rfl ?_
       refine OW.skip rfl rfl rfl ?_
       refine OW.skip rfl rfl rfl ?_
       refine OW.skip rfl rfl rfl ?_
       refine OW.skip rfl rfl rfl ?_
       refine OW.skip rfl rfl rfl ?_
       refine OW.skip rfl rfl rfl ?_
       refine OW.skip rfl rfl rfl ?_
       refine OW.rv (RV.pick_t rfl rfl rfl) rfl ?_
       refine OW.nil ?_
       exact QW.join ⟨true, (Option.some.inj hq21).symm, rfl, rfl⟩ ⟨rfl, rfl, trivial⟩ (fun w m => m.pick [0] 1 rfl rfl)
     ·replace hq21 := if_f hq21 h72
      refine OW.slot (.bool true) (congrArg Value.bool (congrArg (fun b => !b) (decide_eq_false h72))) ?_
      refine OW.skip rfl rfl rfl ?_
      refine OW.skip rfl rfl rfl ?_
      refine OW.skip rfl rfl rfl ?_
      refine OW.want rfl ?_
      refine OW.rv (RV.pick_t rfl rfl rfl) rfl ?_
      refine OW.rv (RV.pick_t rfl rfl rfl) rfl ?_
      refine OW.rv (RV.move rfl) rfl ?_
      refine OW.skip rfl rfl rfl ?_
      refine OW.skip rfl rfl rfl ?_
      refine OW.skip rfl rfl rfl ?_
      refine OW.skip rfl rfl rfl ?_
      refine OW.skip rfl rfl rfl ?_
      refine OW.skip rfl rfl rfl ?_
      refine OW.skip rfl rfl rfl ?_
      refine OW.skip rfl rfl rfl ?_
      refine OW.skip rfl rfl rfl ?_
      refine OW.skip rfl rfl rfl ?_
      refine OW.skip rfl rfl rfl ?_
      refine OW.skip rfl rfl rfl ?_
      refine OW.skip rfl rfl rfl ?_
      refine OW.skip rfl rfl rfl ?_
      refine OW.rv (RV.pick_t rfl rfl rfl) rfl ?_
      refine OW.nil ?_
      exact QW.join ⟨true, (Option.some.inj hq21).symm, rfl, rfl⟩ ⟨rfl, rfl, trivial⟩ (fun w m => m.pick [0] 1 rfl rfl)
    ·replace hq21 := if_f hq21 h71
     refine OW.slot (.bool false) (congrArg Value.bool (Bool.eq_false_iff.2 h71)) ?_
     refine OW.skip rfl rfl rfl ?_
     refine OW.skip rfl rfl rfl ?_
     refine OW.skip rfl rfl rfl ?_
     refine OW.skip rfl rfl rfl ?_
     refine OW.skip rfl rfl rfl ?_
     refine OW.skip rfl rfl rfl ?_
     refine OW.skip rfl rfl rfl ?_
     refine OW.skip rfl rfl rfl ?_
     refine OW.rv (RV.pick_f rfl rfl rfl) rfl ?_
     refine OW.rv (RV.move rfl) rfl ?_
     refine OW.want rfl ?_
     refine OW.rv (RV.field rfl rfl rfl rfl) rfl ?_
     refine OW.slot (ptr (some b10) 1) rfl ?_
     refine OW.want rfl ?_
     refine OW.rv (RV.load rfl (List.Mem.head _) rfl rfl rfl (RcptC.C_rooted (⟨a0.kind, (a0.rooted), a0.root, a0.status, a0.used, a0.bloom, .slice A2 a0.logs.length c3⟩ : RcptC))) rfl ?_
     refine OW.want rfl ?_
     refine OW.rv (RV.not rfl) rfl ?_
     refine OW.want rfl ?_
     refine OW.rv (RV.move rfl) rfl ?_
     by_cases h76 : a0.rooted = true
     ·replace hq21 := if_t hq21 h76
      refine OW.slot (.bool false) (congrArg Value.bool (congrArg (fun b => !b) (h76))) ?_
      refine OW.skip rfl rfl rfl ?_
      refine OW.skip rfl rfl rfl ?_
      refine OW.skip rfl rfl rfl ?_
      refine OW.skip rfl rfl rfl ?_
      refine OW.skip rfl rfl rfl ?_
      refine OW.skip rfl rfl rfl ?_
      refine OW.skip rfl rfl rfl ?_
      refine OW.skip rfl rfl rfl ?_
      refine OW.skip rfl rfl rfl ?_
      refine OW.want rfl ?_
      refine OW.rv (RV.pick_f rfl rfl rfl) rfl ?_
      refine OW.rv (RV.pick_f rfl rfl rfl) rfl ?_
      refine OW.nil ?_
      exact QW.join ⟨false, (Option.some.inj hq21).symm, rfl, rfl⟩ ⟨rfl, rfl, trivial⟩ (fun w m => m.pick [0] 1 rfl rfl)
     ·replace hq21 := if_f hq21 h76
      refine OW.slot (.bool true) (congrArg Value.bool (congrArg (fun b => !b) (Bool.eq_false_iff.2 h76))) ?_
      refine OW.want rfl ?_
      refine OW.rv (RV.field rfl rfl rfl rfl) rfl ?_
      refine OW.slot (ptr (some b10) 2) rfl ?_
      refine OW.want rfl ?_
      refine OW.rv (RV.loadAo rfl (List.Mem.head _) rfl rfl rfl rfl (RcptC.C_root_all (⟨a0.kind, (a0.rooted), a0.root, a0.status, a0.used, a0.bloom, .slice A2 a0.logs.length c3⟩ : RcptC)) ((u8s_length _).trans Vector.length_toList)) rfl ?_
      refine OW.want rfl ?_
      refine OW.rv (RV.build0 (l := (u8s (Vector.replicate 32 0#8).toList)) rfl rfl rfl (by rw [Vector.toList_replicate, ← u8s_rep']; rfl)) rfl ?_
      refine OW.want rfl ?_
      refine OW.rv (RV.neA8 rfl rfl rfl rfl rfl rfl (Vector.length_toList) (Vector.length_toList)) rfl ?_
      refine OW.slot (.bool (!decide (a0.root = (Vector.replicate 32 0#8)))) (congrArg (fun b => Value.bool (!b)) (decide_eq_decide.2 Vector.toList_inj)) ?_
      refine OW.want rfl ?_
      refine OW.rv (RV.move rfl) rfl ?_
      by_cases h77 : a0.root = (Vector.replicate 32 0#8)
      ·replace hq21 := if_t hq21 h77
       refine OW.slot (.bool false) (congrArg Value.bool (congrArg (fun b => !b) (decide_eq_true h77))) ?_
       refine OW.want rfl ?_
       refine OW.rv (RV.field rfl rfl rfl rfl) rfl ?_
       refine OW.slot (ptr (some b10) 34) rfl ?_
       refine OW.want rfl ?_
       refine OW.rv (RV.load rfl (List.Mem.head _) rfl rfl rfl (RcptC.C_status (⟨a0.kind, (a0.rooted), a0.root, a0.status, a0.used, a0.bloom, .slice A2 a0.logs.length c3⟩ : RcptC))) rfl ?_
       refine OW.want rfl ?_
       refine OW.rv (RV.gtr rfl rfl) rfl ?_
       refine OW.slot (.bool (decide (1 < a0.status.toNat))) (congrArg Value.bool (decide_eq_decide.2 (by first | omega | (simp; omega) | simp))) ?_
       refine OW.want rfl ?_
       refine OW.rv (RV.pick_f rfl rfl rfl) rfl ?_
       refine OW.want rfl ?_
       refine OW.rv (RV.pick_t rfl rfl rfl) rfl ?_
       refine OW.rv (RV.pick_f rfl rfl rfl) rfl ?_
       refine OW.nil ?_
       exact QW.join ⟨(decide (1 < a0.status.toNat)), (Option.some.inj hq21).symm, rfl, rfl⟩ ⟨rfl, rfl, trivial⟩ (fun w m => m.pick [0] 1 rfl rfl)
      ·replace hq21 := if_f hq21 h77
       refine OW.slot (.bool true) (congrArg Value.bool (congrArg (fun b => !b) (decide_eq_false h77))) ?_
       refine OW.skip rfl rfl rfl ?_
       refine OW.skip rfl rfl rfl ?_
       refine OW.skip rfl rfl rfl ?_
       refine OW.want rfl ?_
       refine OW.rv (RV.pick_t rfl rfl rfl) rfl ?_
       refine OW.want rfl ?_
       refine OW.rv (RV.pick_t rfl rfl rfl) rfl ?_
       refine OW.rv (RV.pick_f rfl rfl rfl) rfl ?_
       refine OW.nil ?_
       exact QW.join ⟨true, (Option.some.inj hq21).symm, rfl, rfl⟩ ⟨rfl, rfl, trivial⟩ (fun w m => m.pick [0] 1 rfl rfl)
 ·skip
  refine CW.region ?_
  refine OW.rv (RV.field rfl rfl rfl rfl) rfl ?_
  refine OW.slot (ptr (some b10) 0) rfl ?_
  refine OW.rv (RV.load rfl (List.Mem.head _) rfl rfl rfl (RcptC.C_kind (⟨a0.kind, (a0.rooted), a0.root, a0.status, a0.used, a0.bloom, .slice A2 a0.logs.length c3⟩ : RcptC))) rfl ?_
  refine OW.rv (RV.lss rfl rfl) rfl ?_
  refine OW.rv (RV.move rfl) rfl ?_
  by_cases h78 : a0.kind < (0 : Int)
  ·replace hq12 := if_t hq12 h78
   refine OW.slot (.bool true) (congrArg Value.bool (decide_eq_true h78)) ?_
   refine OW.skip rfl rfl rfl ?_
   refine OW.skip rfl rfl rfl ?_
   refine OW.skip rfl rfl rfl ?_
   refine OW.rv (RV.pick_t rfl rfl rfl) rfl ?_
   refine OW.nil ?_
   exact QW.join ⟨true, (Option.some.inj hq12).symm, rfl, rfl⟩ ⟨rfl, rfl, trivial⟩ (fun w m => m.pick [0] 1 rfl rfl)
  ·replace hq12 := if_f hq12 h78
   refine OW.slot (.bool false) (congrArg Value.bool (decide_eq_false h78)) ?_
   refine OW.want rfl ?_
   refine OW.rv (RV.field rfl rfl rfl rfl) rfl ?_
   refine OW.slot (ptr (some b10) 0) rfl ?_
   refine OW.want rfl ?_
   refine OW.rv (RV.load rfl (List.Mem.head _) rfl rfl rfl (RcptC.C_kind (⟨a0.kind, (a0.rooted), a0.root, a0.status, a0.used, a0.bloom, .slice A2 a0.logs.length c3⟩ : RcptC))) rfl ?_
   refine OW.want rfl ?_
   refine OW.rv (RV.gtr rfl rfl) rfl ?_
   refine OW.rv (RV.pick_f rfl rfl rfl) rfl ?_
   refine OW.nil ?_
   exact QW.join ⟨(decide ((4 : Int) < a0.kind)), (Option.some.inj hq12).symm, rfl, rfl⟩ ⟨rfl, rfl, trivial⟩ (fun w m => m.pick [0] 1 rfl rfl)
theorem receipt_LogItem_does (w0 : World) (Φ : Ctx) (N : List Ent) (hΦ : ∀ w, Mem w0 w N → Φ w) (cs0_ : List Value) (a0 : Log) (res0 : It) (res1 : Nat) (ha0 : LogRd Φ cs0_ a0) (hf : receipt_LogItem a0 = some (res0, res1)) : DoesG Tryd.prog 61 [.agg cs0_.toArray] w0 [] N (fun v G => ∃ B : List Ent, ∃ cr0 : List Value, (ItRd (More w0 Φ B) cr0 res0) ∧ (res1 ≤ 9223372036854775807) ∧ v = .tuple #[.agg cr0.toArray, .int .i64 ((res1 : Nat) : Int)] ∧ G = B) := by
 unfold receipt_LogItem at hf
 replace ha0 := LogRd.mono (Ψ := More w0 Φ []) (fun w q => q.1) _ _ ha0
 have h10 := ha0
 obtain ⟨A1, c2, cs4, A6, c7, e9, v3, h5, v8⟩ := LogRd.opn ha0
 subst e9
 have m11 := v3.mx
 have m12 := v8.mx
 refine DoesG.enter Tryd.func61 rfl Tryd.ntmps61 rfl (M := (([] ++ N))) rfl ?_
 refine CW.seq (CW.region ?_)
 refine OW.boxA rfl rfl (fun b13 => ?_)
 refine OW.alloc (l := [.bool false, .slice none 0 0, .slice none 0 0]) rfl rfl rfl (fun b14 => ?_)
 refine OW.rv (RV.assign rfl) rfl ?_
 refine OW.nil (QW.then_n (CW.seq (CW.seq (CW.region ?_))))
 refine OW.rv (RV.field rfl rfl rfl rfl) rfl ?_
 refine OW.slot (ptr (some b13) 20) rfl ?_
 refine OW.rv (RV.load rfl (List.Mem.tail _ (List.Mem.head _)) rfl rfl rfl (LogC.C_topics (⟨a0.address, .slice A1 a0.topics.length c2, .slice A6 a0.data.length c7⟩ : LogC))) rfl ?_
 refine OW.rv (RV.len rfl rfl) rfl ?_
 refine OW.rv (RV.gtr rfl rfl) rfl ?_
 refine OW.slot (.bool (decide (4 < a0.topics.length))) (congrArg Value.bool (decide_eq_decide.2 (by omega))) ?_
 refine OW.nil (QW.then_n ?_)
 by_cases h15 : 4 < a0.topics.length
 ·replace hf := if_t hf h15
  refine CW.is_t rfl (decide_eq_true h15) ?_
  refine CW.seq (CW.region ?_)
  refine OW.rv (RV.buildSt (l := [.bool false, .slice none 0 0, .slice none 0 0]) (cs := [.bool false, .slice none 0 0, .slice none 0 0]) [] rfl rfl rfl rfl rfl rfl rfl) rfl ?_
  refine OW.sv (SV.storeW rfl rfl rfl (by intro u hu; simp at hu; rcases hu with rfl | rfl | rfl <;> rfl) rfl rfl rfl) ?_
  refine OW.rv (RV.assign rfl) rfl ?_
  refine OW.nil (QW.then_n (CW.ret (QW.then_r ?_)))
  have er0 := Option.some.inj hf
  obtain ⟨e0, er1⟩ := Prod.mk.inj er0
  clear er0
  subst e0
  subst er1
  have v16 : View (More w0 Φ []) none ([] : List (BitVec 8)).length 0 1 (u8s []) := View.nil
  have v17 : View (More w0 Φ []) none ([] : List (It)).length 0 3 [] := View.nil
  refine QW.retG (rs := [.cell 2 89, .tmp 3]) ([.agg [.bool false, .slice none 0 0, .slice none 0 0].toArray, .int .i64 (174 : Int)]) ([]) rfl ?_ rfl ?_ ?_ _ (.inl rfl)
  ·exact ⟨⟨_, _, _, _, rfl, (List.Mem.head _), rfl, rfl, rfl, rfl⟩, rfl, trivial⟩
  ·exact ⟨[], [.bool false, .slice none 0 0, .slice none 0 0], (ItRd.mk v16 v17 (Reps.nil)), (by omega), rfl, rfl⟩
  ·exact (fun w m => m.pick [] 2 rfl rfl)
 ·replace hf := if_f hf h15
  refine CW.is_f rfl (decide_eq_false h15) ?_
  refine CW.skip (QW.then_n (CW.seq (CW.region ?_)))
  refine OW.rv (RV.assign rfl) rfl ?_
  refine OW.nil (QW.then_n (CW.seq (CW.seq (CW.region ?_))))
  refine OW.rv (RV.field rfl rfl rfl rfl) rfl ?_
  refine OW.slot (ptr (some b13) 20) rfl ?_
  refine OW.rv (RV.load rfl (List.Mem.tail _ (List.Mem.head _)) rfl rfl rfl (LogC.C_topics (⟨a0.address, .slice A1 a0.topics.length c2, .slice A6 a0.data.length c7⟩ : LogC))) rfl ?_
  refine OW.rv (RV.len rfl rfl) rfl ?_
  refine OW.rv (RV.move rfl) rfl ?_
  refine OW.nil (QW.then_n ?_)
  obtain ⟨q18, hq19, hf⟩ := some_bind hf
  refine CW.cutJ (fun L' M' => ∃ l22 : List (It), ∃ B20 : List Ent, ∃ cs23 : List Value, ∃ ob25 : Option Nat, ∃ c26 : Nat, ∃ r27 : List Value, q18 = l22 ∧ (∀ w, Mem w0 w B20 → Mem w0 w []) ∧ (Reps (ItRd (More w0 Φ B20)) cs23 l22) ∧ (OwnS ob25 l22.length c26 3 cs23 r27) ∧ L' = [(1, ptr (some b13) 0), (2, ptr (some b14) 0), (4, sl ob25 0 l22.length c26)] ∧ M' = ((ob25, blk (cs23 ++ r27) 89) :: (some b14, blk [.bool false, .slice none 0 0, .slice none 0 0] 89) :: (some b13, blk (⟨a0.address, .slice A1 a0.topics.length c2, .slice A6 a0.data.length c7⟩ : LogC).C 63) :: (B20 ++ N))) ?_ ?_
  ·rintro L30 M31 ⟨l22, B20, cs23, ob25, c26, r27, e29, hB21, h24, o28, e32, e33⟩
   rw [e32, e33]
   clear e32 e33 L30 M31
   clear hq19
   rw [e29] at hf
   clear e29
   try dsimp only at hf
   have gq4 : ∀ w, More w0 Φ B20 w → More w0 Φ [] w := fun w q => More.mono (fun w m => hB21 w (m)) q
   replace h10 := LogRd.mono gq4 _ _ h10
   replace v3 := v3.mono gq4
   replace h5 := h5.mono (Ar8Rd.mono gq4)
   replace v8 := v8.mono gq4
   have m34 := o28.mx
   refine QW.then_n (CW.seq ?_)
   refine CW.mem (M' := (some b14, blk [.bool false, .slice none 0 0, .slice none 0 0] 89) :: (some b13, blk (⟨a0.address, .slice A1 a0.topics.length c2, .slice A6 a0.data.length c7⟩ : LogC).C 63) :: (((ob25, blk (cs23 ++ r27) 89) :: B20) ++ N)) (fun w m => m.pick [1, 2, 0] 3 rfl rfl) ?_
   have gq5 : ∀ w, More w0 Φ ((ob25, blk (cs23 ++ r27) 89) :: B20) w → More w0 Φ B20 w := fun w q => More.mono (fun w m => (m).tail) q
   replace h24 := h24.mono (ItRd.mono gq5)
   replace h10 := LogRd.mono gq5 _ _ h10
   replace v3 := v3.mono gq5
   replace h5 := h5.mono (Ar8Rd.mono gq5)
   replace v8 := v8.mono gq5
   have v35 : View (More w0 Φ ((ob25, blk (cs23 ++ r27) 89) :: B20)) ((ob25).map fun k => ⟨k, 0, none⟩) l22.length c26 3 cs23 := o28.view (by decide) (fun w q => q.2.sublist (List.singleton_sublist.2 (List.mem_cons_self ..)))
   refine CW.mem (M' := (some b14, blk [.bool false, .slice none 0 0, .slice none 0 0] 89) :: (((some b13, blk (⟨a0.address, .slice A1 a0.topics.length c2, .slice A6 a0.data.length c7⟩ : LogC).C 63) :: ((ob25, blk (cs23 ++ r27) 89) :: B20)) ++ N)) (fun w m => m.pick [0, 1] 2 rfl rfl) ?_
   have gq6 : ∀ w, More w0 Φ ((some b13, blk (⟨a0.address, .slice A1 a0.topics.length c2, .slice A6 a0.data.length c7⟩ : LogC).C 63) :: ((ob25, blk (cs23 ++ r27) 89) :: B20)) w → More w0 Φ ((ob25, blk (cs23 ++ r27) 89) :: B20) w := fun w q => More.mono (fun w m => (m).tail) q
   replace h10 := LogRd.mono gq6 _ _ h10
   replace v3 := v3.mono gq6
   replace h5 := h5.mono (Ar8Rd.mono gq6)
   replace v8 := v8.mono gq6
   replace v35 := v35.mono gq6
   replace h24 := h24.mono (ItRd.mono gq6)
   have hH36 : Held w0 (More w0 Φ ((some b13, blk (⟨a0.address, .slice A1 a0.topics.length c2, .slice A6 a0.data.length c7⟩ : LogC).C 63) :: ((ob25, blk (cs23 ++ r27) 89) :: B20))) b13 (⟨a0.address, .slice A1 a0.topics.length c2, .slice A6 a0.data.length c7⟩ : LogC).C 63 := fun w q => q.2.sublist (List.singleton_sublist.2 (List.mem_cons_self ..))
   refine CW.drawsX ((some b14, blk [.bool false, .slice none 0 0, .slice none 0 0] 89) :: (((some b13, blk (⟨a0.address, .slice A1 a0.topics.length c2, .slice A6 a0.data.length c7⟩ : LogC).C 63) :: ((ob25, blk (cs23 ++ r27) 89) :: B20)) ++ N)) [11] (fun w m => m.pick [0] 1 rfl rfl) mixed (by kernel_rfl) ?_
   refine XW.rs 0 rfl (by kernel_rfl) rfl (RV.field rfl rfl rfl rfl) rfl ?_
   refine XW.slot (ptr (some b13) 0) rfl ?_
   refine XW.rs 1 rfl (by kernel_rfl) rfl (RV.arr_all rfl rfl rfl) rfl ?_
   refine XW.slot (.slice (some ⟨b13, 0, none⟩) a0.address.toList.length 20) (by rw [Vector.length_toList]; try rfl) ?_
   have v37 : View (More w0 Φ ((some b13, blk (⟨a0.address, .slice A1 a0.topics.length c2, .slice A6 a0.data.length c7⟩ : LogC).C 63) :: ((ob25, blk (cs23 ++ r27) 89) :: B20))) (some ⟨b13, 0, none⟩) a0.address.toList.length 20 1 (u8s a0.address.toList) := Held.part hH36 (LogC.C_address_all (⟨a0.address, .slice A1 a0.topics.length c2, .slice A6 a0.data.length c7⟩ : LogC)) (by decide)
   refine XW.rs 3 rfl (by kernel_rfl) rfl (RV.move rfl) rfl ?_
   refine XW.rs 5 rfl (by kernel_rfl) rfl (RV.field rfl rfl rfl rfl) rfl ?_
   refine XW.slot (ptr (some b13) 21) rfl ?_
   refine XW.rs 6 rfl (by kernel_rfl) rfl (RV.loadH rfl hH36 (fun w m => More.of hΦ 1 m rfl) rfl rfl (LogC.C_data (⟨a0.address, .slice A1 a0.topics.length c2, .slice A6 a0.data.length c7⟩ : LogC))) rfl ?_
   refine XWp.start (l := [.bool false, .slice none 0 0, .slice none 0 0]) (te := 89) (dp := 7) 10 rfl (NV.alloc rfl rfl) rfl rfl ?_
   obtain ⟨x39, hx38, hf⟩ := some_bind hf
   refine XWp.callG 2 rfl (by kernel_rfl) rfl Tryd.call60 rfl (fun N' hN' => rlp_Text_does w0 (More w0 Φ ((some b13, blk (⟨a0.address, .slice A1 a0.topics.length c2, .slice A6 a0.data.length c7⟩ : LogC).C 63) :: ((ob25, blk (cs23 ++ r27) 89) :: B20))) N' (fun w m => More.of hΦ 1 (hN' w m) rfl) (some ⟨b13, 0, none⟩) 20 a0.address.toList x39 v37 hx38) rfl ?_
   rintro L43 M44 ⟨B40, cs41, h42, e45, e46⟩
   rw [e45, e46]
   clear e45 e46 L43 M44
   refine XWp.mem (M' := ((some b14, blk [.bool false, .slice none 0 0, .slice none 0 0] 89) :: ((B40 ++ ((some b13, blk (⟨a0.address, .slice A1 a0.topics.length c2, .slice A6 a0.data.length c7⟩ : LogC).C 63) :: ((ob25, blk (cs23 ++ r27) 89) :: B20))) ++ N))) (fun w m => by have h := Mem.sinkAt (A := B40) m 0 1 rfl rfl; exact h) (fun w m => by have h := Mem.shrink (B := ((some b13, blk (⟨a0.address, .slice A1 a0.topics.length c2, .slice A6 a0.data.length c7⟩ : LogC).C 63) :: ((ob25, blk (cs23 ++ r27) 89) :: B20))) (B' := (B40 ++ ((some b13, blk (⟨a0.address, .slice A1 a0.topics.length c2, .slice A6 a0.data.length c7⟩ : LogC).C 63) :: ((ob25, blk (cs23 ++ r27) 89) :: B20)))) (List.sublist_append_right _ _) (m.pick [0] 1 rfl rfl) 1 rfl; exact h) ?_
   have gq7 : ∀ w, More w0 Φ (B40 ++ ((some b13, blk (⟨a0.address, .slice A1 a0.topics.length c2, .slice A6 a0.data.length c7⟩ : LogC).C 63) :: ((ob25, blk (cs23 ++ r27) 89) :: B20))) w → More w0 Φ ((some b13, blk (⟨a0.address, .slice A1 a0.topics.length c2, .slice A6 a0.data.length c7⟩ : LogC).C 63) :: ((ob25, blk (cs23 ++ r27) 89) :: B20)) w := fun w q => More.mono (fun w m => (m).appR) q
   replace hH36 := hH36.mono gq7
   replace h10 := LogRd.mono gq7 _ _ h10
   replace v3 := v3.mono gq7
   replace h5 := h5.mono (Ar8Rd.mono gq7)
   replace v8 := v8.mono gq7
   replace v35 := v35.mono gq7
   replace h24 := h24.mono (ItRd.mono gq7)
   replace v37 := v37.mono gq7
   replace h42 := ItRd.mono (Ψ := (More w0 Φ (B40 ++ ((some b13, blk (⟨a0.address, .slice A1 a0.topics.length c2, .slice A6 a0.data.length c7⟩ : LogC).C 63) :: ((ob25, blk (cs23 ++ r27) 89) :: B20))))) (fun w q => More.flat q) _ _ h42
   have h56 := h42
   obtain ⟨A47, c48, A50, c51, cs53, e55, v49, v52, h54⟩ := ItRd.opn h42
   subst e55
   have m57 := v49.mx
   have m58 := v52.mx
   have m59 := v49.mx
   have m60 := v52.mx
   obtain ⟨x62, hx61, hf⟩ := some_bind hf
   refine XWp.callG 4 rfl (by kernel_rfl) rfl Tryd.call63 rfl (fun N' hN' => rlp_List_does w0 (More w0 Φ (B40 ++ ((some b13, blk (⟨a0.address, .slice A1 a0.topics.length c2, .slice A6 a0.data.length c7⟩ : LogC).C 63) :: ((ob25, blk (cs23 ++ r27) 89) :: B20)))) N' (fun w m => More.of hΦ 1 (hN' w m) rfl) ((ob25).map fun k => ⟨k, 0, none⟩) c26 cs23 l22 x62 v35 h24 hx61) rfl ?_
   rintro L66 M67 ⟨B63, cs64, h65, e68, e69⟩
   rw [e68, e69]
   clear e68 e69 L66 M67
   refine XWp.mem (M' := ((some b14, blk [.bool false, .slice none 0 0, .slice none 0 0] 89) :: ((B63 ++ (B40 ++ ((some b13, blk (⟨a0.address, .slice A1 a0.topics.length c2, .slice A6 a0.data.length c7⟩ : LogC).C 63) :: ((ob25, blk (cs23 ++ r27) 89) :: B20)))) ++ N))) (fun w m => by have h := Mem.sinkAt (A := B63) m 0 1 rfl rfl; exact h) (fun w m => by have h := Mem.shrink (B := ((some b13, blk (⟨a0.address, .slice A1 a0.topics.length c2, .slice A6 a0.data.length c7⟩ : LogC).C 63) :: ((ob25, blk (cs23 ++ r27) 89) :: B20))) (B' := (B63 ++ (B40 ++ ((some b13, blk (⟨a0.address, .slice A1 a0.topics.length c2, .slice A6 a0.data.length c7⟩ : LogC).C 63) :: ((ob25, blk (cs23 ++ r27) 89) :: B20))))) ((List.sublist_append_right _ _).trans (List.sublist_append_right _ _)) (m.pick [0] 1 rfl rfl) 1 rfl; exact h) ?_
   have gq8 : ∀ w, More w0 Φ (B63 ++ (B40 ++ ((some b13, blk (⟨a0.address, .slice A1 a0.topics.length c2, .slice A6 a0.data.length c7⟩ : LogC).C 63) :: ((ob25, blk (cs23 ++ r27) 89) :: B20)))) w → More w0 Φ (B40 ++ ((some b13, blk (⟨a0.address, .slice A1 a0.topics.length c2, .slice A6 a0.data.length c7⟩ : LogC).C 63) :: ((ob25, blk (cs23 ++ r27) 89) :: B20))) w := fun w q => More.mono (fun w m => (m).appR) q
   replace hH36 := hH36.mono gq8
   replace h10 := LogRd.mono gq8 _ _ h10
   replace v3 := v3.mono gq8
   replace h5 := h5.mono (Ar8Rd.mono gq8)
   replace v8 := v8.mono gq8
   replace v35 := v35.mono gq8
   replace h24 := h24.mono (ItRd.mono gq8)
   replace v37 := v37.mono gq8
   replace h56 := ItRd.mono gq8 _ _ h56
   replace v49 := v49.mono gq8
   replace v52 := v52.mono gq8
   replace h54 := h54.mono (ItRd.mono gq8)
   replace h65 := ItRd.mono (Ψ := (More w0 Φ (B63 ++ (B40 ++ ((some b13, blk (⟨a0.address, .slice A1 a0.topics.length c2, .slice A6 a0.data.length c7⟩ : LogC).C 63) :: ((ob25, blk (cs23 ++ r27) 89) :: B20)))))) (fun w q => More.flat q) _ _ h65
   have h79 := h65
   obtain ⟨A70, c71, A73, c74, cs76, e78, v72, v75, h77⟩ := ItRd.opn h65
   subst e78
   have m80 := v72.mx
   have m81 := v75.mx
   have m82 := v72.mx
   have m83 := v75.mx
   obtain ⟨x85, hx84, hf⟩ := some_bind hf
   refine XWp.callG 7 rfl (by kernel_rfl) rfl Tryd.call60 rfl (fun N' hN' => rlp_Text_does w0 (More w0 Φ (B63 ++ (B40 ++ ((some b13, blk (⟨a0.address, .slice A1 a0.topics.length c2, .slice A6 a0.data.length c7⟩ : LogC).C 63) :: ((ob25, blk (cs23 ++ r27) 89) :: B20))))) N' (fun w m => More.of hΦ 1 (hN' w m) rfl) A6 c7 a0.data x85 v8 hx84) rfl ?_
   rintro L89 M90 ⟨B86, cs87, h88, e91, e92⟩
   rw [e91, e92]
   clear e91 e92 L89 M90
   refine XWp.mem (M' := ((some b14, blk [.bool false, .slice none 0 0, .slice none 0 0] 89) :: ((B86 ++ (B63 ++ (B40 ++ ((some b13, blk (⟨a0.address, .slice A1 a0.topics.length c2, .slice A6 a0.data.length c7⟩ : LogC).C 63) :: ((ob25, blk (cs23 ++ r27) 89) :: B20))))) ++ N))) (fun w m => by have h := Mem.sinkAt (A := B86) m 0 1 rfl rfl; exact h) (fun w m => by have h := Mem.shrink (B := ((some b13, blk (⟨a0.address, .slice A1 a0.topics.length c2, .slice A6 a0.data.length c7⟩ : LogC).C 63) :: ((ob25, blk (cs23 ++ r27) 89) :: B20))) (B' := (B86 ++ (B63 ++ (B40 ++ ((some b13, blk (⟨a0.address, .slice A1 a0.topics.length c2, .slice A6 a0.data.length c7⟩ : LogC).C 63) :: ((ob25, blk (cs23 ++ r27) 89) :: B20)))))) ((List.sublist_append_right _ _).trans ((List.sublist_append_right _ _).trans (List.sublist_append_right _ _))) (m.pick [0] 1 rfl rfl) 1 rfl; exact h) ?_
   have gq9 : ∀ w, More w0 Φ (B86 ++ (B63 ++ (B40 ++ ((some b13, blk (⟨a0.address, .slice A1 a0.topics.length c2, .slice A6 a0.data.length c7⟩ : LogC).C 63) :: ((ob25, blk (cs23 ++ r27) 89) :: B20))))) w → More w0 Φ (B63 ++ (B40 ++ ((some b13, blk (⟨a0.address, .slice A1 a0.topics.length c2, .slice A6 a0.data.length c7⟩ : LogC).C 63) :: ((ob25, blk (cs23 ++ r27) 89) :: B20)))) w := fun w q => More.mono (fun w m => (m).appR) q
   replace hH36 := hH36.mono gq9
   replace h10 := LogRd.mono gq9 _ _ h10
   replace v3 := v3.mono gq9
   replace h5 := h5.mono (Ar8Rd.mono gq9)
   replace v8 := v8.mono gq9
   replace v35 := v35.mono gq9
   replace h24 := h24.mono (ItRd.mono gq9)
   replace v37 := v37.mono gq9
   replace h56 := ItRd.mono gq9 _ _ h56
   replace v49 := v49.mono gq9
   replace v52 := v52.mono gq9
   replace h54 := h54.mono (ItRd.mono gq9)
   replace h79 := ItRd.mono gq9 _ _ h79
   replace v72 := v72.mono gq9
   replace v75 := v75.mono gq9
   replace h77 := h77.mono (ItRd.mono gq9)
   replace h88 := ItRd.mono (Ψ := (More w0 Φ (B86 ++ (B63 ++ (B40 ++ ((some b13, blk (⟨a0.address, .slice A1 a0.topics.length c2, .slice A6 a0.data.length c7⟩ : LogC).C 63) :: ((ob25, blk (cs23 ++ r27) 89) :: B20))))))) (fun w q => More.flat q) _ _ h88
   have h102 := h88
   obtain ⟨A93, c94, A96, c97, cs99, e101, v95, v98, h100⟩ := ItRd.opn h88
   subst e101
   have m103 := v95.mx
   have m104 := v98.mx
   have m105 := v95.mx
   have m106 := v98.mx
   refine XWp.new 8 rfl (by kernel_rfl) rfl (NV.bsA rfl rfl (by intro x hx; simp at hx; rcases hx with rfl | rfl | rfl <;> exact rfl) rfl rfl rfl (by decide) (by decide) rfl) rfl (fun b107 => ?_)
   have h110 : Reps (ItRd (More w0 Φ (B86 ++ (B63 ++ (B40 ++ ((some b13, blk (⟨a0.address, .slice A1 a0.topics.length c2, .slice A6 a0.data.length c7⟩ : LogC).C 63) :: ((ob25, blk (cs23 ++ r27) 89) :: B20))))))) (([.bool (x39.list), .slice A47 x39.data.length c48, .slice A50 x39.items.length c51] : List Value) ++ ([.bool (x62.list), .slice A70 x62.data.length c71, .slice A73 x62.items.length c74] : List Value) ++ ([.bool (x85.list), .slice A93 x85.data.length c94, .slice A96 x85.items.length c97] : List Value)) [x39, x62, x85] := by simpa using (show Reps (ItRd (More w0 Φ (B86 ++ (B63 ++ (B40 ++ ((some b13, blk (⟨a0.address, .slice A1 a0.topics.length c2, .slice A6 a0.data.length c7⟩ : LogC).C 63) :: ((ob25, blk (cs23 ++ r27) 89) :: B20))))))) _ [x39, x62, x85] from (.cons h56 (.cons h79 (.cons h102 .nil))))
   refine XWp.mem (M' := (((some b107), blk ((([.bool (x39.list), .slice A47 x39.data.length c48, .slice A50 x39.items.length c51] : List Value) ++ ([.bool (x62.list), .slice A70 x62.data.length c71, .slice A73 x62.items.length c74] : List Value) ++ ([.bool (x85.list), .slice A93 x85.data.length c94, .slice A96 x85.items.length c97] : List Value)) ++ []) 89) :: (some b14, blk [.bool false, .slice none 0 0, .slice none 0 0] 89) :: ((B86 ++ (B63 ++ (B40 ++ ((some b13, blk (⟨a0.address, .slice A1 a0.topics.length c2, .slice A6 a0.data.length c7⟩ : LogC).C 63) :: ((ob25, blk (cs23 ++ r27) 89) :: B20))))) ++ N))) (fun w m => m) (fun w m => by have h := Mem.shrink (B := ((some b13, blk (⟨a0.address, .slice A1 a0.topics.length c2, .slice A6 a0.data.length c7⟩ : LogC).C 63) :: ((ob25, blk (cs23 ++ r27) 89) :: B20))) (B' := (B86 ++ (B63 ++ (B40 ++ ((some b13, blk (⟨a0.address, .slice A1 a0.topics.length c2, .slice A6 a0.data.length c7⟩ : LogC).C 63) :: ((ob25, blk (cs23 ++ r27) 89) :: B20)))))) ((List.sublist_append_right _ _).trans ((List.sublist_append_right _ _).trans (List.sublist_append_right _ _))) (m.pick [1] 2 rfl rfl) 1 rfl; exact h) ?_
   have o108 : OwnS (some b107) ([x39, x62, x85] : List (It)).length 3 3 (([.bool (x39.list), .slice A47 x39.data.length c48, .slice A50 x39.items.length c51] : List Value) ++ ([.bool (x62.list), .slice A70 x62.data.length c71, .slice A73 x62.items.length c74] : List Value) ++ ([.bool (x85.list), .slice A93 x85.data.length c94, .slice A96 x85.items.length c97] : List Value)) [] := ⟨by simp [ItRd], by simp [ItRd], (fun h => nomatch h), by simp⟩
   have mx_o108 := o108.mx
   refine XWp.slot (sl (some b107) 0 ([x39, x62, x85] : List (It)).length 3) (rfl) ?_
   refine XWp.mem (M' := (some b14, blk [.bool false, .slice none 0 0, .slice none 0 0] 89) :: ((((some b107), blk ((([.bool (x39.list), .slice A47 x39.data.length c48, .slice A50 x39.items.length c51] : List Value) ++ ([.bool (x62.list), .slice A70 x62.data.length c71, .slice A73 x62.items.length c74] : List Value) ++ ([.bool (x85.list), .slice A93 x85.data.length c94, .slice A96 x85.items.length c97] : List Value)) ++ []) 89) :: (B86 ++ (B63 ++ (B40 ++ ((some b13, blk (⟨a0.address, .slice A1 a0.topics.length c2, .slice A6 a0.data.length c7⟩ : LogC).C 63) :: ((ob25, blk (cs23 ++ r27) 89) :: B20)))))) ++ N)) (fun w m => m.pick [1, 0] 2 rfl rfl) (fun w m => by have h := Mem.shrink (B := ((some b13, blk (⟨a0.address, .slice A1 a0.topics.length c2, .slice A6 a0.data.length c7⟩ : LogC).C 63) :: ((ob25, blk (cs23 ++ r27) 89) :: B20))) (B' := (((some b107), blk ((([.bool (x39.list), .slice A47 x39.data.length c48, .slice A50 x39.items.length c51] : List Value) ++ ([.bool (x62.list), .slice A70 x62.data.length c71, .slice A73 x62.items.length c74] : List Value) ++ ([.bool (x85.list), .slice A93 x85.data.length c94, .slice A96 x85.items.length c97] : List Value)) ++ []) 89) :: (B86 ++ (B63 ++ (B40 ++ ((some b13, blk (⟨a0.address, .slice A1 a0.topics.length c2, .slice A6 a0.data.length c7⟩ : LogC).C 63) :: ((ob25, blk (cs23 ++ r27) 89) :: B20))))))) ((List.sublist_append_right _ _).trans ((List.sublist_append_right _ _).trans ((List.sublist_append_right _ _).trans (List.sublist_cons_self _ _)))) (m.pick [0] 1 rfl rfl) 1 rfl; exact h) ?_
   have gq10 : ∀ w, More w0 Φ (((some b107), blk ((([.bool (x39.list), .slice A47 x39.data.length c48, .slice A50 x39.items.length c51] : List Value) ++ ([.bool (x62.list), .slice A70 x62.data.length c71, .slice A73 x62.items.length c74] : List Value) ++ ([.bool (x85.list), .slice A93 x85.data.length c94, .slice A96 x85.items.length c97] : List Value)) ++ []) 89) :: (B86 ++ (B63 ++ (B40 ++ ((some b13, blk (⟨a0.address, .slice A1 a0.topics.length c2, .slice A6 a0.data.length c7⟩ : LogC).C 63) :: ((ob25, blk (cs23 ++ r27) 89) :: B20)))))) w → More w0 Φ (B86 ++ (B63 ++ (B40 ++ ((some b13, blk (⟨a0.address, .slice A1 a0.topics.length c2, .slice A6 a0.data.length c7⟩ : LogC).C 63) :: ((ob25, blk (cs23 ++ r27) 89) :: B20))))) w := fun w q => More.mono (fun w m => (m).tail) q
   replace hH36 := hH36.mono gq10
   replace h10 := LogRd.mono gq10 _ _ h10
   replace v3 := v3.mono gq10
   replace h5 := h5.mono (Ar8Rd.mono gq10)
   replace v8 := v8.mono gq10
   replace v35 := v35.mono gq10
   replace h24 := h24.mono (ItRd.mono gq10)
   replace v37 := v37.mono gq10
   replace h56 := ItRd.mono gq10 _ _ h56
   replace v49 := v49.mono gq10
   replace v52 := v52.mono gq10
   replace h54 := h54.mono (ItRd.mono gq10)
   replace h79 := ItRd.mono gq10 _ _ h79
   replace v72 := v72.mono gq10
   replace v75 := v75.mono gq10
   replace h77 := h77.mono (ItRd.mono gq10)
   replace h102 := ItRd.mono gq10 _ _ h102
   replace v95 := v95.mono gq10
   replace v98 := v98.mono gq10
   replace h100 := h100.mono (ItRd.mono gq10)
   replace h110 := h110.mono (ItRd.mono gq10)
   have v111 : View (More w0 Φ (((some b107), blk ((([.bool (x39.list), .slice A47 x39.data.length c48, .slice A50 x39.items.length c51] : List Value) ++ ([.bool (x62.list), .slice A70 x62.data.length c71, .slice A73 x62.items.length c74] : List Value) ++ ([.bool (x85.list), .slice A93 x85.data.length c94, .slice A96 x85.items.length c97] : List Value)) ++ []) 89) :: (B86 ++ (B63 ++ (B40 ++ ((some b13, blk (⟨a0.address, .slice A1 a0.topics.length c2, .slice A6 a0.data.length c7⟩ : LogC).C 63) :: ((ob25, blk (cs23 ++ r27) 89) :: B20))))))) (((some b107)).map fun k => ⟨k, 0, none⟩) ([x39, x62, x85] : List (It)).length 3 3 (([.bool (x39.list), .slice A47 x39.data.length c48, .slice A50 x39.items.length c51] : List Value) ++ ([.bool (x62.list), .slice A70 x62.data.length c71, .slice A73 x62.items.length c74] : List Value) ++ ([.bool (x85.list), .slice A93 x85.data.length c94, .slice A96 x85.items.length c97] : List Value)) := o108.view (by decide) (fun w q => q.2.sublist (List.singleton_sublist.2 (List.mem_cons_self ..)))
   obtain ⟨x113, hx112, hf⟩ := some_bind hf
   refine XWp.callG 9 rfl (by kernel_rfl) rfl Tryd.call63 rfl (fun N' hN' => rlp_List_does w0 (More w0 Φ (((some b107), blk ((([.bool (x39.list), .slice A47 x39.data.length c48, .slice A50 x39.items.length c51] : List Value) ++ ([.bool (x62.list), .slice A70 x62.data.length c71, .slice A73 x62.items.length c74] : List Value) ++ ([.bool (x85.list), .slice A93 x85.data.length c94, .slice A96 x85.items.length c97] : List Value)) ++ []) 89) :: (B86 ++ (B63 ++ (B40 ++ ((some b13, blk (⟨a0.address, .slice A1 a0.topics.length c2, .slice A6 a0.data.length c7⟩ : LogC).C 63) :: ((ob25, blk (cs23 ++ r27) 89) :: B20))))))) N' (fun w m => More.of hΦ 1 (hN' w m) rfl) (((some b107)).map fun k => ⟨k, 0, none⟩) 3 (([.bool (x39.list), .slice A47 x39.data.length c48, .slice A50 x39.items.length c51] : List Value) ++ ([.bool (x62.list), .slice A70 x62.data.length c71, .slice A73 x62.items.length c74] : List Value) ++ ([.bool (x85.list), .slice A93 x85.data.length c94, .slice A96 x85.items.length c97] : List Value)) ([x39, x62, x85] : List (It)) x113 v111 h110 hx112) rfl ?_
   rintro L117 M118 ⟨B114, cs115, h116, e119, e120⟩
   rw [e119, e120]
   clear e119 e120 L117 M118
   refine XWp.mem (M' := ((some b14, blk [.bool false, .slice none 0 0, .slice none 0 0] 89) :: ((B114 ++ (((some b107), blk ((([.bool (x39.list), .slice A47 x39.data.length c48, .slice A50 x39.items.length c51] : List Value) ++ ([.bool (x62.list), .slice A70 x62.data.length c71, .slice A73 x62.items.length c74] : List Value) ++ ([.bool (x85.list), .slice A93 x85.data.length c94, .slice A96 x85.items.length c97] : List Value)) ++ []) 89) :: (B86 ++ (B63 ++ (B40 ++ ((some b13, blk (⟨a0.address, .slice A1 a0.topics.length c2, .slice A6 a0.data.length c7⟩ : LogC).C 63) :: ((ob25, blk (cs23 ++ r27) 89) :: B20))))))) ++ N))) (fun w m => by have h := Mem.sinkAt (A := B114) m 0 1 rfl rfl; exact h) (fun w m => by have h := Mem.shrink (B := ((some b13, blk (⟨a0.address, .slice A1 a0.topics.length c2, .slice A6 a0.data.length c7⟩ : LogC).C 63) :: ((ob25, blk (cs23 ++ r27) 89) :: B20))) (B' := (B114 ++ (((some b107), blk ((([.bool (x39.list), .slice A47 x39.data.length c48, .slice A50 x39.items.length c51] : List Value) ++ ([.bool (x62.list), .slice A70 x62.data.length c71, .slice A73 x62.items.length c74] : List Value) ++ ([.bool (x85.list), .slice A93 x85.data.length c94, .slice A96 x85.items.length c97] : List Value)) ++ []) 89) :: (B86 ++ (B63 ++ (B40 ++ ((some b13, blk (⟨a0.address, .slice A1 a0.topics.length c2, .slice A6 a0.data.length c7⟩ : LogC).C 63) :: ((ob25, blk (cs23 ++ r27) 89) :: B20)))))))) ((List.sublist_append_right _ _).trans ((List.sublist_append_right _ _).trans ((List.sublist_append_right _ _).trans ((List.sublist_cons_self _ _).trans (List.sublist_append_right _ _))))) (m.pick [0] 1 rfl rfl) 1 rfl; exact h) ?_
   have gq11 : ∀ w, More w0 Φ (B114 ++ (((some b107), blk ((([.bool (x39.list), .slice A47 x39.data.length c48, .slice A50 x39.items.length c51] : List Value) ++ ([.bool (x62.list), .slice A70 x62.data.length c71, .slice A73 x62.items.length c74] : List Value) ++ ([.bool (x85.list), .slice A93 x85.data.length c94, .slice A96 x85.items.length c97] : List Value)) ++ []) 89) :: (B86 ++ (B63 ++ (B40 ++ ((some b13, blk (⟨a0.address, .slice A1 a0.topics.length c2, .slice A6 a0.data.length c7⟩ : LogC).C 63) :: ((ob25, blk (cs23 ++ r27) 89) :: B20))))))) w → More w0 Φ (((some b107), blk ((([.bool (x39.list), .slice A47 x39.data.length c48, .slice A50 x39.items.length c51] : List Value) ++ ([.bool (x62.list), .slice A70 x62.data.length c71, .slice A73 x62.items.length c74] : List Value) ++ ([.bool (x85.list), .slice A93 x85.data.length c94, .slice A96 x85.items.length c97] : List Value)) ++ []) 89) :: (B86 ++ (B63 ++ (B40 ++ ((some b13, blk (⟨a0.address, .slice A1 a0.topics.length c2, .slice A6 a0.data.length c7⟩ : LogC).C 63) :: ((ob25, blk (cs23 ++ r27) 89) :: B20)))))) w := fun w q => More.mono (fun w m => (m).appR) q
   replace hH36 := hH36.mono gq11
   replace h10 := LogRd.mono gq11 _ _ h10
   replace v3 := v3.mono gq11
   replace h5 := h5.mono (Ar8Rd.mono gq11)
   replace v8 := v8.mono gq11
   replace v35 := v35.mono gq11
   replace h24 := h24.mono (ItRd.mono gq11)
   replace v37 := v37.mono gq11
   replace h56 := ItRd.mono gq11 _ _ h56
   replace v49 := v49.mono gq11
   replace v52 := v52.mono gq11
   replace h54 := h54.mono (ItRd.mono gq11)
   replace h79 := ItRd.mono gq11 _ _ h79
   replace v72 := v72.mono gq11
   replace v75 := v75.mono gq11
   replace h77 := h77.mono (ItRd.mono gq11)
   replace h102 := ItRd.mono gq11 _ _ h102
   replace v95 := v95.mono gq11
   replace v98 := v98.mono gq11
   replace h100 := h100.mono (ItRd.mono gq11)
   replace v111 := v111.mono gq11
   replace h110 := h110.mono (ItRd.mono gq11)
   replace h116 := ItRd.mono (Ψ := (More w0 Φ (B114 ++ (((some b107), blk ((([.bool (x39.list), .slice A47 x39.data.length c48, .slice A50 x39.items.length c51] : List Value) ++ ([.bool (x62.list), .slice A70 x62.data.length c71, .slice A73 x62.items.length c74] : List Value) ++ ([.bool (x85.list), .slice A93 x85.data.length c94, .slice A96 x85.items.length c97] : List Value)) ++ []) 89) :: (B86 ++ (B63 ++ (B40 ++ ((some b13, blk (⟨a0.address, .slice A1 a0.topics.length c2, .slice A6 a0.data.length c7⟩ : LogC).C 63) :: ((ob25, blk (cs23 ++ r27) 89) :: B20))))))))) (fun w q => More.flat q) _ _ h116
   have h130 := h116
   obtain ⟨A121, c122, A124, c125, cs127, e129, v123, v126, h128⟩ := ItRd.opn h116
   subst e129
   have m131 := v123.mx
   have m132 := v126.mx
   have m133 := v123.mx
   have m134 := v126.mx
   refine XWp.fin (by kernel_rfl) (fun b135 => ?_)
   refine XW.sv 11 rfl (by kernel_rfl) (SV.storeW rfl rfl rfl (by intro u hu; simp at hu; rcases hu with rfl | rfl | rfl <;> rfl) rfl rfl rfl) (fun w m => by have h := Mem.shrink (B := ((some b13, blk (⟨a0.address, .slice A1 a0.topics.length c2, .slice A6 a0.data.length c7⟩ : LogC).C 63) :: ((ob25, blk (cs23 ++ r27) 89) :: B20))) (B' := (B114 ++ (((some b107), blk ((([.bool (x39.list), .slice A47 x39.data.length c48, .slice A50 x39.items.length c51] : List Value) ++ ([.bool (x62.list), .slice A70 x62.data.length c71, .slice A73 x62.items.length c74] : List Value) ++ ([.bool (x85.list), .slice A93 x85.data.length c94, .slice A96 x85.items.length c97] : List Value)) ++ []) 89) :: (B86 ++ (B63 ++ (B40 ++ ((some b13, blk (⟨a0.address, .slice A1 a0.topics.length c2, .slice A6 a0.data.length c7⟩ : LogC).C 63) :: ((ob25, blk (cs23 ++ r27) 89) :: B20)))))))) ((List.sublist_append_right _ _).trans ((List.sublist_append_right _ _).trans ((List.sublist_append_right _ _).trans ((List.sublist_cons_self _ _).trans (List.sublist_append_right _ _))))) (m.pick [1] 2 rfl rfl) 1 rfl; exact h) ?_
   refine XW.nil (by kernel_rfl) ?_
   refine QW.then_n (CW.seq (CW.seq (CW.region ?_)))
   refine OW.rv (RV.loadW rfl (List.Mem.head _) rfl rfl rfl rfl rfl) rfl ?_
   obtain ⟨⟨x137, x138⟩, hx136, hf⟩ := some_bind hf
   try dsimp only at hf
   refine OW.callG Tryd.call84 rfl (rlp_Size_does w0 (More w0 Φ (B114 ++ (((some b107), blk ((([.bool (x39.list), .slice A47 x39.data.length c48, .slice A50 x39.items.length c51] : List Value) ++ ([.bool (x62.list), .slice A70 x62.data.length c71, .slice A73 x62.items.length c74] : List Value) ++ ([.bool (x85.list), .slice A93 x85.data.length c94, .slice A96 x85.items.length c97] : List Value)) ++ []) 89) :: (B86 ++ (B63 ++ (B40 ++ ((some b13, blk (⟨a0.address, .slice A1 a0.topics.length c2, .slice A6 a0.data.length c7⟩ : LogC).C 63) :: ((ob25, blk (cs23 ++ r27) 89) :: B20)))))))) ((some b135, blk [.bool (x113.list), .slice A121 x113.data.length c122, .slice A124 x113.items.length c125] 89) :: (some b14, blk [.bool false, .slice none 0 0, .slice none 0 0] 89) :: ((B114 ++ (((some b107), blk ((([.bool (x39.list), .slice A47 x39.data.length c48, .slice A50 x39.items.length c51] : List Value) ++ ([.bool (x62.list), .slice A70 x62.data.length c71, .slice A73 x62.items.length c74] : List Value) ++ ([.bool (x85.list), .slice A93 x85.data.length c94, .slice A96 x85.items.length c97] : List Value)) ++ []) 89) :: (B86 ++ (B63 ++ (B40 ++ ((some b13, blk (⟨a0.address, .slice A1 a0.topics.length c2, .slice A6 a0.data.length c7⟩ : LogC).C 63) :: ((ob25, blk (cs23 ++ r27) 89) :: B20))))))) ++ N)) (fun w m => More.of hΦ 2 m rfl) [.bool (x113.list), .slice A121 x113.data.length c122, .slice A124 x113.items.length c125] x113 x137 x138 h130 hx136) rfl rfl ?_
   rintro _ G141 ⟨b139, b140, rfl⟩
   refine OW.mem (M' := ((some b135, blk [.bool (x113.list), .slice A121 x113.data.length c122, .slice A124 x113.items.length c125] 89) :: (some b14, blk [.bool false, .slice none 0 0, .slice none 0 0] 89) :: ((B114 ++ (((some b107), blk ((([.bool (x39.list), .slice A47 x39.data.length c48, .slice A50 x39.items.length c51] : List Value) ++ ([.bool (x62.list), .slice A70 x62.data.length c71, .slice A73 x62.items.length c74] : List Value) ++ ([.bool (x85.list), .slice A93 x85.data.length c94, .slice A96 x85.items.length c97] : List Value)) ++ []) 89) :: (B86 ++ (B63 ++ (B40 ++ ((some b13, blk (⟨a0.address, .slice A1 a0.topics.length c2, .slice A6 a0.data.length c7⟩ : LogC).C 63) :: ((ob25, blk (cs23 ++ r27) 89) :: B20))))))) ++ N))) (fun w m => m.appR) ?_
   refine OW.rv (RV.move rfl) rfl ?_
   refine OW.rv (RV.extract rfl rfl) rfl ?_
   refine OW.slot (.int .i64 ((x137 : Nat) : Int)) (rfl) ?_
   refine OW.rv (RV.extract rfl rfl) rfl ?_
   refine OW.slot (.int .i64 ((x138 : Nat) : Int)) (rfl) ?_
   refine OW.rv (RV.assign rfl) rfl ?_
   refine OW.rv (RV.assign rfl) rfl ?_
   refine OW.nil (QW.then_n (CW.seq (CW.region ?_)))
   refine OW.rv (RV.move rfl) rfl ?_
   refine OW.rv (RV.neq rfl rfl) rfl ?_
   refine OW.slot (.bool (!decide (x138 = 0))) (congrArg (fun b => Value.bool (!b)) (decide_eq_decide.2 (by omega))) ?_
   refine OW.nil (QW.then_n ?_)
   by_cases h143 : x138 = 0
   ·replace hf := if_t hf h143
    refine CW.is_f rfl (congrArg (fun b => !b) (decide_eq_true h143)) ?_
    refine CW.skip (QW.then_n (CW.seq (CW.region ?_)))
    refine OW.rv (RV.loadW rfl (List.Mem.head _) rfl rfl rfl rfl rfl) rfl ?_
    refine OW.rot1 ?_
    refine OW.sv (SV.storeW rfl rfl rfl (by intro u hu; simp at hu; rcases hu with rfl | rfl | rfl <;> rfl) rfl rfl rfl) ?_
    refine OW.rv (RV.assign rfl) rfl ?_
    refine OW.nil (QW.then_n (CW.ret ?_))
    have er0 := Option.some.inj hf
    obtain ⟨e0, er1⟩ := Prod.mk.inj er0
    clear er0
    subst e0
    subst er1
    refine QW.retG (rs := [.cell 2 89, .tmp 3]) ([.agg [.bool (x113.list), .slice A121 x113.data.length c122, .slice A124 x113.items.length c125].toArray, .int .i64 (0 : Int)]) ((B114 ++ (((some b107), blk ((([.bool (x39.list), .slice A47 x39.data.length c48, .slice A50 x39.items.length c51] : List Value) ++ ([.bool (x62.list), .slice A70 x62.data.length c71, .slice A73 x62.items.length c74] : List Value) ++ ([.bool (x85.list), .slice A93 x85.data.length c94, .slice A96 x85.items.length c97] : List Value)) ++ []) 89) :: (B86 ++ (B63 ++ (B40 ++ ((some b13, blk (⟨a0.address, .slice A1 a0.topics.length c2, .slice A6 a0.data.length c7⟩ : LogC).C 63) :: ((ob25, blk (cs23 ++ r27) 89) :: B20)))))))) rfl ?_ rfl ?_ ?_ _ (.inl rfl)
    ·exact ⟨⟨_, _, _, _, rfl, (List.Mem.head _), rfl, rfl, rfl, rfl⟩, rfl, trivial⟩
    ·exact ⟨(B114 ++ (((some b107), blk ((([.bool (x39.list), .slice A47 x39.data.length c48, .slice A50 x39.items.length c51] : List Value) ++ ([.bool (x62.list), .slice A70 x62.data.length c71, .slice A73 x62.items.length c74] : List Value) ++ ([.bool (x85.list), .slice A93 x85.data.length c94, .slice A96 x85.items.length c97] : List Value)) ++ []) 89) :: (B86 ++ (B63 ++ (B40 ++ ((some b13, blk (⟨a0.address, .slice A1 a0.topics.length c2, .slice A6 a0.data.length c7⟩ : LogC).C 63) :: ((ob25, blk (cs23 ++ r27) 89) :: B20))))))), [.bool (x113.list), .slice A121 x113.data.length c122, .slice A124 x113.items.length c125], h130, (by omega), rfl, rfl⟩
    ·exact (fun w m => m.pick [] 2 rfl rfl)
   ·replace hf := if_f hf h143
    refine CW.is_t rfl (congrArg (fun b => !b) (decide_eq_false h143)) ?_
    refine CW.seq (CW.region ?_)
    refine OW.rv (RV.buildSt (l := [.bool false, .slice none 0 0, .slice none 0 0]) (cs := [.bool false, .slice none 0 0, .slice none 0 0]) [] rfl rfl rfl rfl rfl rfl rfl) rfl ?_
    refine OW.rv (RV.move rfl) rfl ?_
    refine OW.rot1 ?_
    refine OW.sv (SV.storeW rfl rfl rfl (by intro u hu; simp at hu; rcases hu with rfl | rfl | rfl <;> rfl) rfl rfl rfl) ?_
    refine OW.rv (RV.assign rfl) rfl ?_
    refine OW.nil (QW.then_n (CW.ret (QW.then_r ?_)))
    have er0 := Option.some.inj hf
    obtain ⟨e0, er1⟩ := Prod.mk.inj er0
    clear er0
    subst e0
    subst er1
    have v144 : View (More w0 Φ (B114 ++ (((some b107), blk ((([.bool (x39.list), .slice A47 x39.data.length c48, .slice A50 x39.items.length c51] : List Value) ++ ([.bool (x62.list), .slice A70 x62.data.length c71, .slice A73 x62.items.length c74] : List Value) ++ ([.bool (x85.list), .slice A93 x85.data.length c94, .slice A96 x85.items.length c97] : List Value)) ++ []) 89) :: (B86 ++ (B63 ++ (B40 ++ ((some b13, blk (⟨a0.address, .slice A1 a0.topics.length c2, .slice A6 a0.data.length c7⟩ : LogC).C 63) :: ((ob25, blk (cs23 ++ r27) 89) :: B20)))))))) none ([] : List (BitVec 8)).length 0 1 (u8s []) := View.nil
    have v145 : View (More w0 Φ (B114 ++ (((some b107), blk ((([.bool (x39.list), .slice A47 x39.data.length c48, .slice A50 x39.items.length c51] : List Value) ++ ([.bool (x62.list), .slice A70 x62.data.length c71, .slice A73 x62.items.length c74] : List Value) ++ ([.bool (x85.list), .slice A93 x85.data.length c94, .slice A96 x85.items.length c97] : List Value)) ++ []) 89) :: (B86 ++ (B63 ++ (B40 ++ ((some b13, blk (⟨a0.address, .slice A1 a0.topics.length c2, .slice A6 a0.data.length c7⟩ : LogC).C 63) :: ((ob25, blk (cs23 ++ r27) 89) :: B20)))))))) none ([] : List (It)).length 0 3 [] := View.nil
    refine QW.retG (rs := [.cell 2 89, .tmp 3]) ([.agg [.bool false, .slice none 0 0, .slice none 0 0].toArray, .int .i64 ((x138 : Nat) : Int)]) ((B114 ++ (((some b107), blk ((([.bool (x39.list), .slice A47 x39.data.length c48, .slice A50 x39.items.length c51] : List Value) ++ ([.bool (x62.list), .slice A70 x62.data.length c71, .slice A73 x62.items.length c74] : List Value) ++ ([.bool (x85.list), .slice A93 x85.data.length c94, .slice A96 x85.items.length c97] : List Value)) ++ []) 89) :: (B86 ++ (B63 ++ (B40 ++ ((some b13, blk (⟨a0.address, .slice A1 a0.topics.length c2, .slice A6 a0.data.length c7⟩ : LogC).C 63) :: ((ob25, blk (cs23 ++ r27) 89) :: B20)))))))) rfl ?_ rfl ?_ ?_ _ (.inl rfl)
    ·exact ⟨⟨_, _, _, _, rfl, (List.Mem.head _), rfl, rfl, rfl, rfl⟩, rfl, trivial⟩
    ·exact ⟨(B114 ++ (((some b107), blk ((([.bool (x39.list), .slice A47 x39.data.length c48, .slice A50 x39.items.length c51] : List Value) ++ ([.bool (x62.list), .slice A70 x62.data.length c71, .slice A73 x62.items.length c74] : List Value) ++ ([.bool (x85.list), .slice A93 x85.data.length c94, .slice A96 x85.items.length c97] : List Value)) ++ []) 89) :: (B86 ++ (B63 ++ (B40 ++ ((some b13, blk (⟨a0.address, .slice A1 a0.topics.length c2, .slice A6 a0.data.length c7⟩ : LogC).C 63) :: ((ob25, blk (cs23 ++ r27) 89) :: B20))))))), [.bool false, .slice none 0 0, .slice none 0 0], (ItRd.mk v144 v145 (Reps.nil)), (by omega), rfl, rfl⟩
    ·exact (fun w m => m.pick [] 2 rfl rfl)
  ·skip
   refine CW.block ?_
   refine CW.mem (M' := ((none, blk ([] ++ []) 89) :: (some b14, blk [.bool false, .slice none 0 0, .slice none 0 0] 89) :: (some b13, blk (⟨a0.address, .slice A1 a0.topics.length c2, .slice A6 a0.data.length c7⟩ : LogC).C 63) :: ([] ++ N))) (fun w m => m.nil_ent _) ?_
   refine CW.loopJ (fun k L' M' => ∃ l148 : List (It), ∃ n155 : Nat, ∃ B146 : List Ent, ∃ cs149 : List Value, ∃ ob151 : Option Nat, ∃ c152 : Nat, ∃ r153 : List Value, (receipt_LogItem.l1 a0 k l148 n155) = some q18 ∧ (∀ w, Mem w0 w B146 → Mem w0 w []) ∧ (Reps (ItRd (More w0 Φ B146)) cs149 l148) ∧ (OwnS ob151 l148.length c152 3 cs149 r153) ∧ (n155 ≤ 9223372036854775807) ∧ L' = [(1, ptr (some b13) 0), (2, ptr (some b14) 0), (4, sl ob151 0 l148.length c152), (16, .slice A1 a0.topics.length c2), (17, .int .i64 ((a0.topics.length : Nat) : Int)), (18, .int .i64 ((n155 : Nat) : Int))] ∧ M' = ((ob151, blk (cs149 ++ r153) 89) :: (some b14, blk [.bool false, .slice none 0 0, .slice none 0 0] 89) :: (some b13, blk (⟨a0.address, .slice A1 a0.topics.length c2, .slice A6 a0.data.length c7⟩ : LogC).C 63) :: (B146 ++ N))) (k0 := (a0.topics.length - 0 + 2)) ⟨([] : List (It)), 0, [], [], none, 0, [], hq19, (fun w m => m), Reps.nil, OwnS.nil, (by omega), rfl, rfl⟩ ⟨rfl, rfl, rfl, rfl, rfl, rfl, trivial⟩ (fun w m => m.pick [0, 1, 2] 3 rfl rfl) ?_
   clear hq19
   rintro k157 L160 M161 ⟨l148, n155, B146, cs149, ob151, c152, r153, hl158, hB147, h150, o154, b156, e162, e163⟩
   rw [e162, e163]
   clear e162 e163 L160 M161
   rcases k157 with _ | k157
   ·rw [receipt_LogItem.l1] at hl158; cases hl158
   rw [receipt_LogItem.l1] at hl158
   have gq12 : ∀ w, More w0 Φ B146 w → More w0 Φ [] w := fun w q => More.mono (fun w m => hB147 w (m)) q
   replace v3 := v3.mono gq12
   replace h5 := h5.mono (Ar8Rd.mono gq12)
   replace h10 := LogRd.mono gq12 _ _ h10
   replace v8 := v8.mono gq12
   have m164 := o154.mx
   refine CW.seq (CW.region ?_)
   refine OW.rv (RV.lss rfl rfl) rfl ?_
   refine OW.slot (.bool (decide (n155 < a0.topics.length))) (congrArg Value.bool (decide_eq_decide.2 (by omega))) ?_
   refine OW.nil (QW.then_n (CW.seq ?_))
   by_cases h165 : n155 < a0.topics.length
   ·replace hl158 := if_t hl158 h165
    refine CW.is_t rfl (decide_eq_true h165) ?_
    refine CW.skip (QW.then_n (CW.seq (CW.block (CW.seq (CW.region ?_)))))
    obtain ⟨x166, hx167, hl158⟩ := some_bind hl158
    have hl168 := lt_of_at hx167
    refine OW.rv (RV.idx_rs (n155) rfl rfl rfl rfl rfl (v3.isSome (by decide) hl168) (by omega)) rfl ?_
    obtain ⟨cs169, h170, h171⟩ := h5.get Ar8Rd.len hx167
    have h170a := h170
    subst h170a
    refine OW.rv (RV.loadAs rfl rfl rfl rfl (fun w m => v3.load (More.of hΦ 3 m rfl) h171) ((u8s_length _).trans Vector.length_toList)) rfl ?_
    refine OW.alloc (l := (u8s (Vector.replicate 32 0#8).toList)) rfl (by rw [Vector.toList_replicate, ← u8s_rep']; rfl) rfl (fun b172 => ?_)
    refine OW.sv (SV.storeW rfl rfl rfl (u8s_one _) rfl ((u8s_length _).trans Vector.length_toList) ((u8s_length _).trans Vector.length_toList)) ?_
    refine OW.nil (QW.then_n (CW.region ?_))
    refine OW.rv (RV.move rfl) rfl ?_
    refine OW.mem (M' := (ob151, blk (cs149 ++ r153) 89) :: (some b14, blk [.bool false, .slice none 0 0, .slice none 0 0] 89) :: (some b13, blk (⟨a0.address, .slice A1 a0.topics.length c2, .slice A6 a0.data.length c7⟩ : LogC).C 63) :: (((some b172, blk (u8s x166.toList) 24) :: B146) ++ N)) (fun w m => m.pick [1, 2, 3, 0] 4 rfl rfl) ?_
    have gq13 : ∀ w, More w0 Φ ((some b172, blk (u8s x166.toList) 24) :: B146) w → More w0 Φ B146 w := fun w q => More.mono (fun w m => (m).tail) q
    replace v3 := v3.mono gq13
    replace h5 := h5.mono (Ar8Rd.mono gq13)
    replace h150 := h150.mono (ItRd.mono gq13)
    replace h10 := LogRd.mono gq13 _ _ h10
    replace v8 := v8.mono gq13
    have v173 : View (More w0 Φ ((some b172, blk (u8s x166.toList) 24) :: B146)) (some ⟨b172, 0, none⟩) x166.toList.length 32 1 (u8s x166.toList) := View.arr (w0 := w0) (te := 24) (fun w q => q.2.sublist (List.singleton_sublist.2 (List.mem_cons_self ..))) (by decide)
    refine OW.rv (RV.arr_all rfl rfl rfl) rfl ?_
    refine OW.slot (.slice (some ⟨b172, 0, none⟩) x166.toList.length 32) (by rw [Vector.length_toList]; try rfl) ?_
    have v174 := v173
    have m175 := v174.mx
    obtain ⟨x177, hx176, hl158⟩ := some_bind hl158
    refine OW.callG Tryd.call60 rfl (rlp_Text_does w0 (More w0 Φ ((some b172, blk (u8s x166.toList) 24) :: B146)) ((ob151, blk (cs149 ++ r153) 89) :: (some b14, blk [.bool false, .slice none 0 0, .slice none 0 0] 89) :: (some b13, blk (⟨a0.address, .slice A1 a0.topics.length c2, .slice A6 a0.data.length c7⟩ : LogC).C 63) :: (((some b172, blk (u8s x166.toList) 24) :: B146) ++ N)) (fun w m => More.of hΦ 3 m rfl) (some ⟨b172, 0, none⟩) 32 x166.toList x177 v174 hx176) rfl rfl ?_
    rintro L181 M182 ⟨B178, cs179, h180, e183, e184⟩
    rw [e183, e184]
    clear e183 e184 L181 M182
    refine OW.mem (M' := ((ob151, blk (cs149 ++ r153) 89) :: (some b14, blk [.bool false, .slice none 0 0, .slice none 0 0] 89) :: (some b13, blk (⟨a0.address, .slice A1 a0.topics.length c2, .slice A6 a0.data.length c7⟩ : LogC).C 63) :: ((B178 ++ ((some b172, blk (u8s x166.toList) 24) :: B146)) ++ N))) (fun w m => by have h := Mem.sinkAt (A := B178) m 0 3 rfl rfl; exact h) ?_
    have gq14 : ∀ w, More w0 Φ (B178 ++ ((some b172, blk (u8s x166.toList) 24) :: B146)) w → More w0 Φ ((some b172, blk (u8s x166.toList) 24) :: B146) w := fun w q => More.mono (fun w m => (m).appR) q
    replace v3 := v3.mono gq14
    replace h5 := h5.mono (Ar8Rd.mono gq14)
    replace h150 := h150.mono (ItRd.mono gq14)
    replace v174 := v174.mono gq14
    replace h10 := LogRd.mono gq14 _ _ h10
    replace v8 := v8.mono gq14
    replace h180 := ItRd.mono (Ψ := (More w0 Φ (B178 ++ ((some b172, blk (u8s x166.toList) 24) :: B146)))) (fun w q => More.flat q) _ _ h180
    have h194 := h180
    obtain ⟨A185, c186, A188, c189, cs191, e193, v187, v190, h192⟩ := ItRd.opn h180
    subst e193
    have m195 := v187.mx
    have m196 := v190.mx
    have m197 := v187.mx
    have m198 := v190.mx
    refine OW.ofN (NV.bsA rfl rfl (by intro x hx; simp at hx; subst hx; exact rfl) rfl rfl rfl (by decide) (by decide) rfl) rfl (fun b199 => ?_)
    have h202 : Reps (ItRd (More w0 Φ (B178 ++ ((some b172, blk (u8s x166.toList) 24) :: B146)))) (([.bool (x177.list), .slice A185 x177.data.length c186, .slice A188 x177.items.length c189] : List Value)) [x177] := Reps.one h194
    refine OW.mem (M' := (((some b199), blk ((([.bool (x177.list), .slice A185 x177.data.length c186, .slice A188 x177.items.length c189] : List Value)) ++ []) 89) :: (ob151, blk (cs149 ++ r153) 89) :: (some b14, blk [.bool false, .slice none 0 0, .slice none 0 0] 89) :: (some b13, blk (⟨a0.address, .slice A1 a0.topics.length c2, .slice A6 a0.data.length c7⟩ : LogC).C 63) :: ((B178 ++ ((some b172, blk (u8s x166.toList) 24) :: B146)) ++ N))) (fun w m => m) ?_
    have o200 : OwnS (some b199) ([x177] : List (It)).length 1 3 (([.bool (x177.list), .slice A185 x177.data.length c186, .slice A188 x177.items.length c189] : List Value)) [] := ⟨by simp [ItRd], by simp [ItRd], (fun h => nomatch h), by simp⟩
    have mx_o200 := o200.mx
    refine OW.slot (sl (some b199) 0 ([x177] : List (It)).length 1) (rfl) ?_
    refine OW.rot1 ?_
    obtain ⟨g203, hl158⟩ := some_if hl158
    have h208 := h150.app h202
    refine OW.appendOwn (s := 3) rfl rfl rfl rfl rfl rfl o154 (fun w m => m.rd0 (List.Mem.tail _ (List.Mem.head _)) (fun e => o200.nilc (by decide) e)) o200.n (h202.cell1 ItRd.one) (o200.zeroO (by decide)) (by decide) (by decide) (by first | omega | (simp only [i89, List.length_nil]; omega)) rfl rfl ((l148 ++ ([x177] : List (It))).length) (cs149 ++ (([.bool (x177.list), .slice A185 x177.data.length c186, .slice A188 x177.items.length c189] : List Value))) (List.length_append ..).symm rfl (fun ob204 r205 c206 o207 => ?_)
    have m209 := o207.mx
    refine OW.rv (RV.assign rfl) rfl ?_
    refine OW.nil (QW.block_n (QW.then_n (CW.region ?_)))
    refine OW.rv (RV.add rfl rfl (by omega)) rfl ?_
    refine OW.slot (.int .i64 (((n155 + 1) : Nat) : Int)) (by first | rfl | (congr 1) | (congr 1; omega)) ?_
    refine OW.rv (RV.move rfl) rfl ?_
    refine OW.nil ?_
    exact QW.againJ (k' := k157) (Nat.lt_succ_self _) ⟨(l148 ++ ([x177] : List (It))), (n155 + 1), (B178 ++ ((some b172, blk (u8s x166.toList) 24) :: B146)), (cs149 ++ (([.bool (x177.list), .slice A185 x177.data.length c186, .slice A188 x177.items.length c189] : List Value))), ob204, c206, r205, hl158, (fun w m => hB147 w (((m).appR).tail)), h208, o207, (by omega), rfl, rfl⟩ ⟨rfl, rfl, rfl, rfl, rfl, rfl, trivial⟩ (fun w m => m.pick [0, 2, 3] 4 rfl rfl)
   ·replace hl158 := if_f hl158 h165
    refine CW.is_f rfl (decide_eq_false h165) ?_
    refine CW.exit (QW.then_x (QW.then_x (QW.block_xe ?_)))
    exact QW.join ⟨l148, B146, cs149, ob151, c152, r153, (Option.some.inj hl158).symm, (fun w m => hB147 w (m)), h150, o154, rfl, rfl⟩ ⟨rfl, rfl, rfl, trivial⟩ (fun w m => m.pick [0, 1, 2] 3 rfl rfl)
theorem receipt_Encode_does (w0 : World) (Φ : Ctx) (N : List Ent) (hΦ : ∀ w, Mem w0 w N → Φ w) (cs0_ : List Value) (a0 : Rcpt) (res0 : List (BitVec 8)) (res1 : Nat) (ha0 : RcptRd Φ cs0_ a0) (hg2 : View Φ (some ⟨2, 0, none⟩) 2 2 1 (u8s firstL)) (hf : receipt_Encode a0 = some (res0, res1)) : DoesG Tryd.prog 33 [.agg cs0_.toArray] w0 [] N (fun v G => ∃ B : List Ent, ∃ or0 : Option Nat, ∃ kr0 : Nat, ∃ rr0 : List Value, (OwnS or0 res0.length kr0 1 (u8s res0) rr0) ∧ (res1 ≤ 9223372036854775807) ∧ v = .tuple #[sl or0 0 res0.length kr0, .int .i64 ((res1 : Nat) : Int)] ∧ G = (or0, blk ((u8s res0) ++ rr0) 5) :: B) := by
 unfold receipt_Encode at hf
 replace hg2 := hg2.mono (Ψ := More w0 Φ []) (fun w q => q.1)
 replace ha0 := RcptRd.mono (Ψ := More w0 Φ []) (fun w q => q.1) _ _ ha0
 have h8 := ha0
 obtain ⟨A2, c3, cs5, e7, b1, v4, h6⟩ := RcptRd.opn ha0
 subst e7
 have m9 := v4.mx
 refine DoesG.enter Tryd.func33 rfl Tryd.ntmps33 rfl (M := (([] ++ N))) rfl ?_
 refine CW.seq (CW.region ?_)
 refine OW.boxA rfl rfl (fun b10 => ?_)
 refine OW.mem (M' := (((some b10, blk (⟨a0.kind, (a0.rooted), a0.root, a0.status, a0.used, a0.bloom, .slice A2 a0.logs.length c3⟩ : RcptC).C 30) :: []) ++ N)) (fun w m => m.pick [0] 1 rfl rfl) ?_
 have gq1 : ∀ w, More w0 Φ ((some b10, blk (⟨a0.kind, (a0.rooted), a0.root, a0.status, a0.used, a0.bloom, .slice A2 a0.logs.length c3⟩ : RcptC).C 30) :: []) w → More w0 Φ [] w := fun w q => More.mono (fun w m => (m).tail) q
 replace h8 := RcptRd.mono gq1 _ _ h8
 replace v4 := v4.mono gq1
 replace h6 := h6.mono (LogRd.mono gq1)
 replace hg2 := hg2.mono gq1
 have hH11 : Held w0 (More w0 Φ ((some b10, blk (⟨a0.kind, (a0.rooted), a0.root, a0.status, a0.used, a0.bloom, .slice A2 a0.logs.length c3⟩ : RcptC).C 30) :: [])) b10 (⟨a0.kind, (a0.rooted), a0.root, a0.status, a0.used, a0.bloom, .slice A2 a0.logs.length c3⟩ : RcptC).C 30 := fun w q => q.2.sublist (List.singleton_sublist.2 (List.mem_cons_self ..))
 refine OW.rv (RV.assign rfl) rfl ?_
 refine OW.rv (RV.assign rfl) rfl ?_
 refine OW.nil (QW.then_n (CW.seq (CW.seq (CW.region ?_))))
 refine OW.rv (RV.loadWH rfl hH11 (fun w m => More.of hΦ 0 m rfl) rfl rfl rfl (RcptC.C_length _)) rfl ?_
 obtain ⟨x13, hx12, hf⟩ := some_bind hf
 refine OW.callG Tryd.call36 rfl (receipt_Check_does w0 (More w0 Φ ((some b10, blk (⟨a0.kind, (a0.rooted), a0.root, a0.status, a0.used, a0.bloom, .slice A2 a0.logs.length c3⟩ : RcptC).C 30) :: [])) ((((some b10, blk (⟨a0.kind, (a0.rooted), a0.root, a0.status, a0.used, a0.bloom, .slice A2 a0.logs.length c3⟩ : RcptC).C 30) :: []) ++ N)) (fun w m => More.of hΦ 0 m rfl) (⟨a0.kind, (a0.rooted), a0.root, a0.status, a0.used, a0.bloom, .slice A2 a0.logs.length c3⟩ : RcptC).C a0 x13 h8 hg2 hx12) rfl rfl ?_
 rintro _ G15 ⟨b14, rfl⟩
 refine OW.mem (M' := ((((some b10, blk (⟨a0.kind, (a0.rooted), a0.root, a0.status, a0.used, a0.bloom, .slice A2 a0.logs.length c3⟩ : RcptC).C 30) :: []) ++ N))) (fun w m => m.appR) ?_
 refine OW.rv (RV.assign rfl) rfl ?_
 refine OW.nil (QW.then_n (CW.seq (CW.region ?_)))
 refine OW.rv (RV.move rfl) rfl ?_
 refine OW.rv (RV.neq rfl rfl) rfl ?_
 refine OW.slot (.bool (!decide (x13 = 0))) (congrArg (fun b => Value.bool (!b)) (decide_eq_decide.2 (by omega))) ?_
 refine OW.nil (QW.then_n ?_)
 by_cases h17 : x13 = 0
 ·replace hf := if_t hf h17
  refine CW.is_f rfl (congrArg (fun b => !b) (decide_eq_true h17)) ?_
  refine CW.skip (QW.then_n (CW.seq (CW.region ?_)))
  refine OW.rv (RV.field rfl rfl rfl rfl) rfl ?_
  refine OW.slot (ptr (some b10) 34) rfl ?_
  refine OW.rv (RV.loadH rfl hH11 (fun w m => More.of hΦ 0 m rfl) rfl rfl (RcptC.C_status (⟨a0.kind, (a0.rooted), a0.root, a0.status, a0.used, a0.bloom, .slice A2 a0.logs.length c3⟩ : RcptC))) rfl ?_
  obtain ⟨x19, hx18, hf⟩ := some_bind hf
  refine OW.callG Tryd.call59 rfl (rlp_Small_does w0 (More w0 Φ ((some b10, blk (⟨a0.kind, (a0.rooted), a0.root, a0.status, a0.used, a0.bloom, .slice A2 a0.logs.length c3⟩ : RcptC).C 30) :: [])) ((((some b10, blk (⟨a0.kind, (a0.rooted), a0.root, a0.status, a0.used, a0.bloom, .slice A2 a0.logs.length c3⟩ : RcptC).C 30) :: []) ++ N)) (fun w m => More.of hΦ 0 m rfl) a0.status x19 hx18) rfl rfl ?_
  rintro L23 M24 ⟨B20, cs21, h22, e25, e26⟩
  rw [e25, e26]
  clear e25 e26 L23 M24
  refine OW.mem (M' := (((B20 ++ ((some b10, blk (⟨a0.kind, (a0.rooted), a0.root, a0.status, a0.used, a0.bloom, .slice A2 a0.logs.length c3⟩ : RcptC).C 30) :: [])) ++ N))) (fun w m => by have h := Mem.sinkAt (A := B20) m 0 0 rfl rfl; exact h) ?_
  have gq2 : ∀ w, More w0 Φ (B20 ++ ((some b10, blk (⟨a0.kind, (a0.rooted), a0.root, a0.status, a0.used, a0.bloom, .slice A2 a0.logs.length c3⟩ : RcptC).C 30) :: [])) w → More w0 Φ ((some b10, blk (⟨a0.kind, (a0.rooted), a0.root, a0.status, a0.used, a0.bloom, .slice A2 a0.logs.length c3⟩ : RcptC).C 30) :: []) w := fun w q => More.mono (fun w m => (m).appR) q
  replace h8 := RcptRd.mono gq2 _ _ h8
  replace v4 := v4.mono gq2
  replace h6 := h6.mono (LogRd.mono gq2)
  replace hH11 := hH11.mono gq2
  replace hg2 := hg2.mono gq2
  replace h22 := ItRd.mono (Ψ := (More w0 Φ (B20 ++ ((some b10, blk (⟨a0.kind, (a0.rooted), a0.root, a0.status, a0.used, a0.bloom, .slice A2 a0.logs.length c3⟩ : RcptC).C 30) :: [])))) (fun w q => More.flat q) _ _ h22
  have h36 := h22
  obtain ⟨A27, c28, A30, c31, cs33, e35, v29, v32, h34⟩ := ItRd.opn h22
  subst e35
  have m37 := v29.mx
  have m38 := v32.mx
  have m39 := v29.mx
  have m40 := v32.mx
  refine OW.alloc (l := [.bool false, .slice none 0 0, .slice none 0 0]) rfl rfl rfl (fun b41 => ?_)
  refine OW.sv (SV.storeW rfl rfl rfl (by intro u hu; simp at hu; rcases hu with rfl | rfl | rfl <;> rfl) rfl rfl rfl) ?_
  refine OW.nil (QW.then_n (CW.seq (CW.seq (CW.region ?_))))
  refine OW.rv (RV.field rfl rfl rfl rfl) rfl ?_
  refine OW.slot (ptr (some b10) 1) rfl ?_
  refine OW.rv (RV.loadH rfl hH11 (fun w m => More.of hΦ 1 m rfl) rfl rfl (RcptC.C_rooted (⟨a0.kind, (a0.rooted), a0.root, a0.status, a0.used, a0.bloom, .slice A2 a0.logs.length c3⟩ : RcptC))) rfl ?_
  refine OW.nil (QW.then_n ?_)
  obtain ⟨q42, hq43, hf⟩ := some_bind hf
  refine CW.cutJ (fun L' M' => ∃ p46 : Bool, ∃ l47 : List (BitVec 8), ∃ l51 : List (It), ∃ B44 : List Ent, ∃ A48 : Option Addr, ∃ c49 : Nat, ∃ cs52 : List Value, ∃ A54 : Option Addr, ∃ c55 : Nat, q42 = (p46, l47, l51) ∧ (∀ w, Mem w0 w B44 → Mem w0 w (B20 ++ ((some b10, blk (⟨a0.kind, (a0.rooted), a0.root, a0.status, a0.used, a0.bloom, .slice A2 a0.logs.length c3⟩ : RcptC).C 30) :: []))) ∧ (View (More w0 Φ B44) A48 l47.length c49 1 (u8s l47)) ∧ (Reps (ItRd (More w0 Φ B44)) cs52 l51) ∧ (View (More w0 Φ B44) A54 l51.length c55 3 cs52) ∧ L' = [(1, ptr (some b10) 0), (5, ptr (some b41) 0)] ∧ M' = ((some b41, blk [.bool (p46), .slice A48 l47.length c49, .slice A54 l51.length c55] 89) :: (B44 ++ N))) ?_ ?_
  ·rintro L58 M59 ⟨p46, l47, l51, B44, A48, c49, cs52, A54, c55, e57, hB45, v50, h53, v56, e60, e61⟩
   rw [e60, e61]
   clear e60 e61 L58 M59
   clear hq43
   rw [e57] at hf
   clear e57
   try dsimp only at hf
   have gq3 : ∀ w, More w0 Φ B44 w → More w0 Φ (B20 ++ ((some b10, blk (⟨a0.kind, (a0.rooted), a0.root, a0.status, a0.used, a0.bloom, .slice A2 a0.logs.length c3⟩ : RcptC).C 30) :: [])) w := fun w q => More.mono (fun w m => hB45 w (m)) q
   replace hH11 := hH11.mono gq3
   replace h8 := RcptRd.mono gq3 _ _ h8
   replace v4 := v4.mono gq3
   replace h6 := h6.mono (LogRd.mono gq3)
   replace hg2 := hg2.mono gq3
   have m62 := v50.mx
   have m63 := v56.mx
   refine QW.then_n (CW.seq (CW.region ?_))
   refine OW.rv (RV.assign rfl) rfl ?_
   refine OW.nil (QW.then_n (CW.seq (CW.seq (CW.region ?_))))
   refine OW.rv (RV.field rfl rfl rfl rfl) rfl ?_
   refine OW.slot (ptr (some b10) 292) rfl ?_
   refine OW.rv (RV.loadH rfl hH11 (fun w m => More.of hΦ 1 m rfl) rfl rfl (RcptC.C_logs (⟨a0.kind, (a0.rooted), a0.root, a0.status, a0.used, a0.bloom, .slice A2 a0.logs.length c3⟩ : RcptC))) rfl ?_
   refine OW.rv (RV.len rfl rfl) rfl ?_
   refine OW.rv (RV.move rfl) rfl ?_
   refine OW.nil (QW.then_n ?_)
   obtain ⟨q64, hq65, hf⟩ := some_bind hf
   refine CW.cutJ (fun L' M' => ∃ l68 : List (It), ∃ B66 : List Ent, ∃ cs69 : List Value, ∃ ob71 : Option Nat, ∃ c72 : Nat, ∃ r73 : List Value, q64 = Lp.go l68 ∧ (∀ w, Mem w0 w B66 → Mem w0 w B44) ∧ (Reps (ItRd (More w0 Φ B66)) cs69 l68) ∧ (OwnS ob71 l68.length c72 3 cs69 r73) ∧ L' = [(1, ptr (some b10) 0), (5, ptr (some b41) 0), (6, sl ob71 0 l68.length c72)] ∧ M' = ((ob71, blk (cs69 ++ r73) 89) :: (some b41, blk [.bool (p46), .slice A48 l47.length c49, .slice A54 l51.length c55] 89) :: (B66 ++ N))) ?_ ?_
   ·rintro L76 M77 ⟨l68, B66, cs69, ob71, c72, r73, e75, hB67, h70, o74, e78, e79⟩
    rw [e78, e79]
    clear e78 e79 L76 M77
    clear hq65
    rw [e75] at hf
    clear e75
    try dsimp only at hf
    have gq4 : ∀ w, More w0 Φ B66 w → More w0 Φ B44 w := fun w q => More.mono (fun w m => hB67 w (m)) q
    replace hH11 := hH11.mono gq4
    replace h8 := RcptRd.mono gq4 _ _ h8
    replace v4 := v4.mono gq4
    replace h6 := h6.mono (LogRd.mono gq4)
    replace v50 := v50.mono gq4
    replace v56 := v56.mono gq4
    replace h53 := h53.mono (ItRd.mono gq4)
    replace hg2 := hg2.mono gq4
    have m80 := o74.mx
    refine QW.then_n (CW.seq ?_)
    refine CW.drawsU 17 mixed (by kernel_rfl) rfl ?_
    refine UW.rv 0 rfl (by kernel_rfl) rfl (RV.loadW rfl (List.Mem.tail _ (List.Mem.head _)) rfl rfl rfl rfl rfl) rfl ?_
    refine UW.rv 1 rfl (by kernel_rfl) rfl (RV.field rfl rfl rfl rfl) rfl ?_
    refine UW.slot (ptr (some b10) 35) rfl ?_
    refine UW.rv 2 rfl (by kernel_rfl) rfl (RV.loadH rfl hH11 (fun w m => More.of hΦ 2 m rfl) rfl rfl (RcptC.C_used (⟨a0.kind, (a0.rooted), a0.root, a0.status, a0.used, a0.bloom, .slice A2 a0.logs.length c3⟩ : RcptC))) rfl ?_
    refine UW.rv 4 rfl (by kernel_rfl) rfl (RV.field rfl rfl rfl rfl) rfl ?_
    refine UW.slot (ptr (some b10) 36) rfl ?_
    refine UW.rv 5 rfl (by kernel_rfl) rfl (RV.arr_all rfl rfl rfl) rfl ?_
    refine UW.slot (.slice (some ⟨b10, 36, none⟩) a0.bloom.toList.length 256) (by rw [Vector.length_toList]; try rfl) ?_
    have v81 : View (More w0 Φ B66) (some ⟨b10, 36, none⟩) a0.bloom.toList.length 256 1 (u8s a0.bloom.toList) := Held.part hH11 (RcptC.C_bloom_all (⟨a0.kind, (a0.rooted), a0.root, a0.status, a0.used, a0.bloom, .slice A2 a0.logs.length c3⟩ : RcptC)) (by decide)
    refine UW.rv 7 rfl (by kernel_rfl) rfl (RV.move rfl) rfl ?_
    obtain ⟨x83, hx82, hf⟩ := some_bind hf
    refine UW.callG 3 rfl (by kernel_rfl) rfl Tryd.call59 rfl (fun N' hN' => rlp_Small_does w0 (More w0 Φ B66) N' (fun w m => More.of hΦ 2 (hN' w m) rfl) a0.used x83 hx82) rfl ?_
    rintro L87 M88 ⟨B84, cs85, h86, e89, e90⟩
    rw [e89, e90]
    clear e89 e90 L87 M88
    refine UW.mem (M' := ((ob71, blk (cs69 ++ r73) 89) :: (some b41, blk [.bool (p46), .slice A48 l47.length c49, .slice A54 l51.length c55] 89) :: ((B84 ++ B66) ++ N))) (fun w m => by have h := Mem.sinkAt (A := B84) m 0 2 rfl rfl; exact h) ?_
    have gq5 : ∀ w, More w0 Φ (B84 ++ B66) w → More w0 Φ B66 w := fun w q => More.mono (fun w m => (m).appR) q
    replace hH11 := hH11.mono gq5
    replace h8 := RcptRd.mono gq5 _ _ h8
    replace v4 := v4.mono gq5
    replace h6 := h6.mono (LogRd.mono gq5)
    replace h70 := h70.mono (ItRd.mono gq5)
    replace v50 := v50.mono gq5
    replace v56 := v56.mono gq5
    replace h53 := h53.mono (ItRd.mono gq5)
    replace v81 := v81.mono gq5
    replace hg2 := hg2.mono gq5
    replace h86 := ItRd.mono (Ψ := (More w0 Φ (B84 ++ B66))) (fun w q => More.flat q) _ _ h86
    have h100 := h86
    obtain ⟨A91, c92, A94, c95, cs97, e99, v93, v96, h98⟩ := ItRd.opn h86
    subst e99
    have m101 := v93.mx
    have m102 := v96.mx
    have m103 := v93.mx
    have m104 := v96.mx
    obtain ⟨x106, hx105, hf⟩ := some_bind hf
    refine UW.callG 6 rfl (by kernel_rfl) rfl Tryd.call60 rfl (fun N' hN' => rlp_Text_does w0 (More w0 Φ (B84 ++ B66)) N' (fun w m => More.of hΦ 2 (hN' w m) rfl) (some ⟨b10, 36, none⟩) 256 a0.bloom.toList x106 v81 hx105) rfl ?_
    rintro L110 M111 ⟨B107, cs108, h109, e112, e113⟩
    rw [e112, e113]
    clear e112 e113 L110 M111
    refine UW.mem (M' := ((ob71, blk (cs69 ++ r73) 89) :: (some b41, blk [.bool (p46), .slice A48 l47.length c49, .slice A54 l51.length c55] 89) :: ((B107 ++ (B84 ++ B66)) ++ N))) (fun w m => by have h := Mem.sinkAt (A := B107) m 0 2 rfl rfl; exact h) ?_
    have gq6 : ∀ w, More w0 Φ (B107 ++ (B84 ++ B66)) w → More w0 Φ (B84 ++ B66) w := fun w q => More.mono (fun w m => (m).appR) q
    replace hH11 := hH11.mono gq6
    replace h8 := RcptRd.mono gq6 _ _ h8
    replace v4 := v4.mono gq6
    replace h6 := h6.mono (LogRd.mono gq6)
    replace h70 := h70.mono (ItRd.mono gq6)
    replace v50 := v50.mono gq6
    replace v56 := v56.mono gq6
    replace h53 := h53.mono (ItRd.mono gq6)
    replace v81 := v81.mono gq6
    replace h100 := ItRd.mono gq6 _ _ h100
    replace v93 := v93.mono gq6
    replace v96 := v96.mono gq6
    replace h98 := h98.mono (ItRd.mono gq6)
    replace hg2 := hg2.mono gq6
    replace h109 := ItRd.mono (Ψ := (More w0 Φ (B107 ++ (B84 ++ B66)))) (fun w q => More.flat q) _ _ h109
    have h123 := h109
    obtain ⟨A114, c115, A117, c118, cs120, e122, v116, v119, h121⟩ := ItRd.opn h109
    subst e122
    have m124 := v116.mx
    have m125 := v119.mx
    have m126 := v116.mx
    have m127 := v119.mx
    refine UW.mem (M' := (some b41, blk [.bool (p46), .slice A48 l47.length c49, .slice A54 l51.length c55] 89) :: (((ob71, blk (cs69 ++ r73) 89) :: (B107 ++ (B84 ++ B66))) ++ N)) (fun w m => m.pick [1, 0] 2 rfl rfl) ?_
    have gq7 : ∀ w, More w0 Φ ((ob71, blk (cs69 ++ r73) 89) :: (B107 ++ (B84 ++ B66))) w → More w0 Φ (B107 ++ (B84 ++ B66)) w := fun w q => More.mono (fun w m => (m).tail) q
    replace hH11 := hH11.mono gq7
    replace h8 := RcptRd.mono gq7 _ _ h8
    replace v4 := v4.mono gq7
    replace h6 := h6.mono (LogRd.mono gq7)
    replace h70 := h70.mono (ItRd.mono gq7)
    replace v50 := v50.mono gq7
    replace v56 := v56.mono gq7
    replace h53 := h53.mono (ItRd.mono gq7)
    replace v81 := v81.mono gq7
    replace h100 := ItRd.mono gq7 _ _ h100
    replace v93 := v93.mono gq7
    replace v96 := v96.mono gq7
    replace h98 := h98.mono (ItRd.mono gq7)
    replace h123 := ItRd.mono gq7 _ _ h123
    replace v116 := v116.mono gq7
    replace v119 := v119.mono gq7
    replace h121 := h121.mono (ItRd.mono gq7)
    replace hg2 := hg2.mono gq7
    have v128 : View (More w0 Φ ((ob71, blk (cs69 ++ r73) 89) :: (B107 ++ (B84 ++ B66)))) ((ob71).map fun k => ⟨k, 0, none⟩) l68.length c72 3 cs69 := o74.view (by decide) (fun w q => q.2.sublist (List.singleton_sublist.2 (List.mem_cons_self ..)))
    obtain ⟨x130, hx129, hf⟩ := some_bind hf
    refine UW.callG 8 rfl (by kernel_rfl) rfl Tryd.call63 rfl (fun N' hN' => rlp_List_does w0 (More w0 Φ ((ob71, blk (cs69 ++ r73) 89) :: (B107 ++ (B84 ++ B66)))) N' (fun w m => More.of hΦ 1 (hN' w m) rfl) ((ob71).map fun k => ⟨k, 0, none⟩) c72 cs69 l68 x130 v128 h70 hx129) rfl ?_
    rintro L134 M135 ⟨B131, cs132, h133, e136, e137⟩
    rw [e136, e137]
    clear e136 e137 L134 M135
    refine UW.mem (M' := ((some b41, blk [.bool (p46), .slice A48 l47.length c49, .slice A54 l51.length c55] 89) :: ((B131 ++ ((ob71, blk (cs69 ++ r73) 89) :: (B107 ++ (B84 ++ B66)))) ++ N))) (fun w m => by have h := Mem.sinkAt (A := B131) m 0 1 rfl rfl; exact h) ?_
    have gq8 : ∀ w, More w0 Φ (B131 ++ ((ob71, blk (cs69 ++ r73) 89) :: (B107 ++ (B84 ++ B66)))) w → More w0 Φ ((ob71, blk (cs69 ++ r73) 89) :: (B107 ++ (B84 ++ B66))) w := fun w q => More.mono (fun w m => (m).appR) q
    replace hH11 := hH11.mono gq8
    replace h8 := RcptRd.mono gq8 _ _ h8
    replace v4 := v4.mono gq8
    replace h6 := h6.mono (LogRd.mono gq8)
    replace v128 := v128.mono gq8
    replace h70 := h70.mono (ItRd.mono gq8)
    replace v50 := v50.mono gq8
    replace v56 := v56.mono gq8
    replace h53 := h53.mono (ItRd.mono gq8)
    replace v81 := v81.mono gq8
    replace h100 := ItRd.mono gq8 _ _ h100
    replace v93 := v93.mono gq8
    replace v96 := v96.mono gq8
    replace h98 := h98.mono (ItRd.mono gq8)
    replace h123 := ItRd.mono gq8 _ _ h123
    replace v116 := v116.mono gq8
    replace v119 := v119.mono gq8
    replace h121 := h121.mono (ItRd.mono gq8)
    replace hg2 := hg2.mono gq8
    replace h133 := ItRd.mono (Ψ := (More w0 Φ (B131 ++ ((ob71, blk (cs69 ++ r73) 89) :: (B107 ++ (B84 ++ B66)))))) (fun w q => More.flat q) _ _ h133
    have h147 := h133
    obtain ⟨A138, c139, A141, c142, cs144, e146, v140, v143, h145⟩ := ItRd.opn h133
    subst e146
    have m148 := v140.mx
    have m149 := v143.mx
    have m150 := v140.mx
    have m151 := v143.mx
    refine UW.new 9 rfl (by kernel_rfl) rfl (NV.bsA rfl rfl (by intro x hx; simp at hx; rcases hx with rfl | rfl | rfl | rfl <;> exact rfl) rfl rfl rfl (by decide) (by decide) rfl) rfl (fun b152 => ?_)
    have h155 : Reps (ItRd (More w0 Φ (B131 ++ ((ob71, blk (cs69 ++ r73) 89) :: (B107 ++ (B84 ++ B66)))))) (([.bool (p46), .slice A48 l47.length c49, .slice A54 l51.length c55] : List Value) ++ ([.bool (x83.list), .slice A91 x83.data.length c92, .slice A94 x83.items.length c95] : List Value) ++ ([.bool (x106.list), .slice A114 x106.data.length c115, .slice A117 x106.items.length c118] : List Value) ++ ([.bool (x130.list), .slice A138 x130.data.length c139, .slice A141 x130.items.length c142] : List Value)) [(It.mk (p46) l47 l51), x83, x106, x130] := by simpa using (show Reps (ItRd (More w0 Φ (B131 ++ ((ob71, blk (cs69 ++ r73) 89) :: (B107 ++ (B84 ++ B66)))))) _ [(It.mk (p46) l47 l51), x83, x106, x130] from (.cons (ItRd.mk v50 v56 h53) (.cons h100 (.cons h123 (.cons h147 .nil)))))
    refine UW.mem (M' := (((some b152), blk ((([.bool (p46), .slice A48 l47.length c49, .slice A54 l51.length c55] : List Value) ++ ([.bool (x83.list), .slice A91 x83.data.length c92, .slice A94 x83.items.length c95] : List Value) ++ ([.bool (x106.list), .slice A114 x106.data.length c115, .slice A117 x106.items.length c118] : List Value) ++ ([.bool (x130.list), .slice A138 x130.data.length c139, .slice A141 x130.items.length c142] : List Value)) ++ []) 89) :: (some b41, blk [.bool (p46), .slice A48 l47.length c49, .slice A54 l51.length c55] 89) :: ((B131 ++ ((ob71, blk (cs69 ++ r73) 89) :: (B107 ++ (B84 ++ B66)))) ++ N))) (fun w m => m) ?_
    have o153 : OwnS (some b152) ([(It.mk (p46) l47 l51), x83, x106, x130] : List (It)).length 4 3 (([.bool (p46), .slice A48 l47.length c49, .slice A54 l51.length c55] : List Value) ++ ([.bool (x83.list), .slice A91 x83.data.length c92, .slice A94 x83.items.length c95] : List Value) ++ ([.bool (x106.list), .slice A114 x106.data.length c115, .slice A117 x106.items.length c118] : List Value) ++ ([.bool (x130.list), .slice A138 x130.data.length c139, .slice A141 x130.items.length c142] : List Value)) [] := ⟨by simp [ItRd], by simp [ItRd], (fun h => nomatch h), by simp⟩
    have mx_o153 := o153.mx
    refine UW.slot (sl (some b152) 0 ([(It.mk (p46) l47 l51), x83, x106, x130] : List (It)).length 4) (rfl) ?_
    refine UW.mem (M' := (some b41, blk [.bool (p46), .slice A48 l47.length c49, .slice A54 l51.length c55] 89) :: ((((some b152), blk ((([.bool (p46), .slice A48 l47.length c49, .slice A54 l51.length c55] : List Value) ++ ([.bool (x83.list), .slice A91 x83.data.length c92, .slice A94 x83.items.length c95] : List Value) ++ ([.bool (x106.list), .slice A114 x106.data.length c115, .slice A117 x106.items.length c118] : List Value) ++ ([.bool (x130.list), .slice A138 x130.data.length c139, .slice A141 x130.items.length c142] : List Value)) ++ []) 89) :: (B131 ++ ((ob71, blk (cs69 ++ r73) 89) :: (B107 ++ (B84 ++ B66))))) ++ N)) (fun w m => m.pick [1, 0] 2 rfl rfl) ?_
    have gq9 : ∀ w, More w0 Φ (((some b152), blk ((([.bool (p46), .slice A48 l47.length c49, .slice A54 l51.length c55] : List Value) ++ ([.bool (x83.list), .slice A91 x83.data.length c92, .slice A94 x83.items.length c95] : List Value) ++ ([.bool (x106.list), .slice A114 x106.data.length c115, .slice A117 x106.items.length c118] : List Value) ++ ([.bool (x130.list), .slice A138 x130.data.length c139, .slice A141 x130.items.length c142] : List Value)) ++ []) 89) :: (B131 ++ ((ob71, blk (cs69 ++ r73) 89) :: (B107 ++ (B84 ++ B66))))) w → More w0 Φ (B131 ++ ((ob71, blk (cs69 ++ r73) 89) :: (B107 ++ (B84 ++ B66)))) w := fun w q => More.mono (fun w m => (m).tail) q
    replace hH11 := hH11.mono gq9
    replace h8 := RcptRd.mono gq9 _ _ h8
    replace v4 := v4.mono gq9
    replace h6 := h6.mono (LogRd.mono gq9)
    replace v128 := v128.mono gq9
    replace h70 := h70.mono (ItRd.mono gq9)
    replace v50 := v50.mono gq9
    replace v56 := v56.mono gq9
    replace h53 := h53.mono (ItRd.mono gq9)
    replace v81 := v81.mono gq9
    replace h100 := ItRd.mono gq9 _ _ h100
    replace v93 := v93.mono gq9
    replace v96 := v96.mono gq9
    replace h98 := h98.mono (ItRd.mono gq9)
    replace h123 := ItRd.mono gq9 _ _ h123
    replace v116 := v116.mono gq9
    replace v119 := v119.mono gq9
    replace h121 := h121.mono (ItRd.mono gq9)
    replace h147 := ItRd.mono gq9 _ _ h147
    replace v140 := v140.mono gq9
    replace v143 := v143.mono gq9
    replace h145 := h145.mono (ItRd.mono gq9)
    replace h155 := h155.mono (ItRd.mono gq9)
    replace hg2 := hg2.mono gq9
    have v156 : View (More w0 Φ (((some b152), blk ((([.bool (p46), .slice A48 l47.length c49, .slice A54 l51.length c55] : List Value) ++ ([.bool (x83.list), .slice A91 x83.data.length c92, .slice A94 x83.items.length c95] : List Value) ++ ([.bool (x106.list), .slice A114 x106.data.length c115, .slice A117 x106.items.length c118] : List Value) ++ ([.bool (x130.list), .slice A138 x130.data.length c139, .slice A141 x130.items.length c142] : List Value)) ++ []) 89) :: (B131 ++ ((ob71, blk (cs69 ++ r73) 89) :: (B107 ++ (B84 ++ B66)))))) (((some b152)).map fun k => ⟨k, 0, none⟩) ([(It.mk (p46) l47 l51), x83, x106, x130] : List (It)).length 4 3 (([.bool (p46), .slice A48 l47.length c49, .slice A54 l51.length c55] : List Value) ++ ([.bool (x83.list), .slice A91 x83.data.length c92, .slice A94 x83.items.length c95] : List Value) ++ ([.bool (x106.list), .slice A114 x106.data.length c115, .slice A117 x106.items.length c118] : List Value) ++ ([.bool (x130.list), .slice A138 x130.data.length c139, .slice A141 x130.items.length c142] : List Value)) := o153.view (by decide) (fun w q => q.2.sublist (List.singleton_sublist.2 (List.mem_cons_self ..)))
    obtain ⟨x158, hx157, hf⟩ := some_bind hf
    refine UW.callG 10 rfl (by kernel_rfl) rfl Tryd.call63 rfl (fun N' hN' => rlp_List_does w0 (More w0 Φ (((some b152), blk ((([.bool (p46), .slice A48 l47.length c49, .slice A54 l51.length c55] : List Value) ++ ([.bool (x83.list), .slice A91 x83.data.length c92, .slice A94 x83.items.length c95] : List Value) ++ ([.bool (x106.list), .slice A114 x106.data.length c115, .slice A117 x106.items.length c118] : List Value) ++ ([.bool (x130.list), .slice A138 x130.data.length c139, .slice A141 x130.items.length c142] : List Value)) ++ []) 89) :: (B131 ++ ((ob71, blk (cs69 ++ r73) 89) :: (B107 ++ (B84 ++ B66)))))) N' (fun w m => More.of hΦ 1 (hN' w m) rfl) (((some b152)).map fun k => ⟨k, 0, none⟩) 4 (([.bool (p46), .slice A48 l47.length c49, .slice A54 l51.length c55] : List Value) ++ ([.bool (x83.list), .slice A91 x83.data.length c92, .slice A94 x83.items.length c95] : List Value) ++ ([.bool (x106.list), .slice A114 x106.data.length c115, .slice A117 x106.items.length c118] : List Value) ++ ([.bool (x130.list), .slice A138 x130.data.length c139, .slice A141 x130.items.length c142] : List Value)) ([(It.mk (p46) l47 l51), x83, x106, x130] : List (It)) x158 v156 h155 hx157) rfl ?_
    rintro L162 M163 ⟨B159, cs160, h161, e164, e165⟩
    rw [e164, e165]
    clear e164 e165 L162 M163
    refine UW.mem (M' := ((some b41, blk [.bool (p46), .slice A48 l47.length c49, .slice A54 l51.length c55] 89) :: ((B159 ++ (((some b152), blk ((([.bool (p46), .slice A48 l47.length c49, .slice A54 l51.length c55] : List Value) ++ ([.bool (x83.list), .slice A91 x83.data.length c92, .slice A94 x83.items.length c95] : List Value) ++ ([.bool (x106.list), .slice A114 x106.data.length c115, .slice A117 x106.items.length c118] : List Value) ++ ([.bool (x130.list), .slice A138 x130.data.length c139, .slice A141 x130.items.length c142] : List Value)) ++ []) 89) :: (B131 ++ ((ob71, blk (cs69 ++ r73) 89) :: (B107 ++ (B84 ++ B66)))))) ++ N))) (fun w m => by have h := Mem.sinkAt (A := B159) m 0 1 rfl rfl; exact h) ?_
    have gq10 : ∀ w, More w0 Φ (B159 ++ (((some b152), blk ((([.bool (p46), .slice A48 l47.length c49, .slice A54 l51.length c55] : List Value) ++ ([.bool (x83.list), .slice A91 x83.data.length c92, .slice A94 x83.items.length c95] : List Value) ++ ([.bool (x106.list), .slice A114 x106.data.length c115, .slice A117 x106.items.length c118] : List Value) ++ ([.bool (x130.list), .slice A138 x130.data.length c139, .slice A141 x130.items.length c142] : List Value)) ++ []) 89) :: (B131 ++ ((ob71, blk (cs69 ++ r73) 89) :: (B107 ++ (B84 ++ B66)))))) w → More w0 Φ (((some b152), blk ((([.bool (p46), .slice A48 l47.length c49, .slice A54 l51.length c55] : List Value) ++ ([.bool (x83.list), .slice A91 x83.data.length c92, .slice A94 x83.items.length c95] : List Value) ++ ([.bool (x106.list), .slice A114 x106.data.length c115, .slice A117 x106.items.length c118] : List Value) ++ ([.bool (x130.list), .slice A138 x130.data.length c139, .slice A141 x130.items.length c142] : List Value)) ++ []) 89) :: (B131 ++ ((ob71, blk (cs69 ++ r73) 89) :: (B107 ++ (B84 ++ B66))))) w := fun w q => More.mono (fun w m => (m).appR) q
    replace hH11 := hH11.mono gq10
    replace h8 := RcptRd.mono gq10 _ _ h8
    replace v4 := v4.mono gq10
    replace h6 := h6.mono (LogRd.mono gq10)
    replace v128 := v128.mono gq10
    replace h70 := h70.mono (ItRd.mono gq10)
    replace v50 := v50.mono gq10
    replace v56 := v56.mono gq10
    replace h53 := h53.mono (ItRd.mono gq10)
    replace v81 := v81.mono gq10
    replace h100 := ItRd.mono gq10 _ _ h100
    replace v93 := v93.mono gq10
    replace v96 := v96.mono gq10
    replace h98 := h98.mono (ItRd.mono gq10)
    replace h123 := ItRd.mono gq10 _ _ h123
    replace v116 := v116.mono gq10
    replace v119 := v119.mono gq10
    replace h121 := h121.mono (ItRd.mono gq10)
    replace h147 := ItRd.mono gq10 _ _ h147
    replace v140 := v140.mono gq10
    replace v143 := v143.mono gq10
    replace h145 := h145.mono (ItRd.mono gq10)
    replace v156 := v156.mono gq10
    replace h155 := h155.mono (ItRd.mono gq10)
    replace hg2 := hg2.mono gq10
    replace h161 := ItRd.mono (Ψ := (More w0 Φ (B159 ++ (((some b152), blk ((([.bool (p46), .slice A48 l47.length c49, .slice A54 l51.length c55] : List Value) ++ ([.bool (x83.list), .slice A91 x83.data.length c92, .slice A94 x83.items.length c95] : List Value) ++ ([.bool (x106.list), .slice A114 x106.data.length c115, .slice A117 x106.items.length c118] : List Value) ++ ([.bool (x130.list), .slice A138 x130.data.length c139, .slice A141 x130.items.length c142] : List Value)) ++ []) 89) :: (B131 ++ ((ob71, blk (cs69 ++ r73) 89) :: (B107 ++ (B84 ++ B66)))))))) (fun w q => More.flat q) _ _ h161
    have h175 := h161
    obtain ⟨A166, c167, A169, c170, cs172, e174, v168, v171, h173⟩ := ItRd.opn h161
    subst e174
    have m176 := v168.mx
    have m177 := v171.mx
    have m178 := v168.mx
    have m179 := v171.mx
    obtain ⟨⟨x181, x182⟩, hx180, hf⟩ := some_bind hf
    try dsimp only at hf
    refine UW.callG 11 rfl (by kernel_rfl) rfl Tryd.call62 rfl (fun N' hN' => rlp_Encode_does w0 (More w0 Φ (B159 ++ (((some b152), blk ((([.bool (p46), .slice A48 l47.length c49, .slice A54 l51.length c55] : List Value) ++ ([.bool (x83.list), .slice A91 x83.data.length c92, .slice A94 x83.items.length c95] : List Value) ++ ([.bool (x106.list), .slice A114 x106.data.length c115, .slice A117 x106.items.length c118] : List Value) ++ ([.bool (x130.list), .slice A138 x130.data.length c139, .slice A141 x130.items.length c142] : List Value)) ++ []) 89) :: (B131 ++ ((ob71, blk (cs69 ++ r73) 89) :: (B107 ++ (B84 ++ B66))))))) N' (fun w m => More.of hΦ 1 (hN' w m) rfl) [.bool (x158.list), .slice A166 x158.data.length c167, .slice A169 x158.items.length c170] x158 x181 x182 h175 hx180) rfl ?_
    rintro L189 M190 ⟨B183, ob184, c185, r186, o187, b188, e191, e192⟩
    rw [e191, e192]
    clear e191 e192 L189 M190
    refine UW.mem (M' := ((ob184, blk ((u8s x181) ++ r186) 5) :: (some b41, blk [.bool (p46), .slice A48 l47.length c49, .slice A54 l51.length c55] 89) :: ((B183 ++ (B159 ++ (((some b152), blk ((([.bool (p46), .slice A48 l47.length c49, .slice A54 l51.length c55] : List Value) ++ ([.bool (x83.list), .slice A91 x83.data.length c92, .slice A94 x83.items.length c95] : List Value) ++ ([.bool (x106.list), .slice A114 x106.data.length c115, .slice A117 x106.items.length c118] : List Value) ++ ([.bool (x130.list), .slice A138 x130.data.length c139, .slice A141 x130.items.length c142] : List Value)) ++ []) 89) :: (B131 ++ ((ob71, blk (cs69 ++ r73) 89) :: (B107 ++ (B84 ++ B66))))))) ++ N))) (fun w m => by have h := Mem.sinkAt (A := B183) m 1 1 rfl rfl; exact h) ?_
    have gq11 : ∀ w, More w0 Φ (B183 ++ (B159 ++ (((some b152), blk ((([.bool (p46), .slice A48 l47.length c49, .slice A54 l51.length c55] : List Value) ++ ([.bool (x83.list), .slice A91 x83.data.length c92, .slice A94 x83.items.length c95] : List Value) ++ ([.bool (x106.list), .slice A114 x106.data.length c115, .slice A117 x106.items.length c118] : List Value) ++ ([.bool (x130.list), .slice A138 x130.data.length c139, .slice A141 x130.items.length c142] : List Value)) ++ []) 89) :: (B131 ++ ((ob71, blk (cs69 ++ r73) 89) :: (B107 ++ (B84 ++ B66))))))) w → More w0 Φ (B159 ++ (((some b152), blk ((([.bool (p46), .slice A48 l47.length c49, .slice A54 l51.length c55] : List Value) ++ ([.bool (x83.list), .slice A91 x83.data.length c92, .slice A94 x83.items.length c95] : List Value) ++ ([.bool (x106.list), .slice A114 x106.data.length c115, .slice A117 x106.items.length c118] : List Value) ++ ([.bool (x130.list), .slice A138 x130.data.length c139, .slice A141 x130.items.length c142] : List Value)) ++ []) 89) :: (B131 ++ ((ob71, blk (cs69 ++ r73) 89) :: (B107 ++ (B84 ++ B66)))))) w := fun w q => More.mono (fun w m => (m).appR) q
    replace hH11 := hH11.mono gq11
    replace h8 := RcptRd.mono gq11 _ _ h8
    replace v4 := v4.mono gq11
    replace h6 := h6.mono (LogRd.mono gq11)
    replace v128 := v128.mono gq11
    replace h70 := h70.mono (ItRd.mono gq11)
    replace v50 := v50.mono gq11
    replace v56 := v56.mono gq11
    replace h53 := h53.mono (ItRd.mono gq11)
    replace v81 := v81.mono gq11
    replace h100 := ItRd.mono gq11 _ _ h100
    replace v93 := v93.mono gq11
    replace v96 := v96.mono gq11
    replace h98 := h98.mono (ItRd.mono gq11)
    replace h123 := ItRd.mono gq11 _ _ h123
    replace v116 := v116.mono gq11
    replace v119 := v119.mono gq11
    replace h121 := h121.mono (ItRd.mono gq11)
    replace h147 := ItRd.mono gq11 _ _ h147
    replace v140 := v140.mono gq11
    replace v143 := v143.mono gq11
    replace h145 := h145.mono (ItRd.mono gq11)
    replace v156 := v156.mono gq11
    replace h155 := h155.mono (ItRd.mono gq11)
    replace h175 := ItRd.mono gq11 _ _ h175
    replace v168 := v168.mono gq11
    replace v171 := v171.mono gq11
    replace h173 := h173.mono (ItRd.mono gq11)
    replace hg2 := hg2.mono gq11
    have m193 := o187.mx
    refine UW.rv 12 rfl (by kernel_rfl) rfl (RV.move rfl) rfl ?_
    refine UW.rv 13 rfl (by kernel_rfl) rfl (RV.extract rfl rfl) rfl ?_
    refine UW.slot (sl ob184 0 x181.length c185) (rfl) ?_
    refine UW.rv 14 rfl (by kernel_rfl) rfl (RV.extract rfl rfl) rfl ?_
    refine UW.slot (.int .i64 ((x182 : Nat) : Int)) (rfl) ?_
    refine UW.rv 15 rfl (by kernel_rfl) rfl (RV.assign rfl) rfl ?_
    refine UW.rv 16 rfl (by kernel_rfl) rfl (RV.assign rfl) rfl ?_
    refine UW.nil (by kernel_rfl) ?_
    refine OW.nil (QW.then_n (CW.seq (CW.seq (CW.region ?_))))
    refine OW.rv (RV.move rfl) rfl ?_
    refine OW.rv (RV.neq rfl rfl) rfl ?_
    refine OW.slot (.bool (!decide (x182 = 0))) (congrArg (fun b => Value.bool (!b)) (decide_eq_decide.2 (by omega))) ?_
    refine OW.nil (QW.then_n ?_)
    by_cases h194 : x182 = 0
    ·replace hf := if_t hf h194
     refine CW.is_f rfl (congrArg (fun b => !b) (decide_eq_true h194)) ?_
     refine CW.skip (QW.then_n (CW.seq (CW.seq (CW.region ?_))))
     refine OW.rv (RV.field rfl rfl rfl rfl) rfl ?_
     refine OW.slot (ptr (some b10) 0) rfl ?_
     refine OW.rv (RV.loadH rfl hH11 (fun w m => More.of hΦ 2 m rfl) rfl rfl (RcptC.C_kind (⟨a0.kind, (a0.rooted), a0.root, a0.status, a0.used, a0.bloom, .slice A2 a0.logs.length c3⟩ : RcptC))) rfl ?_
     refine OW.rv (RV.neq rfl rfl) rfl ?_
     refine OW.nil (QW.then_n ?_)
     obtain ⟨q195, hq196, hf⟩ := some_bind hf
     refine CW.cutJ (fun L' M' => ∃ l197 : List (BitVec 8), ∃ ob198 : Option Nat, ∃ c199 : Nat, ∃ r200 : List Value, q195 = l197 ∧ (OwnS ob198 l197.length c199 1 (u8s l197) r200) ∧ L' = [(11, sl ob198 0 l197.length c199)] ∧ M' = ((ob198, blk ((u8s l197) ++ r200) 5) :: ((B183 ++ (B159 ++ (((some b152), blk ((([.bool (p46), .slice A48 l47.length c49, .slice A54 l51.length c55] : List Value) ++ ([.bool (x83.list), .slice A91 x83.data.length c92, .slice A94 x83.items.length c95] : List Value) ++ ([.bool (x106.list), .slice A114 x106.data.length c115, .slice A117 x106.items.length c118] : List Value) ++ ([.bool (x130.list), .slice A138 x130.data.length c139, .slice A141 x130.items.length c142] : List Value)) ++ []) 89) :: (B131 ++ ((ob71, blk (cs69 ++ r73) 89) :: (B107 ++ (B84 ++ B66))))))) ++ N))) ?_ ?_
     ·rintro L203 M204 ⟨l197, ob198, c199, r200, e202, o201, e205, e206⟩
      rw [e205, e206]
      clear e205 e206 L203 M204
      clear hq196
      rw [e202] at hf
      clear e202
      try dsimp only at hf
      have m207 := o201.mx
      refine QW.then_n (CW.seq (CW.seq (CW.region ?_)))
      refine OW.rv (RV.move rfl) rfl ?_
      refine OW.rv (RV.len rfl rfl) rfl ?_
      refine OW.rv (RV.gtr rfl rfl) rfl ?_
      refine OW.slot (.bool (decide (16777216 < l197.length))) (congrArg Value.bool (decide_eq_decide.2 (by omega))) ?_
      refine OW.nil (QW.then_n ?_)
      by_cases h208 : 16777216 < l197.length
      ·replace hf := if_t hf h208
       refine CW.is_t rfl (decide_eq_true h208) ?_
       refine CW.seq (CW.region ?_)
       refine OW.rv (RV.assign rfl) rfl ?_
       refine OW.rv (RV.assign rfl) rfl ?_
       refine OW.nil (QW.then_n (CW.ret (QW.then_r ?_)))
       refine QW.mem (M' := ((none, blk ((u8s ([] : List (BitVec 8))) ++ []) 5) :: (ob198, blk ((u8s l197) ++ r200) 5) :: ((B183 ++ (B159 ++ (((some b152), blk ((([.bool (p46), .slice A48 l47.length c49, .slice A54 l51.length c55] : List Value) ++ ([.bool (x83.list), .slice A91 x83.data.length c92, .slice A94 x83.items.length c95] : List Value) ++ ([.bool (x106.list), .slice A114 x106.data.length c115, .slice A117 x106.items.length c118] : List Value) ++ ([.bool (x130.list), .slice A138 x130.data.length c139, .slice A141 x130.items.length c142] : List Value)) ++ []) 89) :: (B131 ++ ((ob71, blk (cs69 ++ r73) 89) :: (B107 ++ (B84 ++ B66))))))) ++ N))) (fun w m => m.nil_ent _) ?_
       have er0 := Option.some.inj hf
       obtain ⟨e0, er1⟩ := Prod.mk.inj er0
       clear er0
       subst e0
       subst er1
       refine QW.retG (rs := [.tmp 2, .tmp 3]) ([sl none 0 ([] : List (BitVec 8)).length 0, .int .i64 (2 : Int)]) ((none, blk ((u8s ([] : List (BitVec 8))) ++ []) 5) :: (B183 ++ (B159 ++ (((some b152), blk ((([.bool (p46), .slice A48 l47.length c49, .slice A54 l51.length c55] : List Value) ++ ([.bool (x83.list), .slice A91 x83.data.length c92, .slice A94 x83.items.length c95] : List Value) ++ ([.bool (x106.list), .slice A114 x106.data.length c115, .slice A117 x106.items.length c118] : List Value) ++ ([.bool (x130.list), .slice A138 x130.data.length c139, .slice A141 x130.items.length c142] : List Value)) ++ []) 89) :: (B131 ++ ((ob71, blk (cs69 ++ r73) 89) :: (B107 ++ (B84 ++ B66)))))))) rfl ?_ rfl ?_ ?_ _ (.inl rfl)
       ·exact ⟨rfl, rfl, trivial⟩
       ·exact ⟨(B183 ++ (B159 ++ (((some b152), blk ((([.bool (p46), .slice A48 l47.length c49, .slice A54 l51.length c55] : List Value) ++ ([.bool (x83.list), .slice A91 x83.data.length c92, .slice A94 x83.items.length c95] : List Value) ++ ([.bool (x106.list), .slice A114 x106.data.length c115, .slice A117 x106.items.length c118] : List Value) ++ ([.bool (x130.list), .slice A138 x130.data.length c139, .slice A141 x130.items.length c142] : List Value)) ++ []) 89) :: (B131 ++ ((ob71, blk (cs69 ++ r73) 89) :: (B107 ++ (B84 ++ B66))))))), none, 0, [], OwnS.nil, (by omega), rfl, rfl⟩
       ·exact (fun w m => m.pick [0] 2 rfl rfl)
      ·replace hf := if_f hf h208
       refine CW.is_f rfl (decide_eq_false h208) ?_
       refine CW.skip (QW.then_n (CW.seq (CW.region ?_)))
       refine OW.rv (RV.move rfl) rfl ?_
       refine OW.rv (RV.assign rfl) rfl ?_
       refine OW.rv (RV.assign rfl) rfl ?_
       refine OW.nil (QW.then_n (CW.ret ?_))
       have er0 := Option.some.inj hf
       obtain ⟨e0, er1⟩ := Prod.mk.inj er0
       clear er0
       subst e0
       subst er1
       refine QW.retG (rs := [.tmp 2, .tmp 3]) ([sl ob198 0 l197.length c199, .int .i64 (0 : Int)]) ((ob198, blk ((u8s l197) ++ r200) 5) :: (B183 ++ (B159 ++ (((some b152), blk ((([.bool (p46), .slice A48 l47.length c49, .slice A54 l51.length c55] : List Value) ++ ([.bool (x83.list), .slice A91 x83.data.length c92, .slice A94 x83.items.length c95] : List Value) ++ ([.bool (x106.list), .slice A114 x106.data.length c115, .slice A117 x106.items.length c118] : List Value) ++ ([.bool (x130.list), .slice A138 x130.data.length c139, .slice A141 x130.items.length c142] : List Value)) ++ []) 89) :: (B131 ++ ((ob71, blk (cs69 ++ r73) 89) :: (B107 ++ (B84 ++ B66)))))))) rfl ?_ rfl ?_ ?_ _ (.inl rfl)
       ·exact ⟨rfl, rfl, trivial⟩
       ·exact ⟨(B183 ++ (B159 ++ (((some b152), blk ((([.bool (p46), .slice A48 l47.length c49, .slice A54 l51.length c55] : List Value) ++ ([.bool (x83.list), .slice A91 x83.data.length c92, .slice A94 x83.items.length c95] : List Value) ++ ([.bool (x106.list), .slice A114 x106.data.length c115, .slice A117 x106.items.length c118] : List Value) ++ ([.bool (x130.list), .slice A138 x130.data.length c139, .slice A141 x130.items.length c142] : List Value)) ++ []) 89) :: (B131 ++ ((ob71, blk (cs69 ++ r73) 89) :: (B107 ++ (B84 ++ B66))))))), ob198, c199, r200, o201, (by omega), rfl, rfl⟩
       ·exact (fun w m => m.pick [0] 1 rfl rfl)
     ·skip
      by_cases h209 : a0.kind = (0 : Int)
      ·replace hq196 := if_t hq196 h209
       refine CW.is_f rfl (congrArg (fun b => !b) (decide_eq_true h209)) ?_
       refine CW.skip ?_
       exact QW.join ⟨x181, ob184, c185, r186, (Option.some.inj hq196).symm, o187, rfl, rfl⟩ ⟨rfl, trivial⟩ (fun w m => m.pick [0] 2 rfl rfl)
      ·replace hq196 := if_f hq196 h209
       refine CW.is_t rfl (congrArg (fun b => !b) (decide_eq_false h209)) ?_
       refine CW.region ?_
       refine OW.rv (RV.field rfl rfl rfl rfl) rfl ?_
       refine OW.slot (ptr (some b10) 0) rfl ?_
       refine OW.rv (RV.loadH rfl hH11 (fun w m => More.of hΦ 2 m rfl) rfl rfl (RcptC.C_kind (⟨a0.kind, (a0.rooted), a0.root, a0.status, a0.used, a0.bloom, .slice A2 a0.logs.length c3⟩ : RcptC))) rfl ?_
       refine OW.rv (RV.conv_i8 rfl rfl rfl) rfl ?_
       refine OW.ofN (NV.bs1 rfl rfl rfl rfl rfl rfl) rfl (fun b210 => ?_)
       refine OW.mem (M' := (((some b210), blk ((u8s ([(BitVec.ofInt 8 a0.kind)] : List (BitVec 8))) ++ []) 5) :: (ob184, blk ((u8s x181) ++ r186) 5) :: (some b41, blk [.bool (p46), .slice A48 l47.length c49, .slice A54 l51.length c55] 89) :: ((B183 ++ (B159 ++ (((some b152), blk ((([.bool (p46), .slice A48 l47.length c49, .slice A54 l51.length c55] : List Value) ++ ([.bool (x83.list), .slice A91 x83.data.length c92, .slice A94 x83.items.length c95] : List Value) ++ ([.bool (x106.list), .slice A114 x106.data.length c115, .slice A117 x106.items.length c118] : List Value) ++ ([.bool (x130.list), .slice A138 x130.data.length c139, .slice A141 x130.items.length c142] : List Value)) ++ []) 89) :: (B131 ++ ((ob71, blk (cs69 ++ r73) 89) :: (B107 ++ (B84 ++ B66))))))) ++ N))) (fun w m => by first | exact m | simpa [u8s] using m) ?_
       have o211 : OwnS (some b210) ([(BitVec.ofInt 8 a0.kind)] : List (BitVec 8)).length 1 1 (u8s ([(BitVec.ofInt 8 a0.kind)] : List (BitVec 8))) [] := ⟨by simp [u8s], by simp [u8s], (fun h => nomatch h), by simp⟩
       have mx_o211 := o211.mx
       refine OW.slot (sl (some b210) 0 ([(BitVec.ofInt 8 a0.kind)] : List (BitVec 8)).length 1) (rfl) ?_
       refine OW.rv (RV.move rfl) rfl ?_
       obtain ⟨g212, hq196⟩ := some_if hq196
       refine OW.appendOwn (s := 1) rfl rfl rfl rfl rfl rfl o211 (fun w m => m.rd0 (List.Mem.tail _ (List.Mem.head _)) (fun e => o187.nilc (by decide) e)) o187.n (u8s_one _) (o187.zeroO (by decide)) (by decide) (by decide) (by first | omega | (simp only [i5, List.length_nil]; omega)) rfl rfl ((([(BitVec.ofInt 8 a0.kind)] : List (BitVec 8)) ++ x181).length) (u8s (([(BitVec.ofInt 8 a0.kind)] : List (BitVec 8)) ++ x181)) (List.length_append ..).symm (u8s_app _ _) (fun ob213 r214 c215 o216 => ?_)
       have m217 := o216.mx
       refine OW.rv (RV.assign rfl) rfl ?_
       refine OW.nil ?_
       exact QW.join ⟨(([(BitVec.ofInt 8 a0.kind)] : List (BitVec 8)) ++ x181), ob213, c215, r214, (Option.some.inj hq196).symm, o216, rfl, rfl⟩ ⟨rfl, trivial⟩ (fun w m => m.pick [0] 3 rfl rfl)
    ·replace hf := if_f hf h194
     refine CW.is_t rfl (congrArg (fun b => !b) (decide_eq_false h194)) ?_
     refine CW.seq (CW.region ?_)
     refine OW.rv (RV.move rfl) rfl ?_
     refine OW.rv (RV.assign rfl) rfl ?_
     refine OW.rv (RV.assign rfl) rfl ?_
     refine OW.nil (QW.then_n (CW.ret (QW.then_r ?_)))
     refine QW.mem (M' := ((none, blk ((u8s ([] : List (BitVec 8))) ++ []) 5) :: (ob184, blk ((u8s x181) ++ r186) 5) :: (some b41, blk [.bool (p46), .slice A48 l47.length c49, .slice A54 l51.length c55] 89) :: ((B183 ++ (B159 ++ (((some b152), blk ((([.bool (p46), .slice A48 l47.length c49, .slice A54 l51.length c55] : List Value) ++ ([.bool (x83.list), .slice A91 x83.data.length c92, .slice A94 x83.items.length c95] : List Value) ++ ([.bool (x106.list), .slice A114 x106.data.length c115, .slice A117 x106.items.length c118] : List Value) ++ ([.bool (x130.list), .slice A138 x130.data.length c139, .slice A141 x130.items.length c142] : List Value)) ++ []) 89) :: (B131 ++ ((ob71, blk (cs69 ++ r73) 89) :: (B107 ++ (B84 ++ B66))))))) ++ N))) (fun w m => m.nil_ent _) ?_
     have er0 := Option.some.inj hf
     obtain ⟨e0, er1⟩ := Prod.mk.inj er0
     clear er0
     subst e0
     subst er1
     refine QW.retG (rs := [.tmp 2, .tmp 3]) ([sl none 0 ([] : List (BitVec 8)).length 0, .int .i64 ((x182 : Nat) : Int)]) ((none, blk ((u8s ([] : List (BitVec 8))) ++ []) 5) :: (B183 ++ (B159 ++ (((some b152), blk ((([.bool (p46), .slice A48 l47.length c49, .slice A54 l51.length c55] : List Value) ++ ([.bool (x83.list), .slice A91 x83.data.length c92, .slice A94 x83.items.length c95] : List Value) ++ ([.bool (x106.list), .slice A114 x106.data.length c115, .slice A117 x106.items.length c118] : List Value) ++ ([.bool (x130.list), .slice A138 x130.data.length c139, .slice A141 x130.items.length c142] : List Value)) ++ []) 89) :: (B131 ++ ((ob71, blk (cs69 ++ r73) 89) :: (B107 ++ (B84 ++ B66)))))))) rfl ?_ rfl ?_ ?_ _ (.inl rfl)
     ·exact ⟨rfl, rfl, trivial⟩
     ·exact ⟨(B183 ++ (B159 ++ (((some b152), blk ((([.bool (p46), .slice A48 l47.length c49, .slice A54 l51.length c55] : List Value) ++ ([.bool (x83.list), .slice A91 x83.data.length c92, .slice A94 x83.items.length c95] : List Value) ++ ([.bool (x106.list), .slice A114 x106.data.length c115, .slice A117 x106.items.length c118] : List Value) ++ ([.bool (x130.list), .slice A138 x130.data.length c139, .slice A141 x130.items.length c142] : List Value)) ++ []) 89) :: (B131 ++ ((ob71, blk (cs69 ++ r73) 89) :: (B107 ++ (B84 ++ B66))))))), none, 0, [], OwnS.nil, (by omega), rfl, rfl⟩
     ·exact (fun w m => m.pick [0] 3 rfl rfl)
   ·skip
    refine CW.block ?_
    refine CW.mem (M' := ((none, blk ([] ++ []) 89) :: (some b41, blk [.bool (p46), .slice A48 l47.length c49, .slice A54 l51.length c55] 89) :: (B44 ++ N))) (fun w m => m.nil_ent _) ?_
    refine CW.loopJ (fun k L' M' => ∃ l220 : List (It), ∃ n227 : Nat, ∃ B218 : List Ent, ∃ cs221 : List Value, ∃ ob223 : Option Nat, ∃ c224 : Nat, ∃ r225 : List Value, (receipt_Encode.l1 a0 k l220 n227) = some q64 ∧ (∀ w, Mem w0 w B218 → Mem w0 w B44) ∧ (Reps (ItRd (More w0 Φ B218)) cs221 l220) ∧ (OwnS ob223 l220.length c224 3 cs221 r225) ∧ (n227 ≤ 9223372036854775807) ∧ L' = [(1, ptr (some b10) 0), (5, ptr (some b41) 0), (6, sl ob223 0 l220.length c224), (27, .slice A2 a0.logs.length c3), (28, .int .i64 ((a0.logs.length : Nat) : Int)), (29, .int .i64 ((n227 : Nat) : Int))] ∧ M' = ((ob223, blk (cs221 ++ r225) 89) :: (some b41, blk [.bool (p46), .slice A48 l47.length c49, .slice A54 l51.length c55] 89) :: (B218 ++ N))) (k0 := (a0.logs.length - 0 + 2)) ⟨([] : List (It)), 0, B44, [], none, 0, [], hq65, (fun w m => m), Reps.nil, OwnS.nil, (by omega), rfl, rfl⟩ ⟨rfl, rfl, rfl, rfl, rfl, rfl, trivial⟩ (fun w m => m.pick [0, 1] 2 rfl rfl) ?_
    clear hq65
    rintro k229 L232 M233 ⟨l220, n227, B218, cs221, ob223, c224, r225, hl230, hB219, h222, o226, b228, e234, e235⟩
    rw [e234, e235]
    clear e234 e235 L232 M233
    rcases k229 with _ | k229
    ·rw [receipt_Encode.l1] at hl230; cases hl230
    rw [receipt_Encode.l1] at hl230
    have gq12 : ∀ w, More w0 Φ B218 w → More w0 Φ B44 w := fun w q => More.mono (fun w m => hB219 w (m)) q
    replace hH11 := hH11.mono gq12
    replace h8 := RcptRd.mono gq12 _ _ h8
    replace v4 := v4.mono gq12
    replace h6 := h6.mono (LogRd.mono gq12)
    replace v50 := v50.mono gq12
    replace v56 := v56.mono gq12
    replace h53 := h53.mono (ItRd.mono gq12)
    replace hg2 := hg2.mono gq12
    have m236 := o226.mx
    refine CW.seq (CW.region ?_)
    refine OW.rv (RV.lss rfl rfl) rfl ?_
    refine OW.slot (.bool (decide (n227 < a0.logs.length))) (congrArg Value.bool (decide_eq_decide.2 (by omega))) ?_
    refine OW.nil (QW.then_n (CW.seq ?_))
    by_cases h237 : n227 < a0.logs.length
    ·replace hl230 := if_t hl230 h237
     refine CW.is_t rfl (decide_eq_true h237) ?_
     refine CW.skip (QW.then_n (CW.seq (CW.block (CW.seq (CW.region ?_)))))
     obtain ⟨x238, hx239, hl230⟩ := some_bind hl230
     have hl240 := lt_of_at hx239
     refine OW.rv (RV.idx_rs (n227) rfl rfl rfl rfl rfl (v4.isSome (by decide) hl240) (by omega)) rfl ?_
     obtain ⟨cs241, h242, h243⟩ := h6.get LogRd.len hx239
     have h253 := h242
     obtain ⟨A244, c245, cs247, A249, c250, e252, v246, h248, v251⟩ := LogRd.opn h242
     subst e252
     have m254 := v246.mx
     have m255 := v251.mx
     refine OW.rv (RV.loadAs rfl rfl rfl rfl (fun w m => v4.load (More.of hΦ 2 m rfl) h243) (LogC.C_length _)) rfl ?_
     refine OW.alloc (l := (⟨(Vector.replicate 20 0#8), .slice none 0 0, .slice none 0 0⟩ : LogC).C) rfl (by kernel_rfl) rfl (fun b256 => ?_)
     refine OW.sv (SV.storeW rfl rfl rfl (LogC.C_one _ rfl rfl) rfl (LogC.C_length _) (LogC.C_length _)) ?_
     refine OW.nil (QW.then_n (CW.seq (CW.region ?_)))
     refine OW.rv (RV.loadW rfl (List.Mem.head _) rfl rfl rfl rfl (LogC.C_length _)) rfl ?_
     obtain ⟨⟨x258, x259⟩, hx257, hl230⟩ := some_bind hl230
     try dsimp only at hl230
     refine OW.callG Tryd.call61 rfl (receipt_LogItem_does w0 (More w0 Φ B218) ((some b256, blk (⟨x238.address, .slice A244 x238.topics.length c245, .slice A249 x238.data.length c250⟩ : LogC).C 63) :: (ob223, blk (cs221 ++ r225) 89) :: (some b41, blk [.bool (p46), .slice A48 l47.length c49, .slice A54 l51.length c55] 89) :: (B218 ++ N)) (fun w m => More.of hΦ 3 m rfl) (⟨x238.address, .slice A244 x238.topics.length c245, .slice A249 x238.data.length c250⟩ : LogC).C x238 x258 x259 h253 hx257) rfl rfl ?_
     rintro L264 M265 ⟨B260, cs261, h262, b263, e266, e267⟩
     rw [e266, e267]
     clear e266 e267 L264 M265
     refine OW.mem (M' := ((some b256, blk (⟨x238.address, .slice A244 x238.topics.length c245, .slice A249 x238.data.length c250⟩ : LogC).C 63) :: (ob223, blk (cs221 ++ r225) 89) :: (some b41, blk [.bool (p46), .slice A48 l47.length c49, .slice A54 l51.length c55] 89) :: ((B260 ++ B218) ++ N))) (fun w m => by have h := Mem.sinkAt (A := B260) m 0 3 rfl rfl; exact h) ?_
     have gq13 : ∀ w, More w0 Φ (B260 ++ B218) w → More w0 Φ B218 w := fun w q => More.mono (fun w m => (m).appR) q
     replace hH11 := hH11.mono gq13
     replace h8 := RcptRd.mono gq13 _ _ h8
     replace v4 := v4.mono gq13
     replace h6 := h6.mono (LogRd.mono gq13)
     replace h222 := h222.mono (ItRd.mono gq13)
     replace h253 := LogRd.mono gq13 _ _ h253
     replace v246 := v246.mono gq13
     replace h248 := h248.mono (Ar8Rd.mono gq13)
     replace v251 := v251.mono gq13
     replace v50 := v50.mono gq13
     replace v56 := v56.mono gq13
     replace h53 := h53.mono (ItRd.mono gq13)
     replace hg2 := hg2.mono gq13
     replace h262 := ItRd.mono (Ψ := (More w0 Φ (B260 ++ B218))) (fun w q => More.flat q) _ _ h262
     have h277 := h262
     obtain ⟨A268, c269, A271, c272, cs274, e276, v270, v273, h275⟩ := ItRd.opn h262
     subst e276
     have m278 := v270.mx
     have m279 := v273.mx
     have m280 := v270.mx
     have m281 := v273.mx
     refine OW.rv (RV.move rfl) rfl ?_
     refine OW.rv (RV.extract rfl rfl) rfl ?_
     refine OW.slot (.agg [.bool (x258.list), .slice A268 x258.data.length c269, .slice A271 x258.items.length c272].toArray) (rfl) ?_
     refine OW.rv (RV.extract rfl rfl) rfl ?_
     refine OW.slot (.int .i64 ((x259 : Nat) : Int)) (rfl) ?_
     refine OW.alloc (l := [.bool false, .slice none 0 0, .slice none 0 0]) rfl rfl rfl (fun b282 => ?_)
     refine OW.sv (SV.storeW rfl rfl rfl (by intro u hu; simp at hu; rcases hu with rfl | rfl | rfl <;> rfl) rfl rfl rfl) ?_
     refine OW.rv (RV.assign rfl) rfl ?_
     refine OW.nil (QW.then_n (CW.seq (CW.seq (CW.region ?_))))
     refine OW.rv (RV.move rfl) rfl ?_
     refine OW.rv (RV.neq rfl rfl) rfl ?_
     refine OW.slot (.bool (!decide (x259 = 0))) (congrArg (fun b => Value.bool (!b)) (decide_eq_decide.2 (by omega))) ?_
     refine OW.nil (QW.then_n ?_)
     by_cases h283 : x259 = 0
     ·replace hl230 := if_t hl230 h283
      refine CW.is_f rfl (congrArg (fun b => !b) (decide_eq_true h283)) ?_
      refine CW.skip (QW.then_n (CW.region ?_))
      refine OW.rv (RV.move rfl) rfl ?_
      refine OW.rv (RV.loadW rfl (List.Mem.head _) rfl rfl rfl rfl rfl) rfl ?_
      refine OW.ofN (NV.bsA rfl rfl (by intro x hx; simp at hx; subst hx; exact rfl) rfl rfl rfl (by decide) (by decide) rfl) rfl (fun b284 => ?_)
      have h287 : Reps (ItRd (More w0 Φ (B260 ++ B218))) (([.bool (x258.list), .slice A268 x258.data.length c269, .slice A271 x258.items.length c272] : List Value)) [x258] := Reps.one h277
      refine OW.mem (M' := (((some b284), blk ((([.bool (x258.list), .slice A268 x258.data.length c269, .slice A271 x258.items.length c272] : List Value)) ++ []) 89) :: (some b282, blk [.bool (x258.list), .slice A268 x258.data.length c269, .slice A271 x258.items.length c272] 89) :: (some b256, blk (⟨x238.address, .slice A244 x238.topics.length c245, .slice A249 x238.data.length c250⟩ : LogC).C 63) :: (ob223, blk (cs221 ++ r225) 89) :: (some b41, blk [.bool (p46), .slice A48 l47.length c49, .slice A54 l51.length c55] 89) :: ((B260 ++ B218) ++ N))) (fun w m => m) ?_
      have o285 : OwnS (some b284) ([x258] : List (It)).length 1 3 (([.bool (x258.list), .slice A268 x258.data.length c269, .slice A271 x258.items.length c272] : List Value)) [] := ⟨by simp [ItRd], by simp [ItRd], (fun h => nomatch h), by simp⟩
      have mx_o285 := o285.mx
      refine OW.slot (sl (some b284) 0 ([x258] : List (It)).length 1) (rfl) ?_
      refine OW.rot3 ?_
      obtain ⟨g288, hl230⟩ := some_if hl230
      have h293 := h222.app h287
      refine OW.appendOwn (s := 3) rfl rfl rfl rfl rfl rfl o226 (fun w m => m.rd0 (List.Mem.tail _ (List.Mem.head _)) (fun e => o285.nilc (by decide) e)) o285.n (h287.cell1 ItRd.one) (o285.zeroO (by decide)) (by decide) (by decide) (by first | omega | (simp only [i89, List.length_nil]; omega)) rfl rfl ((l220 ++ ([x258] : List (It))).length) (cs221 ++ (([.bool (x258.list), .slice A268 x258.data.length c269, .slice A271 x258.items.length c272] : List Value))) (List.length_append ..).symm rfl (fun ob289 r290 c291 o292 => ?_)
      have m294 := o292.mx
      refine OW.rv (RV.assign rfl) rfl ?_
      refine OW.nil (QW.block_n (QW.then_n (CW.region ?_)))
      refine OW.rv (RV.add rfl rfl (by omega)) rfl ?_
      refine OW.slot (.int .i64 (((n227 + 1) : Nat) : Int)) (by first | rfl | (congr 1) | (congr 1; omega)) ?_
      refine OW.rv (RV.move rfl) rfl ?_
      refine OW.nil ?_
      exact QW.againJ (k' := k229) (Nat.lt_succ_self _) ⟨(l220 ++ ([x258] : List (It))), (n227 + 1), (B260 ++ B218), (cs221 ++ (([.bool (x258.list), .slice A268 x258.data.length c269, .slice A271 x258.items.length c272] : List Value))), ob289, c291, r290, hl230, (fun w m => hB219 w ((m).appR)), h293, o292, (by omega), rfl, rfl⟩ ⟨rfl, rfl, rfl, rfl, rfl, rfl, trivial⟩ (fun w m => m.pick [0, 4] 5 rfl rfl)
     ·replace hl230 := if_f hl230 h283
      refine CW.is_t rfl (congrArg (fun b => !b) (decide_eq_false h283)) ?_
      refine CW.seq (CW.region ?_)
      refine OW.rv (RV.move rfl) rfl ?_
      refine OW.rv (RV.assign rfl) rfl ?_
      refine OW.rv (RV.assign rfl) rfl ?_
      refine OW.nil (QW.then_n (CW.ret (QW.then_r (QW.block_r (QW.then_r (QW.then_r (QW.block_r (QW.then_r ?_))))))))
      have hc := Option.some.inj hl230
      subst hc
      try dsimp only at hf
      refine QW.then_r ?_
      refine QW.mem (M' := ((none, blk ((u8s ([] : List (BitVec 8))) ++ []) 5) :: (some b282, blk [.bool (x258.list), .slice A268 x258.data.length c269, .slice A271 x258.items.length c272] 89) :: (some b256, blk (⟨x238.address, .slice A244 x238.topics.length c245, .slice A249 x238.data.length c250⟩ : LogC).C 63) :: (ob223, blk (cs221 ++ r225) 89) :: (some b41, blk [.bool (p46), .slice A48 l47.length c49, .slice A54 l51.length c55] 89) :: ((B260 ++ B218) ++ N))) (fun w m => m.nil_ent _) ?_
      have er0 := Option.some.inj hf
      obtain ⟨e0, er1⟩ := Prod.mk.inj er0
      clear er0
      subst e0
      subst er1
      refine QW.retG (rs := [.tmp 2, .tmp 3]) ([sl none 0 ([] : List (BitVec 8)).length 0, .int .i64 ((x259 : Nat) : Int)]) ((none, blk ((u8s ([] : List (BitVec 8))) ++ []) 5) :: (B260 ++ B218)) rfl ?_ rfl ?_ ?_ _ (.inl rfl)
      ·exact ⟨rfl, rfl, trivial⟩
      ·exact ⟨(B260 ++ B218), none, 0, [], OwnS.nil, (by omega), rfl, rfl⟩
      ·exact (fun w m => m.pick [0] 5 rfl rfl)
    ·replace hl230 := if_f hl230 h237
     refine CW.is_f rfl (decide_eq_false h237) ?_
     refine CW.exit (QW.then_x (QW.then_x (QW.block_xe ?_)))
     exact QW.join ⟨l220, B218, cs221, ob223, c224, r225, (Option.some.inj hl230).symm, (fun w m => hB219 w (m)), h222, o226, rfl, rfl⟩ ⟨rfl, rfl, rfl, trivial⟩ (fun w m => m.pick [0, 1] 2 rfl rfl)
  ·skip
   by_cases h295 : a0.rooted = true
   ·replace hq43 := if_t hq43 h295
    refine CW.is_t rfl (h295) ?_
    refine CW.region ?_
    refine OW.rv (RV.field rfl rfl rfl rfl) rfl ?_
    refine OW.slot (ptr (some b10) 2) rfl ?_
    refine OW.rv (RV.arr_all rfl rfl rfl) rfl ?_
    refine OW.slot (.slice (some ⟨b10, 2, none⟩) a0.root.toList.length 32) (by rw [Vector.length_toList]; try rfl) ?_
    have v296 : View (More w0 Φ (B20 ++ ((some b10, blk (⟨a0.kind, (a0.rooted), a0.root, a0.status, a0.used, a0.bloom, .slice A2 a0.logs.length c3⟩ : RcptC).C 30) :: []))) (some ⟨b10, 2, none⟩) a0.root.toList.length 32 1 (u8s a0.root.toList) := Held.part hH11 (RcptC.C_root_all (⟨a0.kind, (a0.rooted), a0.root, a0.status, a0.used, a0.bloom, .slice A2 a0.logs.length c3⟩ : RcptC)) (by decide)
    obtain ⟨x298, hx297, hq43⟩ := some_bind hq43
    refine OW.callG Tryd.call60 rfl (rlp_Text_does w0 (More w0 Φ (B20 ++ ((some b10, blk (⟨a0.kind, (a0.rooted), a0.root, a0.status, a0.used, a0.bloom, .slice A2 a0.logs.length c3⟩ : RcptC).C 30) :: []))) ((some b41, blk [.bool (x19.list), .slice A27 x19.data.length c28, .slice A30 x19.items.length c31] 89) :: ((B20 ++ ((some b10, blk (⟨a0.kind, (a0.rooted), a0.root, a0.status, a0.used, a0.bloom, .slice A2 a0.logs.length c3⟩ : RcptC).C 30) :: [])) ++ N)) (fun w m => More.of hΦ 1 m rfl) (some ⟨b10, 2, none⟩) 32 a0.root.toList x298 v296 hx297) rfl rfl ?_
    rintro L302 M303 ⟨B299, cs300, h301, e304, e305⟩
    rw [e304, e305]
    clear e304 e305 L302 M303
    refine OW.mem (M' := ((some b41, blk [.bool (x19.list), .slice A27 x19.data.length c28, .slice A30 x19.items.length c31] 89) :: ((B299 ++ (B20 ++ ((some b10, blk (⟨a0.kind, (a0.rooted), a0.root, a0.status, a0.used, a0.bloom, .slice A2 a0.logs.length c3⟩ : RcptC).C 30) :: []))) ++ N))) (fun w m => by have h := Mem.sinkAt (A := B299) m 0 1 rfl rfl; exact h) ?_
    have gq14 : ∀ w, More w0 Φ (B299 ++ (B20 ++ ((some b10, blk (⟨a0.kind, (a0.rooted), a0.root, a0.status, a0.used, a0.bloom, .slice A2 a0.logs.length c3⟩ : RcptC).C 30) :: []))) w → More w0 Φ (B20 ++ ((some b10, blk (⟨a0.kind, (a0.rooted), a0.root, a0.status, a0.used, a0.bloom, .slice A2 a0.logs.length c3⟩ : RcptC).C 30) :: [])) w := fun w q => More.mono (fun w m => (m).appR) q
    replace h8 := RcptRd.mono gq14 _ _ h8
    replace v4 := v4.mono gq14
    replace h6 := h6.mono (LogRd.mono gq14)
    replace hH11 := hH11.mono gq14
    replace h36 := ItRd.mono gq14 _ _ h36
    replace v29 := v29.mono gq14
    replace v32 := v32.mono gq14
    replace h34 := h34.mono (ItRd.mono gq14)
    replace v296 := v296.mono gq14
    replace hg2 := hg2.mono gq14
    replace h301 := ItRd.mono (Ψ := (More w0 Φ (B299 ++ (B20 ++ ((some b10, blk (⟨a0.kind, (a0.rooted), a0.root, a0.status, a0.used, a0.bloom, .slice A2 a0.logs.length c3⟩ : RcptC).C 30) :: []))))) (fun w q => More.flat q) _ _ h301
    have h315 := h301
    obtain ⟨A306, c307, A309, c310, cs312, e314, v308, v311, h313⟩ := ItRd.opn h301
    subst e314
    have m316 := v308.mx
    have m317 := v311.mx
    have m318 := v308.mx
    have m319 := v311.mx
    refine OW.sv (SV.storeW rfl rfl rfl (by intro u hu; simp at hu; rcases hu with rfl | rfl | rfl <;> rfl) rfl rfl rfl) ?_
    refine OW.nil ?_
    exact QW.join ⟨(x298.list), x298.data, x298.items, (B299 ++ (B20 ++ ((some b10, blk (⟨a0.kind, (a0.rooted), a0.root, a0.status, a0.used, a0.bloom, .slice A2 a0.logs.length c3⟩ : RcptC).C 30) :: []))), A306, c307, cs312, A309, c310, (Option.some.inj hq43).symm, (fun w m => (m).appR), v308, h313, v311, rfl, rfl⟩ ⟨rfl, rfl, trivial⟩ (fun w m => m.pick [0] 1 rfl rfl)
   ·replace hq43 := if_f hq43 h295
    refine CW.is_f rfl (Bool.eq_false_iff.2 h295) ?_
    refine CW.skip ?_
    exact QW.join ⟨(x19.list), x19.data, x19.items, (B20 ++ ((some b10, blk (⟨a0.kind, (a0.rooted), a0.root, a0.status, a0.used, a0.bloom, .slice A2 a0.logs.length c3⟩ : RcptC).C 30) :: [])), A27, c28, cs33, A30, c31, (Option.some.inj hq43).symm, (fun w m => m), v29, h34, v32, rfl, rfl⟩ ⟨rfl, rfl, trivial⟩ (fun w m => m.pick [0] 1 rfl rfl)
 ·replace hf := if_f hf h17
  refine CW.is_t rfl (congrArg (fun b => !b) (decide_eq_false h17)) ?_
  refine CW.seq (CW.region ?_)
  refine OW.rv (RV.move rfl) rfl ?_
  refine OW.rv (RV.assign rfl) rfl ?_
  refine OW.rv (RV.assign rfl) rfl ?_
  refine OW.nil (QW.then_n (CW.ret (QW.then_r ?_)))
  refine QW.mem (M' := ((none, blk ((u8s ([] : List (BitVec 8))) ++ []) 5) :: (((some b10, blk (⟨a0.kind, (a0.rooted), a0.root, a0.status, a0.used, a0.bloom, .slice A2 a0.logs.length c3⟩ : RcptC).C 30) :: []) ++ N))) (fun w m => m.nil_ent _) ?_
  have er0 := Option.some.inj hf
  obtain ⟨e0, er1⟩ := Prod.mk.inj er0
  clear er0
  subst e0
  subst er1
  refine QW.retG (rs := [.tmp 2, .tmp 3]) ([sl none 0 ([] : List (BitVec 8)).length 0, .int .i64 ((x13 : Nat) : Int)]) ((none, blk ((u8s ([] : List (BitVec 8))) ++ []) 5) :: ((some b10, blk (⟨a0.kind, (a0.rooted), a0.root, a0.status, a0.used, a0.bloom, .slice A2 a0.logs.length c3⟩ : RcptC).C 30) :: [])) rfl ?_ rfl ?_ ?_ _ (.inl rfl)
  ·exact ⟨rfl, rfl, trivial⟩
  ·exact ⟨((some b10, blk (⟨a0.kind, (a0.rooted), a0.root, a0.status, a0.used, a0.bloom, .slice A2 a0.logs.length c3⟩ : RcptC).C 30) :: []), none, 0, [], OwnS.nil, (by omega), rfl, rfl⟩
  ·exact (fun w m => m.pick [0] 1 rfl rfl)
theorem waybilllaw17_same_does (w0 : World) (Φ : Ctx) (N : List Ent) (hΦ : ∀ w, Mem w0 w N → Φ w) (A0_ : Option Addr) (c0_ : Nat) (a0 : List (BitVec 8)) (A1_ : Option Addr) (c1_ : Nat) (a1 : List (BitVec 8)) (res0 : Bool) (va0 : View Φ A0_ a0.length c0_ 1 (u8s a0)) (va1 : View Φ A1_ a1.length c1_ 1 (u8s a1)) (hf : waybilllaw17_same a0 a1 = some res0) : DoesG Tryd.prog 35 [.slice A0_ a0.length c0_, .slice A1_ a1.length c1_] w0 [] N (fun v G => v = .bool res0) := by
 unfold waybilllaw17_same at hf
 replace va0 := va0.mono (Ψ := More w0 Φ []) (fun w q => q.1)
 replace va1 := va1.mono (Ψ := More w0 Φ []) (fun w q => q.1)
 have m1 := va0.mx
 have m2 := va1.mx
 refine DoesG.enter Tryd.func35 rfl Tryd.ntmps35 rfl (M := (([] ++ N))) rfl ?_
 refine CW.seq (CW.region ?_)
 refine OW.rv (RV.assign rfl) rfl ?_
 refine OW.nil (QW.then_n (CW.seq (CW.seq (CW.region ?_))))
 refine OW.rv (RV.move rfl) rfl ?_
 refine OW.rv (RV.len rfl rfl) rfl ?_
 refine OW.rv (RV.move rfl) rfl ?_
 refine OW.rv (RV.len rfl rfl) rfl ?_
 refine OW.rv (RV.neq rfl rfl) rfl ?_
 refine OW.slot (.bool (!decide (a0.length = a1.length))) (congrArg (fun b => Value.bool (!b)) (decide_eq_decide.2 (by omega))) ?_
 refine OW.nil (QW.then_n ?_)
 by_cases h3 : a0.length = a1.length
 ·replace hf := if_t hf h3
  refine CW.is_f rfl (congrArg (fun b => !b) (decide_eq_true h3)) ?_
  refine CW.skip (QW.then_n (CW.seq (CW.seq (CW.region ?_))))
  refine OW.rv (RV.assign rfl) rfl ?_
  refine OW.nil (QW.then_n ?_)
  obtain ⟨q4, hq5, hf⟩ := some_bind hf
  refine CW.cutJ (fun L' M' => q4 = Lp.go () ∧ L' = [] ∧ M' = (([] ++ N))) ?_ ?_
  ·rintro L7 M8 ⟨e6, e9, e10⟩
   rw [e9, e10]
   clear e9 e10 L7 M8
   clear hq5
   rw [e6] at hf
   clear e6
   try dsimp only at hf
   refine QW.then_n (CW.seq (CW.region ?_))
   refine OW.rv (RV.assign rfl) rfl ?_
   refine OW.nil (QW.then_n (CW.ret ?_))
   have e0 := Option.some.inj hf
   subst e0
   refine QW.retG (rs := [.tmp 4]) ([.bool true]) ([]) rfl ?_ rfl ?_ ?_ _ (.inl rfl)
   ·exact ⟨rfl, trivial⟩
   ·exact rfl
   ·exact (fun w m => m)
  ·skip
   refine CW.block ?_
   refine CW.loopJ (fun k L' M' => ∃ n11 : Nat, (waybilllaw17_same.l1 a0 a1 k n11) = some q4 ∧ (n11 ≤ 9223372036854775807) ∧ L' = [(0, .slice A0_ a0.length c0_), (1, .slice A1_ a1.length c1_), (5, .int .i64 ((n11 : Nat) : Int))] ∧ M' = (([] ++ N))) (k0 := (a0.length - 0 + 2)) ⟨0, hq5, (by omega), rfl, rfl⟩ ⟨rfl, rfl, rfl, trivial⟩ (fun w m => m.pick [] 0 rfl rfl) ?_
   clear hq5
   rintro k13 L16 M17 ⟨n11, hl14, b12, e18, e19⟩
   rw [e18, e19]
   clear e18 e19 L16 M17
   rcases k13 with _ | k13
   ·rw [waybilllaw17_same.l1] at hl14; cases hl14
   rw [waybilllaw17_same.l1] at hl14
   refine CW.seq (CW.seq (CW.region ?_))
   refine OW.rv (RV.move rfl) rfl ?_
   refine OW.rv (RV.move rfl) rfl ?_
   refine OW.rv (RV.len rfl rfl) rfl ?_
   refine OW.rv (RV.lss rfl rfl) rfl ?_
   refine OW.slot (.bool (decide (n11 < a0.length))) (congrArg Value.bool (decide_eq_decide.2 (by omega))) ?_
   refine OW.nil (QW.then_n ?_)
   by_cases h20 : n11 < a0.length
   ·replace hl14 := if_t hl14 h20
    refine CW.is_t rfl (decide_eq_true h20) ?_
    refine CW.skip (QW.then_n (CW.seq (CW.block (CW.seq ?_))))
    refine CW.drawsU 9 mixed (by kernel_rfl) rfl ?_
    refine UW.rv 0 rfl (by kernel_rfl) rfl (RV.move rfl) rfl ?_
    refine UW.rv 1 rfl (by kernel_rfl) rfl (RV.move rfl) rfl ?_
    obtain ⟨x21, hx22, hl14⟩ := some_bind hl14
    have hl23 := lt_of_at hx22
    refine UW.rv 2 rfl (by kernel_rfl) rfl (RV.idx_r (n11) rfl rfl rfl rfl rfl (va0.isSome (by decide) hl23) (by omega)) rfl ?_
    refine UW.rv 3 rfl (by kernel_rfl) rfl (RV.load_at rfl rfl rfl (fun w m => va0.cell (More.of hΦ 0 m rfl) (u8s_at hx22))) rfl ?_
    refine UW.rv 4 rfl (by kernel_rfl) rfl (RV.move rfl) rfl ?_
    refine UW.rv 5 rfl (by kernel_rfl) rfl (RV.move rfl) rfl ?_
    obtain ⟨x24, hx25, hl14⟩ := some_bind hl14
    have hl26 := lt_of_at hx25
    refine UW.rv 6 rfl (by kernel_rfl) rfl (RV.idx_r (n11) rfl rfl rfl rfl rfl (va1.isSome (by decide) hl26) (by omega)) rfl ?_
    refine UW.rv 7 rfl (by kernel_rfl) rfl (RV.load_at rfl rfl rfl (fun w m => va1.cell (More.of hΦ 0 m rfl) (u8s_at hx25))) rfl ?_
    refine UW.rv 8 rfl (by kernel_rfl) rfl (RV.neq8 rfl (by first | rfl | exact lit8 _ rfl) rfl (by first | rfl | exact lit8 _ rfl)) rfl ?_
    refine UW.nil (by kernel_rfl) ?_
    refine OW.nil (QW.then_n ?_)
    by_cases h27 : x21 = x24
    ·replace hl14 := if_t hl14 h27
     refine CW.is_f rfl (congrArg (fun b => !b) (decide_eq_true h27)) ?_
     refine CW.skip (QW.block_n (QW.then_n (CW.region ?_)))
     refine OW.rv (RV.move rfl) rfl ?_
     refine OW.rv (RV.add rfl rfl (by omega)) rfl ?_
     refine OW.slot (.int .i64 (((n11 + 1) : Nat) : Int)) (by first | rfl | (congr 1) | (congr 1; omega)) ?_
     refine OW.rv (RV.assign rfl) rfl ?_
     refine OW.nil ?_
     exact QW.againJ (k' := k13) (Nat.lt_succ_self _) ⟨(n11 + 1), hl14, (by omega), rfl, rfl⟩ ⟨rfl, rfl, rfl, trivial⟩ (fun w m => m.pick [] 0 rfl rfl)
    ·replace hl14 := if_f hl14 h27
     refine CW.is_t rfl (congrArg (fun b => !b) (decide_eq_false h27)) ?_
     refine CW.seq (CW.region ?_)
     refine OW.rv (RV.assign rfl) rfl ?_
     refine OW.nil (QW.then_n (CW.ret (QW.block_r (QW.then_r (QW.then_r (QW.block_r (QW.then_r ?_)))))))
     have hc := Option.some.inj hl14
     subst hc
     try dsimp only at hf
     refine QW.then_r ?_
     have e0 := Option.some.inj hf
     subst e0
     refine QW.retG (rs := [.tmp 4]) ([.bool false]) ([]) rfl ?_ rfl ?_ ?_ _ (.inl rfl)
     ·exact ⟨rfl, trivial⟩
     ·exact rfl
     ·exact (fun w m => m)
   ·replace hl14 := if_f hl14 h20
    refine CW.is_f rfl (decide_eq_false h20) ?_
    refine CW.exit (QW.then_x (QW.then_x (QW.block_xe ?_)))
    exact QW.join ⟨(Option.some.inj hl14).symm, rfl, rfl⟩ trivial (fun w m => m.pick [] 0 rfl rfl)
 ·replace hf := if_f hf h3
  refine CW.is_t rfl (congrArg (fun b => !b) (decide_eq_false h3)) ?_
  refine CW.seq (CW.region ?_)
  refine OW.rv (RV.assign rfl) rfl ?_
  refine OW.nil (QW.then_n (CW.ret (QW.then_r ?_)))
  have e0 := Option.some.inj hf
  subst e0
  refine QW.retG (rs := [.tmp 4]) ([.bool false]) ([]) rfl ?_ rfl ?_ ?_ _ (.inl rfl)
  ·exact ⟨rfl, trivial⟩
  ·exact rfl
  ·exact (fun w m => m)
end Go.Fw.Tryd
