/- Part of a proof over Ytogfjkomkpbjpaa: rules and contracts that the law's text uses. No condition. -/
import Derived.Test.YtogfjkomkpbjpaaTy
import Derived.Test.YtogfjkomkpbjpaaExt
import Derived.Test.YtogfjkomkpbjpaaKecW0
import Derived.Test.YtogfjkomkpbjpaaKecP1
namespace Go.Fw.Try
open Go Go.Proofs Go.Fw
set_option maxRecDepth 100000
set_option linter.unusedVariables false
set_option linter.unusedSimpArgs false
set_option maxHeartbeats 1000000

theorem waybilllaw02_KeccakUnlike_does (w0 : World) (Φ : Ctx) (N : List Ent) (hΦ : ∀ w, Mem w0 w N → Φ w) (a0 : Vector (BitVec 64) 25) (a1 : Int) (a2 : BitVec 64) (res0 : Bool) (ba1 : -9223372036854775808 ≤ a1 ∧ a1 ≤ 9223372036854775807) (hf : waybilllaw02_KeccakUnlike a0 a1 a2 = some res0) : DoesG Try.prog 3 [.agg (u64s a0.toList).toArray, .int .i64 a1, U64 a2] w0 [] N (fun v G => v = .bool res0) := by
  unfold waybilllaw02_KeccakUnlike at hf
  refine DoesG.enter Try.func3 rfl Try.ntmps3 rfl (M := (([] ++ N))) rfl ?_
  refine CW.seq ?_
  refine CW.region ?_
  refine OW.boxA rfl rfl (fun b1 => ?_)
  refine OW.rv (RV.assign rfl) rfl ?_
  refine OW.nil ?_
  refine QW.then_n ?_
  refine CW.seq ?_
  refine CW.region ?_
  refine OW.rv (RV.loadW rfl (List.Mem.head _) rfl rfl rfl rfl ((u64s_length _).trans Vector.length_toList)) rfl ?_
  refine OW.alloc (l := (u64s (Vector.replicate 25 0#64).toList)) rfl (by rw [Vector.toList_replicate, ← u64s_rep]; rfl) rfl (fun b2 => ?_)
  refine OW.sv (SV.storeW rfl rfl rfl (u64s_one _) rfl ((u64s_length _).trans Vector.length_toList) ((u64s_length _).trans Vector.length_toList)) ?_
  refine OW.nil ?_
  refine QW.then_n ?_
  refine CW.seq ?_
  refine CW.region ?_
  refine OW.rv (RV.move rfl) rfl ?_
  refine OW.rv (RV.trem rfl rfl (by omega)) rfl ?_
  have b3 := And.intro (Int.lt_tmod_of_pos (a1) (show (0 : Int) < 25 by omega)) (Int.tmod_lt_of_pos (a1) (show (0 : Int) < 25 by omega))
  refine OW.slot (.int .i64 ((a1).tmod 25)) (rfl) ?_
  refine OW.rv (RV.assign rfl) rfl ?_
  refine OW.nil ?_
  refine QW.then_n ?_
  refine CW.seq ?_
  refine CW.seq ?_
  refine CW.region ?_
  refine OW.rv (RV.move rfl) rfl ?_
  refine OW.rv (RV.lss rfl rfl) rfl ?_
  refine OW.nil ?_
  refine QW.then_n ?_
  obtain ⟨q4, hq5, hf⟩ := some_bind hf
  refine CW.cutJ (fun L' M' => ∃ z6 : Int, q4 = z6 ∧ (-9223372036854775808 ≤ z6 ∧ z6 ≤ 9223372036854775807) ∧ L' = [(2, U64 a2), (3, ptr (some b1) 0), (7, ptr (some b2) 0), (8, .int .i64 z6)] ∧ M' = ((some b2, blk (u64s a0.toList) 23) :: (some b1, blk (u64s a0.toList) 23) :: ([] ++ N))) ?_ ?_
  · rintro L9 M10 ⟨z6, e8, b7, e11, e12⟩
    rw [e11, e12]
    clear e11 e12 L9 M10
    clear hq5
    rw [e8] at hf
    clear e8
    try dsimp only at hf
    refine QW.then_n ?_
    refine CW.seq ?_
    refine CW.region ?_
    refine OW.rv (RV.move rfl) rfl ?_
    refine OW.rv (RV.move rfl) rfl ?_
    obtain ⟨g13, hf⟩ := some_if hf
    obtain ⟨g14, hf⟩ := some_if hf
    refine OW.rv (RV.idx_a ((z6).toNat) rfl rfl (by omega) rfl rfl (by omega)) rfl ?_
    obtain ⟨x15, hx16, hf⟩ := some_bind hf
    refine OW.rv (RV.load rfl (List.Mem.head _) rfl rfl rfl (by rw [Nat.zero_add]; exact u64s_at (vat hx16))) rfl ?_
    refine OW.rv (RV.move rfl) rfl ?_
    refine OW.rv (RV.xor64 rfl (by first | rfl | exact lit64 _ rfl) rfl (by first | rfl | exact lit64 _ rfl)) rfl ?_
    refine OW.rv (RV.idx_a ((z6).toNat) rfl rfl (by omega) rfl rfl (by omega)) rfl ?_
    refine OW.sv (SV.store rfl rfl rfl rfl rfl (by rw [u64s_length, Vector.length_toList]; omega)) ?_
    refine OW.cells (u64s (a0.setIfInBounds ((z6).toNat) (x15 ^^^ a2)).toList) (by rw [Nat.zero_add, u64s_set', vset]) ?_
    refine OW.nil ?_
    refine QW.then_n ?_
    refine CW.seq ?_
    refine CW.region ?_
    refine OW.rv (RV.loadW rfl (List.Mem.tail _ (List.Mem.head _)) rfl rfl rfl rfl ((u64s_length _).trans Vector.length_toList)) rfl ?_
    obtain ⟨x18, hx17, hf⟩ := some_bind hf
    refine OW.callG Try.call4 rfl (keccak_Permute_does w0 (More w0 Φ []) ((some b2, blk (u64s (a0.setIfInBounds ((z6).toNat) (x15 ^^^ a2)).toList) 23) :: (some b1, blk (u64s a0.toList) 23) :: ([] ++ N)) (fun w m => More.of hΦ 2 m rfl) a0 x18 hx17) rfl rfl ?_
    rintro _ G19 rfl
    refine OW.mem (M' := ((some b2, blk (u64s (a0.setIfInBounds ((z6).toNat) (x15 ^^^ a2)).toList) 23) :: (some b1, blk (u64s a0.toList) 23) :: ([] ++ N))) (fun w m => m.appR) ?_
    refine OW.alloc (l := (u64s (Vector.replicate 25 0#64).toList)) rfl (by rw [Vector.toList_replicate, ← u64s_rep]; rfl) rfl (fun b21 => ?_)
    refine OW.sv (SV.storeW rfl rfl rfl (u64s_one _) rfl ((u64s_length _).trans Vector.length_toList) ((u64s_length _).trans Vector.length_toList)) ?_
    refine OW.nil ?_
    refine QW.then_n ?_
    refine CW.seq ?_
    refine CW.region ?_
    refine OW.rv (RV.loadW rfl (List.Mem.tail _ (List.Mem.head _)) rfl rfl rfl rfl ((u64s_length _).trans Vector.length_toList)) rfl ?_
    obtain ⟨x23, hx22, hf⟩ := some_bind hf
    refine OW.callG Try.call4 rfl (keccak_Permute_does w0 (More w0 Φ []) ((some b21, blk (u64s x18.toList) 23) :: (some b2, blk (u64s (a0.setIfInBounds ((z6).toNat) (x15 ^^^ a2)).toList) 23) :: (some b1, blk (u64s a0.toList) 23) :: ([] ++ N)) (fun w m => More.of hΦ 3 m rfl) (a0.setIfInBounds ((z6).toNat) (x15 ^^^ a2)) x23 hx22) rfl rfl ?_
    rintro _ G24 rfl
    refine OW.mem (M' := ((some b21, blk (u64s x18.toList) 23) :: (some b2, blk (u64s (a0.setIfInBounds ((z6).toNat) (x15 ^^^ a2)).toList) 23) :: (some b1, blk (u64s a0.toList) 23) :: ([] ++ N))) (fun w m => m.appR) ?_
    refine OW.alloc (l := (u64s (Vector.replicate 25 0#64).toList)) rfl (by rw [Vector.toList_replicate, ← u64s_rep]; rfl) rfl (fun b26 => ?_)
    refine OW.sv (SV.storeW rfl rfl rfl (u64s_one _) rfl ((u64s_length _).trans Vector.length_toList) ((u64s_length _).trans Vector.length_toList)) ?_
    refine OW.nil ?_
    refine QW.then_n ?_
    refine CW.seq ?_
    obtain ⟨q27, hq28, hf⟩ := some_bind hf
    refine CW.cutJ (fun L' M' => ∃ p29 : Bool, q27 = p29 ∧ L' = [(6, .bool (p29))] ∧ M' = (([] ++ N))) ?_ ?_
    · rintro L31 M32 ⟨p29, e30, e33, e34⟩
      rw [e33, e34]
      clear e33 e34 L31 M32
      clear hq28
      rw [e30] at hf
      clear e30
      try dsimp only at hf
      refine QW.then_n ?_
      refine CW.ret ?_
      have e0 := Option.some.inj hf
      subst e0
      refine QW.retG (rs := [.tmp 6]) ([.bool (p29)]) ([]) rfl ?_ rfl ?_ ?_ _ (.inl rfl)
      · exact ⟨rfl, trivial⟩
      · exact rfl
      · exact (fun w m => m)
    · skip
      refine CW.drawsU 13 mixed (by kernel_rfl) rfl ?_
      refine UW.rv 0 rfl (by kernel_rfl) rfl (RV.loadW rfl (List.Mem.tail _ (List.Mem.head _)) rfl rfl rfl rfl ((u64s_length _).trans Vector.length_toList)) rfl ?_
      refine UW.rv 1 rfl (by kernel_rfl) rfl (RV.loadW rfl (List.Mem.head _) rfl rfl rfl rfl ((u64s_length _).trans Vector.length_toList)) rfl ?_
      refine UW.rv 2 rfl (by kernel_rfl) rfl (RV.eqA64 rfl rfl rfl rfl rfl rfl (Vector.length_toList) (Vector.length_toList)) rfl ?_
      refine UW.slot (.bool (decide (x18 = x23))) (congrArg Value.bool (decide_eq_decide.2 Vector.toList_inj)) ?_
      refine UW.rv 3 rfl (by kernel_rfl) rfl (RV.move rfl) rfl ?_
      refine UW.rv 4 rfl (by kernel_rfl) rfl (RV.eql64 rfl (by first | rfl | exact lit64 _ rfl) rfl (by first | rfl | exact lit64 _ rfl)) rfl ?_
      refine UW.rv 5 rfl (by kernel_rfl) rfl (RV.eqlB rfl rfl rfl) rfl ?_
      refine UW.slot (.bool (decide ((decide (x18 = x23)) = (decide (a2 = 0#64))))) (by first | rfl | (congr 1) | simp) ?_
      refine UW.rv 6 rfl (by kernel_rfl) rfl (RV.move rfl) rfl ?_
      by_cases h35 : (decide (x18 = x23)) = (decide (a2 = 0#64))
      · replace hq28 := if_t hq28 h35
        refine UW.slot (.bool true) (congrArg Value.bool (decide_eq_true h35)) ?_
        refine UW.rv 7 rfl (by kernel_rfl) rfl (RV.loadW rfl (List.Mem.tail _ (List.Mem.head _)) rfl rfl rfl rfl ((u64s_length _).trans Vector.length_toList)) rfl ?_
        refine UW.rv 8 rfl (by kernel_rfl) rfl (RV.loadW rfl (List.Mem.tail _ (List.Mem.tail _ (List.Mem.tail _ (List.Mem.head _)))) rfl rfl rfl rfl ((u64s_length _).trans Vector.length_toList)) rfl ?_
        obtain ⟨x37, hx36, hq28⟩ := some_bind hq28
        refine UW.callG 9 rfl (by kernel_rfl) rfl Try.call4 rfl (fun N' hN' => keccak_Permute_does w0 (More w0 Φ []) N' (fun w m => More.of hΦ 4 (hN' w m) rfl) a0 x37 hx36) rfl ?_
        rintro _ G38 rfl
        refine UW.mem (M' := ((some b26, blk (u64s x23.toList) 23) :: (some b21, blk (u64s x18.toList) 23) :: (some b2, blk (u64s (a0.setIfInBounds ((z6).toNat) (x15 ^^^ a2)).toList) 23) :: (some b1, blk (u64s a0.toList) 23) :: ([] ++ N))) (fun w m => m.appR) ?_
        refine UW.rv 10 rfl (by kernel_rfl) rfl (RV.eqA64 rfl rfl rfl rfl rfl rfl (Vector.length_toList) (Vector.length_toList)) rfl ?_
        refine UW.slot (.bool (decide (x18 = x37))) (congrArg Value.bool (decide_eq_decide.2 Vector.toList_inj)) ?_
        refine UW.rv 11 rfl (by kernel_rfl) rfl (RV.pick_t rfl rfl rfl) rfl ?_
        refine UW.rv 12 rfl (by kernel_rfl) rfl (RV.assign rfl) rfl ?_
        refine UW.nil (by kernel_rfl) ?_
        refine OW.nil ?_
        exact QW.join ⟨(decide (x18 = x37)), (Option.some.inj hq28).symm, rfl, rfl⟩ ⟨rfl, trivial⟩ (fun w m => m.pick [] 4 rfl rfl)
      · replace hq28 := if_f hq28 h35
        refine UW.slot (.bool false) (congrArg Value.bool (decide_eq_false h35)) ?_
        refine UW.skip 7 rfl (by kernel_rfl) rfl rfl ?_
        refine UW.skip 8 rfl (by kernel_rfl) rfl rfl ?_
        refine UW.skip 9 rfl (by kernel_rfl) rfl rfl ?_
        refine UW.skip 10 rfl (by kernel_rfl) rfl rfl ?_
        refine UW.rv 11 rfl (by kernel_rfl) rfl (RV.pick_f rfl rfl rfl) rfl ?_
        refine UW.rv 12 rfl (by kernel_rfl) rfl (RV.assign rfl) rfl ?_
        refine UW.nil (by kernel_rfl) ?_
        refine OW.nil ?_
        exact QW.join ⟨false, (Option.some.inj hq28).symm, rfl, rfl⟩ ⟨rfl, trivial⟩ (fun w m => m.pick [] 4 rfl rfl)
  · skip
    by_cases h40 : ((a1).tmod 25) < (0 : Int)
    · replace hq5 := if_t hq5 h40
      refine CW.is_t rfl (decide_eq_true h40) ?_
      refine CW.region ?_
      refine OW.rv (RV.move rfl) rfl ?_
      obtain ⟨g41, hq5⟩ := some_if hq5
      refine OW.rv (RV.add rfl rfl (by omega)) rfl ?_
      refine OW.rv (RV.assign rfl) rfl ?_
      refine OW.nil ?_
      exact QW.join ⟨(((a1).tmod 25) + (25 : Int)), (Option.some.inj hq5).symm, (by omega), rfl, rfl⟩ ⟨rfl, rfl, rfl, rfl, trivial⟩ (fun w m => m.pick [0, 1] 2 rfl rfl)
    · replace hq5 := if_f hq5 h40
      refine CW.is_f rfl (decide_eq_false h40) ?_
      refine CW.skip ?_
      exact QW.join ⟨((a1).tmod 25), (Option.some.inj hq5).symm, (by omega), rfl, rfl⟩ ⟨rfl, rfl, rfl, rfl, trivial⟩ (fun w m => m.pick [0, 1] 2 rfl rfl)
end Go.Fw.Try
