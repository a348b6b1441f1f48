/- Part of a proof over Ytgdohhccpghofaa: rules and contracts that the law's text uses. No condition. -/
import Derived.Test.YtgdohhccpghofaaTy
import Derived.Test.YtgdohhccpghofaaExt
import Derived.Test.YtgdohhccpghofaaRlpRoom
import Derived.Test.YtgdohhccpghofaaRlpP1
import Derived.Test.YtgdohhccpghofaaRlpP2
import Derived.Test.YtgdohhccpghofaaRlpP4
import Derived.Test.YtgdohhccpghofaaRlpP5
namespace Go.Fw.Try
open Go Go.Proofs Go.Fw
set_option maxRecDepth 100000
set_option linter.unusedVariables false
set_option linter.unusedSimpArgs false
set_option maxHeartbeats 1000000
theorem u256_From_does (w0 : World) (Φ : Ctx) (N : List Ent) (hΦ : ∀ w, Mem w0 w N → Φ w) (a0 : BitVec 64) (res0 : Vector (BitVec 64) 4) (hf : u256_From a0 = some res0) : DoesG Try.prog 66 [U64 a0] w0 [] N (fun v G => v = .agg (u64s res0.toList).toArray) := by
  unfold u256_From at hf
  refine DoesG.enter Try.func66 rfl Try.ntmps66 rfl (M := (([] ++ N))) rfl ?_
  refine CW.seq ?_
  refine CW.region ?_
  refine OW.alloc (l := (u64s (Vector.replicate 4 0#64).toList)) rfl (by rw [Vector.toList_replicate, ← u64s_rep]; rfl) rfl (fun b1 => ?_)
  refine OW.nil ?_
  refine QW.then_n ?_
  refine CW.seq ?_
  refine CW.region ?_
  refine OW.rv (RV.move rfl) rfl ?_
  refine OW.rv (RV.buildA (l := (u64s (Vector.replicate 4 0#64).toList)) (cs := (u64s ((Vector.replicate 4 0#64).setIfInBounds 0 a0).toList)) rfl rfl rfl (by rw [Vector.toList_replicate, ← u64s_rep]; rfl) rfl rfl (by simp only [setL, List.foldl, ← vset, Vector.toList_replicate, ← u64s_set'] <;> rfl)) rfl ?_
  refine OW.sv (SV.storeW rfl rfl rfl (u64s_one _) rfl ((u64s_length _).trans Vector.length_toList) ((u64s_length _).trans Vector.length_toList)) ?_
  refine OW.nil ?_
  refine QW.then_n ?_
  refine CW.ret ?_
  have e0 := Option.some.inj hf
  subst e0
  refine QW.retG (rs := [.cell 2 25]) ([.agg (u64s ((Vector.replicate 4 0#64).setIfInBounds 0 a0).toList).toArray]) ((some b1, blk (u64s ((Vector.replicate 4 0#64).setIfInBounds 0 a0).toList) 25) :: []) rfl ?_ rfl ?_ ?_ _ (.inl rfl)
  · exact ⟨⟨_, _, _, _, rfl, (List.Mem.head _), rfl, rfl, (congrArg some ((u64s_length _).trans Vector.length_toList).symm), rfl⟩, trivial⟩
  · exact rfl
  · exact (fun w m => m)
theorem waybillref01_From_does (w0 : World) (Φ : Ctx) (N : List Ent) (hΦ : ∀ w, Mem w0 w N → Φ w) (a0 : BitVec 64) (res0 : Vector (BitVec 64) 4) (hf : waybillref01_From a0 = some res0) : DoesG Try.prog 67 [U64 a0] w0 [] N (fun v G => v = .agg (u64s res0.toList).toArray) := by
  unfold waybillref01_From at hf
  refine DoesG.enter Try.func67 rfl Try.ntmps67 rfl (M := (([] ++ N))) rfl ?_
  refine CW.seq ?_
  refine CW.region ?_
  refine OW.alloc (l := (u64s (Vector.replicate 4 0#64).toList)) rfl (by rw [Vector.toList_replicate, ← u64s_rep]; rfl) rfl (fun b1 => ?_)
  refine OW.nil ?_
  refine QW.then_n ?_
  refine CW.seq ?_
  refine CW.region ?_
  refine OW.rv (RV.move rfl) rfl ?_
  refine OW.rv (RV.buildA (l := (u64s (Vector.replicate 4 0#64).toList)) (cs := (u64s (((((Vector.replicate 4 0#64).setIfInBounds 0 a0).setIfInBounds 1 (0#64)).setIfInBounds 2 (0#64)).setIfInBounds 3 (0#64)).toList)) rfl rfl rfl (by rw [Vector.toList_replicate, ← u64s_rep]; rfl) rfl rfl (by simp only [setL, List.foldl, ← vset, Vector.toList_replicate, ← u64s_set'] <;> rfl)) rfl ?_
  refine OW.sv (SV.storeW rfl rfl rfl (u64s_one _) rfl ((u64s_length _).trans Vector.length_toList) ((u64s_length _).trans Vector.length_toList)) ?_
  refine OW.nil ?_
  refine QW.then_n ?_
  refine CW.ret ?_
  have e0 := Option.some.inj hf
  subst e0
  refine QW.retG (rs := [.cell 2 25]) ([.agg (u64s (((((Vector.replicate 4 0#64).setIfInBounds 0 a0).setIfInBounds 1 (0#64)).setIfInBounds 2 (0#64)).setIfInBounds 3 (0#64)).toList).toArray]) ((some b1, blk (u64s (((((Vector.replicate 4 0#64).setIfInBounds 0 a0).setIfInBounds 1 (0#64)).setIfInBounds 2 (0#64)).setIfInBounds 3 (0#64)).toList) 25) :: []) rfl ?_ rfl ?_ ?_ _ (.inl rfl)
  · exact ⟨⟨_, _, _, _, rfl, (List.Mem.head _), rfl, rfl, (congrArg some ((u64s_length _).trans Vector.length_toList).symm), rfl⟩, trivial⟩
  · exact rfl
  · exact (fun w m => m)
theorem waybilllaw07_num_does (w0 : World) (Φ : Ctx) (N : List Ent) (hΦ : ∀ w, Mem w0 w N → Φ w) (a0 : Int) (res0 : Int) (ba0 : -9223372036854775808 ≤ a0 ∧ a0 ≤ 9223372036854775807) (hf : waybilllaw07_num a0 = some res0) : DoesG Try.prog 31 [.int .i64 a0] w0 [] N (fun v G => (-9223372036854775808 ≤ res0 ∧ res0 ≤ 9223372036854775807) ∧ v = .int .i64 res0) := by
  unfold waybilllaw07_num at hf
  refine DoesG.enter Try.func31 rfl Try.ntmps31 rfl (M := (([] ++ N))) rfl ?_
  refine CW.seq ?_
  refine CW.region ?_
  refine OW.rv (RV.assign rfl) rfl ?_
  refine OW.nil ?_
  refine QW.then_n ?_
  refine CW.seq ?_
  refine CW.region ?_
  refine OW.rv (RV.move rfl) rfl ?_
  refine OW.rv (RV.assign rfl) rfl ?_
  refine OW.nil ?_
  refine QW.then_n ?_
  refine CW.ret ?_
  have e0 := Option.some.inj hf
  subst e0
  refine QW.retG (rs := [.tmp 2]) ([.int .i64 a0]) ([]) rfl ?_ rfl ?_ ?_ _ (.inl rfl)
  · exact ⟨rfl, trivial⟩
  · exact ⟨(by omega), rfl⟩
  · exact (fun w m => m)
theorem math_bits_Len64_does (w0 : World) (Φ : Ctx) (N : List Ent) (hΦ : ∀ w, Mem w0 w N → Φ w) (a0 : BitVec 64) (res0 : Nat) (hf : math_bits_Len64 a0 = some res0) : DoesG Try.prog 95 [U64 a0] w0 [] N (fun v G => (res0 ≤ 9223372036854775807) ∧ v = .int .i64 ((res0 : Nat) : Int)) := by
  unfold math_bits_Len64 at hf
  refine DoesG.enter Try.func95 rfl Try.ntmps95 rfl (M := (([] ++ N))) rfl ?_
  refine CW.seq ?_
  refine CW.region ?_
  refine OW.rv (RV.assign rfl) rfl ?_
  refine OW.nil ?_
  refine QW.then_n ?_
  refine CW.seq ?_
  refine CW.seq ?_
  refine CW.region ?_
  refine OW.rv (RV.move rfl) rfl ?_
  refine OW.rv (RV.geq rfl rfl) rfl ?_
  refine OW.slot (.bool (decide (4294967296 ≤ a0.toNat))) (congrArg Value.bool (decide_eq_decide.2 (by first | omega | (simp; omega) | simp))) ?_
  refine OW.nil ?_
  refine QW.then_n ?_
  obtain ⟨q1, hq2, hf⟩ := some_bind hf
  refine CW.cutJ (fun L' M' => ∃ w3 : BitVec 64, ∃ n4 : Nat, q1 = (w3, n4) ∧ (n4 ≤ 9223372036854775807) ∧ L' = [(0, U64 w3), (2, .int .i64 ((n4 : Nat) : Int))] ∧ M' = (([] ++ N))) ?_ ?_
  · rintro L7 M8 ⟨w3, n4, e6, b5, e9, e10⟩
    rw [e9, e10]
    clear e9 e10 L7 M8
    clear hq2
    rw [e6] at hf
    clear e6
    try dsimp only at hf
    refine QW.then_n ?_
    refine CW.seq ?_
    refine CW.seq ?_
    refine CW.region ?_
    refine OW.rv (RV.move rfl) rfl ?_
    refine OW.rv (RV.geq rfl rfl) rfl ?_
    refine OW.slot (.bool (decide (65536 ≤ w3.toNat))) (congrArg Value.bool (decide_eq_decide.2 (by first | omega | (simp; omega) | simp))) ?_
    refine OW.nil ?_
    refine QW.then_n ?_
    obtain ⟨q11, hq12, hf⟩ := some_bind hf
    refine CW.cutJ (fun L' M' => ∃ w13 : BitVec 64, ∃ n14 : Nat, q11 = (w13, n14) ∧ (n14 ≤ 9223372036854775807) ∧ L' = [(0, U64 w13), (2, .int .i64 ((n14 : Nat) : Int))] ∧ M' = (([] ++ N))) ?_ ?_
    · rintro L17 M18 ⟨w13, n14, e16, b15, e19, e20⟩
      rw [e19, e20]
      clear e19 e20 L17 M18
      clear hq12
      rw [e16] at hf
      clear e16
      try dsimp only at hf
      refine QW.then_n ?_
      refine CW.seq ?_
      refine CW.seq ?_
      refine CW.region ?_
      refine OW.rv (RV.move rfl) rfl ?_
      refine OW.rv (RV.geq rfl rfl) rfl ?_
      refine OW.slot (.bool (decide (256 ≤ w13.toNat))) (congrArg Value.bool (decide_eq_decide.2 (by first | omega | (simp; omega) | simp))) ?_
      refine OW.nil ?_
      refine QW.then_n ?_
      obtain ⟨q21, hq22, hf⟩ := some_bind hf
      refine CW.cutJ (fun L' M' => ∃ w23 : BitVec 64, ∃ n24 : Nat, q21 = (w23, n24) ∧ (n24 ≤ 9223372036854775807) ∧ L' = [(0, U64 w23), (2, .int .i64 ((n24 : Nat) : Int))] ∧ M' = (([] ++ N))) ?_ ?_
      · rintro L27 M28 ⟨w23, n24, e26, b25, e29, e30⟩
        rw [e29, e30]
        clear e29 e30 L27 M28
        clear hq22
        rw [e26] at hf
        clear e26
        try dsimp only at hf
        refine QW.then_n ?_
        refine CW.seq ?_
        refine CW.region ?_
        refine OW.rv (RV.move rfl) rfl ?_
        refine OW.rv (RV.move rfl) rfl ?_
        refine OW.rv (RV.conv64_8 rfl (by first | rfl | exact lit64 _ rfl) rfl rfl) rfl ?_
        refine OW.rv (RV.indexStr (i := ((w23.setWidth 8)).toNat) (BitVec.ofNat 8 (lenB (w23.setWidth 8))) rfl rfl rfl (len_table _)) rfl ?_
        refine OW.rv (RV.conv8_i rfl (by first | rfl | exact lit8 _ rfl) rfl rfl) rfl ?_
        have m31 := ((BitVec.ofNat 8 (lenB (w23.setWidth 8)))).isLt
        obtain ⟨g32, hf⟩ := some_if hf
        refine OW.rv (RV.add rfl rfl (by omega)) rfl ?_
        refine OW.slot (.int .i64 (((n24 + (BitVec.ofNat 8 (lenB (w23.setWidth 8))).toNat) : Nat) : Int)) (by first | rfl | (congr 1) | (congr 1; omega)) ?_
        refine OW.rv (RV.assign rfl) rfl ?_
        refine OW.nil ?_
        refine QW.then_n ?_
        refine CW.ret ?_
        have e0 := Option.some.inj hf
        subst e0
        refine QW.retG (rs := [.tmp 2]) ([.int .i64 (((n24 + (BitVec.ofNat 8 (lenB (w23.setWidth 8))).toNat) : Nat) : Int)]) ([]) rfl ?_ rfl ?_ ?_ _ (.inl rfl)
        · exact ⟨rfl, trivial⟩
        · exact ⟨(by omega), rfl⟩
        · exact (fun w m => m)
      · skip
        by_cases h33 : 256 ≤ w13.toNat
        · replace hq22 := if_t hq22 h33
          refine CW.is_t rfl (decide_eq_true h33) ?_
          refine CW.seq ?_
          refine CW.region ?_
          refine OW.rv (RV.move rfl) rfl ?_
          refine OW.rv (RV.shr64 (s := 8) rfl (by first | rfl | exact lit64 _ rfl) rfl (by first | rfl | (simp [U64]; done))) rfl ?_
          refine OW.rv (RV.assign rfl) rfl ?_
          refine OW.nil ?_
          refine QW.then_n ?_
          refine CW.region ?_
          refine OW.rv (RV.move rfl) rfl ?_
          obtain ⟨g34, hq22⟩ := some_if hq22
          refine OW.rv (RV.add rfl rfl (by omega)) rfl ?_
          refine OW.slot (.int .i64 (((n14 + 8) : Nat) : Int)) (by first | rfl | (congr 1) | (congr 1; omega)) ?_
          refine OW.rv (RV.assign rfl) rfl ?_
          refine OW.nil ?_
          exact QW.join ⟨(w13 >>> 8), (n14 + 8), (Option.some.inj hq22).symm, (by omega), rfl, rfl⟩ ⟨rfl, rfl, trivial⟩ (fun w m => m.pick [] 0 rfl rfl)
        · replace hq22 := if_f hq22 h33
          refine CW.is_f rfl (decide_eq_false h33) ?_
          refine CW.skip ?_
          exact QW.join ⟨w13, n14, (Option.some.inj hq22).symm, (by omega), rfl, rfl⟩ ⟨rfl, rfl, trivial⟩ (fun w m => m.pick [] 0 rfl rfl)
    · skip
      by_cases h35 : 65536 ≤ w3.toNat
      · replace hq12 := if_t hq12 h35
        refine CW.is_t rfl (decide_eq_true h35) ?_
        refine CW.seq ?_
        refine CW.region ?_
        refine OW.rv (RV.move rfl) rfl ?_
        refine OW.rv (RV.shr64 (s := 16) rfl (by first | rfl | exact lit64 _ rfl) rfl (by first | rfl | (simp [U64]; done))) rfl ?_
        refine OW.rv (RV.assign rfl) rfl ?_
        refine OW.nil ?_
        refine QW.then_n ?_
        refine CW.region ?_
        refine OW.rv (RV.move rfl) rfl ?_
        obtain ⟨g36, hq12⟩ := some_if hq12
        refine OW.rv (RV.add rfl rfl (by omega)) rfl ?_
        refine OW.slot (.int .i64 (((n4 + 16) : Nat) : Int)) (by first | rfl | (congr 1) | (congr 1; omega)) ?_
        refine OW.rv (RV.assign rfl) rfl ?_
        refine OW.nil ?_
        exact QW.join ⟨(w3 >>> 16), (n4 + 16), (Option.some.inj hq12).symm, (by omega), rfl, rfl⟩ ⟨rfl, rfl, trivial⟩ (fun w m => m.pick [] 0 rfl rfl)
      · replace hq12 := if_f hq12 h35
        refine CW.is_f rfl (decide_eq_false h35) ?_
        refine CW.skip ?_
        exact QW.join ⟨w3, n4, (Option.some.inj hq12).symm, (by omega), rfl, rfl⟩ ⟨rfl, rfl, trivial⟩ (fun w m => m.pick [] 0 rfl rfl)
  · skip
    by_cases h37 : 4294967296 ≤ a0.toNat
    · replace hq2 := if_t hq2 h37
      refine CW.is_t rfl (decide_eq_true h37) ?_
      refine CW.seq ?_
      refine CW.region ?_
      refine OW.rv (RV.move rfl) rfl ?_
      refine OW.rv (RV.shr64 (s := 32) rfl (by first | rfl | exact lit64 _ rfl) rfl (by first | rfl | (simp [U64]; done))) rfl ?_
      refine OW.rv (RV.assign rfl) rfl ?_
      refine OW.nil ?_
      refine QW.then_n ?_
      refine CW.region ?_
      refine OW.rv (RV.assign rfl) rfl ?_
      refine OW.nil ?_
      exact QW.join ⟨(a0 >>> 32), 32, (Option.some.inj hq2).symm, (by omega), rfl, rfl⟩ ⟨rfl, rfl, trivial⟩ (fun w m => m.pick [] 0 rfl rfl)
    · replace hq2 := if_f hq2 h37
      refine CW.is_f rfl (decide_eq_false h37) ?_
      refine CW.skip ?_
      exact QW.join ⟨a0, 0, (Option.some.inj hq2).symm, (by omega), rfl, rfl⟩ ⟨rfl, rfl, trivial⟩ (fun w m => m.pick [] 0 rfl rfl)
theorem u256_Len_does (w0 : World) (Φ : Ctx) (N : List Ent) (hΦ : ∀ w, Mem w0 w N → Φ w) (a0 : Vector (BitVec 64) 4) (res0 : Int) (hf : u256_Len a0 = some res0) : DoesG Try.prog 86 [.agg (u64s a0.toList).toArray] w0 [] N (fun v G => (-9223372036854775808 ≤ res0 ∧ res0 ≤ 9223372036854775807) ∧ v = .int .i64 res0) := by
  unfold u256_Len at hf
  refine DoesG.enter Try.func86 rfl Try.ntmps86 rfl (M := (([] ++ N))) rfl ?_
  refine CW.seq ?_
  refine CW.region ?_
  refine OW.boxA rfl rfl (fun b1 => ?_)
  refine OW.rv (RV.assign rfl) rfl ?_
  refine OW.nil ?_
  refine QW.then_n ?_
  refine CW.seq ?_
  refine CW.seq ?_
  refine CW.region ?_
  refine OW.rv (RV.assign rfl) rfl ?_
  refine OW.nil ?_
  refine QW.then_n ?_
  obtain ⟨q2, hq3, hf⟩ := some_bind hf
  refine CW.cutJ (fun L' M' => q2 = Lp.go () ∧ L' = [] ∧ M' = (([] ++ N))) ?_ ?_
  · rintro L5 M6 ⟨e4, e7, e8⟩
    rw [e7, e8]
    clear e7 e8 L5 M6
    clear hq3
    rw [e4] at hf
    clear e4
    try dsimp only at hf
    refine QW.then_n ?_
    refine CW.seq ?_
    refine CW.region ?_
    refine OW.rv (RV.assign rfl) rfl ?_
    refine OW.nil ?_
    refine QW.then_n ?_
    refine CW.ret ?_
    have e0 := Option.some.inj hf
    subst e0
    refine QW.retG (rs := [.tmp 2]) ([.int .i64 (0 : Int)]) ([]) rfl ?_ rfl ?_ ?_ _ (.inl rfl)
    · exact ⟨rfl, trivial⟩
    · exact ⟨(by omega), rfl⟩
    · exact (fun w m => m)
  · skip
    refine CW.block ?_
    refine CW.loopJ (fun k L' M' => ∃ z9 : Int, (u256_Len.l1 a0 k z9) = some q2 ∧ (-9223372036854775808 ≤ z9 ∧ z9 ≤ 9223372036854775807) ∧ L' = [(1, ptr (some b1) 0), (3, .int .i64 z9)] ∧ M' = ((some b1, blk (u64s a0.toList) 25) :: ([] ++ N))) (k0 := 5) ⟨(3 : Int), hq3, (by omega), rfl, rfl⟩ ⟨rfl, rfl, trivial⟩ (fun w m => m.pick [0] 1 rfl rfl) ?_
    clear hq3
    rintro k11 L14 M15 ⟨z9, hl12, b10, e16, e17⟩
    rw [e16, e17]
    clear e16 e17 L14 M15
    rcases k11 with _ | k11
    · rw [u256_Len.l1] at hl12; cases hl12
    rw [u256_Len.l1] at hl12
    refine CW.seq ?_
    refine CW.seq ?_
    refine CW.region ?_
    refine OW.rv (RV.move rfl) rfl ?_
    refine OW.rv (RV.geq rfl rfl) rfl ?_
    refine OW.nil ?_
    refine QW.then_n ?_
    by_cases h18 : (0 : Int) ≤ z9
    · replace hl12 := if_t hl12 h18
      refine CW.is_t rfl (decide_eq_true h18) ?_
      refine CW.skip ?_
      refine QW.then_n ?_
      refine CW.seq ?_
      refine CW.block ?_
      refine CW.seq ?_
      refine CW.region ?_
      refine OW.rv (RV.move rfl) rfl ?_
      obtain ⟨g19, hl12⟩ := some_if hl12
      refine OW.rv (RV.idx_a ((z9).toNat) rfl rfl (by omega) rfl rfl (by omega)) rfl ?_
      obtain ⟨x20, hx21, hl12⟩ := some_bind hl12
      refine OW.rv (RV.load rfl (List.Mem.head _) rfl rfl rfl (by rw [Nat.zero_add]; exact u64s_at (vat hx21))) rfl ?_
      refine OW.rv (RV.neq64 rfl (by first | rfl | exact lit64 _ rfl) rfl (by first | rfl | exact lit64 _ rfl)) rfl ?_
      refine OW.nil ?_
      refine QW.then_n ?_
      by_cases h22 : x20 = 0#64
      · replace hl12 := if_t hl12 h22
        refine CW.is_f rfl (congrArg (fun b => !b) (decide_eq_true h22)) ?_
        refine CW.skip ?_
        refine QW.block_n ?_
        refine QW.then_n ?_
        refine CW.region ?_
        refine OW.rv (RV.move rfl) rfl ?_
        obtain ⟨g23, hl12⟩ := some_if hl12
        refine OW.rv (RV.sub rfl rfl (by omega)) rfl ?_
        refine OW.rv (RV.assign rfl) rfl ?_
        refine OW.nil ?_
        exact QW.againJ (k' := k11) (Nat.lt_succ_self _) ⟨(z9 - (1 : Int)), hl12, (by omega), rfl, rfl⟩ ⟨rfl, rfl, trivial⟩ (fun w m => m.pick [0] 1 rfl rfl)
      · replace hl12 := if_f hl12 h22
        refine CW.is_t rfl (congrArg (fun b => !b) (decide_eq_false h22)) ?_
        refine CW.seq ?_
        refine CW.region ?_
        refine OW.rv (RV.move rfl) rfl ?_
        obtain ⟨g24, hl12⟩ := some_if hl12
        refine OW.rv (RV.mul rfl rfl (by omega)) rfl ?_
        refine OW.rv (RV.move rfl) rfl ?_
        refine OW.rv (RV.idx_a ((z9).toNat) rfl rfl (by omega) rfl rfl (by omega)) rfl ?_
        obtain ⟨x25, hx26, hl12⟩ := some_bind hl12
        refine OW.rv (RV.load rfl (List.Mem.head _) rfl rfl rfl (by rw [Nat.zero_add]; exact u64s_at (vat hx26))) rfl ?_
        obtain ⟨x28, hx27, hl12⟩ := some_bind hl12
        refine OW.callG Try.call95 rfl (math_bits_Len64_does w0 (More w0 Φ []) ((some b1, blk (u64s a0.toList) 25) :: ([] ++ N)) (fun w m => More.of hΦ 1 m rfl) x25 x28 hx27) rfl rfl ?_
        rintro _ G30 ⟨b29, rfl⟩
        refine OW.mem (M' := ((some b1, blk (u64s a0.toList) 25) :: ([] ++ N))) (fun w m => m.appR) ?_
        obtain ⟨g32, hl12⟩ := some_if hl12
        refine OW.rv (RV.add rfl rfl (by omega)) rfl ?_
        refine OW.rv (RV.assign rfl) rfl ?_
        refine OW.nil ?_
        refine QW.then_n ?_
        refine CW.ret ?_
        refine QW.block_r ?_
        refine QW.then_r ?_
        refine QW.then_r ?_
        refine QW.block_r ?_
        refine QW.then_r ?_
        have hc := Option.some.inj hl12
        subst hc
        try dsimp only at hf
        refine QW.then_r ?_
        have e0 := Option.some.inj hf
        subst e0
        refine QW.retG (rs := [.tmp 2]) ([.int .i64 (((64 : Int) * z9) + ((x28 : Nat) : Int))]) ((some b1, blk (u64s a0.toList) 25) :: []) rfl ?_ rfl ?_ ?_ _ (.inl rfl)
        · exact ⟨rfl, trivial⟩
        · exact ⟨(by omega), rfl⟩
        · exact (fun w m => m)
    · replace hl12 := if_f hl12 h18
      refine CW.is_f rfl (decide_eq_false h18) ?_
      refine CW.exit ?_
      refine QW.then_x ?_
      refine QW.then_x ?_
      refine QW.block_xe ?_
      exact QW.join ⟨(Option.some.inj hl12).symm, rfl, rfl⟩ trivial (fun w m => m.pick [] 1 rfl rfl)
theorem u256_Put_does (w0 : World) (Φ : Ctx) (N : List Ent) (hΦ : ∀ w, Mem w0 w N → Φ w) (a0 : Vector (BitVec 64) 4) (res0 : Vector (BitVec 8) 32) (hf : u256_Put a0 = some res0) : DoesG Try.prog 85 [.agg (u64s a0.toList).toArray] w0 [] N (fun v G => v = .agg (u8s res0.toList).toArray) := by
  unfold u256_Put at hf
  refine DoesG.enter Try.func85 rfl Try.ntmps85 rfl (M := (([] ++ N))) rfl ?_
  refine CW.seq ?_
  refine CW.region ?_
  refine OW.boxA rfl rfl (fun b1 => ?_)
  refine OW.alloc (l := (u8s (Vector.replicate 32 0#8).toList)) rfl (by rw [Vector.toList_replicate, ← u8s_rep']; rfl) rfl (fun b2 => ?_)
  refine OW.nil ?_
  refine QW.then_n ?_
  refine CW.seq ?_
  refine CW.region ?_
  refine OW.alloc (l := (u8s (Vector.replicate 32 0#8).toList)) rfl (by rw [Vector.toList_replicate, ← u8s_rep']; rfl) rfl (fun b3 => ?_)
  refine OW.nil ?_
  refine QW.then_n ?_
  refine CW.seq ?_
  refine CW.seq ?_
  refine CW.region ?_
  refine OW.rv (RV.move rfl) rfl ?_
  refine OW.nil ?_
  refine QW.then_n ?_
  obtain ⟨q4, hq5, hf⟩ := some_bind hf
  refine CW.cutJ (fun L' M' => ∃ w6 : Vector (BitVec 8) 32, q4 = w6 ∧ L' = [(2, ptr (some b2) 0), (3, ptr (some b3) 0)] ∧ M' = ((some b3, blk (u8s w6.toList) 115) :: (some b2, blk (u8s (Vector.replicate 32 0#8).toList) 115) :: ([] ++ N))) ?_ ?_
  · rintro L8 M9 ⟨w6, e7, e10, e11⟩
    rw [e10, e11]
    clear e10 e11 L8 M9
    clear hq5
    rw [e7] at hf
    clear e7
    try dsimp only at hf
    refine QW.then_n ?_
    refine CW.seq ?_
    refine CW.region ?_
    refine OW.rv (RV.loadW rfl (List.Mem.head _) rfl rfl rfl rfl ((u8s_length _).trans Vector.length_toList)) rfl ?_
    refine OW.rot1 ?_
    refine OW.sv (SV.storeW rfl rfl rfl (u8s_one _) rfl ((u8s_length _).trans Vector.length_toList) ((u8s_length _).trans Vector.length_toList)) ?_
    refine OW.nil ?_
    refine QW.then_n ?_
    refine CW.ret ?_
    have e0 := Option.some.inj hf
    subst e0
    refine QW.retG (rs := [.cell 2 115]) ([.agg (u8s w6.toList).toArray]) ((some b2, blk (u8s w6.toList) 115) :: (some b3, blk (u8s w6.toList) 115) :: []) rfl ?_ rfl ?_ ?_ _ (.inl rfl)
    · exact ⟨⟨_, _, _, _, rfl, (List.Mem.head _), rfl, rfl, (congrArg some ((u8s_length _).trans Vector.length_toList).symm), rfl⟩, trivial⟩
    · exact rfl
    · exact (fun w m => m)
  · skip
    refine CW.block ?_
    refine CW.loopJ (fun k L' M' => ∃ n12 : Nat, ∃ w14 : Vector (BitVec 8) 32, (u256_Put.l1 a0 k n12 w14) = some q4 ∧ (n12 ≤ 9223372036854775807) ∧ L' = [(1, ptr (some b1) 0), (2, ptr (some b2) 0), (3, ptr (some b3) 0), (5, .int .i64 ((n12 : Nat) : Int))] ∧ M' = ((some b3, blk (u8s w14.toList) 115) :: (some b2, blk (u8s (Vector.replicate 32 0#8).toList) 115) :: (some b1, blk (u64s a0.toList) 25) :: ([] ++ N))) (k0 := (32 - 0 + 2)) ⟨0, (Vector.replicate 32 0#8), hq5, (by omega), rfl, rfl⟩ ⟨rfl, rfl, rfl, rfl, trivial⟩ (fun w m => m.pick [0, 1, 2] 3 rfl rfl) ?_
    clear hq5
    rintro k15 L18 M19 ⟨n12, w14, hl16, b13, e20, e21⟩
    rw [e20, e21]
    clear e20 e21 L18 M19
    rcases k15 with _ | k15
    · rw [u256_Put.l1] at hl16; cases hl16
    rw [u256_Put.l1] at hl16
    refine CW.seq ?_
    refine CW.region ?_
    refine OW.rv (RV.lss rfl rfl) rfl ?_
    refine OW.slot (.bool (decide (n12 < 32))) (congrArg Value.bool (decide_eq_decide.2 (by omega))) ?_
    refine OW.nil ?_
    refine QW.then_n ?_
    refine CW.seq ?_
    by_cases h22 : n12 < 32
    · replace hl16 := if_t hl16 h22
      refine CW.is_t rfl (decide_eq_true h22) ?_
      refine CW.skip ?_
      refine QW.then_n ?_
      refine CW.seq ?_
      refine CW.block ?_
      refine CW.seq ?_
      refine CW.region ?_
      refine OW.rv (RV.move rfl) rfl ?_
      refine OW.rv (RV.assign rfl) rfl ?_
      refine OW.nil ?_
      refine QW.then_n ?_
      refine CW.region ?_
      refine OW.rv (RV.move rfl) rfl ?_
      obtain ⟨g23, hl16⟩ := some_if hl16
      refine OW.rv (RV.sub rfl rfl (by omega)) rfl ?_
      refine OW.slot (.int .i64 ((31 - n12 : Nat) : Int)) (by congr 1; omega) ?_
      refine OW.rv (RV.move rfl) rfl ?_
      refine OW.rv (RV.quo rfl rfl (by omega) (by omega) (by omega)) rfl ?_
      refine OW.slot (.int .i64 ((n12 / 8 : Nat) : Int)) (by first | rfl | (congr 1; omega)) ?_
      obtain ⟨g24, hl16⟩ := some_if hl16
      refine OW.rv (RV.idx_a ((n12 / 8)) rfl rfl rfl rfl rfl (by omega)) rfl ?_
      obtain ⟨x25, hx26, hl16⟩ := some_bind hl16
      refine OW.rv (RV.load rfl (List.Mem.tail _ (List.Mem.tail _ (List.Mem.head _))) rfl rfl rfl (by rw [Nat.zero_add]; exact u64s_at (vat hx26))) rfl ?_
      refine OW.rv (RV.move rfl) rfl ?_
      refine OW.rv (RV.rem rfl rfl (by omega) (by omega)) rfl ?_
      refine OW.slot (.int .i64 ((n12 % 8 : Nat) : Int)) (by first | rfl | (congr 1; omega)) ?_
      refine OW.rv (RV.mul rfl rfl (by omega)) rfl ?_
      refine OW.slot (.int .i64 (((8 * (n12 % 8)) : Nat) : Int)) (by first | rfl | (congr 1) | (congr 1; omega)) ?_
      refine OW.rv (RV.shr64 (s := (8 * (n12 % 8))) rfl (by first | rfl | exact lit64 _ rfl) rfl (by first | rfl | (congr 1))) rfl ?_
      refine OW.rv (RV.conv64_8 rfl (by first | rfl | exact lit64 _ rfl) rfl rfl) rfl ?_
      obtain ⟨g27, hl16⟩ := some_if hl16
      refine OW.rv (RV.idx_a ((31 - n12)) rfl rfl rfl rfl rfl (by omega)) rfl ?_
      refine OW.sv (SV.store rfl rfl rfl rfl rfl (by rw [u8s_length, Vector.length_toList]; omega)) ?_
      refine OW.cells (u8s (w14.setIfInBounds (31 - n12) ((x25 >>> (8 * (n12 % 8))).setWidth 8)).toList) (by rw [Nat.zero_add, u8s_set', vset]) ?_
      refine OW.nil ?_
      refine QW.block_n ?_
      refine QW.then_n ?_
      refine CW.region ?_
      refine OW.rv (RV.add rfl rfl (by omega)) rfl ?_
      refine OW.slot (.int .i64 (((n12 + 1) : Nat) : Int)) (by first | rfl | (congr 1) | (congr 1; omega)) ?_
      refine OW.rv (RV.move rfl) rfl ?_
      refine OW.nil ?_
      exact QW.againJ (k' := k15) (Nat.lt_succ_self _) ⟨(n12 + 1), (w14.setIfInBounds (31 - n12) ((x25 >>> (8 * (n12 % 8))).setWidth 8)), hl16, (by omega), rfl, rfl⟩ ⟨rfl, rfl, rfl, rfl, trivial⟩ (fun w m => m.pick [0, 1, 2] 3 rfl rfl)
    · replace hl16 := if_f hl16 h22
      refine CW.is_f rfl (decide_eq_false h22) ?_
      refine CW.exit ?_
      refine QW.then_x ?_
      refine QW.then_x ?_
      refine QW.block_xe ?_
      exact QW.join ⟨w14, (Option.some.inj hl16).symm, rfl, rfl⟩ ⟨rfl, rfl, trivial⟩ (fun w m => m.pick [0, 1] 3 rfl rfl)
theorem waybillref01_Put_does (w0 : World) (Φ : Ctx) (N : List Ent) (hΦ : ∀ w, Mem w0 w N → Φ w) (a0 : Vector (BitVec 64) 4) (res0 : Vector (BitVec 8) 32) (hf : waybillref01_Put a0 = some res0) : DoesG Try.prog 87 [.agg (u64s a0.toList).toArray] w0 [] N (fun v G => v = .agg (u8s res0.toList).toArray) := by
  unfold waybillref01_Put at hf
  refine DoesG.enter Try.func87 rfl Try.ntmps87 rfl (M := (([] ++ N))) rfl ?_
  refine CW.seq ?_
  refine CW.region ?_
  refine OW.boxA rfl rfl (fun b1 => ?_)
  refine OW.alloc (l := (u8s (Vector.replicate 32 0#8).toList)) rfl (by rw [Vector.toList_replicate, ← u8s_rep']; rfl) rfl (fun b2 => ?_)
  refine OW.nil ?_
  refine QW.then_n ?_
  refine CW.seq ?_
  refine CW.region ?_
  refine OW.alloc (l := (u8s (Vector.replicate 32 0#8).toList)) rfl (by rw [Vector.toList_replicate, ← u8s_rep']; rfl) rfl (fun b3 => ?_)
  refine OW.nil ?_
  refine QW.then_n ?_
  refine CW.seq ?_
  refine CW.seq ?_
  refine CW.region ?_
  refine OW.rv (RV.assign rfl) rfl ?_
  refine OW.nil ?_
  refine QW.then_n ?_
  obtain ⟨q4, hq5, hf⟩ := some_bind hf
  refine CW.cutJ (fun L' M' => ∃ w6 : Vector (BitVec 8) 32, q4 = w6 ∧ L' = [(2, ptr (some b2) 0), (3, ptr (some b3) 0)] ∧ M' = ((some b3, blk (u8s w6.toList) 115) :: (some b2, blk (u8s (Vector.replicate 32 0#8).toList) 115) :: ([] ++ N))) ?_ ?_
  · rintro L8 M9 ⟨w6, e7, e10, e11⟩
    rw [e10, e11]
    clear e10 e11 L8 M9
    clear hq5
    rw [e7] at hf
    clear e7
    try dsimp only at hf
    refine QW.then_n ?_
    refine CW.seq ?_
    refine CW.region ?_
    refine OW.rv (RV.loadW rfl (List.Mem.head _) rfl rfl rfl rfl ((u8s_length _).trans Vector.length_toList)) rfl ?_
    refine OW.rot1 ?_
    refine OW.sv (SV.storeW rfl rfl rfl (u8s_one _) rfl ((u8s_length _).trans Vector.length_toList) ((u8s_length _).trans Vector.length_toList)) ?_
    refine OW.nil ?_
    refine QW.then_n ?_
    refine CW.ret ?_
    have e0 := Option.some.inj hf
    subst e0
    refine QW.retG (rs := [.cell 2 115]) ([.agg (u8s w6.toList).toArray]) ((some b2, blk (u8s w6.toList) 115) :: (some b3, blk (u8s w6.toList) 115) :: []) rfl ?_ rfl ?_ ?_ _ (.inl rfl)
    · exact ⟨⟨_, _, _, _, rfl, (List.Mem.head _), rfl, rfl, (congrArg some ((u8s_length _).trans Vector.length_toList).symm), rfl⟩, trivial⟩
    · exact rfl
    · exact (fun w m => m)
  · skip
    refine CW.block ?_
    refine CW.loopJ (fun k L' M' => ∃ n12 : Nat, ∃ w14 : Vector (BitVec 8) 32, (waybillref01_Put.l1 a0 k n12 w14) = some q4 ∧ (n12 ≤ 9223372036854775807) ∧ L' = [(1, ptr (some b1) 0), (2, ptr (some b2) 0), (3, ptr (some b3) 0), (4, .int .i64 ((n12 : Nat) : Int))] ∧ M' = ((some b3, blk (u8s w14.toList) 115) :: (some b2, blk (u8s (Vector.replicate 32 0#8).toList) 115) :: (some b1, blk (u64s a0.toList) 25) :: ([] ++ N))) (k0 := (32 - 0 + 2)) ⟨0, (Vector.replicate 32 0#8), hq5, (by omega), rfl, rfl⟩ ⟨rfl, rfl, rfl, rfl, trivial⟩ (fun w m => m.pick [0, 1, 2] 3 rfl rfl) ?_
    clear hq5
    rintro k15 L18 M19 ⟨n12, w14, hl16, b13, e20, e21⟩
    rw [e20, e21]
    clear e20 e21 L18 M19
    rcases k15 with _ | k15
    · rw [waybillref01_Put.l1] at hl16; cases hl16
    rw [waybillref01_Put.l1] at hl16
    refine CW.seq ?_
    refine CW.seq ?_
    refine CW.region ?_
    refine OW.rv (RV.move rfl) rfl ?_
    refine OW.rv (RV.lss rfl rfl) rfl ?_
    refine OW.slot (.bool (decide (n12 < 32))) (congrArg Value.bool (decide_eq_decide.2 (by omega))) ?_
    refine OW.nil ?_
    refine QW.then_n ?_
    by_cases h22 : n12 < 32
    · replace hl16 := if_t hl16 h22
      refine CW.is_t rfl (decide_eq_true h22) ?_
      refine CW.skip ?_
      refine QW.then_n ?_
      refine CW.seq ?_
      refine CW.block ?_
      refine CW.region ?_
      refine OW.rv (RV.move rfl) rfl ?_
      obtain ⟨g23, hl16⟩ := some_if hl16
      refine OW.rv (RV.sub rfl rfl (by omega)) rfl ?_
      refine OW.slot (.int .i64 ((31 - n12 : Nat) : Int)) (by congr 1; omega) ?_
      refine OW.rv (RV.move rfl) rfl ?_
      refine OW.rv (RV.quo rfl rfl (by omega) (by omega) (by omega)) rfl ?_
      refine OW.slot (.int .i64 ((n12 / 8 : Nat) : Int)) (by first | rfl | (congr 1; omega)) ?_
      obtain ⟨g24, hl16⟩ := some_if hl16
      refine OW.rv (RV.idx_a ((n12 / 8)) rfl rfl rfl rfl rfl (by omega)) rfl ?_
      obtain ⟨x25, hx26, hl16⟩ := some_bind hl16
      refine OW.rv (RV.load rfl (List.Mem.tail _ (List.Mem.tail _ (List.Mem.head _))) rfl rfl rfl (by rw [Nat.zero_add]; exact u64s_at (vat hx26))) rfl ?_
      refine OW.rv (RV.move rfl) rfl ?_
      refine OW.rv (RV.rem rfl rfl (by omega) (by omega)) rfl ?_
      refine OW.slot (.int .i64 ((n12 % 8 : Nat) : Int)) (by first | rfl | (congr 1; omega)) ?_
      refine OW.rv (RV.mul rfl rfl (by omega)) rfl ?_
      refine OW.slot (.int .i64 (((8 * (n12 % 8)) : Nat) : Int)) (by first | rfl | (congr 1) | (congr 1; omega)) ?_
      refine OW.rv (RV.conv_i64 rfl rfl rfl) rfl ?_
      refine OW.slot (U64 (BitVec.ofNat 64 (8 * (n12 % 8)))) (congrArg U64 (BitVec.ofInt_natCast ..)) ?_
      refine OW.rv (RV.shr64 (s := (BitVec.ofNat 64 (8 * (n12 % 8))).toNat) rfl (by first | rfl | exact lit64 _ rfl) rfl (by first | rfl | (simp [U64]; done))) rfl ?_
      refine OW.rv (RV.conv64_8 rfl (by first | rfl | exact lit64 _ rfl) rfl rfl) rfl ?_
      obtain ⟨g27, hl16⟩ := some_if hl16
      refine OW.rv (RV.idx_a ((31 - n12)) rfl rfl rfl rfl rfl (by omega)) rfl ?_
      refine OW.sv (SV.store rfl rfl rfl rfl rfl (by rw [u8s_length, Vector.length_toList]; omega)) ?_
      refine OW.cells (u8s (w14.setIfInBounds (31 - n12) ((x25 >>> (BitVec.ofNat 64 (8 * (n12 % 8))).toNat).setWidth 8)).toList) (by rw [Nat.zero_add, u8s_set', vset]) ?_
      refine OW.nil ?_
      refine QW.block_n ?_
      refine QW.then_n ?_
      refine CW.region ?_
      refine OW.rv (RV.move rfl) rfl ?_
      refine OW.rv (RV.add rfl rfl (by omega)) rfl ?_
      refine OW.slot (.int .i64 (((n12 + 1) : Nat) : Int)) (by first | rfl | (congr 1) | (congr 1; omega)) ?_
      refine OW.rv (RV.assign rfl) rfl ?_
      refine OW.nil ?_
      exact QW.againJ (k' := k15) (Nat.lt_succ_self _) ⟨(n12 + 1), (w14.setIfInBounds (31 - n12) ((x25 >>> (BitVec.ofNat 64 (8 * (n12 % 8))).toNat).setWidth 8)), hl16, (by omega), rfl, rfl⟩ ⟨rfl, rfl, rfl, rfl, trivial⟩ (fun w m => m.pick [0, 1, 2] 3 rfl rfl)
    · replace hl16 := if_f hl16 h22
      refine CW.is_f rfl (decide_eq_false h22) ?_
      refine CW.exit ?_
      refine QW.then_x ?_
      refine QW.then_x ?_
      refine QW.block_xe ?_
      exact QW.join ⟨w14, (Option.some.inj hl16).symm, rfl, rfl⟩ ⟨rfl, rfl, trivial⟩ (fun w m => m.pick [0, 1] 3 rfl rfl)
theorem u256_Bytes_does (w0 : World) (Φ : Ctx) (N : List Ent) (hΦ : ∀ w, Mem w0 w N → Φ w) (a0 : Vector (BitVec 64) 4) (res0 : List (BitVec 8)) (hf : u256_Bytes a0 = some res0) : DoesG Try.prog 64 [.agg (u64s a0.toList).toArray] w0 [] N (fun v G => ∃ B : List Ent, ∃ or0 : Option Nat, ∃ kr0 : Nat, ∃ rr0 : List Value, (OwnS or0 res0.length kr0 1 (u8s res0) rr0) ∧ v = sl or0 0 res0.length kr0 ∧ G = (or0, blk ((u8s res0) ++ rr0) 5) :: B) := by
  unfold u256_Bytes at hf
  refine DoesG.enter Try.func64 rfl Try.ntmps64 rfl (M := (([] ++ N))) rfl ?_
  refine CW.seq ?_
  refine CW.region ?_
  refine OW.boxA rfl rfl (fun b1 => ?_)
  refine OW.rv (RV.assign rfl) rfl ?_
  refine OW.nil ?_
  refine QW.then_n ?_
  refine CW.seq ?_
  refine CW.region ?_
  refine OW.rv (RV.loadW rfl (List.Mem.head _) rfl rfl rfl rfl ((u64s_length _).trans Vector.length_toList)) rfl ?_
  obtain ⟨x3, hx2, hf⟩ := some_bind hf
  refine OW.callG Try.call85 rfl (u256_Put_does w0 (More w0 Φ []) ((some b1, blk (u64s a0.toList) 25) :: ([] ++ N)) (fun w m => More.of hΦ 1 m rfl) a0 x3 hx2) rfl rfl ?_
  rintro _ G4 rfl
  refine OW.mem (M' := ((some b1, blk (u64s a0.toList) 25) :: ([] ++ N))) (fun w m => m.appR) ?_
  refine OW.alloc (l := (u8s (Vector.replicate 32 0#8).toList)) rfl (by rw [Vector.toList_replicate, ← u8s_rep']; rfl) rfl (fun b6 => ?_)
  refine OW.sv (SV.storeW rfl rfl rfl (u8s_one _) rfl ((u8s_length _).trans Vector.length_toList) ((u8s_length _).trans Vector.length_toList)) ?_
  refine OW.nil ?_
  refine QW.then_n ?_
  refine CW.seq ?_
  refine CW.region ?_
  refine OW.rv (RV.loadW rfl (List.Mem.tail _ (List.Mem.head _)) rfl rfl rfl rfl ((u64s_length _).trans Vector.length_toList)) rfl ?_
  obtain ⟨x8, hx7, hf⟩ := some_bind hf
  refine OW.callG Try.call86 rfl (u256_Len_does w0 (More w0 Φ []) ((some b6, blk (u8s x3.toList) 115) :: (some b1, blk (u64s a0.toList) 25) :: ([] ++ N)) (fun w m => More.of hΦ 2 m rfl) a0 x8 hx7) rfl rfl ?_
  rintro _ G10 ⟨b9, rfl⟩
  refine OW.mem (M' := ((some b6, blk (u8s x3.toList) 115) :: (some b1, blk (u64s a0.toList) 25) :: ([] ++ N))) (fun w m => m.appR) ?_
  obtain ⟨g12, hf⟩ := some_if hf
  refine OW.rv (RV.add rfl rfl (by omega)) rfl ?_
  obtain ⟨g13, hf⟩ := some_if hf
  refine OW.rv (RV.quo rfl rfl (by omega) (by omega) (by omega)) rfl ?_
  refine OW.slot (.int .i64 ((((x8 + (7 : Int))).toNat / 8 : Nat) : Int)) (by first | rfl | (congr 1; omega)) ?_
  refine OW.rv (RV.assign rfl) rfl ?_
  refine OW.nil ?_
  refine QW.then_n ?_
  refine CW.seq ?_
  refine CW.region ?_
  refine OW.rv (RV.move rfl) rfl ?_
  refine OW.rv (RV.sub rfl rfl (by omega)) rfl ?_
  refine OW.mem (M' := (some b1, blk (u64s a0.toList) 25) :: (((some b6, blk (u8s x3.toList) 115) :: []) ++ N)) (fun w m => m.pick [1, 0] 2 rfl rfl) ?_
  have v14 : View (More w0 Φ ((some b6, blk (u8s x3.toList) 115) :: [])) (some ⟨b6, 0, none⟩) x3.toList.length 32 1 (u8s x3.toList) := View.arr (w0 := w0) (te := 115) (fun w q => q.2.sublist (List.singleton_sublist.2 (List.mem_cons_self ..))) (by decide)
  obtain ⟨g16, hf⟩ := some_if hf
  obtain ⟨g17, hf⟩ := some_if hf
  refine OW.rv (RV.arr_lo (s := 1) ((((32 : Int) - ((((x8 + (7 : Int))).toNat / 8 : Nat) : Int))).toNat) rfl rfl (by omega) rfl rfl (by omega)) rfl ?_
  refine OW.slot (.slice (subA (some ⟨b6, 0, none⟩) 32 ((((32 : Int) - ((((x8 + (7 : Int))).toNat / 8 : Nat) : Int))).toNat) 1) (x3.toList.drop ((((32 : Int) - ((((x8 + (7 : Int))).toNat / 8 : Nat) : Int))).toNat)).length (32 - (((32 : Int) - ((((x8 + (7 : Int))).toNat / 8 : Nat) : Int))).toNat)) (by rw [show ((x3.toList.drop ((((32 : Int) - ((((x8 + (7 : Int))).toNat / 8 : Nat) : Int))).toNat))).length = 32 - ((((32 : Int) - ((((x8 + (7 : Int))).toNat / 8 : Nat) : Int))).toNat) from List.length_drop.trans (by rw [Vector.length_toList])]; try rfl) ?_
  have hlen_ : x3.toList.length = 32 := Vector.length_toList
  have v15 : View (More w0 Φ ((some b6, blk (u8s x3.toList) 115) :: [])) (subA (some ⟨b6, 0, none⟩) 32 ((((32 : Int) - ((((x8 + (7 : Int))).toNat / 8 : Nat) : Int))).toNat) 1) (x3.toList.drop ((((32 : Int) - ((((x8 + (7 : Int))).toNat / 8 : Nat) : Int))).toNat)).length (32 - (((32 : Int) - ((((x8 + (7 : Int))).toNat / 8 : Nat) : Int))).toNat) 1 (u8s (x3.toList.drop ((((32 : Int) - ((((x8 + (7 : Int))).toNat / 8 : Nat) : Int))).toNat))) := v14.lo8 (by omega)
  have m18 := v15.mx
  refine OW.mem (M' := ((none, blk ((u8s ([] : List (BitVec 8))) ++ []) 5) :: (some b1, blk (u64s a0.toList) 25) :: (((some b6, blk (u8s x3.toList) 115) :: []) ++ N))) (fun w m => m.nil_ent _) ?_
  refine OW.appendOwn (s := 1) rfl rfl rfl rfl rfl rfl OwnS.nil (fun w m => v15.rd w (More.of hΦ 2 m rfl)) v15.n (u8s_one _) (v15.zero (by decide)) (by decide) (by decide) (by first | omega | (simp only [i5, List.length_nil]; omega)) rfl rfl ((x3.toList.drop ((((32 : Int) - ((((x8 + (7 : Int))).toNat / 8 : Nat) : Int))).toNat)).length) (u8s (x3.toList.drop ((((32 : Int) - ((((x8 + (7 : Int))).toNat / 8 : Nat) : Int))).toNat))) (Nat.zero_add _) rfl (fun ob19 r20 c21 o22 => ?_)
  have m23 := o22.mx
  refine OW.rv (RV.assign rfl) rfl ?_
  refine OW.nil ?_
  refine QW.then_n ?_
  refine CW.ret ?_
  have e0 := Option.some.inj hf
  subst e0
  refine QW.retG (rs := [.tmp 2]) ([sl ob19 0 (x3.toList.drop ((((32 : Int) - ((((x8 + (7 : Int))).toNat / 8 : Nat) : Int))).toNat)).length c21]) ((ob19, blk ((u8s (x3.toList.drop ((((32 : Int) - ((((x8 + (7 : Int))).toNat / 8 : Nat) : Int))).toNat))) ++ r20) 5) :: ((some b6, blk (u8s x3.toList) 115) :: [])) rfl ?_ rfl ?_ ?_ _ (.inl rfl)
  · exact ⟨rfl, trivial⟩
  · exact ⟨((some b6, blk (u8s x3.toList) 115) :: []), ob19, c21, r20, o22, rfl, rfl⟩
  · exact (fun w m => m.pick [0] 2 rfl rfl)
theorem waybillref01_Bytes_does (w0 : World) (Φ : Ctx) (N : List Ent) (hΦ : ∀ w, Mem w0 w N → Φ w) (a0 : Vector (BitVec 64) 4) (res0 : List (BitVec 8)) (hf : waybillref01_Bytes a0 = some res0) : DoesG Try.prog 65 [.agg (u64s a0.toList).toArray] w0 [] N (fun v G => ∃ B : List Ent, ∃ or0 : Option Nat, ∃ kr0 : Nat, ∃ rr0 : List Value, (OwnS or0 res0.length kr0 1 (u8s res0) rr0) ∧ v = sl or0 0 res0.length kr0 ∧ G = (or0, blk ((u8s res0) ++ rr0) 5) :: B) := by
  unfold waybillref01_Bytes at hf
  refine DoesG.enter Try.func65 rfl Try.ntmps65 rfl (M := (([] ++ N))) rfl ?_
  refine CW.seq ?_
  refine CW.region ?_
  refine OW.boxA rfl rfl (fun b1 => ?_)
  refine OW.rv (RV.assign rfl) rfl ?_
  refine OW.nil ?_
  refine QW.then_n ?_
  refine CW.seq ?_
  refine CW.region ?_
  refine OW.rv (RV.loadW rfl (List.Mem.head _) rfl rfl rfl rfl ((u64s_length _).trans Vector.length_toList)) rfl ?_
  obtain ⟨x3, hx2, hf⟩ := some_bind hf
  refine OW.callG Try.call87 rfl (waybillref01_Put_does w0 (More w0 Φ []) ((some b1, blk (u64s a0.toList) 25) :: ([] ++ N)) (fun w m => More.of hΦ 1 m rfl) a0 x3 hx2) rfl rfl ?_
  rintro _ G4 rfl
  refine OW.mem (M' := ((some b1, blk (u64s a0.toList) 25) :: ([] ++ N))) (fun w m => m.appR) ?_
  refine OW.alloc (l := (u8s (Vector.replicate 32 0#8).toList)) rfl (by rw [Vector.toList_replicate, ← u8s_rep']; rfl) rfl (fun b6 => ?_)
  refine OW.sv (SV.storeW rfl rfl rfl (u8s_one _) rfl ((u8s_length _).trans Vector.length_toList) ((u8s_length _).trans Vector.length_toList)) ?_
  refine OW.nil ?_
  refine QW.then_n ?_
  refine CW.seq ?_
  refine CW.region ?_
  refine OW.rv (RV.assign rfl) rfl ?_
  refine OW.nil ?_
  refine QW.then_n ?_
  refine CW.seq ?_
  refine CW.seq ?_
  refine CW.region ?_
  refine OW.rv (RV.assign rfl) rfl ?_
  refine OW.nil ?_
  refine QW.then_n ?_
  obtain ⟨q7, hq8, hf⟩ := some_bind hf
  refine CW.cutJ (fun L' M' => ∃ l9 : List (BitVec 8), ∃ ob10 : Option Nat, ∃ c11 : Nat, ∃ r12 : List Value, q7 = l9 ∧ (OwnS ob10 l9.length c11 1 (u8s l9) r12) ∧ L' = [(4, sl ob10 0 l9.length c11)] ∧ M' = ((ob10, blk ((u8s l9) ++ r12) 5) :: ([] ++ N))) ?_ ?_
  · rintro L15 M16 ⟨l9, ob10, c11, r12, e14, o13, e17, e18⟩
    rw [e17, e18]
    clear e17 e18 L15 M16
    clear hq8
    rw [e14] at hf
    clear e14
    try dsimp only at hf
    have m19 := o13.mx
    refine QW.then_n ?_
    refine CW.seq ?_
    refine CW.region ?_
    refine OW.rv (RV.move rfl) rfl ?_
    refine OW.rv (RV.assign rfl) rfl ?_
    refine OW.nil ?_
    refine QW.then_n ?_
    refine CW.ret ?_
    have e0 := Option.some.inj hf
    subst e0
    refine QW.retG (rs := [.tmp 2]) ([sl ob10 0 l9.length c11]) ((ob10, blk ((u8s l9) ++ r12) 5) :: []) rfl ?_ rfl ?_ ?_ _ (.inl rfl)
    · exact ⟨rfl, trivial⟩
    · exact ⟨[], ob10, c11, r12, o13, rfl, rfl⟩
    · exact (fun w m => m.pick [0] 1 rfl rfl)
  · skip
    refine CW.block ?_
    refine CW.mem (M' := ((none, blk ((u8s ([] : List (BitVec 8))) ++ []) 5) :: (some b6, blk (u8s x3.toList) 115) :: (some b1, blk (u64s a0.toList) 25) :: ([] ++ N))) (fun w m => m.nil_ent _) ?_
    refine CW.loopJ (fun k L' M' => ∃ l20 : List (BitVec 8), ∃ n25 : Nat, ∃ ob21 : Option Nat, ∃ c22 : Nat, ∃ r23 : List Value, (waybillref01_Bytes.l1 x3 k l20 n25) = some q7 ∧ (OwnS ob21 l20.length c22 1 (u8s l20) r23) ∧ (n25 ≤ 9223372036854775807) ∧ L' = [(3, ptr (some b6) 0), (4, sl ob21 0 l20.length c22), (5, .int .i64 ((n25 : Nat) : Int))] ∧ M' = ((ob21, blk ((u8s l20) ++ r23) 5) :: (some b6, blk (u8s x3.toList) 115) :: ([] ++ N))) (k0 := 40) ⟨([] : List (BitVec 8)), 0, none, 0, [], hq8, OwnS.nil, (by omega), rfl, rfl⟩ ⟨rfl, rfl, rfl, trivial⟩ (fun w m => m.pick [0, 1] 3 rfl rfl) ?_
    clear hq8
    rintro k27 L30 M31 ⟨l20, n25, ob21, c22, r23, hl28, o24, b26, e32, e33⟩
    rw [e32, e33]
    clear e32 e33 L30 M31
    rcases k27 with _ | k27
    · rw [waybillref01_Bytes.l1] at hl28; cases hl28
    rw [waybillref01_Bytes.l1] at hl28
    have m34 := o24.mx
    refine CW.seq ?_
    refine CW.seq ?_
    refine CW.region ?_
    refine OW.rv (RV.move rfl) rfl ?_
    refine OW.rv (RV.lss rfl rfl) rfl ?_
    refine OW.slot (.bool (decide (n25 < 32))) (congrArg Value.bool (decide_eq_decide.2 (by omega))) ?_
    refine OW.nil ?_
    refine QW.then_n ?_
    by_cases h35 : n25 < 32
    · replace hl28 := if_t hl28 h35
      refine CW.is_t rfl (decide_eq_true h35) ?_
      refine CW.skip ?_
      refine QW.then_n ?_
      refine CW.seq ?_
      refine CW.block ?_
      refine CW.seq ?_
      refine CW.region ?_
      refine OW.rv (RV.move rfl) rfl ?_
      refine OW.rv (RV.len rfl rfl) rfl ?_
      refine OW.rv (RV.gtr rfl rfl) rfl ?_
      refine OW.slot (.bool (decide (0 < l20.length))) (congrArg Value.bool (decide_eq_decide.2 (by omega))) ?_
      refine OW.rv (RV.move rfl) rfl ?_
      by_cases h36 : 0 < l20.length
      · replace hl28 := if_t hl28 h36
        refine OW.slot (.bool true) (congrArg Value.bool (decide_eq_true h36)) ?_
        refine OW.skip rfl rfl rfl ?_
        refine OW.skip rfl rfl rfl ?_
        refine OW.skip rfl rfl rfl ?_
        refine OW.skip rfl rfl rfl ?_
        refine OW.rv (RV.pick_t rfl rfl rfl) rfl ?_
        refine OW.nil ?_
        refine QW.then_n ?_
        obtain ⟨q37, hq38, hl28⟩ := some_bind hl28
        refine CW.cutJ (fun L' M' => ∃ l39 : List (BitVec 8), ∃ ob40 : Option Nat, ∃ c41 : Nat, ∃ r42 : List Value, q37 = l39 ∧ (OwnS ob40 l39.length c41 1 (u8s l39) r42) ∧ L' = [(3, ptr (some b6) 0), (4, sl ob40 0 l39.length c41), (5, .int .i64 ((n25 : Nat) : Int))] ∧ M' = ((ob40, blk ((u8s l39) ++ r42) 5) :: (some b6, blk (u8s x3.toList) 115) :: ([] ++ N))) ?_ ?_
        · rintro L45 M46 ⟨l39, ob40, c41, r42, e44, o43, e47, e48⟩
          rw [e47, e48]
          clear e47 e48 L45 M46
          clear hq38
          rw [e44] at hl28
          clear e44
          try dsimp only at hl28
          have m49 := o43.mx
          refine QW.block_n ?_
          refine QW.then_n ?_
          refine CW.region ?_
          refine OW.rv (RV.move rfl) rfl ?_
          refine OW.rv (RV.add rfl rfl (by omega)) rfl ?_
          refine OW.slot (.int .i64 (((n25 + 1) : Nat) : Int)) (by first | rfl | (congr 1) | (congr 1; omega)) ?_
          refine OW.rv (RV.assign rfl) rfl ?_
          refine OW.nil ?_
          exact QW.againJ (k' := k27) (Nat.lt_succ_self _) ⟨l39, (n25 + 1), ob40, c41, r42, hl28, o43, (by omega), rfl, rfl⟩ ⟨rfl, rfl, rfl, trivial⟩ (fun w m => m.pick [0, 1] 2 rfl rfl)
        · skip
          refine CW.is_t rfl rfl ?_
          refine CW.region ?_
          refine OW.rv (RV.move rfl) rfl ?_
          refine OW.rv (RV.move rfl) rfl ?_
          refine OW.rv (RV.idx_a (n25) rfl rfl rfl rfl rfl (by omega)) rfl ?_
          obtain ⟨x50, hx51, hq38⟩ := some_bind hq38
          refine OW.rv (RV.load rfl (List.Mem.tail _ (List.Mem.head _)) rfl rfl rfl (by rw [Nat.zero_add]; exact u8s_at (vat hx51))) rfl ?_
          refine OW.ofN (NV.bs1 rfl rfl rfl rfl rfl rfl) rfl (fun b52 => ?_)
          refine OW.mem (M' := (((some b52), blk ((u8s ([x50] : List (BitVec 8))) ++ []) 5) :: (ob21, blk ((u8s l20) ++ r23) 5) :: (some b6, blk (u8s x3.toList) 115) :: ([] ++ N))) (fun w m => by first | exact m | simpa [u8s] using m) ?_
          have o53 : OwnS (some b52) ([x50] : List (BitVec 8)).length 1 1 (u8s ([x50] : List (BitVec 8))) [] := ⟨by simp [u8s], by simp [u8s], (fun h => nomatch h), by simp⟩
          refine OW.slot (sl (some b52) 0 ([x50] : List (BitVec 8)).length 1) (rfl) ?_
          refine OW.rot1 ?_
          obtain ⟨g54, hq38⟩ := some_if hq38
          refine OW.appendOwn (s := 1) rfl rfl rfl rfl rfl rfl o24 (fun w m => m.rd0 (List.Mem.tail _ (List.Mem.head _)) (fun e => o53.nilc (by decide) e)) o53.n (u8s_one _) (o53.zeroO (by decide)) (by decide) (by decide) (by first | omega | (simp only [i5, List.length_nil]; omega)) rfl rfl ((l20 ++ ([x50] : List (BitVec 8))).length) (u8s (l20 ++ ([x50] : List (BitVec 8)))) (List.length_append ..).symm (u8s_app _ _) (fun ob55 r56 c57 o58 => ?_)
          have m59 := o58.mx
          refine OW.rv (RV.assign rfl) rfl ?_
          refine OW.nil ?_
          exact QW.join ⟨(l20 ++ ([x50] : List (BitVec 8))), ob55, c57, r56, (Option.some.inj hq38).symm, o58, rfl, rfl⟩ ⟨rfl, rfl, rfl, trivial⟩ (fun w m => m.pick [0, 2] 3 rfl rfl)
      · replace hl28 := if_f hl28 h36
        refine OW.slot (.bool false) (congrArg Value.bool (decide_eq_false h36)) ?_
        refine OW.want rfl ?_
        refine OW.rv (RV.move rfl) rfl ?_
        refine OW.want rfl ?_
        refine OW.rv (RV.idx_a (n25) rfl rfl rfl rfl rfl (by omega)) rfl ?_
        refine OW.want rfl ?_
        obtain ⟨x60, hx61, hl28⟩ := some_bind hl28
        refine OW.rv (RV.load rfl (List.Mem.tail _ (List.Mem.head _)) rfl rfl rfl (by rw [Nat.zero_add]; exact u8s_at (vat hx61))) rfl ?_
        refine OW.want rfl ?_
        refine OW.rv (RV.neq8 rfl (by first | rfl | exact lit8 _ rfl) rfl (by first | rfl | exact lit8 _ rfl)) rfl ?_
        refine OW.rv (RV.pick_f rfl rfl rfl) rfl ?_
        refine OW.nil ?_
        refine QW.then_n ?_
        obtain ⟨q62, hq63, hl28⟩ := some_bind hl28
        refine CW.cutJ (fun L' M' => ∃ l64 : List (BitVec 8), ∃ ob65 : Option Nat, ∃ c66 : Nat, ∃ r67 : List Value, q62 = l64 ∧ (OwnS ob65 l64.length c66 1 (u8s l64) r67) ∧ L' = [(3, ptr (some b6) 0), (4, sl ob65 0 l64.length c66), (5, .int .i64 ((n25 : Nat) : Int))] ∧ M' = ((ob65, blk ((u8s l64) ++ r67) 5) :: (some b6, blk (u8s x3.toList) 115) :: ([] ++ N))) ?_ ?_
        · rintro L70 M71 ⟨l64, ob65, c66, r67, e69, o68, e72, e73⟩
          rw [e72, e73]
          clear e72 e73 L70 M71
          clear hq63
          rw [e69] at hl28
          clear e69
          try dsimp only at hl28
          have m74 := o68.mx
          refine QW.block_n ?_
          refine QW.then_n ?_
          refine CW.region ?_
          refine OW.rv (RV.move rfl) rfl ?_
          refine OW.rv (RV.add rfl rfl (by omega)) rfl ?_
          refine OW.slot (.int .i64 (((n25 + 1) : Nat) : Int)) (by first | rfl | (congr 1) | (congr 1; omega)) ?_
          refine OW.rv (RV.assign rfl) rfl ?_
          refine OW.nil ?_
          exact QW.againJ (k' := k27) (Nat.lt_succ_self _) ⟨l64, (n25 + 1), ob65, c66, r67, hl28, o68, (by omega), rfl, rfl⟩ ⟨rfl, rfl, rfl, trivial⟩ (fun w m => m.pick [0, 1] 2 rfl rfl)
        · skip
          by_cases h75 : x60 = 0#8
          · replace hq63 := if_t hq63 h75
            refine CW.is_f rfl (congrArg (fun b => !b) (decide_eq_true h75)) ?_
            refine CW.skip ?_
            exact QW.join ⟨l20, ob21, c22, r23, (Option.some.inj hq63).symm, o24, rfl, rfl⟩ ⟨rfl, rfl, rfl, trivial⟩ (fun w m => m.pick [0, 1] 2 rfl rfl)
          · replace hq63 := if_f hq63 h75
            refine CW.is_t rfl (congrArg (fun b => !b) (decide_eq_false h75)) ?_
            refine CW.region ?_
            refine OW.rv (RV.move rfl) rfl ?_
            refine OW.rv (RV.move rfl) rfl ?_
            refine OW.rv (RV.idx_a (n25) rfl rfl rfl rfl rfl (by omega)) rfl ?_
            obtain ⟨x76, hx77, hq63⟩ := some_bind hq63
            refine OW.rv (RV.load rfl (List.Mem.tail _ (List.Mem.head _)) rfl rfl rfl (by rw [Nat.zero_add]; exact u8s_at (vat hx77))) rfl ?_
            refine OW.ofN (NV.bs1 rfl rfl rfl rfl rfl rfl) rfl (fun b78 => ?_)
            refine OW.mem (M' := (((some b78), blk ((u8s ([x76] : List (BitVec 8))) ++ []) 5) :: (ob21, blk ((u8s l20) ++ r23) 5) :: (some b6, blk (u8s x3.toList) 115) :: ([] ++ N))) (fun w m => by first | exact m | simpa [u8s] using m) ?_
            have o79 : OwnS (some b78) ([x76] : List (BitVec 8)).length 1 1 (u8s ([x76] : List (BitVec 8))) [] := ⟨by simp [u8s], by simp [u8s], (fun h => nomatch h), by simp⟩
            refine OW.slot (sl (some b78) 0 ([x76] : List (BitVec 8)).length 1) (rfl) ?_
            refine OW.rot1 ?_
            obtain ⟨g80, hq63⟩ := some_if hq63
            refine OW.appendOwn (s := 1) rfl rfl rfl rfl rfl rfl o24 (fun w m => m.rd0 (List.Mem.tail _ (List.Mem.head _)) (fun e => o79.nilc (by decide) e)) o79.n (u8s_one _) (o79.zeroO (by decide)) (by decide) (by decide) (by first | omega | (simp only [i5, List.length_nil]; omega)) rfl rfl ((l20 ++ ([x76] : List (BitVec 8))).length) (u8s (l20 ++ ([x76] : List (BitVec 8)))) (List.length_append ..).symm (u8s_app _ _) (fun ob81 r82 c83 o84 => ?_)
            have m85 := o84.mx
            refine OW.rv (RV.assign rfl) rfl ?_
            refine OW.nil ?_
            exact QW.join ⟨(l20 ++ ([x76] : List (BitVec 8))), ob81, c83, r82, (Option.some.inj hq63).symm, o84, rfl, rfl⟩ ⟨rfl, rfl, rfl, trivial⟩ (fun w m => m.pick [0, 2] 3 rfl rfl)
    · replace hl28 := if_f hl28 h35
      refine CW.is_f rfl (decide_eq_false h35) ?_
      refine CW.exit ?_
      refine QW.then_x ?_
      refine QW.then_x ?_
      refine QW.block_xe ?_
      exact QW.join ⟨l20, ob21, c22, r23, (Option.some.inj hl28).symm, o24, rfl, rfl⟩ ⟨rfl, trivial⟩ (fun w m => m.pick [0] 2 rfl rfl)
theorem rlp_head_does (w0 : World) (Φ : Ctx) (N : List Ent) (hΦ : ∀ w, Mem w0 w N → Φ w) (a0 : BitVec 8) (a1 : Nat) (res0 : List (BitVec 8)) (ba1 : a1 ≤ 9223372036854775807) (hf : rlp_head a0 a1 = some res0) : DoesG Try.prog 69 [U8 a0, .int .i64 ((a1 : Nat) : Int)] w0 [] N (fun v G => ∃ B : List Ent, ∃ or0 : Option Nat, ∃ kr0 : Nat, ∃ rr0 : List Value, (OwnS or0 res0.length kr0 1 (u8s res0) rr0) ∧ v = sl or0 0 res0.length kr0 ∧ G = (or0, blk ((u8s res0) ++ rr0) 5) :: B) := by
  unfold rlp_head at hf
  refine DoesG.enter Try.func69 rfl Try.ntmps69 rfl (M := (([] ++ N))) rfl ?_
  refine CW.seq ?_
  refine CW.region ?_
  refine OW.rv (RV.assign rfl) rfl ?_
  refine OW.nil ?_
  refine QW.then_n ?_
  refine CW.seq ?_
  refine CW.seq ?_
  refine CW.region ?_
  refine OW.rv (RV.move rfl) rfl ?_
  refine OW.rv (RV.leq rfl rfl) rfl ?_
  refine OW.slot (.bool (decide (a1 ≤ 55))) (congrArg Value.bool (decide_eq_decide.2 (by omega))) ?_
  refine OW.nil ?_
  refine QW.then_n ?_
  by_cases h1 : a1 ≤ 55
  · replace hf := if_t hf h1
    refine CW.is_t rfl (decide_eq_true h1) ?_
    refine CW.seq ?_
    refine CW.region ?_
    refine OW.rv (RV.move rfl) rfl ?_
    refine OW.rv (RV.move rfl) rfl ?_
    refine OW.rv (RV.conv_i8 rfl rfl rfl) rfl ?_
    refine OW.slot (U8 (BitVec.ofNat 8 a1)) (congrArg U8 (BitVec.ofInt_natCast ..)) ?_
    refine OW.rv (RV.add8 rfl (by first | rfl | exact lit8 _ rfl) rfl (by first | rfl | exact lit8 _ rfl)) rfl ?_
    refine OW.ofN (NV.bs1 rfl rfl rfl rfl rfl rfl) rfl (fun b2 => ?_)
    refine OW.mem (M' := (((some b2), blk ((u8s ([(a0 + (BitVec.ofNat 8 a1))] : List (BitVec 8))) ++ []) 5) :: ([] ++ N))) (fun w m => by first | exact m | simpa [u8s] using m) ?_
    have o3 : OwnS (some b2) ([(a0 + (BitVec.ofNat 8 a1))] : List (BitVec 8)).length 1 1 (u8s ([(a0 + (BitVec.ofNat 8 a1))] : List (BitVec 8))) [] := ⟨by simp [u8s], by simp [u8s], (fun h => nomatch h), by simp⟩
    refine OW.slot (sl (some b2) 0 ([(a0 + (BitVec.ofNat 8 a1))] : List (BitVec 8)).length 1) (rfl) ?_
    refine OW.rv (RV.assign rfl) rfl ?_
    refine OW.nil ?_
    refine QW.then_n ?_
    refine CW.ret ?_
    refine QW.then_r ?_
    have e0 := Option.some.inj hf
    subst e0
    refine QW.retG (rs := [.tmp 4]) ([sl (some b2) 0 ([(a0 + (BitVec.ofNat 8 a1))] : List (BitVec 8)).length 1]) (((some b2), blk ((u8s ([(a0 + (BitVec.ofNat 8 a1))] : List (BitVec 8))) ++ []) 5) :: []) rfl ?_ rfl ?_ ?_ _ (.inl rfl)
    · exact ⟨rfl, trivial⟩
    · exact ⟨[], (some b2), 1, [], o3, rfl, rfl⟩
    · exact (fun w m => m.pick [0] 1 rfl rfl)
  · replace hf := if_f hf h1
    refine CW.is_f rfl (decide_eq_false h1) ?_
    refine CW.skip ?_
    refine QW.then_n ?_
    refine CW.seq ?_
    refine CW.region ?_
    refine OW.rv (RV.move rfl) rfl ?_
    refine OW.rv (RV.conv_i64 rfl rfl rfl) rfl ?_
    refine OW.slot (U64 (BitVec.ofNat 64 a1)) (congrArg U64 (BitVec.ofInt_natCast ..)) ?_
    obtain ⟨x5, hx4, hf⟩ := some_bind hf
    refine OW.callG Try.call66 rfl (u256_From_does w0 (More w0 Φ []) (([] ++ N)) (fun w m => More.of hΦ 0 m rfl) (BitVec.ofNat 64 a1) x5 hx4) rfl rfl ?_
    rintro _ G6 rfl
    refine OW.mem (M' := (([] ++ N))) (fun w m => m.appR) ?_
    obtain ⟨x9, hx8, hf⟩ := some_bind hf
    refine OW.callG Try.call64 rfl (u256_Bytes_does w0 (More w0 Φ []) (([] ++ N)) (fun w m => More.of hΦ 0 m rfl) x5 x9 hx8) rfl rfl ?_
    rintro L15 M16 ⟨B10, ob11, c12, r13, o14, e17, e18⟩
    rw [e17, e18]
    clear e17 e18 L15 M16
    refine OW.mem (M' := ((ob11, blk ((u8s x9) ++ r13) 5) :: ((B10 ++ []) ++ N))) (fun w m => by have h := Mem.sinkAt (A := B10) m 1 0 rfl rfl; exact h) ?_
    have m19 := o14.mx
    refine OW.rv (RV.assign rfl) rfl ?_
    refine OW.nil ?_
    refine QW.then_n ?_
    refine CW.seq ?_
    refine CW.region ?_
    refine OW.rv (RV.move rfl) rfl ?_
    refine OW.rv (RV.add8 rfl (by first | rfl | exact lit8 _ rfl) rfl (by first | rfl | exact lit8 _ rfl)) rfl ?_
    refine OW.rv (RV.move rfl) rfl ?_
    refine OW.rv (RV.len rfl rfl) rfl ?_
    refine OW.rv (RV.conv_i8 rfl rfl rfl) rfl ?_
    refine OW.slot (U8 (BitVec.ofNat 8 x9.length)) (congrArg U8 (BitVec.ofInt_natCast ..)) ?_
    refine OW.rv (RV.add8 rfl (by first | rfl | exact lit8 _ rfl) rfl (by first | rfl | exact lit8 _ rfl)) rfl ?_
    refine OW.ofN (NV.bs1 rfl rfl rfl rfl rfl rfl) rfl (fun b20 => ?_)
    refine OW.mem (M' := (((some b20), blk ((u8s ([((a0 + 55#8) + (BitVec.ofNat 8 x9.length))] : List (BitVec 8))) ++ []) 5) :: (ob11, blk ((u8s x9) ++ r13) 5) :: ((B10 ++ []) ++ N))) (fun w m => by first | exact m | simpa [u8s] using m) ?_
    have o21 : OwnS (some b20) ([((a0 + 55#8) + (BitVec.ofNat 8 x9.length))] : List (BitVec 8)).length 1 1 (u8s ([((a0 + 55#8) + (BitVec.ofNat 8 x9.length))] : List (BitVec 8))) [] := ⟨by simp [u8s], by simp [u8s], (fun h => nomatch h), by simp⟩
    refine OW.slot (sl (some b20) 0 ([((a0 + 55#8) + (BitVec.ofNat 8 x9.length))] : List (BitVec 8)).length 1) (rfl) ?_
    refine OW.rv (RV.move rfl) rfl ?_
    obtain ⟨g22, hf⟩ := some_if hf
    refine OW.appendOwn (s := 1) rfl rfl rfl rfl rfl rfl o21 (fun w m => m.rd0 (List.Mem.tail _ (List.Mem.head _)) (fun e => o14.nilc (by decide) e)) o14.n (u8s_one _) (o14.zeroO (by decide)) (by decide) (by decide) (by first | omega | (simp only [i5, List.length_nil]; omega)) rfl rfl ((([((a0 + 55#8) + (BitVec.ofNat 8 x9.length))] : List (BitVec 8)) ++ x9).length) (u8s (([((a0 + 55#8) + (BitVec.ofNat 8 x9.length))] : List (BitVec 8)) ++ x9)) (List.length_append ..).symm (u8s_app _ _) (fun ob23 r24 c25 o26 => ?_)
    have m27 := o26.mx
    refine OW.rv (RV.assign rfl) rfl ?_
    refine OW.nil ?_
    refine QW.then_n ?_
    refine CW.ret ?_
    have e0 := Option.some.inj hf
    subst e0
    refine QW.retG (rs := [.tmp 4]) ([sl ob23 0 (([((a0 + 55#8) + (BitVec.ofNat 8 x9.length))] : List (BitVec 8)) ++ x9).length c25]) ((ob23, blk ((u8s (([((a0 + 55#8) + (BitVec.ofNat 8 x9.length))] : List (BitVec 8)) ++ x9)) ++ r24) 5) :: (B10 ++ [])) rfl ?_ rfl ?_ ?_ _ (.inl rfl)
    · exact ⟨rfl, trivial⟩
    · exact ⟨(B10 ++ []), ob23, c25, r24, o26, rfl, rfl⟩
    · exact (fun w m => m.pick [0] 2 rfl rfl)
theorem waybillref07_before_does (w0 : World) (Φ : Ctx) (N : List Ent) (hΦ : ∀ w, Mem w0 w N → Φ w) (a0 : Nat) (a1 : Nat) (res0 : List (BitVec 8)) (ba0 : a0 ≤ 9223372036854775807) (ba1 : a1 ≤ 9223372036854775807) (hf : waybillref07_before a0 a1 = some res0) : DoesG Try.prog 70 [.int .i64 ((a0 : Nat) : Int), .int .i64 ((a1 : Nat) : Int)] w0 [] N (fun v G => ∃ B : List Ent, ∃ or0 : Option Nat, ∃ kr0 : Nat, ∃ rr0 : List Value, (OwnS or0 res0.length kr0 1 (u8s res0) rr0) ∧ v = sl or0 0 res0.length kr0 ∧ G = (or0, blk ((u8s res0) ++ rr0) 5) :: B) := by
  unfold waybillref07_before at hf
  refine DoesG.enter Try.func70 rfl Try.ntmps70 rfl (M := (([] ++ N))) rfl ?_
  refine CW.seq ?_
  refine CW.region ?_
  refine OW.rv (RV.assign rfl) rfl ?_
  refine OW.nil ?_
  refine QW.then_n ?_
  refine CW.seq ?_
  refine CW.seq ?_
  refine CW.region ?_
  refine OW.rv (RV.move rfl) rfl ?_
  refine OW.rv (RV.leq rfl rfl) rfl ?_
  refine OW.slot (.bool (decide (a0 ≤ 55))) (congrArg Value.bool (decide_eq_decide.2 (by omega))) ?_
  refine OW.nil ?_
  refine QW.then_n ?_
  by_cases h1 : a0 ≤ 55
  · replace hf := if_t hf h1
    refine CW.is_t rfl (decide_eq_true h1) ?_
    refine CW.seq ?_
    refine CW.region ?_
    refine OW.rv (RV.move rfl) rfl ?_
    refine OW.rv (RV.move rfl) rfl ?_
    obtain ⟨g2, hf⟩ := some_if hf
    refine OW.rv (RV.add rfl rfl (by omega)) rfl ?_
    refine OW.slot (.int .i64 (((a1 + a0) : Nat) : Int)) (by first | rfl | (congr 1) | (congr 1; omega)) ?_
    refine OW.rv (RV.conv_i8 rfl rfl rfl) rfl ?_
    refine OW.slot (U8 (BitVec.ofNat 8 (a1 + a0))) (congrArg U8 (BitVec.ofInt_natCast ..)) ?_
    refine OW.ofN (NV.bs1 rfl rfl rfl rfl rfl rfl) rfl (fun b3 => ?_)
    refine OW.mem (M' := (((some b3), blk ((u8s ([(BitVec.ofNat 8 (a1 + a0))] : List (BitVec 8))) ++ []) 5) :: ([] ++ N))) (fun w m => by first | exact m | simpa [u8s] using m) ?_
    have o4 : OwnS (some b3) ([(BitVec.ofNat 8 (a1 + a0))] : List (BitVec 8)).length 1 1 (u8s ([(BitVec.ofNat 8 (a1 + a0))] : List (BitVec 8))) [] := ⟨by simp [u8s], by simp [u8s], (fun h => nomatch h), by simp⟩
    refine OW.slot (sl (some b3) 0 ([(BitVec.ofNat 8 (a1 + a0))] : List (BitVec 8)).length 1) (rfl) ?_
    refine OW.rv (RV.assign rfl) rfl ?_
    refine OW.nil ?_
    refine QW.then_n ?_
    refine CW.ret ?_
    refine QW.then_r ?_
    have e0 := Option.some.inj hf
    subst e0
    refine QW.retG (rs := [.tmp 4]) ([sl (some b3) 0 ([(BitVec.ofNat 8 (a1 + a0))] : List (BitVec 8)).length 1]) (((some b3), blk ((u8s ([(BitVec.ofNat 8 (a1 + a0))] : List (BitVec 8))) ++ []) 5) :: []) rfl ?_ rfl ?_ ?_ _ (.inl rfl)
    · exact ⟨rfl, trivial⟩
    · exact ⟨[], (some b3), 1, [], o4, rfl, rfl⟩
    · exact (fun w m => m.pick [0] 1 rfl rfl)
  · replace hf := if_f hf h1
    refine CW.is_f rfl (decide_eq_false h1) ?_
    refine CW.skip ?_
    refine QW.then_n ?_
    refine CW.seq ?_
    refine CW.region ?_
    refine OW.rv (RV.move rfl) rfl ?_
    refine OW.rv (RV.conv_i64 rfl rfl rfl) rfl ?_
    refine OW.slot (U64 (BitVec.ofNat 64 a0)) (congrArg U64 (BitVec.ofInt_natCast ..)) ?_
    obtain ⟨x6, hx5, hf⟩ := some_bind hf
    refine OW.callG Try.call67 rfl (waybillref01_From_does w0 (More w0 Φ []) (([] ++ N)) (fun w m => More.of hΦ 0 m rfl) (BitVec.ofNat 64 a0) x6 hx5) rfl rfl ?_
    rintro _ G7 rfl
    refine OW.mem (M' := (([] ++ N))) (fun w m => m.appR) ?_
    obtain ⟨x10, hx9, hf⟩ := some_bind hf
    refine OW.callG Try.call65 rfl (waybillref01_Bytes_does w0 (More w0 Φ []) (([] ++ N)) (fun w m => More.of hΦ 0 m rfl) x6 x10 hx9) rfl rfl ?_
    rintro L16 M17 ⟨B11, ob12, c13, r14, o15, e18, e19⟩
    rw [e18, e19]
    clear e18 e19 L16 M17
    refine OW.mem (M' := ((ob12, blk ((u8s x10) ++ r14) 5) :: ((B11 ++ []) ++ N))) (fun w m => by have h := Mem.sinkAt (A := B11) m 1 0 rfl rfl; exact h) ?_
    have m20 := o15.mx
    refine OW.rv (RV.assign rfl) rfl ?_
    refine OW.nil ?_
    refine QW.then_n ?_
    refine CW.seq ?_
    refine CW.region ?_
    refine OW.rv (RV.move rfl) rfl ?_
    obtain ⟨g21, hf⟩ := some_if hf
    refine OW.rv (RV.add rfl rfl (by omega)) rfl ?_
    refine OW.slot (.int .i64 (((a1 + 55) : Nat) : Int)) (by first | rfl | (congr 1) | (congr 1; omega)) ?_
    refine OW.rv (RV.move rfl) rfl ?_
    refine OW.rv (RV.len rfl rfl) rfl ?_
    obtain ⟨g22, hf⟩ := some_if hf
    refine OW.rv (RV.add rfl rfl (by omega)) rfl ?_
    refine OW.slot (.int .i64 ((((a1 + 55) + x10.length) : Nat) : Int)) (by first | rfl | (congr 1) | (congr 1; omega)) ?_
    refine OW.rv (RV.conv_i8 rfl rfl rfl) rfl ?_
    refine OW.slot (U8 (BitVec.ofNat 8 ((a1 + 55) + x10.length))) (congrArg U8 (BitVec.ofInt_natCast ..)) ?_
    refine OW.ofN (NV.bs1 rfl rfl rfl rfl rfl rfl) rfl (fun b23 => ?_)
    refine OW.mem (M' := (((some b23), blk ((u8s ([(BitVec.ofNat 8 ((a1 + 55) + x10.length))] : List (BitVec 8))) ++ []) 5) :: (ob12, blk ((u8s x10) ++ r14) 5) :: ((B11 ++ []) ++ N))) (fun w m => by first | exact m | simpa [u8s] using m) ?_
    have o24 : OwnS (some b23) ([(BitVec.ofNat 8 ((a1 + 55) + x10.length))] : List (BitVec 8)).length 1 1 (u8s ([(BitVec.ofNat 8 ((a1 + 55) + x10.length))] : List (BitVec 8))) [] := ⟨by simp [u8s], by simp [u8s], (fun h => nomatch h), by simp⟩
    refine OW.slot (sl (some b23) 0 ([(BitVec.ofNat 8 ((a1 + 55) + x10.length))] : List (BitVec 8)).length 1) (rfl) ?_
    refine OW.rv (RV.assign rfl) rfl ?_
    refine OW.nil ?_
    refine QW.then_n ?_
    refine CW.seq ?_
    refine CW.region ?_
    refine OW.rv (RV.move rfl) rfl ?_
    refine OW.rv (RV.move rfl) rfl ?_
    obtain ⟨g25, hf⟩ := some_if hf
    refine OW.appendOwn (s := 1) rfl rfl rfl rfl rfl rfl o24 (fun w m => m.rd0 (List.Mem.tail _ (List.Mem.head _)) (fun e => o15.nilc (by decide) e)) o15.n (u8s_one _) (o15.zeroO (by decide)) (by decide) (by decide) (by first | omega | (simp only [i5, List.length_nil]; omega)) rfl rfl ((([(BitVec.ofNat 8 ((a1 + 55) + x10.length))] : List (BitVec 8)) ++ x10).length) (u8s (([(BitVec.ofNat 8 ((a1 + 55) + x10.length))] : List (BitVec 8)) ++ x10)) (List.length_append ..).symm (u8s_app _ _) (fun ob26 r27 c28 o29 => ?_)
    have m30 := o29.mx
    refine OW.rv (RV.assign rfl) rfl ?_
    refine OW.nil ?_
    refine QW.then_n ?_
    refine CW.ret ?_
    have e0 := Option.some.inj hf
    subst e0
    refine QW.retG (rs := [.tmp 4]) ([sl ob26 0 (([(BitVec.ofNat 8 ((a1 + 55) + x10.length))] : List (BitVec 8)) ++ x10).length c28]) ((ob26, blk ((u8s (([(BitVec.ofNat 8 ((a1 + 55) + x10.length))] : List (BitVec 8)) ++ x10)) ++ r27) 5) :: (B11 ++ [])) rfl ?_ rfl ?_ ?_ _ (.inl rfl)
    · exact ⟨rfl, trivial⟩
    · exact ⟨(B11 ++ []), ob26, c28, r27, o29, rfl, rfl⟩
    · exact (fun w m => m.pick [0] 2 rfl rfl)
theorem rlp_Join_does (w0 : World) (Φ : Ctx) (N : List Ent) (hΦ : ∀ w, Mem w0 w N → Φ w) (A0_ : Option Addr) (c0_ : Nat) (cs0_ : List Value) (a0 : List (List (BitVec 8))) (res0 : List (BitVec 8)) (res1 : Nat) (va0 : View Φ A0_ a0.length c0_ 1 cs0_) (ha0 : Reps (BsRd Φ) cs0_ a0) (hf : rlp_Join a0 = some (res0, res1)) : DoesG Try.prog 29 [.slice A0_ a0.length c0_] w0 [] N (fun v G => ∃ B : List Ent, ∃ or0 : Option Nat, ∃ kr0 : Nat, ∃ rr0 : List Value, (OwnS or0 res0.length kr0 1 (u8s res0) rr0) ∧ (res1 ≤ 9223372036854775807) ∧ v = .tuple #[sl or0 0 res0.length kr0, .int .i64 ((res1 : Nat) : Int)] ∧ G = (or0, blk ((u8s res0) ++ rr0) 5) :: B) := by
  unfold rlp_Join at hf
  replace va0 := va0.mono (Ψ := More w0 Φ []) (fun w q => q.1)
  replace ha0 := ha0.mono (BsRd.mono (Ψ := More w0 Φ []) (fun w q => q.1))
  have m1 := va0.mx
  refine DoesG.enter Try.func29 rfl Try.ntmps29 rfl (M := (([] ++ N))) rfl ?_
  refine CW.seq ?_
  refine CW.region ?_
  refine OW.rv (RV.assign rfl) rfl ?_
  refine OW.rv (RV.assign rfl) rfl ?_
  refine OW.nil ?_
  refine QW.then_n ?_
  refine CW.seq ?_
  refine CW.region ?_
  refine OW.rv (RV.assign rfl) rfl ?_
  refine OW.nil ?_
  refine QW.then_n ?_
  refine CW.seq ?_
  refine CW.seq ?_
  refine CW.region ?_
  refine OW.rv (RV.move rfl) rfl ?_
  refine OW.rv (RV.len rfl rfl) rfl ?_
  refine OW.rv (RV.move rfl) rfl ?_
  refine OW.nil ?_
  refine QW.then_n ?_
  obtain ⟨q2, hq3, hf⟩ := some_bind hf
  refine CW.cutJ (fun L' M' => ∃ n4 : Nat, q2 = Lp.go n4 ∧ (n4 ≤ 9223372036854775807) ∧ L' = [(0, .slice A0_ a0.length c0_), (4, .int .i64 ((n4 : Nat) : Int))] ∧ M' = (([] ++ N))) ?_ ?_
  · rintro L7 M8 ⟨n4, e6, b5, e9, e10⟩
    rw [e9, e10]
    clear e9 e10 L7 M8
    clear hq3
    rw [e6] at hf
    clear e6
    try dsimp only at hf
    refine QW.then_n ?_
    refine CW.seq ?_
    refine CW.region ?_
    refine OW.rv (RV.move rfl) rfl ?_
    obtain ⟨x12, hx11, hf⟩ := some_bind hf
    refine OW.callG Try.call69 rfl (rlp_head_does w0 (More w0 Φ []) (([] ++ N)) (fun w m => More.of hΦ 0 m rfl) (192#8) n4 x12 (by omega) hx11) rfl rfl ?_
    rintro L18 M19 ⟨B13, ob14, c15, r16, o17, e20, e21⟩
    rw [e20, e21]
    clear e20 e21 L18 M19
    refine OW.mem (M' := ((ob14, blk ((u8s x12) ++ r16) 5) :: ((B13 ++ []) ++ N))) (fun w m => by have h := Mem.sinkAt (A := B13) m 1 0 rfl rfl; exact h) ?_
    replace va0 := va0.mono (Ψ := More w0 Φ (B13 ++ [])) (fun w q => More.mono (fun w m => (m).appR) q)
    replace ha0 := ha0.mono (BsRd.mono (Ψ := More w0 Φ (B13 ++ [])) (fun w q => More.mono (fun w m => (m).appR) q))
    have m22 := o17.mx
    refine OW.rv (RV.assign rfl) rfl ?_
    refine OW.nil ?_
    refine QW.then_n ?_
    refine CW.seq ?_
    refine CW.seq ?_
    refine CW.region ?_
    refine OW.rv (RV.move rfl) rfl ?_
    refine OW.rv (RV.len rfl rfl) rfl ?_
    refine OW.rv (RV.move rfl) rfl ?_
    obtain ⟨g23, hf⟩ := some_if hf
    refine OW.rv (RV.add rfl rfl (by omega)) rfl ?_
    refine OW.slot (.int .i64 (((x12.length + n4) : Nat) : Int)) (by first | rfl | (congr 1) | (congr 1; omega)) ?_
    refine OW.rv (RV.gtr rfl rfl) rfl ?_
    refine OW.slot (.bool (decide (16777216 < (x12.length + n4)))) (congrArg Value.bool (decide_eq_decide.2 (by omega))) ?_
    refine OW.nil ?_
    refine QW.then_n ?_
    by_cases h24 : 16777216 < (x12.length + n4)
    · replace hf := if_t hf h24
      refine CW.is_t rfl (decide_eq_true h24) ?_
      refine CW.seq ?_
      refine CW.region ?_
      refine OW.rv (RV.assign rfl) rfl ?_
      refine OW.rv (RV.assign rfl) rfl ?_
      refine OW.nil ?_
      refine QW.then_n ?_
      refine CW.ret ?_
      refine QW.then_r ?_
      refine QW.mem (M' := ((none, blk ((u8s ([] : List (BitVec 8))) ++ []) 5) :: (ob14, blk ((u8s x12) ++ r16) 5) :: ((B13 ++ []) ++ N))) (fun w m => m.nil_ent _) ?_
      have er0 := Option.some.inj hf
      obtain ⟨e0, er1⟩ := Prod.mk.inj er0
      clear er0
      subst e0
      subst er1
      refine QW.retG (rs := [.tmp 2, .tmp 3]) ([sl none 0 ([] : List (BitVec 8)).length 0, .int .i64 (2 : Int)]) ((none, blk ((u8s ([] : List (BitVec 8))) ++ []) 5) :: (B13 ++ [])) rfl ?_ rfl ?_ ?_ _ (.inl rfl)
      · exact ⟨rfl, rfl, trivial⟩
      · exact ⟨(B13 ++ []), none, 0, [], OwnS.nil, (by omega), rfl, rfl⟩
      · exact (fun w m => m.pick [0] 2 rfl rfl)
    · replace hf := if_f hf h24
      refine CW.is_f rfl (decide_eq_false h24) ?_
      refine CW.skip ?_
      refine QW.then_n ?_
      refine CW.seq ?_
      refine CW.seq ?_
      refine CW.region ?_
      refine OW.rv (RV.move rfl) rfl ?_
      refine OW.rv (RV.len rfl rfl) rfl ?_
      refine OW.rv (RV.move rfl) rfl ?_
      refine OW.nil ?_
      refine QW.then_n ?_
      obtain ⟨q25, hq26, hf⟩ := some_bind hf
      refine CW.cutJ (fun L' M' => ∃ l27 : List (BitVec 8), ∃ ob28 : Option Nat, ∃ c29 : Nat, ∃ r30 : List Value, q25 = l27 ∧ (OwnS ob28 l27.length c29 1 (u8s l27) r30) ∧ L' = [(7, sl ob28 0 l27.length c29)] ∧ M' = ((ob28, blk ((u8s l27) ++ r30) 5) :: ((B13 ++ []) ++ N))) ?_ ?_
      · rintro L33 M34 ⟨l27, ob28, c29, r30, e32, o31, e35, e36⟩
        rw [e35, e36]
        clear e35 e36 L33 M34
        clear hq26
        rw [e32] at hf
        clear e32
        try dsimp only at hf
        have m37 := o31.mx
        refine QW.then_n ?_
        refine CW.seq ?_
        refine CW.region ?_
        refine OW.rv (RV.move rfl) rfl ?_
        refine OW.rv (RV.assign rfl) rfl ?_
        refine OW.rv (RV.assign rfl) rfl ?_
        refine OW.nil ?_
        refine QW.then_n ?_
        refine CW.ret ?_
        have er0 := Option.some.inj hf
        obtain ⟨e0, er1⟩ := Prod.mk.inj er0
        clear er0
        subst e0
        subst er1
        refine QW.retG (rs := [.tmp 2, .tmp 3]) ([sl ob28 0 l27.length c29, .int .i64 (0 : Int)]) ((ob28, blk ((u8s l27) ++ r30) 5) :: (B13 ++ [])) rfl ?_ rfl ?_ ?_ _ (.inl rfl)
        · exact ⟨rfl, rfl, trivial⟩
        · exact ⟨(B13 ++ []), ob28, c29, r30, o31, (by omega), rfl, rfl⟩
        · exact (fun w m => m.pick [0] 1 rfl rfl)
      · skip
        refine CW.block ?_
        refine CW.loopJ (fun k L' M' => ∃ l38 : List (BitVec 8), ∃ n43 : Nat, ∃ ob39 : Option Nat, ∃ c40 : Nat, ∃ r41 : List Value, (rlp_Join.l1 a0 k l38 n43) = some q25 ∧ (OwnS ob39 l38.length c40 1 (u8s l38) r41) ∧ (n43 ≤ 9223372036854775807) ∧ L' = [(7, sl ob39 0 l38.length c40), (30, .slice A0_ a0.length c0_), (31, .int .i64 ((a0.length : Nat) : Int)), (32, .int .i64 ((n43 : Nat) : Int))] ∧ M' = ((ob39, blk ((u8s l38) ++ r41) 5) :: ((B13 ++ []) ++ N))) (k0 := (a0.length - 0 + 2)) ⟨x12, 0, ob14, c15, r16, hq26, o17, (by omega), rfl, rfl⟩ ⟨rfl, rfl, rfl, rfl, trivial⟩ (fun w m => m.pick [0] 1 rfl rfl) ?_
        clear hq26
        rintro k45 L48 M49 ⟨l38, n43, ob39, c40, r41, hl46, o42, b44, e50, e51⟩
        rw [e50, e51]
        clear e50 e51 L48 M49
        rcases k45 with _ | k45
        · rw [rlp_Join.l1] at hl46; cases hl46
        rw [rlp_Join.l1] at hl46
        have m52 := o42.mx
        refine CW.seq ?_
        refine CW.region ?_
        refine OW.rv (RV.lss rfl rfl) rfl ?_
        refine OW.slot (.bool (decide (n43 < a0.length))) (congrArg Value.bool (decide_eq_decide.2 (by omega))) ?_
        refine OW.nil ?_
        refine QW.then_n ?_
        refine CW.seq ?_
        by_cases h53 : n43 < a0.length
        · replace hl46 := if_t hl46 h53
          refine CW.is_t rfl (decide_eq_true h53) ?_
          refine CW.skip ?_
          refine QW.then_n ?_
          refine CW.seq ?_
          refine CW.block ?_
          refine CW.seq ?_
          refine CW.region ?_
          obtain ⟨x54, hx55, hl46⟩ := some_bind hl46
          have hl56 := lt_of_at hx55
          refine OW.rv (RV.idx_r (n43) rfl rfl rfl rfl rfl (va0.isSome (by decide) hl56) (by omega)) rfl ?_
          obtain ⟨cs57, h58, h59⟩ := ha0.get BsRd.len hx55
          obtain ⟨A60, c61, e63, v62⟩ := h58
          subst e63
          have m64 := v62.mx
          refine OW.rv (RV.load_at rfl rfl rfl (fun w m => by have := va0.load (More.of hΦ 1 m rfl) h59 0 _ rfl; simpa [Addr.add] using this)) rfl ?_
          refine OW.rv (RV.assign rfl) rfl ?_
          refine OW.nil ?_
          refine QW.then_n ?_
          refine CW.region ?_
          refine OW.rv (RV.move rfl) rfl ?_
          refine OW.rv (RV.move rfl) rfl ?_
          obtain ⟨g65, hl46⟩ := some_if hl46
          refine OW.appendOwn (s := 1) rfl rfl rfl rfl rfl rfl o42 (fun w m => v62.rd w (More.of hΦ 1 m rfl)) v62.n (u8s_one _) (v62.zero (by decide)) (by decide) (by decide) (by first | omega | (simp only [i5, List.length_nil]; omega)) rfl rfl ((l38 ++ x54).length) (u8s (l38 ++ x54)) (List.length_append ..).symm (u8s_app _ _) (fun ob66 r67 c68 o69 => ?_)
          have m70 := o69.mx
          refine OW.rv (RV.assign rfl) rfl ?_
          refine OW.nil ?_
          refine QW.block_n ?_
          refine QW.then_n ?_
          refine CW.region ?_
          refine OW.rv (RV.add rfl rfl (by omega)) rfl ?_
          refine OW.slot (.int .i64 (((n43 + 1) : Nat) : Int)) (by first | rfl | (congr 1) | (congr 1; omega)) ?_
          refine OW.rv (RV.move rfl) rfl ?_
          refine OW.nil ?_
          exact QW.againJ (k' := k45) (Nat.lt_succ_self _) ⟨(l38 ++ x54), (n43 + 1), ob66, c68, r67, hl46, o69, (by omega), rfl, rfl⟩ ⟨rfl, rfl, rfl, rfl, trivial⟩ (fun w m => m.pick [0] 1 rfl rfl)
        · replace hl46 := if_f hl46 h53
          refine CW.is_f rfl (decide_eq_false h53) ?_
          refine CW.exit ?_
          refine QW.then_x ?_
          refine QW.then_x ?_
          refine QW.block_xe ?_
          exact QW.join ⟨l38, ob39, c40, r41, (Option.some.inj hl46).symm, o42, rfl, rfl⟩ ⟨rfl, trivial⟩ (fun w m => m.pick [0] 1 rfl rfl)
  · skip
    refine CW.block ?_
    refine CW.loopJ (fun k L' M' => ∃ n71 : Nat, ∃ n73 : Nat, (rlp_Join.l2 a0 k n71 n73) = some q2 ∧ (n71 ≤ 9223372036854775807) ∧ (n73 ≤ 9223372036854775807) ∧ L' = [(0, .slice A0_ a0.length c0_), (4, .int .i64 ((n71 : Nat) : Int)), (10, .slice A0_ a0.length c0_), (11, .int .i64 ((a0.length : Nat) : Int)), (12, .int .i64 ((n73 : Nat) : Int))] ∧ M' = (([] ++ N))) (k0 := (a0.length - 0 + 2)) ⟨0, 0, hq3, (by omega), (by omega), rfl, rfl⟩ ⟨rfl, rfl, rfl, rfl, rfl, trivial⟩ (fun w m => m.pick [] 0 rfl rfl) ?_
    clear hq3
    rintro k75 L78 M79 ⟨n71, n73, hl76, b72, b74, e80, e81⟩
    rw [e80, e81]
    clear e80 e81 L78 M79
    rcases k75 with _ | k75
    · rw [rlp_Join.l2] at hl76; cases hl76
    rw [rlp_Join.l2] at hl76
    refine CW.seq ?_
    refine CW.region ?_
    refine OW.rv (RV.lss rfl rfl) rfl ?_
    refine OW.slot (.bool (decide (n73 < a0.length))) (congrArg Value.bool (decide_eq_decide.2 (by omega))) ?_
    refine OW.nil ?_
    refine QW.then_n ?_
    refine CW.seq ?_
    by_cases h82 : n73 < a0.length
    · replace hl76 := if_t hl76 h82
      refine CW.is_t rfl (decide_eq_true h82) ?_
      refine CW.skip ?_
      refine QW.then_n ?_
      refine CW.seq ?_
      refine CW.block ?_
      refine CW.seq ?_
      refine CW.region ?_
      obtain ⟨x83, hx84, hl76⟩ := some_bind hl76
      have hl85 := lt_of_at hx84
      refine OW.rv (RV.idx_r (n73) rfl rfl rfl rfl rfl (va0.isSome (by decide) hl85) (by omega)) rfl ?_
      obtain ⟨cs86, h87, h88⟩ := ha0.get BsRd.len hx84
      obtain ⟨A89, c90, e92, v91⟩ := h87
      subst e92
      have m93 := v91.mx
      refine OW.rv (RV.load_at rfl rfl rfl (fun w m => by have := va0.load (More.of hΦ 0 m rfl) h88 0 _ rfl; simpa [Addr.add] using this)) rfl ?_
      refine OW.rv (RV.assign rfl) rfl ?_
      refine OW.nil ?_
      refine QW.then_n ?_
      refine CW.seq ?_
      refine CW.region ?_
      refine OW.rv (RV.move rfl) rfl ?_
      refine OW.rv (RV.move rfl) rfl ?_
      refine OW.rv (RV.len rfl rfl) rfl ?_
      obtain ⟨g94, hl76⟩ := some_if hl76
      refine OW.rv (RV.add rfl rfl (by omega)) rfl ?_
      refine OW.slot (.int .i64 (((n71 + x83.length) : Nat) : Int)) (by first | rfl | (congr 1) | (congr 1; omega)) ?_
      refine OW.rv (RV.assign rfl) rfl ?_
      refine OW.nil ?_
      refine QW.then_n ?_
      refine CW.seq ?_
      refine CW.region ?_
      refine OW.rv (RV.move rfl) rfl ?_
      refine OW.rv (RV.gtr rfl rfl) rfl ?_
      refine OW.slot (.bool (decide (16777216 < (n71 + x83.length)))) (congrArg Value.bool (decide_eq_decide.2 (by omega))) ?_
      refine OW.nil ?_
      refine QW.then_n ?_
      by_cases h95 : 16777216 < (n71 + x83.length)
      · replace hl76 := if_t hl76 h95
        refine CW.is_t rfl (decide_eq_true h95) ?_
        refine CW.seq ?_
        refine CW.region ?_
        refine OW.rv (RV.assign rfl) rfl ?_
        refine OW.rv (RV.assign rfl) rfl ?_
        refine OW.nil ?_
        refine QW.then_n ?_
        refine CW.ret ?_
        refine QW.block_r ?_
        refine QW.then_r ?_
        refine QW.then_r ?_
        refine QW.block_r ?_
        refine QW.then_r ?_
        have hc := Option.some.inj hl76
        subst hc
        try dsimp only at hf
        refine QW.then_r ?_
        refine QW.mem (M' := ((none, blk ((u8s ([] : List (BitVec 8))) ++ []) 5) :: ([] ++ N))) (fun w m => m.nil_ent _) ?_
        have er0 := Option.some.inj hf
        obtain ⟨e0, er1⟩ := Prod.mk.inj er0
        clear er0
        subst e0
        subst er1
        refine QW.retG (rs := [.tmp 2, .tmp 3]) ([sl none 0 ([] : List (BitVec 8)).length 0, .int .i64 (2 : Int)]) ((none, blk ((u8s ([] : List (BitVec 8))) ++ []) 5) :: []) rfl ?_ rfl ?_ ?_ _ (.inl rfl)
        · exact ⟨rfl, rfl, trivial⟩
        · exact ⟨[], none, 0, [], OwnS.nil, (by omega), rfl, rfl⟩
        · exact (fun w m => m.pick [0] 1 rfl rfl)
      · replace hl76 := if_f hl76 h95
        refine CW.is_f rfl (decide_eq_false h95) ?_
        refine CW.skip ?_
        refine QW.block_n ?_
        refine QW.then_n ?_
        refine CW.region ?_
        refine OW.rv (RV.add rfl rfl (by omega)) rfl ?_
        refine OW.slot (.int .i64 (((n73 + 1) : Nat) : Int)) (by first | rfl | (congr 1) | (congr 1; omega)) ?_
        refine OW.rv (RV.move rfl) rfl ?_
        refine OW.nil ?_
        exact QW.againJ (k' := k75) (Nat.lt_succ_self _) ⟨(n71 + x83.length), (n73 + 1), hl76, (by omega), (by omega), rfl, rfl⟩ ⟨rfl, rfl, rfl, rfl, rfl, trivial⟩ (fun w m => m.pick [] 0 rfl rfl)
    · replace hl76 := if_f hl76 h82
      refine CW.is_f rfl (decide_eq_false h82) ?_
      refine CW.exit ?_
      refine QW.then_x ?_
      refine QW.then_x ?_
      refine QW.block_xe ?_
      exact QW.join ⟨n71, (Option.some.inj hl76).symm, (by omega), rfl, rfl⟩ ⟨rfl, rfl, trivial⟩ (fun w m => m.pick [] 0 rfl rfl)
theorem waybillref07_Join_does (w0 : World) (Φ : Ctx) (N : List Ent) (hΦ : ∀ w, Mem w0 w N → Φ w) (A0_ : Option Addr) (c0_ : Nat) (cs0_ : List Value) (a0 : List (List (BitVec 8))) (res0 : List (BitVec 8)) (res1 : Nat) (va0 : View Φ A0_ a0.length c0_ 1 cs0_) (ha0 : Reps (BsRd Φ) cs0_ a0) (hf : waybillref07_Join a0 = some (res0, res1)) : DoesG Try.prog 30 [.slice A0_ a0.length c0_] w0 [] N (fun v G => ∃ B : List Ent, ∃ or0 : Option Nat, ∃ kr0 : Nat, ∃ rr0 : List Value, (OwnS or0 res0.length kr0 1 (u8s res0) rr0) ∧ (res1 ≤ 9223372036854775807) ∧ v = .tuple #[sl or0 0 res0.length kr0, .int .i64 ((res1 : Nat) : Int)] ∧ G = (or0, blk ((u8s res0) ++ rr0) 5) :: B) := by
  unfold waybillref07_Join at hf
  replace va0 := va0.mono (Ψ := More w0 Φ []) (fun w q => q.1)
  replace ha0 := ha0.mono (BsRd.mono (Ψ := More w0 Φ []) (fun w q => q.1))
  have m1 := va0.mx
  refine DoesG.enter Try.func30 rfl Try.ntmps30 rfl (M := (([] ++ N))) rfl ?_
  refine CW.seq ?_
  refine CW.region ?_
  refine OW.rv (RV.assign rfl) rfl ?_
  refine OW.rv (RV.assign rfl) rfl ?_
  refine OW.nil ?_
  refine QW.then_n ?_
  refine CW.seq ?_
  refine CW.region ?_
  refine OW.rv (RV.assign rfl) rfl ?_
  refine OW.nil ?_
  refine QW.then_n ?_
  refine CW.seq ?_
  refine CW.seq ?_
  refine CW.region ?_
  refine OW.rv (RV.assign rfl) rfl ?_
  refine OW.nil ?_
  refine QW.then_n ?_
  obtain ⟨q2, hq3, hf⟩ := some_bind hf
  refine CW.cutJ (fun L' M' => ∃ n4 : Nat, q2 = n4 ∧ (n4 ≤ 9223372036854775807) ∧ L' = [(0, .slice A0_ a0.length c0_), (4, .int .i64 ((n4 : Nat) : Int))] ∧ M' = (([] ++ N))) ?_ ?_
  · rintro L7 M8 ⟨n4, e6, b5, e9, e10⟩
    rw [e9, e10]
    clear e9 e10 L7 M8
    clear hq3
    rw [e6] at hf
    clear e6
    try dsimp only at hf
    refine QW.then_n ?_
    refine CW.seq ?_
    refine CW.region ?_
    refine OW.rv (RV.move rfl) rfl ?_
    obtain ⟨x12, hx11, hf⟩ := some_bind hf
    refine OW.callG Try.call70 rfl (waybillref07_before_does w0 (More w0 Φ []) (([] ++ N)) (fun w m => More.of hΦ 0 m rfl) n4 192 x12 (by omega) (by omega) hx11) rfl rfl ?_
    rintro L18 M19 ⟨B13, ob14, c15, r16, o17, e20, e21⟩
    rw [e20, e21]
    clear e20 e21 L18 M19
    refine OW.mem (M' := ((ob14, blk ((u8s x12) ++ r16) 5) :: ((B13 ++ []) ++ N))) (fun w m => by have h := Mem.sinkAt (A := B13) m 1 0 rfl rfl; exact h) ?_
    replace va0 := va0.mono (Ψ := More w0 Φ (B13 ++ [])) (fun w q => More.mono (fun w m => (m).appR) q)
    replace ha0 := ha0.mono (BsRd.mono (Ψ := More w0 Φ (B13 ++ [])) (fun w q => More.mono (fun w m => (m).appR) q))
    have m22 := o17.mx
    refine OW.rv (RV.assign rfl) rfl ?_
    refine OW.nil ?_
    refine QW.then_n ?_
    refine CW.seq ?_
    refine CW.seq ?_
    refine CW.region ?_
    refine OW.rv (RV.move rfl) rfl ?_
    refine OW.rv (RV.len rfl rfl) rfl ?_
    refine OW.rv (RV.move rfl) rfl ?_
    obtain ⟨g23, hf⟩ := some_if hf
    refine OW.rv (RV.add rfl rfl (by omega)) rfl ?_
    refine OW.slot (.int .i64 (((x12.length + n4) : Nat) : Int)) (by first | rfl | (congr 1) | (congr 1; omega)) ?_
    refine OW.rv (RV.gtr rfl rfl) rfl ?_
    refine OW.slot (.bool (decide (16777216 < (x12.length + n4)))) (congrArg Value.bool (decide_eq_decide.2 (by omega))) ?_
    refine OW.nil ?_
    refine QW.then_n ?_
    by_cases h24 : 16777216 < (x12.length + n4)
    · replace hf := if_t hf h24
      refine CW.is_t rfl (decide_eq_true h24) ?_
      refine CW.seq ?_
      refine CW.region ?_
      refine OW.rv (RV.assign rfl) rfl ?_
      refine OW.rv (RV.assign rfl) rfl ?_
      refine OW.nil ?_
      refine QW.then_n ?_
      refine CW.ret ?_
      refine QW.then_r ?_
      refine QW.mem (M' := ((none, blk ((u8s ([] : List (BitVec 8))) ++ []) 5) :: (ob14, blk ((u8s x12) ++ r16) 5) :: ((B13 ++ []) ++ N))) (fun w m => m.nil_ent _) ?_
      have er0 := Option.some.inj hf
      obtain ⟨e0, er1⟩ := Prod.mk.inj er0
      clear er0
      subst e0
      subst er1
      refine QW.retG (rs := [.tmp 2, .tmp 3]) ([sl none 0 ([] : List (BitVec 8)).length 0, .int .i64 (2 : Int)]) ((none, blk ((u8s ([] : List (BitVec 8))) ++ []) 5) :: (B13 ++ [])) rfl ?_ rfl ?_ ?_ _ (.inl rfl)
      · exact ⟨rfl, rfl, trivial⟩
      · exact ⟨(B13 ++ []), none, 0, [], OwnS.nil, (by omega), rfl, rfl⟩
      · exact (fun w m => m.pick [0] 2 rfl rfl)
    · replace hf := if_f hf h24
      refine CW.is_f rfl (decide_eq_false h24) ?_
      refine CW.skip ?_
      refine QW.then_n ?_
      refine CW.seq ?_
      refine CW.seq ?_
      refine CW.region ?_
      refine OW.rv (RV.assign rfl) rfl ?_
      refine OW.nil ?_
      refine QW.then_n ?_
      obtain ⟨q25, hq26, hf⟩ := some_bind hf
      refine CW.cutJ (fun L' M' => ∃ l27 : List (BitVec 8), ∃ ob28 : Option Nat, ∃ c29 : Nat, ∃ r30 : List Value, q25 = l27 ∧ (OwnS ob28 l27.length c29 1 (u8s l27) r30) ∧ L' = [(6, sl ob28 0 l27.length c29)] ∧ M' = ((ob28, blk ((u8s l27) ++ r30) 5) :: ((B13 ++ []) ++ N))) ?_ ?_
      · rintro L33 M34 ⟨l27, ob28, c29, r30, e32, o31, e35, e36⟩
        rw [e35, e36]
        clear e35 e36 L33 M34
        clear hq26
        rw [e32] at hf
        clear e32
        try dsimp only at hf
        have m37 := o31.mx
        refine QW.then_n ?_
        refine CW.seq ?_
        refine CW.region ?_
        refine OW.rv (RV.move rfl) rfl ?_
        refine OW.rv (RV.assign rfl) rfl ?_
        refine OW.rv (RV.assign rfl) rfl ?_
        refine OW.nil ?_
        refine QW.then_n ?_
        refine CW.ret ?_
        have er0 := Option.some.inj hf
        obtain ⟨e0, er1⟩ := Prod.mk.inj er0
        clear er0
        subst e0
        subst er1
        refine QW.retG (rs := [.tmp 2, .tmp 3]) ([sl ob28 0 l27.length c29, .int .i64 (0 : Int)]) ((ob28, blk ((u8s l27) ++ r30) 5) :: (B13 ++ [])) rfl ?_ rfl ?_ ?_ _ (.inl rfl)
        · exact ⟨rfl, rfl, trivial⟩
        · exact ⟨(B13 ++ []), ob28, c29, r30, o31, (by omega), rfl, rfl⟩
        · exact (fun w m => m.pick [0] 1 rfl rfl)
      · skip
        refine CW.block ?_
        refine CW.loopJ (fun k L' M' => ∃ l38 : List (BitVec 8), ∃ n43 : Nat, ∃ ob39 : Option Nat, ∃ c40 : Nat, ∃ r41 : List Value, (waybillref07_Join.l1 a0 k l38 n43) = some q25 ∧ (OwnS ob39 l38.length c40 1 (u8s l38) r41) ∧ (n43 ≤ 9223372036854775807) ∧ L' = [(0, .slice A0_ a0.length c0_), (6, sl ob39 0 l38.length c40), (7, .int .i64 ((n43 : Nat) : Int))] ∧ M' = ((ob39, blk ((u8s l38) ++ r41) 5) :: ((B13 ++ []) ++ N))) (k0 := (a0.length - 0 + 2)) ⟨x12, 0, ob14, c15, r16, hq26, o17, (by omega), rfl, rfl⟩ ⟨rfl, rfl, rfl, trivial⟩ (fun w m => m.pick [0] 1 rfl rfl) ?_
        clear hq26
        rintro k45 L48 M49 ⟨l38, n43, ob39, c40, r41, hl46, o42, b44, e50, e51⟩
        rw [e50, e51]
        clear e50 e51 L48 M49
        rcases k45 with _ | k45
        · rw [waybillref07_Join.l1] at hl46; cases hl46
        rw [waybillref07_Join.l1] at hl46
        have m52 := o42.mx
        refine CW.seq ?_
        refine CW.seq ?_
        refine CW.region ?_
        refine OW.rv (RV.move rfl) rfl ?_
        refine OW.rv (RV.move rfl) rfl ?_
        refine OW.rv (RV.len rfl rfl) rfl ?_
        refine OW.rv (RV.lss rfl rfl) rfl ?_
        refine OW.slot (.bool (decide (n43 < a0.length))) (congrArg Value.bool (decide_eq_decide.2 (by omega))) ?_
        refine OW.nil ?_
        refine QW.then_n ?_
        by_cases h53 : n43 < a0.length
        · replace hl46 := if_t hl46 h53
          refine CW.is_t rfl (decide_eq_true h53) ?_
          refine CW.skip ?_
          refine QW.then_n ?_
          refine CW.seq ?_
          refine CW.block ?_
          refine CW.region ?_
          refine OW.rv (RV.move rfl) rfl ?_
          refine OW.rv (RV.move rfl) rfl ?_
          refine OW.rv (RV.move rfl) rfl ?_
          obtain ⟨x54, hx55, hl46⟩ := some_bind hl46
          have hl56 := lt_of_at hx55
          refine OW.rv (RV.idx_r (n43) rfl rfl rfl rfl rfl (va0.isSome (by decide) hl56) (by omega)) rfl ?_
          obtain ⟨cs57, h58, h59⟩ := ha0.get BsRd.len hx55
          obtain ⟨A60, c61, e63, v62⟩ := h58
          subst e63
          have m64 := v62.mx
          refine OW.rv (RV.load_at rfl rfl rfl (fun w m => by have := va0.load (More.of hΦ 1 m rfl) h59 0 _ rfl; simpa [Addr.add] using this)) rfl ?_
          obtain ⟨g65, hl46⟩ := some_if hl46
          refine OW.appendOwn (s := 1) rfl rfl rfl rfl rfl rfl o42 (fun w m => v62.rd w (More.of hΦ 1 m rfl)) v62.n (u8s_one _) (v62.zero (by decide)) (by decide) (by decide) (by first | omega | (simp only [i5, List.length_nil]; omega)) rfl rfl ((l38 ++ x54).length) (u8s (l38 ++ x54)) (List.length_append ..).symm (u8s_app _ _) (fun ob66 r67 c68 o69 => ?_)
          have m70 := o69.mx
          refine OW.rv (RV.assign rfl) rfl ?_
          refine OW.nil ?_
          refine QW.block_n ?_
          refine QW.then_n ?_
          refine CW.region ?_
          refine OW.rv (RV.move rfl) rfl ?_
          refine OW.rv (RV.add rfl rfl (by omega)) rfl ?_
          refine OW.slot (.int .i64 (((n43 + 1) : Nat) : Int)) (by first | rfl | (congr 1) | (congr 1; omega)) ?_
          refine OW.rv (RV.assign rfl) rfl ?_
          refine OW.nil ?_
          exact QW.againJ (k' := k45) (Nat.lt_succ_self _) ⟨(l38 ++ x54), (n43 + 1), ob66, c68, r67, hl46, o69, (by omega), rfl, rfl⟩ ⟨rfl, rfl, rfl, trivial⟩ (fun w m => m.pick [0] 1 rfl rfl)
        · replace hl46 := if_f hl46 h53
          refine CW.is_f rfl (decide_eq_false h53) ?_
          refine CW.exit ?_
          refine QW.then_x ?_
          refine QW.then_x ?_
          refine QW.block_xe ?_
          exact QW.join ⟨l38, ob39, c40, r41, (Option.some.inj hl46).symm, o42, rfl, rfl⟩ ⟨rfl, trivial⟩ (fun w m => m.pick [0] 1 rfl rfl)
  · skip
    refine CW.block ?_
    refine CW.loopJ (fun k L' M' => ∃ n71 : Nat, ∃ n73 : Nat, (waybillref07_Join.l2 a0 k n71 n73) = some q2 ∧ (n71 ≤ 9223372036854775807) ∧ (n73 ≤ 9223372036854775807) ∧ L' = [(0, .slice A0_ a0.length c0_), (4, .int .i64 ((n71 : Nat) : Int)), (5, .int .i64 ((n73 : Nat) : Int))] ∧ M' = (([] ++ N))) (k0 := (a0.length - 0 + 2)) ⟨0, 0, hq3, (by omega), (by omega), rfl, rfl⟩ ⟨rfl, rfl, rfl, trivial⟩ (fun w m => m.pick [] 0 rfl rfl) ?_
    clear hq3
    rintro k75 L78 M79 ⟨n71, n73, hl76, b72, b74, e80, e81⟩
    rw [e80, e81]
    clear e80 e81 L78 M79
    rcases k75 with _ | k75
    · rw [waybillref07_Join.l2] at hl76; cases hl76
    rw [waybillref07_Join.l2] at hl76
    refine CW.seq ?_
    refine CW.seq ?_
    refine CW.region ?_
    refine OW.rv (RV.move rfl) rfl ?_
    refine OW.rv (RV.move rfl) rfl ?_
    refine OW.rv (RV.len rfl rfl) rfl ?_
    refine OW.rv (RV.lss rfl rfl) rfl ?_
    refine OW.slot (.bool (decide (n73 < a0.length))) (congrArg Value.bool (decide_eq_decide.2 (by omega))) ?_
    refine OW.nil ?_
    refine QW.then_n ?_
    by_cases h82 : n73 < a0.length
    · replace hl76 := if_t hl76 h82
      refine CW.is_t rfl (decide_eq_true h82) ?_
      refine CW.skip ?_
      refine QW.then_n ?_
      refine CW.seq ?_
      refine CW.block ?_
      refine CW.region ?_
      refine OW.rv (RV.move rfl) rfl ?_
      refine OW.rv (RV.move rfl) rfl ?_
      refine OW.rv (RV.move rfl) rfl ?_
      obtain ⟨x83, hx84, hl76⟩ := some_bind hl76
      have hl85 := lt_of_at hx84
      refine OW.rv (RV.idx_r (n73) rfl rfl rfl rfl rfl (va0.isSome (by decide) hl85) (by omega)) rfl ?_
      obtain ⟨cs86, h87, h88⟩ := ha0.get BsRd.len hx84
      obtain ⟨A89, c90, e92, v91⟩ := h87
      subst e92
      have m93 := v91.mx
      refine OW.rv (RV.load_at rfl rfl rfl (fun w m => by have := va0.load (More.of hΦ 0 m rfl) h88 0 _ rfl; simpa [Addr.add] using this)) rfl ?_
      refine OW.rv (RV.len rfl rfl) rfl ?_
      obtain ⟨g94, hl76⟩ := some_if hl76
      refine OW.rv (RV.add rfl rfl (by omega)) rfl ?_
      refine OW.slot (.int .i64 (((n71 + x83.length) : Nat) : Int)) (by first | rfl | (congr 1) | (congr 1; omega)) ?_
      refine OW.rv (RV.assign rfl) rfl ?_
      refine OW.nil ?_
      refine QW.block_n ?_
      refine QW.then_n ?_
      refine CW.region ?_
      refine OW.rv (RV.move rfl) rfl ?_
      refine OW.rv (RV.add rfl rfl (by omega)) rfl ?_
      refine OW.slot (.int .i64 (((n73 + 1) : Nat) : Int)) (by first | rfl | (congr 1) | (congr 1; omega)) ?_
      refine OW.rv (RV.assign rfl) rfl ?_
      refine OW.nil ?_
      exact QW.againJ (k' := k75) (Nat.lt_succ_self _) ⟨(n71 + x83.length), (n73 + 1), hl76, (by omega), (by omega), rfl, rfl⟩ ⟨rfl, rfl, rfl, trivial⟩ (fun w m => m.pick [] 0 rfl rfl)
    · replace hl76 := if_f hl76 h82
      refine CW.is_f rfl (decide_eq_false h82) ?_
      refine CW.exit ?_
      refine QW.then_x ?_
      refine QW.then_x ?_
      refine QW.block_xe ?_
      exact QW.join ⟨n71, (Option.some.inj hl76).symm, (by omega), rfl, rfl⟩ ⟨rfl, rfl, trivial⟩ (fun w m => m.pick [] 0 rfl rfl)
theorem waybilllaw07_same_does (w0 : World) (Φ : Ctx) (N : List Ent) (hΦ : ∀ w, Mem w0 w N → Φ w) (A0_ : Option Addr) (c0_ : Nat) (a0 : List (BitVec 8)) (A1_ : Option Addr) (c1_ : Nat) (a1 : List (BitVec 8)) (res0 : Bool) (va0 : View Φ A0_ a0.length c0_ 1 (u8s a0)) (va1 : View Φ A1_ a1.length c1_ 1 (u8s a1)) (hf : waybilllaw07_same a0 a1 = some res0) : DoesG Try.prog 26 [.slice A0_ a0.length c0_, .slice A1_ a1.length c1_] w0 [] N (fun v G => v = .bool res0) := by
  unfold waybilllaw07_same at hf
  replace va0 := va0.mono (Ψ := More w0 Φ []) (fun w q => q.1)
  replace va1 := va1.mono (Ψ := More w0 Φ []) (fun w q => q.1)
  have m1 := va0.mx
  have m2 := va1.mx
  refine DoesG.enter Try.func26 rfl Try.ntmps26 rfl (M := (([] ++ N))) rfl ?_
  refine CW.seq ?_
  refine CW.region ?_
  refine OW.rv (RV.assign rfl) rfl ?_
  refine OW.nil ?_
  refine QW.then_n ?_
  refine CW.seq ?_
  refine CW.seq ?_
  refine CW.region ?_
  refine OW.rv (RV.move rfl) rfl ?_
  refine OW.rv (RV.len rfl rfl) rfl ?_
  refine OW.rv (RV.move rfl) rfl ?_
  refine OW.rv (RV.len rfl rfl) rfl ?_
  refine OW.rv (RV.neq rfl rfl) rfl ?_
  refine OW.slot (.bool (!decide (a0.length = a1.length))) (congrArg (fun b => Value.bool (!b)) (decide_eq_decide.2 (by omega))) ?_
  refine OW.nil ?_
  refine QW.then_n ?_
  by_cases h3 : a0.length = a1.length
  · replace hf := if_t hf h3
    refine CW.is_f rfl (congrArg (fun b => !b) (decide_eq_true h3)) ?_
    refine CW.skip ?_
    refine QW.then_n ?_
    refine CW.seq ?_
    refine CW.seq ?_
    refine CW.region ?_
    refine OW.rv (RV.assign rfl) rfl ?_
    refine OW.nil ?_
    refine QW.then_n ?_
    obtain ⟨q4, hq5, hf⟩ := some_bind hf
    refine CW.cutJ (fun L' M' => q4 = Lp.go () ∧ L' = [] ∧ M' = (([] ++ N))) ?_ ?_
    · rintro L7 M8 ⟨e6, e9, e10⟩
      rw [e9, e10]
      clear e9 e10 L7 M8
      clear hq5
      rw [e6] at hf
      clear e6
      try dsimp only at hf
      refine QW.then_n ?_
      refine CW.seq ?_
      refine CW.region ?_
      refine OW.rv (RV.assign rfl) rfl ?_
      refine OW.nil ?_
      refine QW.then_n ?_
      refine CW.ret ?_
      have e0 := Option.some.inj hf
      subst e0
      refine QW.retG (rs := [.tmp 4]) ([.bool true]) ([]) rfl ?_ rfl ?_ ?_ _ (.inl rfl)
      · exact ⟨rfl, trivial⟩
      · exact rfl
      · exact (fun w m => m)
    · skip
      refine CW.block ?_
      refine CW.loopJ (fun k L' M' => ∃ n11 : Nat, (waybilllaw07_same.l1 a0 a1 k n11) = some q4 ∧ (n11 ≤ 9223372036854775807) ∧ L' = [(0, .slice A0_ a0.length c0_), (1, .slice A1_ a1.length c1_), (5, .int .i64 ((n11 : Nat) : Int))] ∧ M' = (([] ++ N))) (k0 := (a0.length - 0 + 2)) ⟨0, hq5, (by omega), rfl, rfl⟩ ⟨rfl, rfl, rfl, trivial⟩ (fun w m => m.pick [] 0 rfl rfl) ?_
      clear hq5
      rintro k13 L16 M17 ⟨n11, hl14, b12, e18, e19⟩
      rw [e18, e19]
      clear e18 e19 L16 M17
      rcases k13 with _ | k13
      · rw [waybilllaw07_same.l1] at hl14; cases hl14
      rw [waybilllaw07_same.l1] at hl14
      refine CW.seq ?_
      refine CW.seq ?_
      refine CW.region ?_
      refine OW.rv (RV.move rfl) rfl ?_
      refine OW.rv (RV.move rfl) rfl ?_
      refine OW.rv (RV.len rfl rfl) rfl ?_
      refine OW.rv (RV.lss rfl rfl) rfl ?_
      refine OW.slot (.bool (decide (n11 < a0.length))) (congrArg Value.bool (decide_eq_decide.2 (by omega))) ?_
      refine OW.nil ?_
      refine QW.then_n ?_
      by_cases h20 : n11 < a0.length
      · replace hl14 := if_t hl14 h20
        refine CW.is_t rfl (decide_eq_true h20) ?_
        refine CW.skip ?_
        refine QW.then_n ?_
        refine CW.seq ?_
        refine CW.block ?_
        refine CW.seq ?_
        refine CW.drawsU 9 mixed (by kernel_rfl) rfl ?_
        refine UW.rv 0 rfl (by kernel_rfl) rfl (RV.move rfl) rfl ?_
        refine UW.rv 1 rfl (by kernel_rfl) rfl (RV.move rfl) rfl ?_
        obtain ⟨x21, hx22, hl14⟩ := some_bind hl14
        have hl23 := lt_of_at hx22
        refine UW.rv 2 rfl (by kernel_rfl) rfl (RV.idx_r (n11) rfl rfl rfl rfl rfl (va0.isSome (by decide) hl23) (by omega)) rfl ?_
        refine UW.rv 3 rfl (by kernel_rfl) rfl (RV.load_at rfl rfl rfl (fun w m => va0.cell (More.of hΦ 0 m rfl) (u8s_at hx22))) rfl ?_
        refine UW.rv 4 rfl (by kernel_rfl) rfl (RV.move rfl) rfl ?_
        refine UW.rv 5 rfl (by kernel_rfl) rfl (RV.move rfl) rfl ?_
        obtain ⟨x24, hx25, hl14⟩ := some_bind hl14
        have hl26 := lt_of_at hx25
        refine UW.rv 6 rfl (by kernel_rfl) rfl (RV.idx_r (n11) rfl rfl rfl rfl rfl (va1.isSome (by decide) hl26) (by omega)) rfl ?_
        refine UW.rv 7 rfl (by kernel_rfl) rfl (RV.load_at rfl rfl rfl (fun w m => va1.cell (More.of hΦ 0 m rfl) (u8s_at hx25))) rfl ?_
        refine UW.rv 8 rfl (by kernel_rfl) rfl (RV.neq8 rfl (by first | rfl | exact lit8 _ rfl) rfl (by first | rfl | exact lit8 _ rfl)) rfl ?_
        refine UW.nil (by kernel_rfl) ?_
        refine OW.nil ?_
        refine QW.then_n ?_
        by_cases h27 : x21 = x24
        · replace hl14 := if_t hl14 h27
          refine CW.is_f rfl (congrArg (fun b => !b) (decide_eq_true h27)) ?_
          refine CW.skip ?_
          refine QW.block_n ?_
          refine QW.then_n ?_
          refine CW.region ?_
          refine OW.rv (RV.move rfl) rfl ?_
          refine OW.rv (RV.add rfl rfl (by omega)) rfl ?_
          refine OW.slot (.int .i64 (((n11 + 1) : Nat) : Int)) (by first | rfl | (congr 1) | (congr 1; omega)) ?_
          refine OW.rv (RV.assign rfl) rfl ?_
          refine OW.nil ?_
          exact QW.againJ (k' := k13) (Nat.lt_succ_self _) ⟨(n11 + 1), hl14, (by omega), rfl, rfl⟩ ⟨rfl, rfl, rfl, trivial⟩ (fun w m => m.pick [] 0 rfl rfl)
        · replace hl14 := if_f hl14 h27
          refine CW.is_t rfl (congrArg (fun b => !b) (decide_eq_false h27)) ?_
          refine CW.seq ?_
          refine CW.region ?_
          refine OW.rv (RV.assign rfl) rfl ?_
          refine OW.nil ?_
          refine QW.then_n ?_
          refine CW.ret ?_
          refine QW.block_r ?_
          refine QW.then_r ?_
          refine QW.then_r ?_
          refine QW.block_r ?_
          refine QW.then_r ?_
          have hc := Option.some.inj hl14
          subst hc
          try dsimp only at hf
          refine QW.then_r ?_
          have e0 := Option.some.inj hf
          subst e0
          refine QW.retG (rs := [.tmp 4]) ([.bool false]) ([]) rfl ?_ rfl ?_ ?_ _ (.inl rfl)
          · exact ⟨rfl, trivial⟩
          · exact rfl
          · exact (fun w m => m)
      · replace hl14 := if_f hl14 h20
        refine CW.is_f rfl (decide_eq_false h20) ?_
        refine CW.exit ?_
        refine QW.then_x ?_
        refine QW.then_x ?_
        refine QW.block_xe ?_
        exact QW.join ⟨(Option.some.inj hl14).symm, rfl, rfl⟩ trivial (fun w m => m.pick [] 0 rfl rfl)
  · replace hf := if_f hf h3
    refine CW.is_t rfl (congrArg (fun b => !b) (decide_eq_false h3)) ?_
    refine CW.seq ?_
    refine CW.region ?_
    refine OW.rv (RV.assign rfl) rfl ?_
    refine OW.nil ?_
    refine QW.then_n ?_
    refine CW.ret ?_
    refine QW.then_r ?_
    have e0 := Option.some.inj hf
    subst e0
    refine QW.retG (rs := [.tmp 4]) ([.bool false]) ([]) rfl ?_ rfl ?_ ?_ _ (.inl rfl)
    · exact ⟨rfl, trivial⟩
    · exact rfl
    · exact (fun w m => m)
theorem waybilllaw07_alike_does (w0 : World) (Φ : Ctx) (N : List Ent) (hΦ : ∀ w, Mem w0 w N → Φ w) (A0_ : Option Addr) (c0_ : Nat) (cs0_ : List Value) (a0 : List (List (BitVec 8))) (A1_ : Option Addr) (c1_ : Nat) (cs1_ : List Value) (a1 : List (List (BitVec 8))) (res0 : Bool) (va0 : View Φ A0_ a0.length c0_ 1 cs0_) (ha0 : Reps (BsRd Φ) cs0_ a0) (va1 : View Φ A1_ a1.length c1_ 1 cs1_) (ha1 : Reps (BsRd Φ) cs1_ a1) (hf : waybilllaw07_alike a0 a1 = some res0) : DoesG Try.prog 32 [.slice A0_ a0.length c0_, .slice A1_ a1.length c1_] w0 [] N (fun v G => v = .bool res0) := by
  unfold waybilllaw07_alike at hf
  replace va0 := va0.mono (Ψ := More w0 Φ []) (fun w q => q.1)
  replace va1 := va1.mono (Ψ := More w0 Φ []) (fun w q => q.1)
  replace ha0 := ha0.mono (BsRd.mono (Ψ := More w0 Φ []) (fun w q => q.1))
  replace ha1 := ha1.mono (BsRd.mono (Ψ := More w0 Φ []) (fun w q => q.1))
  have m1 := va0.mx
  have m2 := va1.mx
  refine DoesG.enter Try.func32 rfl Try.ntmps32 rfl (M := (([] ++ N))) rfl ?_
  refine CW.seq ?_
  refine CW.region ?_
  refine OW.rv (RV.assign rfl) rfl ?_
  refine OW.nil ?_
  refine QW.then_n ?_
  refine CW.seq ?_
  refine CW.seq ?_
  refine CW.region ?_
  refine OW.rv (RV.move rfl) rfl ?_
  refine OW.rv (RV.len rfl rfl) rfl ?_
  refine OW.rv (RV.move rfl) rfl ?_
  refine OW.rv (RV.len rfl rfl) rfl ?_
  refine OW.rv (RV.neq rfl rfl) rfl ?_
  refine OW.slot (.bool (!decide (a0.length = a1.length))) (congrArg (fun b => Value.bool (!b)) (decide_eq_decide.2 (by omega))) ?_
  refine OW.nil ?_
  refine QW.then_n ?_
  by_cases h3 : a0.length = a1.length
  · replace hf := if_t hf h3
    refine CW.is_f rfl (congrArg (fun b => !b) (decide_eq_true h3)) ?_
    refine CW.skip ?_
    refine QW.then_n ?_
    refine CW.seq ?_
    refine CW.seq ?_
    refine CW.region ?_
    refine OW.rv (RV.assign rfl) rfl ?_
    refine OW.nil ?_
    refine QW.then_n ?_
    obtain ⟨q4, hq5, hf⟩ := some_bind hf
    refine CW.cutJ (fun L' M' => q4 = Lp.go () ∧ L' = [] ∧ M' = (([] ++ N))) ?_ ?_
    · rintro L7 M8 ⟨e6, e9, e10⟩
      rw [e9, e10]
      clear e9 e10 L7 M8
      clear hq5
      rw [e6] at hf
      clear e6
      try dsimp only at hf
      refine QW.then_n ?_
      refine CW.seq ?_
      refine CW.region ?_
      refine OW.rv (RV.assign rfl) rfl ?_
      refine OW.nil ?_
      refine QW.then_n ?_
      refine CW.ret ?_
      have e0 := Option.some.inj hf
      subst e0
      refine QW.retG (rs := [.tmp 4]) ([.bool true]) ([]) rfl ?_ rfl ?_ ?_ _ (.inl rfl)
      · exact ⟨rfl, trivial⟩
      · exact rfl
      · exact (fun w m => m)
    · skip
      refine CW.block ?_
      refine CW.loopJ (fun k L' M' => ∃ n11 : Nat, (waybilllaw07_alike.l1 a0 a1 k n11) = some q4 ∧ (n11 ≤ 9223372036854775807) ∧ L' = [(0, .slice A0_ a0.length c0_), (1, .slice A1_ a1.length c1_), (5, .int .i64 ((n11 : Nat) : Int))] ∧ M' = (([] ++ N))) (k0 := (a0.length - 0 + 2)) ⟨0, hq5, (by omega), rfl, rfl⟩ ⟨rfl, rfl, rfl, trivial⟩ (fun w m => m.pick [] 0 rfl rfl) ?_
      clear hq5
      rintro k13 L16 M17 ⟨n11, hl14, b12, e18, e19⟩
      rw [e18, e19]
      clear e18 e19 L16 M17
      rcases k13 with _ | k13
      · rw [waybilllaw07_alike.l1] at hl14; cases hl14
      rw [waybilllaw07_alike.l1] at hl14
      refine CW.seq ?_
      refine CW.seq ?_
      refine CW.region ?_
      refine OW.rv (RV.move rfl) rfl ?_
      refine OW.rv (RV.move rfl) rfl ?_
      refine OW.rv (RV.len rfl rfl) rfl ?_
      refine OW.rv (RV.lss rfl rfl) rfl ?_
      refine OW.slot (.bool (decide (n11 < a0.length))) (congrArg Value.bool (decide_eq_decide.2 (by omega))) ?_
      refine OW.nil ?_
      refine QW.then_n ?_
      by_cases h20 : n11 < a0.length
      · replace hl14 := if_t hl14 h20
        refine CW.is_t rfl (decide_eq_true h20) ?_
        refine CW.skip ?_
        refine QW.then_n ?_
        refine CW.seq ?_
        refine CW.block ?_
        refine CW.seq ?_
        refine CW.drawsU 10 mixed (by kernel_rfl) rfl ?_
        refine UW.rv 0 rfl (by kernel_rfl) rfl (RV.move rfl) rfl ?_
        refine UW.rv 1 rfl (by kernel_rfl) rfl (RV.move rfl) rfl ?_
        obtain ⟨x21, hx22, hl14⟩ := some_bind hl14
        have hl23 := lt_of_at hx22
        refine UW.rv 2 rfl (by kernel_rfl) rfl (RV.idx_r (n11) rfl rfl rfl rfl rfl (va0.isSome (by decide) hl23) (by omega)) rfl ?_
        obtain ⟨cs24, h25, h26⟩ := ha0.get BsRd.len hx22
        obtain ⟨A27, c28, e30, v29⟩ := h25
        subst e30
        have m31 := v29.mx
        refine UW.rv 3 rfl (by kernel_rfl) rfl (RV.load_at rfl rfl rfl (fun w m => by have := va0.load (More.of hΦ 0 m rfl) h26 0 _ rfl; simpa [Addr.add] using this)) rfl ?_
        refine UW.rv 4 rfl (by kernel_rfl) rfl (RV.move rfl) rfl ?_
        refine UW.rv 5 rfl (by kernel_rfl) rfl (RV.move rfl) rfl ?_
        obtain ⟨x32, hx33, hl14⟩ := some_bind hl14
        have hl34 := lt_of_at hx33
        refine UW.rv 6 rfl (by kernel_rfl) rfl (RV.idx_r (n11) rfl rfl rfl rfl rfl (va1.isSome (by decide) hl34) (by omega)) rfl ?_
        obtain ⟨cs35, h36, h37⟩ := ha1.get BsRd.len hx33
        obtain ⟨A38, c39, e41, v40⟩ := h36
        subst e41
        have m42 := v40.mx
        refine UW.rv 7 rfl (by kernel_rfl) rfl (RV.load_at rfl rfl rfl (fun w m => by have := va1.load (More.of hΦ 0 m rfl) h37 0 _ rfl; simpa [Addr.add] using this)) rfl ?_
        obtain ⟨x44, hx43, hl14⟩ := some_bind hl14
        refine UW.callG 8 rfl (by kernel_rfl) rfl Try.call26 rfl (fun N' hN' => waybilllaw07_same_does w0 (More w0 Φ []) N' (fun w m => More.of hΦ 0 (hN' w m) rfl) A27 c28 x21 A38 c39 x32 x44 v29 v40 hx43) rfl ?_
        rintro _ G45 rfl
        refine UW.mem (M' := (([] ++ N))) (fun w m => m.appR) ?_
        refine UW.rv 9 rfl (by kernel_rfl) rfl (RV.not rfl) rfl ?_
        refine UW.nil (by kernel_rfl) ?_
        refine OW.nil ?_
        refine QW.then_n ?_
        by_cases h47 : x44 = true
        · replace hl14 := if_t hl14 h47
          refine CW.is_f rfl (congrArg (fun b => !b) (h47)) ?_
          refine CW.skip ?_
          refine QW.block_n ?_
          refine QW.then_n ?_
          refine CW.region ?_
          refine OW.rv (RV.move rfl) rfl ?_
          refine OW.rv (RV.add rfl rfl (by omega)) rfl ?_
          refine OW.slot (.int .i64 (((n11 + 1) : Nat) : Int)) (by first | rfl | (congr 1) | (congr 1; omega)) ?_
          refine OW.rv (RV.assign rfl) rfl ?_
          refine OW.nil ?_
          exact QW.againJ (k' := k13) (Nat.lt_succ_self _) ⟨(n11 + 1), hl14, (by omega), rfl, rfl⟩ ⟨rfl, rfl, rfl, trivial⟩ (fun w m => m.pick [] 0 rfl rfl)
        · replace hl14 := if_f hl14 h47
          refine CW.is_t rfl (congrArg (fun b => !b) (Bool.eq_false_iff.2 h47)) ?_
          refine CW.seq ?_
          refine CW.region ?_
          refine OW.rv (RV.assign rfl) rfl ?_
          refine OW.nil ?_
          refine QW.then_n ?_
          refine CW.ret ?_
          refine QW.block_r ?_
          refine QW.then_r ?_
          refine QW.then_r ?_
          refine QW.block_r ?_
          refine QW.then_r ?_
          have hc := Option.some.inj hl14
          subst hc
          try dsimp only at hf
          refine QW.then_r ?_
          have e0 := Option.some.inj hf
          subst e0
          refine QW.retG (rs := [.tmp 4]) ([.bool false]) ([]) rfl ?_ rfl ?_ ?_ _ (.inl rfl)
          · exact ⟨rfl, trivial⟩
          · exact rfl
          · exact (fun w m => m)
      · replace hl14 := if_f hl14 h20
        refine CW.is_f rfl (decide_eq_false h20) ?_
        refine CW.exit ?_
        refine QW.then_x ?_
        refine QW.then_x ?_
        refine QW.block_xe ?_
        exact QW.join ⟨(Option.some.inj hl14).symm, rfl, rfl⟩ trivial (fun w m => m.pick [] 0 rfl rfl)
  · replace hf := if_f hf h3
    refine CW.is_t rfl (congrArg (fun b => !b) (decide_eq_false h3)) ?_
    refine CW.seq ?_
    refine CW.region ?_
    refine OW.rv (RV.assign rfl) rfl ?_
    refine OW.nil ?_
    refine QW.then_n ?_
    refine CW.ret ?_
    refine QW.then_r ?_
    have e0 := Option.some.inj hf
    subst e0
    refine QW.retG (rs := [.tmp 4]) ([.bool false]) ([]) rfl ?_ rfl ?_ ?_ _ (.inl rfl)
    · exact ⟨rfl, trivial⟩
    · exact rfl
    · exact (fun w m => m)
theorem waybilllaw07_RlpJoins_does (w0 : World) (Φ : Ctx) (N : List Ent) (hΦ : ∀ w, Mem w0 w N → Φ w) (A0_ : Option Addr) (c0_ : Nat) (cs0_ : List Value) (a0 : List (List (BitVec 8))) (res0 : Bool) (va0 : View Φ A0_ a0.length c0_ 1 cs0_) (ha0 : Reps (BsRd Φ) cs0_ a0) (hf : waybilllaw07_RlpJoins a0 = some res0) : DoesG Try.prog 4 [.slice A0_ a0.length c0_] w0 [] N (fun v G => v = .bool res0) := by
  unfold waybilllaw07_RlpJoins at hf
  replace va0 := va0.mono (Ψ := More w0 Φ []) (fun w q => q.1)
  replace ha0 := ha0.mono (BsRd.mono (Ψ := More w0 Φ []) (fun w q => q.1))
  have m1 := va0.mx
  refine DoesG.enter Try.func4 rfl Try.ntmps4 rfl (M := (([] ++ N))) rfl ?_
  refine CW.seq ?_
  refine CW.region ?_
  refine OW.rv (RV.assign rfl) rfl ?_
  refine OW.nil ?_
  refine QW.then_n ?_
  refine CW.seq ?_
  refine CW.region ?_
  refine OW.rv (RV.assign rfl) rfl ?_
  refine OW.nil ?_
  refine QW.then_n ?_
  refine CW.seq ?_
  refine CW.seq ?_
  refine CW.region ?_
  refine OW.rv (RV.assign rfl) rfl ?_
  refine OW.nil ?_
  refine QW.then_n ?_
  obtain ⟨q2, hq3, hf⟩ := some_bind hf
  refine CW.cutJ (fun L' M' => ∃ l6 : List (List (BitVec 8)), ∃ B4 : List Ent, ∃ cs7 : List Value, ∃ ob9 : Option Nat, ∃ c10 : Nat, ∃ r11 : List Value, q2 = l6 ∧ (∀ w, Mem w0 w B4 → Mem w0 w []) ∧ (Reps (RmRd (More w0 Φ B4)) cs7 l6) ∧ (OwnS ob9 l6.length c10 1 cs7 r11) ∧ L' = [(0, .slice A0_ a0.length c0_), (3, sl ob9 0 l6.length c10)] ∧ M' = ((ob9, blk (cs7 ++ r11) 22) :: (B4 ++ N))) ?_ ?_
  · rintro L14 M15 ⟨l6, B4, cs7, ob9, c10, r11, e13, hB5, h8, o12, e16, e17⟩
    rw [e16, e17]
    clear e16 e17 L14 M15
    clear hq3
    rw [e13] at hf
    clear e13
    try dsimp only at hf
    replace va0 := va0.mono (Ψ := More w0 Φ B4) (fun w q => More.mono (fun w m => hB5 w (m)) q)
    replace ha0 := ha0.mono (BsRd.mono (Ψ := More w0 Φ B4) (fun w q => More.mono (fun w m => hB5 w (m)) q))
    have m18 := o12.mx
    refine QW.then_n ?_
    refine CW.seq ?_
    refine CW.region ?_
    refine OW.rv (RV.move rfl) rfl ?_
    refine OW.ofN (NV.bs1 rfl rfl rfl rfl rfl rfl) rfl (fun b19 => ?_)
    refine OW.mem (M' := (((some b19), blk ((u8s ([164#8] : List (BitVec 8))) ++ []) 5) :: (ob9, blk (cs7 ++ r11) 22) :: (B4 ++ N))) (fun w m => by first | exact m | simpa [u8s] using m) ?_
    have o20 : OwnS (some b19) ([164#8] : List (BitVec 8)).length 1 1 (u8s ([164#8] : List (BitVec 8))) [] := ⟨by simp [u8s], by simp [u8s], (fun h => nomatch h), by simp⟩
    refine OW.slot (sl (some b19) 0 ([164#8] : List (BitVec 8)).length 1) (rfl) ?_
    refine OW.mem (M' := (ob9, blk (cs7 ++ r11) 22) :: ((((some b19), blk ((u8s ([164#8] : List (BitVec 8))) ++ []) 5) :: B4) ++ N)) (fun w m => m.pick [1, 0] 2 rfl rfl) ?_
    replace va0 := va0.mono (Ψ := More w0 Φ (((some b19), blk ((u8s ([164#8] : List (BitVec 8))) ++ []) 5) :: B4)) (fun w q => More.mono (fun w m => (m).tail) q)
    replace ha0 := ha0.mono (BsRd.mono (Ψ := More w0 Φ (((some b19), blk ((u8s ([164#8] : List (BitVec 8))) ++ []) 5) :: B4)) (fun w q => More.mono (fun w m => (m).tail) q))
    replace h8 := h8.mono (RmRd.mono (Ψ := More w0 Φ (((some b19), blk ((u8s ([164#8] : List (BitVec 8))) ++ []) 5) :: B4)) (fun w q => More.mono (fun w m => (m).tail) q))
    have v23 : View (More w0 Φ (((some b19), blk ((u8s ([164#8] : List (BitVec 8))) ++ []) 5) :: B4)) (((some b19)).map fun k => ⟨k, 0, none⟩) ([164#8] : List (BitVec 8)).length 1 1 (u8s ([164#8] : List (BitVec 8))) := o20.view (by decide) (fun w q => q.2.sublist (List.singleton_sublist.2 (List.mem_cons_self ..)))
    refine OW.ofN (NV.bs1 rfl rfl rfl rfl rfl rfl) rfl (fun b21 => ?_)
    have h25 : Reps (BsRd (More w0 Φ (((some b19), blk ((u8s ([164#8] : List (BitVec 8))) ++ []) 5) :: B4))) (([.slice (((some b19)).map fun k => ⟨k, 0, none⟩) ([164#8] : List (BitVec 8)).length 1] : List Value)) [([164#8] : List (BitVec 8))] := Reps.one (BsRd.mk v23)
    refine OW.mem (M' := (((some b21), blk ((([.slice (((some b19)).map fun k => ⟨k, 0, none⟩) ([164#8] : List (BitVec 8)).length 1] : List Value)) ++ []) 22) :: (ob9, blk (cs7 ++ r11) 22) :: ((((some b19), blk ((u8s ([164#8] : List (BitVec 8))) ++ []) 5) :: B4) ++ N))) (fun w m => m) ?_
    have o22 : OwnS (some b21) ([([164#8] : List (BitVec 8))] : List (List (BitVec 8))).length 1 1 (([.slice (((some b19)).map fun k => ⟨k, 0, none⟩) ([164#8] : List (BitVec 8)).length 1] : List Value)) [] := ⟨by simp [BsRd], by simp [BsRd], (fun h => nomatch h), by simp⟩
    refine OW.slot (sl (some b21) 0 ([([164#8] : List (BitVec 8))] : List (List (BitVec 8))).length 1) (rfl) ?_
    refine OW.rot1 ?_
    obtain ⟨g26, hf⟩ := some_if hf
    have h31 := (h8.mono RmRd.bs).app h25
    refine OW.appendOwn (s := 1) rfl rfl rfl rfl rfl rfl o12 (fun w m => m.rd0 (List.Mem.tail _ (List.Mem.head _)) (fun e => o22.nilc (by decide) e)) o22.n (h25.cell1 BsRd.one) (o22.zeroO (by decide)) (by decide) (by decide) (by first | omega | (simp only [i22, List.length_nil]; omega)) rfl rfl ((l6 ++ ([([164#8] : List (BitVec 8))] : List (List (BitVec 8)))).length) (cs7 ++ (([.slice (((some b19)).map fun k => ⟨k, 0, none⟩) ([164#8] : List (BitVec 8)).length 1] : List Value))) (List.length_append ..).symm rfl (fun ob27 r28 c29 o30 => ?_)
    have m32 := o30.mx
    refine OW.rv (RV.move rfl) rfl ?_
    refine OW.rv (RV.len rfl rfl) rfl ?_
    refine OW.mem (M' := ((some b21), blk ((([.slice (((some b19)).map fun k => ⟨k, 0, none⟩) ([164#8] : List (BitVec 8)).length 1] : List Value)) ++ []) 22) :: (((ob27, blk ((cs7 ++ (([.slice (((some b19)).map fun k => ⟨k, 0, none⟩) ([164#8] : List (BitVec 8)).length 1] : List Value))) ++ r28) 22) :: (((some b19), blk ((u8s ([164#8] : List (BitVec 8))) ++ []) 5) :: B4)) ++ N)) (fun w m => m.pick [1, 0] 2 rfl rfl) ?_
    replace va0 := va0.mono (Ψ := More w0 Φ ((ob27, blk ((cs7 ++ (([.slice (((some b19)).map fun k => ⟨k, 0, none⟩) ([164#8] : List (BitVec 8)).length 1] : List Value))) ++ r28) 22) :: (((some b19), blk ((u8s ([164#8] : List (BitVec 8))) ++ []) 5) :: B4))) (fun w q => More.mono (fun w m => (m).tail) q)
    replace ha0 := ha0.mono (BsRd.mono (Ψ := More w0 Φ ((ob27, blk ((cs7 ++ (([.slice (((some b19)).map fun k => ⟨k, 0, none⟩) ([164#8] : List (BitVec 8)).length 1] : List Value))) ++ r28) 22) :: (((some b19), blk ((u8s ([164#8] : List (BitVec 8))) ++ []) 5) :: B4))) (fun w q => More.mono (fun w m => (m).tail) q))
    replace h8 := h8.mono (RmRd.mono (Ψ := More w0 Φ ((ob27, blk ((cs7 ++ (([.slice (((some b19)).map fun k => ⟨k, 0, none⟩) ([164#8] : List (BitVec 8)).length 1] : List Value))) ++ r28) 22) :: (((some b19), blk ((u8s ([164#8] : List (BitVec 8))) ++ []) 5) :: B4))) (fun w q => More.mono (fun w m => (m).tail) q))
    replace v23 := v23.mono (Ψ := More w0 Φ ((ob27, blk ((cs7 ++ (([.slice (((some b19)).map fun k => ⟨k, 0, none⟩) ([164#8] : List (BitVec 8)).length 1] : List Value))) ++ r28) 22) :: (((some b19), blk ((u8s ([164#8] : List (BitVec 8))) ++ []) 5) :: B4))) (fun w q => More.mono (fun w m => (m).tail) q)
    replace h25 := h25.mono (BsRd.mono (Ψ := More w0 Φ ((ob27, blk ((cs7 ++ (([.slice (((some b19)).map fun k => ⟨k, 0, none⟩) ([164#8] : List (BitVec 8)).length 1] : List Value))) ++ r28) 22) :: (((some b19), blk ((u8s ([164#8] : List (BitVec 8))) ++ []) 5) :: B4))) (fun w q => More.mono (fun w m => (m).tail) q))
    replace h31 := h31.mono (BsRd.mono (Ψ := More w0 Φ ((ob27, blk ((cs7 ++ (([.slice (((some b19)).map fun k => ⟨k, 0, none⟩) ([164#8] : List (BitVec 8)).length 1] : List Value))) ++ r28) 22) :: (((some b19), blk ((u8s ([164#8] : List (BitVec 8))) ++ []) 5) :: B4))) (fun w q => More.mono (fun w m => (m).tail) q))
    have v33 : View (More w0 Φ ((ob27, blk ((cs7 ++ (([.slice (((some b19)).map fun k => ⟨k, 0, none⟩) ([164#8] : List (BitVec 8)).length 1] : List Value))) ++ r28) 22) :: (((some b19), blk ((u8s ([164#8] : List (BitVec 8))) ++ []) 5) :: B4))) ((ob27).map fun k => ⟨k, 0, none⟩) (l6 ++ ([([164#8] : List (BitVec 8))] : List (List (BitVec 8)))).length c29 1 (cs7 ++ (([.slice (((some b19)).map fun k => ⟨k, 0, none⟩) ([164#8] : List (BitVec 8)).length 1] : List Value))) := o30.view (by decide) (fun w q => q.2.sublist (List.singleton_sublist.2 (List.mem_cons_self ..)))
    obtain ⟨g35, hf⟩ := some_if hf
    have hle := v33.le
    have hlp : l6.length ≤ (l6 ++ ([([164#8] : List (BitVec 8))] : List (List (BitVec 8)))).length := by rw [List.length_append]; omega
    refine OW.rv (RV.cut_hi (a0.length) rfl rfl (by omega) rfl rfl (by omega)) rfl ?_
    refine OW.slot (.slice ((ob27).map fun k => ⟨k, 0, none⟩) l6.length c29) (by rw [show a0.length = l6.length by omega]) ?_
    have v34 : View (More w0 Φ ((ob27, blk ((cs7 ++ (([.slice (((some b19)).map fun k => ⟨k, 0, none⟩) ([164#8] : List (BitVec 8)).length 1] : List Value))) ++ r28) 22) :: (((some b19), blk ((u8s ([164#8] : List (BitVec 8))) ++ []) 5) :: B4))) ((ob27).map fun k => ⟨k, 0, none⟩) l6.length c29 1 cs7 := View.pre v33 (h8.len RmRd.len) hlp
    have m36 := v34.mx
    refine OW.rv (RV.assign rfl) rfl ?_
    refine OW.nil ?_
    refine QW.then_n ?_
    refine CW.seq ?_
    refine CW.region ?_
    refine OW.rv (RV.move rfl) rfl ?_
    obtain ⟨⟨x38, x39⟩, hx37, hf⟩ := some_bind hf
    try dsimp only at hf
    refine OW.callG Try.call29 rfl (rlp_Join_does w0 (More w0 Φ ((ob27, blk ((cs7 ++ (([.slice (((some b19)).map fun k => ⟨k, 0, none⟩) ([164#8] : List (BitVec 8)).length 1] : List Value))) ++ r28) 22) :: (((some b19), blk ((u8s ([164#8] : List (BitVec 8))) ++ []) 5) :: B4))) (((some b21), blk ((([.slice (((some b19)).map fun k => ⟨k, 0, none⟩) ([164#8] : List (BitVec 8)).length 1] : List Value)) ++ []) 22) :: (((ob27, blk ((cs7 ++ (([.slice (((some b19)).map fun k => ⟨k, 0, none⟩) ([164#8] : List (BitVec 8)).length 1] : List Value))) ++ r28) 22) :: (((some b19), blk ((u8s ([164#8] : List (BitVec 8))) ++ []) 5) :: B4)) ++ N)) (fun w m => More.of hΦ 1 m rfl) ((ob27).map fun k => ⟨k, 0, none⟩) c29 cs7 l6 x38 x39 v34 (h8.mono RmRd.bs) hx37) rfl rfl ?_
    rintro L46 M47 ⟨B40, ob41, c42, r43, o44, b45, e48, e49⟩
    rw [e48, e49]
    clear e48 e49 L46 M47
    refine OW.mem (M' := ((ob41, blk ((u8s x38) ++ r43) 5) :: ((some b21), blk ((([.slice (((some b19)).map fun k => ⟨k, 0, none⟩) ([164#8] : List (BitVec 8)).length 1] : List Value)) ++ []) 22) :: ((B40 ++ ((ob27, blk ((cs7 ++ (([.slice (((some b19)).map fun k => ⟨k, 0, none⟩) ([164#8] : List (BitVec 8)).length 1] : List Value))) ++ r28) 22) :: (((some b19), blk ((u8s ([164#8] : List (BitVec 8))) ++ []) 5) :: B4))) ++ N))) (fun w m => by have h := Mem.sinkAt (A := B40) m 1 1 rfl rfl; exact h) ?_
    replace va0 := va0.mono (Ψ := More w0 Φ (B40 ++ ((ob27, blk ((cs7 ++ (([.slice (((some b19)).map fun k => ⟨k, 0, none⟩) ([164#8] : List (BitVec 8)).length 1] : List Value))) ++ r28) 22) :: (((some b19), blk ((u8s ([164#8] : List (BitVec 8))) ++ []) 5) :: B4)))) (fun w q => More.mono (fun w m => (m).appR) q)
    replace ha0 := ha0.mono (BsRd.mono (Ψ := More w0 Φ (B40 ++ ((ob27, blk ((cs7 ++ (([.slice (((some b19)).map fun k => ⟨k, 0, none⟩) ([164#8] : List (BitVec 8)).length 1] : List Value))) ++ r28) 22) :: (((some b19), blk ((u8s ([164#8] : List (BitVec 8))) ++ []) 5) :: B4)))) (fun w q => More.mono (fun w m => (m).appR) q))
    replace v34 := v34.mono (Ψ := More w0 Φ (B40 ++ ((ob27, blk ((cs7 ++ (([.slice (((some b19)).map fun k => ⟨k, 0, none⟩) ([164#8] : List (BitVec 8)).length 1] : List Value))) ++ r28) 22) :: (((some b19), blk ((u8s ([164#8] : List (BitVec 8))) ++ []) 5) :: B4)))) (fun w q => More.mono (fun w m => (m).appR) q)
    replace h8 := h8.mono (RmRd.mono (Ψ := More w0 Φ (B40 ++ ((ob27, blk ((cs7 ++ (([.slice (((some b19)).map fun k => ⟨k, 0, none⟩) ([164#8] : List (BitVec 8)).length 1] : List Value))) ++ r28) 22) :: (((some b19), blk ((u8s ([164#8] : List (BitVec 8))) ++ []) 5) :: B4)))) (fun w q => More.mono (fun w m => (m).appR) q))
    replace v33 := v33.mono (Ψ := More w0 Φ (B40 ++ ((ob27, blk ((cs7 ++ (([.slice (((some b19)).map fun k => ⟨k, 0, none⟩) ([164#8] : List (BitVec 8)).length 1] : List Value))) ++ r28) 22) :: (((some b19), blk ((u8s ([164#8] : List (BitVec 8))) ++ []) 5) :: B4)))) (fun w q => More.mono (fun w m => (m).appR) q)
    replace h31 := h31.mono (BsRd.mono (Ψ := More w0 Φ (B40 ++ ((ob27, blk ((cs7 ++ (([.slice (((some b19)).map fun k => ⟨k, 0, none⟩) ([164#8] : List (BitVec 8)).length 1] : List Value))) ++ r28) 22) :: (((some b19), blk ((u8s ([164#8] : List (BitVec 8))) ++ []) 5) :: B4)))) (fun w q => More.mono (fun w m => (m).appR) q))
    replace v23 := v23.mono (Ψ := More w0 Φ (B40 ++ ((ob27, blk ((cs7 ++ (([.slice (((some b19)).map fun k => ⟨k, 0, none⟩) ([164#8] : List (BitVec 8)).length 1] : List Value))) ++ r28) 22) :: (((some b19), blk ((u8s ([164#8] : List (BitVec 8))) ++ []) 5) :: B4)))) (fun w q => More.mono (fun w m => (m).appR) q)
    replace h25 := h25.mono (BsRd.mono (Ψ := More w0 Φ (B40 ++ ((ob27, blk ((cs7 ++ (([.slice (((some b19)).map fun k => ⟨k, 0, none⟩) ([164#8] : List (BitVec 8)).length 1] : List Value))) ++ r28) 22) :: (((some b19), blk ((u8s ([164#8] : List (BitVec 8))) ++ []) 5) :: B4)))) (fun w q => More.mono (fun w m => (m).appR) q))
    have m50 := o44.mx
    refine OW.rv (RV.move rfl) rfl ?_
    refine OW.rv (RV.extract rfl rfl) rfl ?_
    refine OW.slot (sl ob41 0 x38.length c42) (rfl) ?_
    refine OW.rv (RV.extract rfl rfl) rfl ?_
    refine OW.slot (.int .i64 ((x39 : Nat) : Int)) (rfl) ?_
    refine OW.rv (RV.assign rfl) rfl ?_
    refine OW.rv (RV.assign rfl) rfl ?_
    refine OW.nil ?_
    refine QW.then_n ?_
    refine CW.seq ?_
    refine CW.region ?_
    refine OW.rv (RV.move rfl) rfl ?_
    obtain ⟨⟨x52, x53⟩, hx51, hf⟩ := some_bind hf
    try dsimp only at hf
    refine OW.callG Try.call30 rfl (waybillref07_Join_does w0 (More w0 Φ (B40 ++ ((ob27, blk ((cs7 ++ (([.slice (((some b19)).map fun k => ⟨k, 0, none⟩) ([164#8] : List (BitVec 8)).length 1] : List Value))) ++ r28) 22) :: (((some b19), blk ((u8s ([164#8] : List (BitVec 8))) ++ []) 5) :: B4)))) ((ob41, blk ((u8s x38) ++ r43) 5) :: ((some b21), blk ((([.slice (((some b19)).map fun k => ⟨k, 0, none⟩) ([164#8] : List (BitVec 8)).length 1] : List Value)) ++ []) 22) :: ((B40 ++ ((ob27, blk ((cs7 ++ (([.slice (((some b19)).map fun k => ⟨k, 0, none⟩) ([164#8] : List (BitVec 8)).length 1] : List Value))) ++ r28) 22) :: (((some b19), blk ((u8s ([164#8] : List (BitVec 8))) ++ []) 5) :: B4))) ++ N)) (fun w m => More.of hΦ 2 m rfl) A0_ c0_ cs0_ a0 x52 x53 va0 ha0 hx51) rfl rfl ?_
    rintro L60 M61 ⟨B54, ob55, c56, r57, o58, b59, e62, e63⟩
    rw [e62, e63]
    clear e62 e63 L60 M61
    refine OW.mem (M' := ((ob55, blk ((u8s x52) ++ r57) 5) :: (ob41, blk ((u8s x38) ++ r43) 5) :: ((some b21), blk ((([.slice (((some b19)).map fun k => ⟨k, 0, none⟩) ([164#8] : List (BitVec 8)).length 1] : List Value)) ++ []) 22) :: ((B54 ++ (B40 ++ ((ob27, blk ((cs7 ++ (([.slice (((some b19)).map fun k => ⟨k, 0, none⟩) ([164#8] : List (BitVec 8)).length 1] : List Value))) ++ r28) 22) :: (((some b19), blk ((u8s ([164#8] : List (BitVec 8))) ++ []) 5) :: B4)))) ++ N))) (fun w m => by have h := Mem.sinkAt (A := B54) m 1 2 rfl rfl; exact h) ?_
    replace va0 := va0.mono (Ψ := More w0 Φ (B54 ++ (B40 ++ ((ob27, blk ((cs7 ++ (([.slice (((some b19)).map fun k => ⟨k, 0, none⟩) ([164#8] : List (BitVec 8)).length 1] : List Value))) ++ r28) 22) :: (((some b19), blk ((u8s ([164#8] : List (BitVec 8))) ++ []) 5) :: B4))))) (fun w q => More.mono (fun w m => (m).appR) q)
    replace ha0 := ha0.mono (BsRd.mono (Ψ := More w0 Φ (B54 ++ (B40 ++ ((ob27, blk ((cs7 ++ (([.slice (((some b19)).map fun k => ⟨k, 0, none⟩) ([164#8] : List (BitVec 8)).length 1] : List Value))) ++ r28) 22) :: (((some b19), blk ((u8s ([164#8] : List (BitVec 8))) ++ []) 5) :: B4))))) (fun w q => More.mono (fun w m => (m).appR) q))
    replace v34 := v34.mono (Ψ := More w0 Φ (B54 ++ (B40 ++ ((ob27, blk ((cs7 ++ (([.slice (((some b19)).map fun k => ⟨k, 0, none⟩) ([164#8] : List (BitVec 8)).length 1] : List Value))) ++ r28) 22) :: (((some b19), blk ((u8s ([164#8] : List (BitVec 8))) ++ []) 5) :: B4))))) (fun w q => More.mono (fun w m => (m).appR) q)
    replace h8 := h8.mono (RmRd.mono (Ψ := More w0 Φ (B54 ++ (B40 ++ ((ob27, blk ((cs7 ++ (([.slice (((some b19)).map fun k => ⟨k, 0, none⟩) ([164#8] : List (BitVec 8)).length 1] : List Value))) ++ r28) 22) :: (((some b19), blk ((u8s ([164#8] : List (BitVec 8))) ++ []) 5) :: B4))))) (fun w q => More.mono (fun w m => (m).appR) q))
    replace v33 := v33.mono (Ψ := More w0 Φ (B54 ++ (B40 ++ ((ob27, blk ((cs7 ++ (([.slice (((some b19)).map fun k => ⟨k, 0, none⟩) ([164#8] : List (BitVec 8)).length 1] : List Value))) ++ r28) 22) :: (((some b19), blk ((u8s ([164#8] : List (BitVec 8))) ++ []) 5) :: B4))))) (fun w q => More.mono (fun w m => (m).appR) q)
    replace h31 := h31.mono (BsRd.mono (Ψ := More w0 Φ (B54 ++ (B40 ++ ((ob27, blk ((cs7 ++ (([.slice (((some b19)).map fun k => ⟨k, 0, none⟩) ([164#8] : List (BitVec 8)).length 1] : List Value))) ++ r28) 22) :: (((some b19), blk ((u8s ([164#8] : List (BitVec 8))) ++ []) 5) :: B4))))) (fun w q => More.mono (fun w m => (m).appR) q))
    replace v23 := v23.mono (Ψ := More w0 Φ (B54 ++ (B40 ++ ((ob27, blk ((cs7 ++ (([.slice (((some b19)).map fun k => ⟨k, 0, none⟩) ([164#8] : List (BitVec 8)).length 1] : List Value))) ++ r28) 22) :: (((some b19), blk ((u8s ([164#8] : List (BitVec 8))) ++ []) 5) :: B4))))) (fun w q => More.mono (fun w m => (m).appR) q)
    replace h25 := h25.mono (BsRd.mono (Ψ := More w0 Φ (B54 ++ (B40 ++ ((ob27, blk ((cs7 ++ (([.slice (((some b19)).map fun k => ⟨k, 0, none⟩) ([164#8] : List (BitVec 8)).length 1] : List Value))) ++ r28) 22) :: (((some b19), blk ((u8s ([164#8] : List (BitVec 8))) ++ []) 5) :: B4))))) (fun w q => More.mono (fun w m => (m).appR) q))
    have m64 := o58.mx
    refine OW.rv (RV.move rfl) rfl ?_
    refine OW.rv (RV.extract rfl rfl) rfl ?_
    refine OW.slot (sl ob55 0 x52.length c56) (rfl) ?_
    refine OW.rv (RV.extract rfl rfl) rfl ?_
    refine OW.slot (.int .i64 ((x53 : Nat) : Int)) (rfl) ?_
    refine OW.rv (RV.assign rfl) rfl ?_
    refine OW.rv (RV.assign rfl) rfl ?_
    refine OW.nil ?_
    refine QW.then_n ?_
    refine CW.seq ?_
    refine CW.seq ?_
    obtain ⟨q65, hq66, hf⟩ := some_bind hf
    refine CW.cutJ (fun L' M' => ∃ p69 : Bool, ∃ B67 : List Ent, q65 = p69 ∧ (∀ w, Mem w0 w B67 → Mem w0 w (B54 ++ (B40 ++ ((ob27, blk ((cs7 ++ (([.slice (((some b19)).map fun k => ⟨k, 0, none⟩) ([164#8] : List (BitVec 8)).length 1] : List Value))) ++ r28) 22) :: (((some b19), blk ((u8s ([164#8] : List (BitVec 8))) ++ []) 5) :: B4))))) ∧ L' = [(0, .slice A0_ a0.length c0_), (3, .slice ((ob27).map fun k => ⟨k, 0, none⟩) l6.length c29), (56, .bool (p69))] ∧ M' = ((B67 ++ N))) ?_ ?_
    · rintro L71 M72 ⟨p69, B67, e70, hB68, e73, e74⟩
      rw [e73, e74]
      clear e73 e74 L71 M72
      clear hq66
      rw [e70] at hf
      clear e70
      try dsimp only at hf
      replace va0 := va0.mono (Ψ := More w0 Φ B67) (fun w q => More.mono (fun w m => hB68 w (m)) q)
      replace ha0 := ha0.mono (BsRd.mono (Ψ := More w0 Φ B67) (fun w q => More.mono (fun w m => hB68 w (m)) q))
      replace v34 := v34.mono (Ψ := More w0 Φ B67) (fun w q => More.mono (fun w m => hB68 w (m)) q)
      replace h8 := h8.mono (RmRd.mono (Ψ := More w0 Φ B67) (fun w q => More.mono (fun w m => hB68 w (m)) q))
      replace v33 := v33.mono (Ψ := More w0 Φ B67) (fun w q => More.mono (fun w m => hB68 w (m)) q)
      replace h31 := h31.mono (BsRd.mono (Ψ := More w0 Φ B67) (fun w q => More.mono (fun w m => hB68 w (m)) q))
      refine QW.then_n ?_
      by_cases h75 : p69 = true
      · replace hf := if_t hf h75
        refine CW.is_t rfl (h75) ?_
        refine CW.seq ?_
        refine CW.region ?_
        refine OW.rv (RV.assign rfl) rfl ?_
        refine OW.nil ?_
        refine QW.then_n ?_
        refine CW.ret ?_
        refine QW.then_r ?_
        have e0 := Option.some.inj hf
        subst e0
        refine QW.retG (rs := [.tmp 2]) ([.bool false]) (B67) rfl ?_ rfl ?_ ?_ _ (.inl rfl)
        · exact ⟨rfl, trivial⟩
        · exact rfl
        · exact (fun w m => m)
      · replace hf := if_f hf h75
        refine CW.is_f rfl (Bool.eq_false_iff.2 h75) ?_
        refine CW.skip ?_
        refine QW.then_n ?_
        refine CW.seq ?_
        refine CW.seq ?_
        refine CW.region ?_
        refine OW.rv (RV.assign rfl) rfl ?_
        refine OW.nil ?_
        refine QW.then_n ?_
        obtain ⟨q76, hq77, hf⟩ := some_bind hf
        refine CW.cutJ (fun L' M' => q76 = Lp.go () ∧ L' = [(0, .slice A0_ a0.length c0_), (3, .slice ((ob27).map fun k => ⟨k, 0, none⟩) l6.length c29)] ∧ M' = ((B67 ++ N))) ?_ ?_
        · rintro L79 M80 ⟨e78, e81, e82⟩
          rw [e81, e82]
          clear e81 e82 L79 M80
          clear hq77
          rw [e78] at hf
          clear e78
          try dsimp only at hf
          refine QW.then_n ?_
          refine CW.seq ?_
          refine CW.region ?_
          refine OW.rv (RV.move rfl) rfl ?_
          refine OW.rv (RV.move rfl) rfl ?_
          refine OW.rv (RV.len rfl rfl) rfl ?_
          refine OW.rv (RV.add rfl rfl (by omega)) rfl ?_
          refine OW.slot (.int .i64 (((a0.length + 1) : Nat) : Int)) (by first | rfl | (congr 1) | (congr 1; omega)) ?_
          obtain ⟨g84, hf⟩ := some_if hf
          have hle := v33.le
          have hlen_ : (l6 ++ ([([164#8] : List (BitVec 8))] : List (List (BitVec 8)))).length = (l6 ++ ([([164#8] : List (BitVec 8))] : List (List (BitVec 8)))).length := rfl
          refine OW.rv (RV.cut_hi ((a0.length + 1)) rfl rfl (by omega) rfl rfl (by omega)) rfl ?_
          refine OW.slot (.slice ((ob27).map fun k => ⟨k, 0, none⟩) ((l6 ++ ([([164#8] : List (BitVec 8))] : List (List (BitVec 8)))).take (a0.length + 1)).length c29) (by rw [show (((l6 ++ ([([164#8] : List (BitVec 8))] : List (List (BitVec 8)))).take (a0.length + 1))).length = (a0.length + 1) from List.length_take.trans (Nat.min_eq_left (by omega))]) ?_
          have v83 : View (More w0 Φ B67) ((ob27).map fun k => ⟨k, 0, none⟩) ((l6 ++ ([([164#8] : List (BitVec 8))] : List (List (BitVec 8)))).take (a0.length + 1)).length c29 1 ((cs7 ++ (([.slice (((some b19)).map fun k => ⟨k, 0, none⟩) ([164#8] : List (BitVec 8)).length 1] : List Value))).take ((a0.length + 1) * 1)) := v33.hiD (by omega)
          have h85 := h31.take BsRd.len (a0.length + 1)
          have m86 := v83.mx
          refine OW.rv (RV.move rfl) rfl ?_
          refine OW.rv (RV.len rfl rfl) rfl ?_
          obtain ⟨x87, hx88, hf⟩ := some_bind hf
          have hl89 := lt_of_at hx88
          refine OW.rv (RV.idx_r (a0.length) rfl rfl rfl rfl rfl (v83.isSome (by decide) hl89) (by omega)) rfl ?_
          obtain ⟨cs90, h91, h92⟩ := h85.get BsRd.len hx88
          obtain ⟨A93, c94, e96, v95⟩ := h91
          subst e96
          have m97 := v95.mx
          refine OW.rv (RV.load_at rfl rfl rfl (fun w m => by have := v83.load (More.of hΦ 0 m rfl) h92 0 _ rfl; simpa [Addr.add] using this)) rfl ?_
          refine OW.ofN (NV.bs1 rfl rfl rfl rfl rfl rfl) rfl (fun b98 => ?_)
          refine OW.mem (M' := (((some b98), blk ((u8s ([164#8] : List (BitVec 8))) ++ []) 5) :: (B67 ++ N))) (fun w m => by first | exact m | simpa [u8s] using m) ?_
          have o99 : OwnS (some b98) ([164#8] : List (BitVec 8)).length 1 1 (u8s ([164#8] : List (BitVec 8))) [] := ⟨by simp [u8s], by simp [u8s], (fun h => nomatch h), by simp⟩
          refine OW.slot (sl (some b98) 0 ([164#8] : List (BitVec 8)).length 1) (rfl) ?_
          refine OW.mem (M' := ((((some b98), blk ((u8s ([164#8] : List (BitVec 8))) ++ []) 5) :: B67) ++ N)) (fun w m => m.pick [0] 1 rfl rfl) ?_
          replace va0 := va0.mono (Ψ := More w0 Φ (((some b98), blk ((u8s ([164#8] : List (BitVec 8))) ++ []) 5) :: B67)) (fun w q => More.mono (fun w m => (m).tail) q)
          replace ha0 := ha0.mono (BsRd.mono (Ψ := More w0 Φ (((some b98), blk ((u8s ([164#8] : List (BitVec 8))) ++ []) 5) :: B67)) (fun w q => More.mono (fun w m => (m).tail) q))
          replace v34 := v34.mono (Ψ := More w0 Φ (((some b98), blk ((u8s ([164#8] : List (BitVec 8))) ++ []) 5) :: B67)) (fun w q => More.mono (fun w m => (m).tail) q)
          replace h8 := h8.mono (RmRd.mono (Ψ := More w0 Φ (((some b98), blk ((u8s ([164#8] : List (BitVec 8))) ++ []) 5) :: B67)) (fun w q => More.mono (fun w m => (m).tail) q))
          replace v33 := v33.mono (Ψ := More w0 Φ (((some b98), blk ((u8s ([164#8] : List (BitVec 8))) ++ []) 5) :: B67)) (fun w q => More.mono (fun w m => (m).tail) q)
          replace h31 := h31.mono (BsRd.mono (Ψ := More w0 Φ (((some b98), blk ((u8s ([164#8] : List (BitVec 8))) ++ []) 5) :: B67)) (fun w q => More.mono (fun w m => (m).tail) q))
          replace v83 := v83.mono (Ψ := More w0 Φ (((some b98), blk ((u8s ([164#8] : List (BitVec 8))) ++ []) 5) :: B67)) (fun w q => More.mono (fun w m => (m).tail) q)
          replace h85 := h85.mono (BsRd.mono (Ψ := More w0 Φ (((some b98), blk ((u8s ([164#8] : List (BitVec 8))) ++ []) 5) :: B67)) (fun w q => More.mono (fun w m => (m).tail) q))
          replace v95 := v95.mono (Ψ := More w0 Φ (((some b98), blk ((u8s ([164#8] : List (BitVec 8))) ++ []) 5) :: B67)) (fun w q => More.mono (fun w m => (m).tail) q)
          have v100 : View (More w0 Φ (((some b98), blk ((u8s ([164#8] : List (BitVec 8))) ++ []) 5) :: B67)) (((some b98)).map fun k => ⟨k, 0, none⟩) ([164#8] : List (BitVec 8)).length 1 1 (u8s ([164#8] : List (BitVec 8))) := o99.view (by decide) (fun w q => q.2.sublist (List.singleton_sublist.2 (List.mem_cons_self ..)))
          obtain ⟨x102, hx101, hf⟩ := some_bind hf
          refine OW.callG Try.call26 rfl (waybilllaw07_same_does w0 (More w0 Φ (((some b98), blk ((u8s ([164#8] : List (BitVec 8))) ++ []) 5) :: B67)) (((((some b98), blk ((u8s ([164#8] : List (BitVec 8))) ++ []) 5) :: B67) ++ N)) (fun w m => More.of hΦ 0 m rfl) A93 c94 x87 (((some b98)).map fun k => ⟨k, 0, none⟩) 1 ([164#8] : List (BitVec 8)) x102 v95 v100 hx101) rfl rfl ?_
          rintro _ G103 rfl
          refine OW.mem (M' := (((((some b98), blk ((u8s ([164#8] : List (BitVec 8))) ++ []) 5) :: B67) ++ N))) (fun w m => m.appR) ?_
          refine OW.rv (RV.assign rfl) rfl ?_
          refine OW.nil ?_
          refine QW.then_n ?_
          refine CW.ret ?_
          have e0 := Option.some.inj hf
          subst e0
          refine QW.retG (rs := [.tmp 2]) ([.bool (x102)]) ((((some b98), blk ((u8s ([164#8] : List (BitVec 8))) ++ []) 5) :: B67)) rfl ?_ rfl ?_ ?_ _ (.inl rfl)
          · exact ⟨rfl, trivial⟩
          · exact rfl
          · exact (fun w m => m)
        · skip
          refine CW.block ?_
          refine CW.loopJ (fun k L' M' => ∃ n105 : Nat, (waybilllaw07_RlpJoins.l1 l6 k n105) = some q76 ∧ (n105 ≤ 9223372036854775807) ∧ L' = [(0, .slice A0_ a0.length c0_), (3, .slice ((ob27).map fun k => ⟨k, 0, none⟩) l6.length c29), (9, .int .i64 ((n105 : Nat) : Int))] ∧ M' = ((B67 ++ N))) (k0 := (l6.length - 0 + 2)) ⟨0, hq77, (by omega), rfl, rfl⟩ ⟨rfl, rfl, rfl, trivial⟩ (fun w m => m.pick [] 0 rfl rfl) ?_
          clear hq77
          rintro k107 L110 M111 ⟨n105, hl108, b106, e112, e113⟩
          rw [e112, e113]
          clear e112 e113 L110 M111
          rcases k107 with _ | k107
          · rw [waybilllaw07_RlpJoins.l1] at hl108; cases hl108
          rw [waybilllaw07_RlpJoins.l1] at hl108
          refine CW.seq ?_
          refine CW.seq ?_
          refine CW.region ?_
          refine OW.rv (RV.move rfl) rfl ?_
          refine OW.rv (RV.move rfl) rfl ?_
          refine OW.rv (RV.len rfl rfl) rfl ?_
          refine OW.rv (RV.lss rfl rfl) rfl ?_
          refine OW.slot (.bool (decide (n105 < l6.length))) (congrArg Value.bool (decide_eq_decide.2 (by omega))) ?_
          refine OW.nil ?_
          refine QW.then_n ?_
          by_cases h114 : n105 < l6.length
          · replace hl108 := if_t hl108 h114
            refine CW.is_t rfl (decide_eq_true h114) ?_
            refine CW.skip ?_
            refine QW.then_n ?_
            refine CW.seq ?_
            refine CW.block ?_
            refine CW.seq ?_
            refine CW.region ?_
            refine OW.rv (RV.move rfl) rfl ?_
            refine OW.rv (RV.move rfl) rfl ?_
            obtain ⟨x115, hx116, hl108⟩ := some_bind hl108
            have hl117 := lt_of_at hx116
            refine OW.rv (RV.idx_r (n105) rfl rfl rfl rfl rfl (v34.isSome (by decide) hl117) (by omega)) rfl ?_
            obtain ⟨cs118, h119, h120⟩ := h8.get RmRd.len hx116
            obtain ⟨A121, e124, v122⟩ := h119
            subst e124
            have v123 := v122.view
            have m125 := v123.mx
            refine OW.rv (RV.load_at rfl rfl rfl (fun w m => by have := v34.load (More.of hΦ 0 m rfl) h120 0 _ rfl; simpa [Addr.add] using this)) rfl ?_
            obtain ⟨x127, hx126, hl108⟩ := some_bind hl108
            refine OW.callG Try.call27 rfl (waybilllaw07_spared_does w0 (More w0 Φ B67) ((B67 ++ N)) (fun w m => More.of hΦ 0 m rfl) A121 x115 x127 v122 hx126) rfl rfl ?_
            rintro _ G128 rfl
            refine OW.mem (M' := ((B67 ++ N))) (fun w m => m.appR) ?_
            refine OW.rv (RV.not rfl) rfl ?_
            refine OW.nil ?_
            refine QW.then_n ?_
            by_cases h130 : x127 = true
            · replace hl108 := if_t hl108 h130
              refine CW.is_f rfl (congrArg (fun b => !b) (h130)) ?_
              refine CW.skip ?_
              refine QW.block_n ?_
              refine QW.then_n ?_
              refine CW.region ?_
              refine OW.rv (RV.move rfl) rfl ?_
              refine OW.rv (RV.add rfl rfl (by omega)) rfl ?_
              refine OW.slot (.int .i64 (((n105 + 1) : Nat) : Int)) (by first | rfl | (congr 1) | (congr 1; omega)) ?_
              refine OW.rv (RV.assign rfl) rfl ?_
              refine OW.nil ?_
              exact QW.againJ (k' := k107) (Nat.lt_succ_self _) ⟨(n105 + 1), hl108, (by omega), rfl, rfl⟩ ⟨rfl, rfl, rfl, trivial⟩ (fun w m => m.pick [] 0 rfl rfl)
            · replace hl108 := if_f hl108 h130
              refine CW.is_t rfl (congrArg (fun b => !b) (Bool.eq_false_iff.2 h130)) ?_
              refine CW.seq ?_
              refine CW.region ?_
              refine OW.rv (RV.assign rfl) rfl ?_
              refine OW.nil ?_
              refine QW.then_n ?_
              refine CW.ret ?_
              refine QW.block_r ?_
              refine QW.then_r ?_
              refine QW.then_r ?_
              refine QW.block_r ?_
              refine QW.then_r ?_
              have hc := Option.some.inj hl108
              subst hc
              try dsimp only at hf
              refine QW.then_r ?_
              have e0 := Option.some.inj hf
              subst e0
              refine QW.retG (rs := [.tmp 2]) ([.bool false]) (B67) rfl ?_ rfl ?_ ?_ _ (.inl rfl)
              · exact ⟨rfl, trivial⟩
              · exact rfl
              · exact (fun w m => m)
          · replace hl108 := if_f hl108 h114
            refine CW.is_f rfl (decide_eq_false h114) ?_
            refine CW.exit ?_
            refine QW.then_x ?_
            refine QW.then_x ?_
            refine QW.block_xe ?_
            exact QW.join ⟨(Option.some.inj hl108).symm, rfl, rfl⟩ ⟨rfl, rfl, trivial⟩ (fun w m => m.pick [] 0 rfl rfl)
    · skip
      refine CW.region ?_
      refine OW.rv (RV.move rfl) rfl ?_
      obtain ⟨x132, hx131, hq66⟩ := some_bind hq66
      refine OW.callG Try.call31 rfl (waybilllaw07_num_does w0 (More w0 Φ (B54 ++ (B40 ++ ((ob27, blk ((cs7 ++ (([.slice (((some b19)).map fun k => ⟨k, 0, none⟩) ([164#8] : List (BitVec 8)).length 1] : List Value))) ++ r28) 22) :: (((some b19), blk ((u8s ([164#8] : List (BitVec 8))) ++ []) 5) :: B4))))) ((ob55, blk ((u8s x52) ++ r57) 5) :: (ob41, blk ((u8s x38) ++ r43) 5) :: ((some b21), blk ((([.slice (((some b19)).map fun k => ⟨k, 0, none⟩) ([164#8] : List (BitVec 8)).length 1] : List Value)) ++ []) 22) :: ((B54 ++ (B40 ++ ((ob27, blk ((cs7 ++ (([.slice (((some b19)).map fun k => ⟨k, 0, none⟩) ([164#8] : List (BitVec 8)).length 1] : List Value))) ++ r28) 22) :: (((some b19), blk ((u8s ([164#8] : List (BitVec 8))) ++ []) 5) :: B4)))) ++ N)) (fun w m => More.of hΦ 3 m rfl) ((x39 : Nat) : Int) x132 (by omega) hx131) rfl rfl ?_
      rintro _ G134 ⟨b133, rfl⟩
      refine OW.mem (M' := ((ob55, blk ((u8s x52) ++ r57) 5) :: (ob41, blk ((u8s x38) ++ r43) 5) :: ((some b21), blk ((([.slice (((some b19)).map fun k => ⟨k, 0, none⟩) ([164#8] : List (BitVec 8)).length 1] : List Value)) ++ []) 22) :: ((B54 ++ (B40 ++ ((ob27, blk ((cs7 ++ (([.slice (((some b19)).map fun k => ⟨k, 0, none⟩) ([164#8] : List (BitVec 8)).length 1] : List Value))) ++ r28) 22) :: (((some b19), blk ((u8s ([164#8] : List (BitVec 8))) ++ []) 5) :: B4)))) ++ N))) (fun w m => m.appR) ?_
      refine OW.rv (RV.move rfl) rfl ?_
      refine OW.rv (RV.neq rfl rfl) rfl ?_
      refine OW.rv (RV.move rfl) rfl ?_
      by_cases h136 : x132 = ((x53 : Nat) : Int)
      · replace hq66 := if_t hq66 h136
        refine OW.slot (.bool false) (congrArg Value.bool (congrArg (fun b => !b) (decide_eq_true h136))) ?_
        refine OW.want rfl ?_
        refine OW.rv (RV.move rfl) rfl ?_
        refine OW.want rfl ?_
        refine OW.rv (RV.move rfl) rfl ?_
        refine OW.want rfl ?_
        refine OW.mem (M' := (ob55, blk ((u8s x52) ++ r57) 5) :: ((some b21), blk ((([.slice (((some b19)).map fun k => ⟨k, 0, none⟩) ([164#8] : List (BitVec 8)).length 1] : List Value)) ++ []) 22) :: (((ob41, blk ((u8s x38) ++ r43) 5) :: (B54 ++ (B40 ++ ((ob27, blk ((cs7 ++ (([.slice (((some b19)).map fun k => ⟨k, 0, none⟩) ([164#8] : List (BitVec 8)).length 1] : List Value))) ++ r28) 22) :: (((some b19), blk ((u8s ([164#8] : List (BitVec 8))) ++ []) 5) :: B4))))) ++ N)) (fun w m => m.pick [0, 2, 1] 3 rfl rfl) ?_
        replace va0 := va0.mono (Ψ := More w0 Φ ((ob41, blk ((u8s x38) ++ r43) 5) :: (B54 ++ (B40 ++ ((ob27, blk ((cs7 ++ (([.slice (((some b19)).map fun k => ⟨k, 0, none⟩) ([164#8] : List (BitVec 8)).length 1] : List Value))) ++ r28) 22) :: (((some b19), blk ((u8s ([164#8] : List (BitVec 8))) ++ []) 5) :: B4)))))) (fun w q => More.mono (fun w m => (m).tail) q)
        replace ha0 := ha0.mono (BsRd.mono (Ψ := More w0 Φ ((ob41, blk ((u8s x38) ++ r43) 5) :: (B54 ++ (B40 ++ ((ob27, blk ((cs7 ++ (([.slice (((some b19)).map fun k => ⟨k, 0, none⟩) ([164#8] : List (BitVec 8)).length 1] : List Value))) ++ r28) 22) :: (((some b19), blk ((u8s ([164#8] : List (BitVec 8))) ++ []) 5) :: B4)))))) (fun w q => More.mono (fun w m => (m).tail) q))
        replace v34 := v34.mono (Ψ := More w0 Φ ((ob41, blk ((u8s x38) ++ r43) 5) :: (B54 ++ (B40 ++ ((ob27, blk ((cs7 ++ (([.slice (((some b19)).map fun k => ⟨k, 0, none⟩) ([164#8] : List (BitVec 8)).length 1] : List Value))) ++ r28) 22) :: (((some b19), blk ((u8s ([164#8] : List (BitVec 8))) ++ []) 5) :: B4)))))) (fun w q => More.mono (fun w m => (m).tail) q)
        replace h8 := h8.mono (RmRd.mono (Ψ := More w0 Φ ((ob41, blk ((u8s x38) ++ r43) 5) :: (B54 ++ (B40 ++ ((ob27, blk ((cs7 ++ (([.slice (((some b19)).map fun k => ⟨k, 0, none⟩) ([164#8] : List (BitVec 8)).length 1] : List Value))) ++ r28) 22) :: (((some b19), blk ((u8s ([164#8] : List (BitVec 8))) ++ []) 5) :: B4)))))) (fun w q => More.mono (fun w m => (m).tail) q))
        replace v33 := v33.mono (Ψ := More w0 Φ ((ob41, blk ((u8s x38) ++ r43) 5) :: (B54 ++ (B40 ++ ((ob27, blk ((cs7 ++ (([.slice (((some b19)).map fun k => ⟨k, 0, none⟩) ([164#8] : List (BitVec 8)).length 1] : List Value))) ++ r28) 22) :: (((some b19), blk ((u8s ([164#8] : List (BitVec 8))) ++ []) 5) :: B4)))))) (fun w q => More.mono (fun w m => (m).tail) q)
        replace h31 := h31.mono (BsRd.mono (Ψ := More w0 Φ ((ob41, blk ((u8s x38) ++ r43) 5) :: (B54 ++ (B40 ++ ((ob27, blk ((cs7 ++ (([.slice (((some b19)).map fun k => ⟨k, 0, none⟩) ([164#8] : List (BitVec 8)).length 1] : List Value))) ++ r28) 22) :: (((some b19), blk ((u8s ([164#8] : List (BitVec 8))) ++ []) 5) :: B4)))))) (fun w q => More.mono (fun w m => (m).tail) q))
        replace v23 := v23.mono (Ψ := More w0 Φ ((ob41, blk ((u8s x38) ++ r43) 5) :: (B54 ++ (B40 ++ ((ob27, blk ((cs7 ++ (([.slice (((some b19)).map fun k => ⟨k, 0, none⟩) ([164#8] : List (BitVec 8)).length 1] : List Value))) ++ r28) 22) :: (((some b19), blk ((u8s ([164#8] : List (BitVec 8))) ++ []) 5) :: B4)))))) (fun w q => More.mono (fun w m => (m).tail) q)
        replace h25 := h25.mono (BsRd.mono (Ψ := More w0 Φ ((ob41, blk ((u8s x38) ++ r43) 5) :: (B54 ++ (B40 ++ ((ob27, blk ((cs7 ++ (([.slice (((some b19)).map fun k => ⟨k, 0, none⟩) ([164#8] : List (BitVec 8)).length 1] : List Value))) ++ r28) 22) :: (((some b19), blk ((u8s ([164#8] : List (BitVec 8))) ++ []) 5) :: B4)))))) (fun w q => More.mono (fun w m => (m).tail) q))
        have v137 : View (More w0 Φ ((ob41, blk ((u8s x38) ++ r43) 5) :: (B54 ++ (B40 ++ ((ob27, blk ((cs7 ++ (([.slice (((some b19)).map fun k => ⟨k, 0, none⟩) ([164#8] : List (BitVec 8)).length 1] : List Value))) ++ r28) 22) :: (((some b19), blk ((u8s ([164#8] : List (BitVec 8))) ++ []) 5) :: B4)))))) ((ob41).map fun k => ⟨k, 0, none⟩) x38.length c42 1 (u8s x38) := o44.view (by decide) (fun w q => q.2.sublist (List.singleton_sublist.2 (List.mem_cons_self ..)))
        refine OW.mem (M' := ((some b21), blk ((([.slice (((some b19)).map fun k => ⟨k, 0, none⟩) ([164#8] : List (BitVec 8)).length 1] : List Value)) ++ []) 22) :: (((ob55, blk ((u8s x52) ++ r57) 5) :: ((ob41, blk ((u8s x38) ++ r43) 5) :: (B54 ++ (B40 ++ ((ob27, blk ((cs7 ++ (([.slice (((some b19)).map fun k => ⟨k, 0, none⟩) ([164#8] : List (BitVec 8)).length 1] : List Value))) ++ r28) 22) :: (((some b19), blk ((u8s ([164#8] : List (BitVec 8))) ++ []) 5) :: B4)))))) ++ N)) (fun w m => m.pick [1, 0] 2 rfl rfl) ?_
        replace va0 := va0.mono (Ψ := More w0 Φ ((ob55, blk ((u8s x52) ++ r57) 5) :: ((ob41, blk ((u8s x38) ++ r43) 5) :: (B54 ++ (B40 ++ ((ob27, blk ((cs7 ++ (([.slice (((some b19)).map fun k => ⟨k, 0, none⟩) ([164#8] : List (BitVec 8)).length 1] : List Value))) ++ r28) 22) :: (((some b19), blk ((u8s ([164#8] : List (BitVec 8))) ++ []) 5) :: B4))))))) (fun w q => More.mono (fun w m => (m).tail) q)
        replace ha0 := ha0.mono (BsRd.mono (Ψ := More w0 Φ ((ob55, blk ((u8s x52) ++ r57) 5) :: ((ob41, blk ((u8s x38) ++ r43) 5) :: (B54 ++ (B40 ++ ((ob27, blk ((cs7 ++ (([.slice (((some b19)).map fun k => ⟨k, 0, none⟩) ([164#8] : List (BitVec 8)).length 1] : List Value))) ++ r28) 22) :: (((some b19), blk ((u8s ([164#8] : List (BitVec 8))) ++ []) 5) :: B4))))))) (fun w q => More.mono (fun w m => (m).tail) q))
        replace v34 := v34.mono (Ψ := More w0 Φ ((ob55, blk ((u8s x52) ++ r57) 5) :: ((ob41, blk ((u8s x38) ++ r43) 5) :: (B54 ++ (B40 ++ ((ob27, blk ((cs7 ++ (([.slice (((some b19)).map fun k => ⟨k, 0, none⟩) ([164#8] : List (BitVec 8)).length 1] : List Value))) ++ r28) 22) :: (((some b19), blk ((u8s ([164#8] : List (BitVec 8))) ++ []) 5) :: B4))))))) (fun w q => More.mono (fun w m => (m).tail) q)
        replace h8 := h8.mono (RmRd.mono (Ψ := More w0 Φ ((ob55, blk ((u8s x52) ++ r57) 5) :: ((ob41, blk ((u8s x38) ++ r43) 5) :: (B54 ++ (B40 ++ ((ob27, blk ((cs7 ++ (([.slice (((some b19)).map fun k => ⟨k, 0, none⟩) ([164#8] : List (BitVec 8)).length 1] : List Value))) ++ r28) 22) :: (((some b19), blk ((u8s ([164#8] : List (BitVec 8))) ++ []) 5) :: B4))))))) (fun w q => More.mono (fun w m => (m).tail) q))
        replace v33 := v33.mono (Ψ := More w0 Φ ((ob55, blk ((u8s x52) ++ r57) 5) :: ((ob41, blk ((u8s x38) ++ r43) 5) :: (B54 ++ (B40 ++ ((ob27, blk ((cs7 ++ (([.slice (((some b19)).map fun k => ⟨k, 0, none⟩) ([164#8] : List (BitVec 8)).length 1] : List Value))) ++ r28) 22) :: (((some b19), blk ((u8s ([164#8] : List (BitVec 8))) ++ []) 5) :: B4))))))) (fun w q => More.mono (fun w m => (m).tail) q)
        replace h31 := h31.mono (BsRd.mono (Ψ := More w0 Φ ((ob55, blk ((u8s x52) ++ r57) 5) :: ((ob41, blk ((u8s x38) ++ r43) 5) :: (B54 ++ (B40 ++ ((ob27, blk ((cs7 ++ (([.slice (((some b19)).map fun k => ⟨k, 0, none⟩) ([164#8] : List (BitVec 8)).length 1] : List Value))) ++ r28) 22) :: (((some b19), blk ((u8s ([164#8] : List (BitVec 8))) ++ []) 5) :: B4))))))) (fun w q => More.mono (fun w m => (m).tail) q))
        replace v23 := v23.mono (Ψ := More w0 Φ ((ob55, blk ((u8s x52) ++ r57) 5) :: ((ob41, blk ((u8s x38) ++ r43) 5) :: (B54 ++ (B40 ++ ((ob27, blk ((cs7 ++ (([.slice (((some b19)).map fun k => ⟨k, 0, none⟩) ([164#8] : List (BitVec 8)).length 1] : List Value))) ++ r28) 22) :: (((some b19), blk ((u8s ([164#8] : List (BitVec 8))) ++ []) 5) :: B4))))))) (fun w q => More.mono (fun w m => (m).tail) q)
        replace h25 := h25.mono (BsRd.mono (Ψ := More w0 Φ ((ob55, blk ((u8s x52) ++ r57) 5) :: ((ob41, blk ((u8s x38) ++ r43) 5) :: (B54 ++ (B40 ++ ((ob27, blk ((cs7 ++ (([.slice (((some b19)).map fun k => ⟨k, 0, none⟩) ([164#8] : List (BitVec 8)).length 1] : List Value))) ++ r28) 22) :: (((some b19), blk ((u8s ([164#8] : List (BitVec 8))) ++ []) 5) :: B4))))))) (fun w q => More.mono (fun w m => (m).tail) q))
        replace v137 := v137.mono (Ψ := More w0 Φ ((ob55, blk ((u8s x52) ++ r57) 5) :: ((ob41, blk ((u8s x38) ++ r43) 5) :: (B54 ++ (B40 ++ ((ob27, blk ((cs7 ++ (([.slice (((some b19)).map fun k => ⟨k, 0, none⟩) ([164#8] : List (BitVec 8)).length 1] : List Value))) ++ r28) 22) :: (((some b19), blk ((u8s ([164#8] : List (BitVec 8))) ++ []) 5) :: B4))))))) (fun w q => More.mono (fun w m => (m).tail) q)
        have v138 : View (More w0 Φ ((ob55, blk ((u8s x52) ++ r57) 5) :: ((ob41, blk ((u8s x38) ++ r43) 5) :: (B54 ++ (B40 ++ ((ob27, blk ((cs7 ++ (([.slice (((some b19)).map fun k => ⟨k, 0, none⟩) ([164#8] : List (BitVec 8)).length 1] : List Value))) ++ r28) 22) :: (((some b19), blk ((u8s ([164#8] : List (BitVec 8))) ++ []) 5) :: B4))))))) ((ob55).map fun k => ⟨k, 0, none⟩) x52.length c56 1 (u8s x52) := o58.view (by decide) (fun w q => q.2.sublist (List.singleton_sublist.2 (List.mem_cons_self ..)))
        obtain ⟨x140, hx139, hq66⟩ := some_bind hq66
        refine OW.callG Try.call26 rfl (waybilllaw07_same_does w0 (More w0 Φ ((ob55, blk ((u8s x52) ++ r57) 5) :: ((ob41, blk ((u8s x38) ++ r43) 5) :: (B54 ++ (B40 ++ ((ob27, blk ((cs7 ++ (([.slice (((some b19)).map fun k => ⟨k, 0, none⟩) ([164#8] : List (BitVec 8)).length 1] : List Value))) ++ r28) 22) :: (((some b19), blk ((u8s ([164#8] : List (BitVec 8))) ++ []) 5) :: B4))))))) (((some b21), blk ((([.slice (((some b19)).map fun k => ⟨k, 0, none⟩) ([164#8] : List (BitVec 8)).length 1] : List Value)) ++ []) 22) :: (((ob55, blk ((u8s x52) ++ r57) 5) :: ((ob41, blk ((u8s x38) ++ r43) 5) :: (B54 ++ (B40 ++ ((ob27, blk ((cs7 ++ (([.slice (((some b19)).map fun k => ⟨k, 0, none⟩) ([164#8] : List (BitVec 8)).length 1] : List Value))) ++ r28) 22) :: (((some b19), blk ((u8s ([164#8] : List (BitVec 8))) ++ []) 5) :: B4)))))) ++ N)) (fun w m => More.of hΦ 1 m rfl) ((ob41).map fun k => ⟨k, 0, none⟩) c42 x38 ((ob55).map fun k => ⟨k, 0, none⟩) c56 x52 x140 v137 v138 hx139) rfl rfl ?_
        rintro _ G141 rfl
        refine OW.mem (M' := (((some b21), blk ((([.slice (((some b19)).map fun k => ⟨k, 0, none⟩) ([164#8] : List (BitVec 8)).length 1] : List Value)) ++ []) 22) :: (((ob55, blk ((u8s x52) ++ r57) 5) :: ((ob41, blk ((u8s x38) ++ r43) 5) :: (B54 ++ (B40 ++ ((ob27, blk ((cs7 ++ (([.slice (((some b19)).map fun k => ⟨k, 0, none⟩) ([164#8] : List (BitVec 8)).length 1] : List Value))) ++ r28) 22) :: (((some b19), blk ((u8s ([164#8] : List (BitVec 8))) ++ []) 5) :: B4)))))) ++ N))) (fun w m => m.appR) ?_
        refine OW.want rfl ?_
        refine OW.rv (RV.not rfl) rfl ?_
        refine OW.rv (RV.pick_f rfl rfl rfl) rfl ?_
        refine OW.rv (RV.move rfl) rfl ?_
        by_cases h143 : x140 = true
        · replace hq66 := if_t hq66 h143
          refine OW.slot (.bool false) (congrArg Value.bool (congrArg (fun b => !b) (h143))) ?_
          refine OW.want rfl ?_
          refine OW.rv (RV.move rfl) rfl ?_
          refine OW.want rfl ?_
          refine OW.rv (RV.move rfl) rfl ?_
          refine OW.want rfl ?_
          obtain ⟨x145, hx144, hq66⟩ := some_bind hq66
          refine OW.callG Try.call32 rfl (waybilllaw07_alike_does w0 (More w0 Φ ((ob55, blk ((u8s x52) ++ r57) 5) :: ((ob41, blk ((u8s x38) ++ r43) 5) :: (B54 ++ (B40 ++ ((ob27, blk ((cs7 ++ (([.slice (((some b19)).map fun k => ⟨k, 0, none⟩) ([164#8] : List (BitVec 8)).length 1] : List Value))) ++ r28) 22) :: (((some b19), blk ((u8s ([164#8] : List (BitVec 8))) ++ []) 5) :: B4))))))) (((some b21), blk ((([.slice (((some b19)).map fun k => ⟨k, 0, none⟩) ([164#8] : List (BitVec 8)).length 1] : List Value)) ++ []) 22) :: (((ob55, blk ((u8s x52) ++ r57) 5) :: ((ob41, blk ((u8s x38) ++ r43) 5) :: (B54 ++ (B40 ++ ((ob27, blk ((cs7 ++ (([.slice (((some b19)).map fun k => ⟨k, 0, none⟩) ([164#8] : List (BitVec 8)).length 1] : List Value))) ++ r28) 22) :: (((some b19), blk ((u8s ([164#8] : List (BitVec 8))) ++ []) 5) :: B4)))))) ++ N)) (fun w m => More.of hΦ 1 m rfl) ((ob27).map fun k => ⟨k, 0, none⟩) c29 cs7 l6 A0_ c0_ cs0_ a0 x145 v34 (h8.mono RmRd.bs) va0 ha0 hx144) rfl rfl ?_
          rintro _ G146 rfl
          refine OW.mem (M' := (((some b21), blk ((([.slice (((some b19)).map fun k => ⟨k, 0, none⟩) ([164#8] : List (BitVec 8)).length 1] : List Value)) ++ []) 22) :: (((ob55, blk ((u8s x52) ++ r57) 5) :: ((ob41, blk ((u8s x38) ++ r43) 5) :: (B54 ++ (B40 ++ ((ob27, blk ((cs7 ++ (([.slice (((some b19)).map fun k => ⟨k, 0, none⟩) ([164#8] : List (BitVec 8)).length 1] : List Value))) ++ r28) 22) :: (((some b19), blk ((u8s ([164#8] : List (BitVec 8))) ++ []) 5) :: B4)))))) ++ N))) (fun w m => m.appR) ?_
          refine OW.want rfl ?_
          refine OW.rv (RV.not rfl) rfl ?_
          refine OW.rv (RV.pick_f rfl rfl rfl) rfl ?_
          refine OW.nil ?_
          exact QW.join ⟨(!x145), ((ob55, blk ((u8s x52) ++ r57) 5) :: ((ob41, blk ((u8s x38) ++ r43) 5) :: (B54 ++ (B40 ++ ((ob27, blk ((cs7 ++ (([.slice (((some b19)).map fun k => ⟨k, 0, none⟩) ([164#8] : List (BitVec 8)).length 1] : List Value))) ++ r28) 22) :: (((some b19), blk ((u8s ([164#8] : List (BitVec 8))) ++ []) 5) :: B4)))))), (Option.some.inj hq66).symm, (fun w m => ((m).tail).tail), rfl, rfl⟩ ⟨rfl, rfl, rfl, trivial⟩ (fun w m => m.pick [] 1 rfl rfl)
        · replace hq66 := if_f hq66 h143
          refine OW.slot (.bool true) (congrArg Value.bool (congrArg (fun b => !b) (Bool.eq_false_iff.2 h143))) ?_
          refine OW.skip rfl rfl rfl ?_
          refine OW.skip rfl rfl rfl ?_
          refine OW.skip rfl rfl rfl ?_
          refine OW.skip rfl rfl rfl ?_
          refine OW.rv (RV.pick_t rfl rfl rfl) rfl ?_
          refine OW.nil ?_
          exact QW.join ⟨true, ((ob55, blk ((u8s x52) ++ r57) 5) :: ((ob41, blk ((u8s x38) ++ r43) 5) :: (B54 ++ (B40 ++ ((ob27, blk ((cs7 ++ (([.slice (((some b19)).map fun k => ⟨k, 0, none⟩) ([164#8] : List (BitVec 8)).length 1] : List Value))) ++ r28) 22) :: (((some b19), blk ((u8s ([164#8] : List (BitVec 8))) ++ []) 5) :: B4)))))), (Option.some.inj hq66).symm, (fun w m => ((m).tail).tail), rfl, rfl⟩ ⟨rfl, rfl, rfl, trivial⟩ (fun w m => m.pick [] 1 rfl rfl)
      · replace hq66 := if_f hq66 h136
        refine OW.slot (.bool true) (congrArg Value.bool (congrArg (fun b => !b) (decide_eq_false h136))) ?_
        refine OW.skip rfl rfl rfl ?_
        refine OW.skip rfl rfl rfl ?_
        refine OW.skip rfl rfl rfl ?_
        refine OW.skip rfl rfl rfl ?_
        refine OW.rv (RV.pick_t rfl rfl rfl) rfl ?_
        refine OW.rv (RV.move rfl) rfl ?_
        refine OW.skip rfl rfl rfl ?_
        refine OW.skip rfl rfl rfl ?_
        refine OW.skip rfl rfl rfl ?_
        refine OW.skip rfl rfl rfl ?_
        refine OW.rv (RV.pick_t rfl rfl rfl) rfl ?_
        refine OW.nil ?_
        exact QW.join ⟨true, (B54 ++ (B40 ++ ((ob27, blk ((cs7 ++ (([.slice (((some b19)).map fun k => ⟨k, 0, none⟩) ([164#8] : List (BitVec 8)).length 1] : List Value))) ++ r28) 22) :: (((some b19), blk ((u8s ([164#8] : List (BitVec 8))) ++ []) 5) :: B4)))), (Option.some.inj hq66).symm, (fun w m => m), rfl, rfl⟩ ⟨rfl, rfl, rfl, trivial⟩ (fun w m => m.pick [] 3 rfl rfl)
  · skip
    refine CW.block ?_
    refine CW.mem (M' := ((none, blk ([] ++ []) 22) :: ([] ++ N))) (fun w m => m.nil_ent _) ?_
    refine CW.loopJ (fun k L' M' => ∃ l150 : List (List (BitVec 8)), ∃ n157 : Nat, ∃ B148 : List Ent, ∃ cs151 : List Value, ∃ ob153 : Option Nat, ∃ c154 : Nat, ∃ r155 : List Value, (waybilllaw07_RlpJoins.l2 a0 k l150 n157) = some q2 ∧ (∀ w, Mem w0 w B148 → Mem w0 w []) ∧ (Reps (RmRd (More w0 Φ B148)) cs151 l150) ∧ (OwnS ob153 l150.length c154 1 cs151 r155) ∧ (n157 ≤ 9223372036854775807) ∧ L' = [(0, .slice A0_ a0.length c0_), (3, sl ob153 0 l150.length c154), (4, .int .i64 ((n157 : Nat) : Int))] ∧ M' = ((ob153, blk (cs151 ++ r155) 22) :: (B148 ++ N))) (k0 := (a0.length - 0 + 2)) ⟨([] : List (List (BitVec 8))), 0, [], [], none, 0, [], hq3, (fun w m => m), Reps.nil, OwnS.nil, (by omega), rfl, rfl⟩ ⟨rfl, rfl, rfl, trivial⟩ (fun w m => m.pick [0] 1 rfl rfl) ?_
    clear hq3
    rintro k159 L162 M163 ⟨l150, n157, B148, cs151, ob153, c154, r155, hl160, hB149, h152, o156, b158, e164, e165⟩
    rw [e164, e165]
    clear e164 e165 L162 M163
    rcases k159 with _ | k159
    · rw [waybilllaw07_RlpJoins.l2] at hl160; cases hl160
    rw [waybilllaw07_RlpJoins.l2] at hl160
    replace va0 := va0.mono (Ψ := More w0 Φ B148) (fun w q => More.mono (fun w m => hB149 w (m)) q)
    replace ha0 := ha0.mono (BsRd.mono (Ψ := More w0 Φ B148) (fun w q => More.mono (fun w m => hB149 w (m)) q))
    have m166 := o156.mx
    refine CW.seq ?_
    refine CW.seq ?_
    refine CW.region ?_
    refine OW.rv (RV.move rfl) rfl ?_
    refine OW.rv (RV.move rfl) rfl ?_
    refine OW.rv (RV.len rfl rfl) rfl ?_
    refine OW.rv (RV.lss rfl rfl) rfl ?_
    refine OW.slot (.bool (decide (n157 < a0.length))) (congrArg Value.bool (decide_eq_decide.2 (by omega))) ?_
    refine OW.nil ?_
    refine QW.then_n ?_
    by_cases h167 : n157 < a0.length
    · replace hl160 := if_t hl160 h167
      refine CW.is_t rfl (decide_eq_true h167) ?_
      refine CW.skip ?_
      refine QW.then_n ?_
      refine CW.seq ?_
      refine CW.block ?_
      refine CW.region ?_
      refine OW.rv (RV.move rfl) rfl ?_
      refine OW.rv (RV.move rfl) rfl ?_
      refine OW.rv (RV.move rfl) rfl ?_
      obtain ⟨x168, hx169, hl160⟩ := some_bind hl160
      have hl170 := lt_of_at hx169
      refine OW.rv (RV.idx_r (n157) rfl rfl rfl rfl rfl (va0.isSome (by decide) hl170) (by omega)) rfl ?_
      obtain ⟨cs171, h172, h173⟩ := ha0.get BsRd.len hx169
      obtain ⟨A174, c175, e177, v176⟩ := h172
      subst e177
      have m178 := v176.mx
      refine OW.rv (RV.load_at rfl rfl rfl (fun w m => by have := va0.load (More.of hΦ 1 m rfl) h173 0 _ rfl; simpa [Addr.add] using this)) rfl ?_
      obtain ⟨x180, hx179, hl160⟩ := some_bind hl160
      refine OW.callG Try.call15 rfl (waybilllaw07_roomy_does w0 (More w0 Φ B148) ((ob153, blk (cs151 ++ r155) 22) :: (B148 ++ N)) (fun w m => More.of hΦ 1 m rfl) A174 c175 x168 x180 v176 hx179) rfl rfl ?_
      rintro L185 M186 ⟨B181, A182, v183, e187, e188⟩
      rw [e187, e188]
      clear e187 e188 L185 M186
      refine OW.mem (M' := ((ob153, blk (cs151 ++ r155) 22) :: ((B181 ++ B148) ++ N))) (fun w m => by have h := Mem.sinkAt (A := B181) m 0 1 rfl rfl; exact h) ?_
      replace va0 := va0.mono (Ψ := More w0 Φ (B181 ++ B148)) (fun w q => More.mono (fun w m => (m).appR) q)
      replace ha0 := ha0.mono (BsRd.mono (Ψ := More w0 Φ (B181 ++ B148)) (fun w q => More.mono (fun w m => (m).appR) q))
      replace h152 := h152.mono (RmRd.mono (Ψ := More w0 Φ (B181 ++ B148)) (fun w q => More.mono (fun w m => (m).appR) q))
      replace v176 := v176.mono (Ψ := More w0 Φ (B181 ++ B148)) (fun w q => More.mono (fun w m => (m).appR) q)
      replace v183 := v183.mono (Ψ := (More w0 Φ (B181 ++ B148))) (fun w q => More.flat q)
      have v184 := v183.view
      have m189 := v184.mx
      refine OW.ofN (NV.bs1 rfl rfl rfl rfl rfl rfl) rfl (fun b190 => ?_)
      have h193 : Reps (RmRd (More w0 Φ (B181 ++ B148))) (([.slice A182 x180.length (x180.length + 9)] : List Value)) [x180] := Reps.one (RmRd.mk v183)
      refine OW.mem (M' := (((some b190), blk ((([.slice A182 x180.length (x180.length + 9)] : List Value)) ++ []) 22) :: (ob153, blk (cs151 ++ r155) 22) :: ((B181 ++ B148) ++ N))) (fun w m => m) ?_
      have o191 : OwnS (some b190) ([x180] : List (List (BitVec 8))).length 1 1 (([.slice A182 x180.length (x180.length + 9)] : List Value)) [] := ⟨by simp [RmRd], by simp [RmRd], (fun h => nomatch h), by simp⟩
      refine OW.slot (sl (some b190) 0 ([x180] : List (List (BitVec 8))).length 1) (rfl) ?_
      refine OW.rot1 ?_
      obtain ⟨g194, hl160⟩ := some_if hl160
      have h199 := h152.app h193
      refine OW.appendOwn (s := 1) rfl rfl rfl rfl rfl rfl o156 (fun w m => m.rd0 (List.Mem.tail _ (List.Mem.head _)) (fun e => o191.nilc (by decide) e)) o191.n (h193.cell1 RmRd.one) (o191.zeroO (by decide)) (by decide) (by decide) (by first | omega | (simp only [i22, List.length_nil]; omega)) rfl rfl ((l150 ++ ([x180] : List (List (BitVec 8)))).length) (cs151 ++ (([.slice A182 x180.length (x180.length + 9)] : List Value))) (List.length_append ..).symm rfl (fun ob195 r196 c197 o198 => ?_)
      have m200 := o198.mx
      refine OW.rv (RV.assign rfl) rfl ?_
      refine OW.nil ?_
      refine QW.block_n ?_
      refine QW.then_n ?_
      refine CW.region ?_
      refine OW.rv (RV.move rfl) rfl ?_
      refine OW.rv (RV.add rfl rfl (by omega)) rfl ?_
      refine OW.slot (.int .i64 (((n157 + 1) : Nat) : Int)) (by first | rfl | (congr 1) | (congr 1; omega)) ?_
      refine OW.rv (RV.assign rfl) rfl ?_
      refine OW.nil ?_
      exact QW.againJ (k' := k159) (Nat.lt_succ_self _) ⟨(l150 ++ ([x180] : List (List (BitVec 8)))), (n157 + 1), (B181 ++ B148), (cs151 ++ (([.slice A182 x180.length (x180.length + 9)] : List Value))), ob195, c197, r196, hl160, (fun w m => hB149 w ((m).appR)), h199, o198, (by omega), rfl, rfl⟩ ⟨rfl, rfl, rfl, trivial⟩ (fun w m => m.pick [0] 2 rfl rfl)
    · replace hl160 := if_f hl160 h167
      refine CW.is_f rfl (decide_eq_false h167) ?_
      refine CW.exit ?_
      refine QW.then_x ?_
      refine QW.then_x ?_
      refine QW.block_xe ?_
      exact QW.join ⟨l150, B148, cs151, ob153, c154, r155, (Option.some.inj hl160).symm, (fun w m => hB149 w (m)), h152, o156, rfl, rfl⟩ ⟨rfl, rfl, trivial⟩ (fun w m => m.pick [0] 1 rfl rfl)
end Go.Fw.Try
