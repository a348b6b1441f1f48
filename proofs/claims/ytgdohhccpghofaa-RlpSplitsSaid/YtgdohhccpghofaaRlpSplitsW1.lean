/- Part of a proof over Ytgdohhccpghofaa: rules and contracts that the law's text uses. No condition. -/
import Derived.Test.YtgdohhccpghofaaTy
import Derived.Test.YtgdohhccpghofaaExt
import Derived.Test.YtgdohhccpghofaaRlpRoom
import Derived.Test.YtgdohhccpghofaaRlpP1
import Derived.Test.YtgdohhccpghofaaRlpP2
import Derived.Test.YtgdohhccpghofaaRlpP4
import Derived.Test.YtgdohhccpghofaaRlpP5
namespace Go.Fw.Try
open Go Go.Proofs Go.Fw
set_option maxRecDepth 100000
set_option linter.unusedVariables false
set_option linter.unusedSimpArgs false
set_option maxHeartbeats 1000000
theorem u256_From_does (w0 : World) (Φ : Ctx) (N : List Ent) (hΦ : ∀ w, Mem w0 w N → Φ w) (a0 : BitVec 64) (res0 : Vector (BitVec 64) 4) (hf : u256_From a0 = some res0) : DoesG Try.prog 66 [U64 a0] w0 [] N (fun v G => v = .agg (u64s res0.toList).toArray) := by
  unfold u256_From at hf
  refine DoesG.enter Try.func66 rfl Try.ntmps66 rfl (M := (([] ++ N))) rfl ?_
  refine CW.seq ?_
  refine CW.region ?_
  refine OW.alloc (l := (u64s (Vector.replicate 4 0#64).toList)) rfl (by rw [Vector.toList_replicate, ← u64s_rep]; rfl) rfl (fun b1 => ?_)
  refine OW.nil ?_
  refine QW.then_n ?_
  refine CW.seq ?_
  refine CW.region ?_
  refine OW.rv (RV.move rfl) rfl ?_
  refine OW.rv (RV.buildA (l := (u64s (Vector.replicate 4 0#64).toList)) (cs := (u64s ((Vector.replicate 4 0#64).setIfInBounds 0 a0).toList)) rfl rfl rfl (by rw [Vector.toList_replicate, ← u64s_rep]; rfl) rfl rfl (by simp only [setL, List.foldl, ← vset, Vector.toList_replicate, ← u64s_set'] <;> rfl)) rfl ?_
  refine OW.sv (SV.storeW rfl rfl rfl (u64s_one _) rfl ((u64s_length _).trans Vector.length_toList) ((u64s_length _).trans Vector.length_toList)) ?_
  refine OW.nil ?_
  refine QW.then_n ?_
  refine CW.ret ?_
  have e0 := Option.some.inj hf
  subst e0
  refine QW.retG (rs := [.cell 2 25]) ([.agg (u64s ((Vector.replicate 4 0#64).setIfInBounds 0 a0).toList).toArray]) ((some b1, blk (u64s ((Vector.replicate 4 0#64).setIfInBounds 0 a0).toList) 25) :: []) rfl ?_ rfl ?_ ?_ _ (.inl rfl)
  · exact ⟨⟨_, _, _, _, rfl, (List.Mem.head _), rfl, rfl, (congrArg some ((u64s_length _).trans Vector.length_toList).symm), rfl⟩, trivial⟩
  · exact rfl
  · exact (fun w m => m)
theorem waybillref01_From_does (w0 : World) (Φ : Ctx) (N : List Ent) (hΦ : ∀ w, Mem w0 w N → Φ w) (a0 : BitVec 64) (res0 : Vector (BitVec 64) 4) (hf : waybillref01_From a0 = some res0) : DoesG Try.prog 67 [U64 a0] w0 [] N (fun v G => v = .agg (u64s res0.toList).toArray) := by
  unfold waybillref01_From at hf
  refine DoesG.enter Try.func67 rfl Try.ntmps67 rfl (M := (([] ++ N))) rfl ?_
  refine CW.seq ?_
  refine CW.region ?_
  refine OW.alloc (l := (u64s (Vector.replicate 4 0#64).toList)) rfl (by rw [Vector.toList_replicate, ← u64s_rep]; rfl) rfl (fun b1 => ?_)
  refine OW.nil ?_
  refine QW.then_n ?_
  refine CW.seq ?_
  refine CW.region ?_
  refine OW.rv (RV.move rfl) rfl ?_
  refine OW.rv (RV.buildA (l := (u64s (Vector.replicate 4 0#64).toList)) (cs := (u64s (((((Vector.replicate 4 0#64).setIfInBounds 0 a0).setIfInBounds 1 (0#64)).setIfInBounds 2 (0#64)).setIfInBounds 3 (0#64)).toList)) rfl rfl rfl (by rw [Vector.toList_replicate, ← u64s_rep]; rfl) rfl rfl (by simp only [setL, List.foldl, ← vset, Vector.toList_replicate, ← u64s_set'] <;> rfl)) rfl ?_
  refine OW.sv (SV.storeW rfl rfl rfl (u64s_one _) rfl ((u64s_length _).trans Vector.length_toList) ((u64s_length _).trans Vector.length_toList)) ?_
  refine OW.nil ?_
  refine QW.then_n ?_
  refine CW.ret ?_
  have e0 := Option.some.inj hf
  subst e0
  refine QW.retG (rs := [.cell 2 25]) ([.agg (u64s (((((Vector.replicate 4 0#64).setIfInBounds 0 a0).setIfInBounds 1 (0#64)).setIfInBounds 2 (0#64)).setIfInBounds 3 (0#64)).toList).toArray]) ((some b1, blk (u64s (((((Vector.replicate 4 0#64).setIfInBounds 0 a0).setIfInBounds 1 (0#64)).setIfInBounds 2 (0#64)).setIfInBounds 3 (0#64)).toList) 25) :: []) rfl ?_ rfl ?_ ?_ _ (.inl rfl)
  · exact ⟨⟨_, _, _, _, rfl, (List.Mem.head _), rfl, rfl, (congrArg some ((u64s_length _).trans Vector.length_toList).symm), rfl⟩, trivial⟩
  · exact rfl
  · exact (fun w m => m)
theorem rlp_clone_does (w0 : World) (Φ : Ctx) (N : List Ent) (hΦ : ∀ w, Mem w0 w N → Φ w) (A0_ : Option Addr) (c0_ : Nat) (a0 : List (BitVec 8)) (res0 : List (BitVec 8)) (va0 : View Φ A0_ a0.length c0_ 1 (u8s a0)) (hf : rlp_clone a0 = some res0) : DoesG Try.prog 63 [.slice A0_ a0.length c0_] w0 [] N (fun v G => ∃ B : List Ent, ∃ or0 : Option Nat, ∃ kr0 : Nat, ∃ rr0 : List Value, (OwnS or0 res0.length kr0 1 (u8s res0) rr0) ∧ v = sl or0 0 res0.length kr0 ∧ G = (or0, blk ((u8s res0) ++ rr0) 5) :: B) := by
  unfold rlp_clone at hf
  replace va0 := va0.mono (Ψ := More w0 Φ []) (fun w q => q.1)
  have m1 := va0.mx
  refine DoesG.enter Try.func63 rfl Try.ntmps63 rfl (M := (([] ++ N))) rfl ?_
  refine CW.seq ?_
  refine CW.region ?_
  refine OW.rv (RV.assign rfl) rfl ?_
  refine OW.nil ?_
  refine QW.then_n ?_
  refine CW.seq ?_
  refine CW.region ?_
  refine OW.rv (RV.move rfl) rfl ?_
  refine OW.mem (M' := ((none, blk ((u8s ([] : List (BitVec 8))) ++ []) 5) :: ([] ++ N))) (fun w m => m.nil_ent _) ?_
  refine OW.appendOwn (s := 1) rfl rfl rfl rfl rfl rfl OwnS.nil (fun w m => va0.rd w (More.of hΦ 1 m rfl)) va0.n (u8s_one _) (va0.zero (by decide)) (by decide) (by decide) (by first | omega | (simp only [i5, List.length_nil]; omega)) rfl rfl (a0.length) (u8s a0) (Nat.zero_add _) rfl (fun ob2 r3 c4 o5 => ?_)
  have m6 := o5.mx
  refine OW.rv (RV.assign rfl) rfl ?_
  refine OW.nil ?_
  refine QW.then_n ?_
  refine CW.ret ?_
  have e0 := Option.some.inj hf
  subst e0
  refine QW.retG (rs := [.tmp 2]) ([sl ob2 0 a0.length c4]) ((ob2, blk ((u8s a0) ++ r3) 5) :: []) rfl ?_ rfl ?_ ?_ _ (.inl rfl)
  · exact ⟨rfl, trivial⟩
  · exact ⟨[], ob2, c4, r3, o5, rfl, rfl⟩
  · exact (fun w m => m.pick [0] 1 rfl rfl)
theorem waybillref07_bytes_does (w0 : World) (Φ : Ctx) (N : List Ent) (hΦ : ∀ w, Mem w0 w N → Φ w) (A0_ : Option Addr) (c0_ : Nat) (a0 : List (BitVec 8)) (res0 : List (BitVec 8)) (va0 : View Φ A0_ a0.length c0_ 1 (u8s a0)) (hf : waybillref07_bytes a0 = some res0) : DoesG Try.prog 62 [.slice A0_ a0.length c0_] w0 [] N (fun v G => ∃ B : List Ent, ∃ or0 : Option Nat, ∃ kr0 : Nat, ∃ rr0 : List Value, (OwnS or0 res0.length kr0 1 (u8s res0) rr0) ∧ v = sl or0 0 res0.length kr0 ∧ G = (or0, blk ((u8s res0) ++ rr0) 5) :: B) := by
  unfold waybillref07_bytes at hf
  replace va0 := va0.mono (Ψ := More w0 Φ []) (fun w q => q.1)
  have m1 := va0.mx
  refine DoesG.enter Try.func62 rfl Try.ntmps62 rfl (M := (([] ++ N))) rfl ?_
  refine CW.seq ?_
  refine CW.region ?_
  refine OW.rv (RV.assign rfl) rfl ?_
  refine OW.nil ?_
  refine QW.then_n ?_
  refine CW.seq ?_
  refine CW.region ?_
  refine OW.rv (RV.assign rfl) rfl ?_
  refine OW.nil ?_
  refine QW.then_n ?_
  refine CW.seq ?_
  refine CW.region ?_
  refine OW.rv (RV.move rfl) rfl ?_
  refine OW.rv (RV.move rfl) rfl ?_
  refine OW.mem (M' := ((none, blk ((u8s ([] : List (BitVec 8))) ++ []) 5) :: ([] ++ N))) (fun w m => m.nil_ent _) ?_
  refine OW.appendOwn (s := 1) rfl rfl rfl rfl rfl rfl OwnS.nil (fun w m => va0.rd w (More.of hΦ 1 m rfl)) va0.n (u8s_one _) (va0.zero (by decide)) (by decide) (by decide) (by first | omega | (simp only [i5, List.length_nil]; omega)) rfl rfl (a0.length) (u8s a0) (Nat.zero_add _) rfl (fun ob2 r3 c4 o5 => ?_)
  have m6 := o5.mx
  refine OW.rv (RV.assign rfl) rfl ?_
  refine OW.nil ?_
  refine QW.then_n ?_
  refine CW.ret ?_
  have e0 := Option.some.inj hf
  subst e0
  refine QW.retG (rs := [.tmp 2]) ([sl ob2 0 a0.length c4]) ((ob2, blk ((u8s a0) ++ r3) 5) :: []) rfl ?_ rfl ?_ ?_ _ (.inl rfl)
  · exact ⟨rfl, trivial⟩
  · exact ⟨[], ob2, c4, r3, o5, rfl, rfl⟩
  · exact (fun w m => m.pick [0] 1 rfl rfl)
theorem waybilllaw07_num_does (w0 : World) (Φ : Ctx) (N : List Ent) (hΦ : ∀ w, Mem w0 w N → Φ w) (a0 : Int) (res0 : Int) (ba0 : -9223372036854775808 ≤ a0 ∧ a0 ≤ 9223372036854775807) (hf : waybilllaw07_num a0 = some res0) : DoesG Try.prog 31 [.int .i64 a0] w0 [] N (fun v G => (-9223372036854775808 ≤ res0 ∧ res0 ≤ 9223372036854775807) ∧ v = .int .i64 res0) := by
  unfold waybilllaw07_num at hf
  refine DoesG.enter Try.func31 rfl Try.ntmps31 rfl (M := (([] ++ N))) rfl ?_
  refine CW.seq ?_
  refine CW.region ?_
  refine OW.rv (RV.assign rfl) rfl ?_
  refine OW.nil ?_
  refine QW.then_n ?_
  refine CW.seq ?_
  refine CW.region ?_
  refine OW.rv (RV.move rfl) rfl ?_
  refine OW.rv (RV.assign rfl) rfl ?_
  refine OW.nil ?_
  refine QW.then_n ?_
  refine CW.ret ?_
  have e0 := Option.some.inj hf
  subst e0
  refine QW.retG (rs := [.tmp 2]) ([.int .i64 a0]) ([]) rfl ?_ rfl ?_ ?_ _ (.inl rfl)
  · exact ⟨rfl, trivial⟩
  · exact ⟨(by omega), rfl⟩
  · exact (fun w m => m)
theorem u256_Sub_does (w0 : World) (Φ : Ctx) (N : List Ent) (hΦ : ∀ w, Mem w0 w N → Φ w) (a0 : Vector (BitVec 64) 4) (a1 : Vector (BitVec 64) 4) (res0 : Vector (BitVec 64) 4) (res1 : BitVec 64) (hf : u256_Sub a0 a1 = some (res0, res1)) : DoesG Try.prog 96 [.agg (u64s a0.toList).toArray, .agg (u64s a1.toList).toArray] w0 [] N (fun v G => v = .tuple #[.agg (u64s res0.toList).toArray, U64 res1]) := by
  unfold u256_Sub at hf
  refine DoesG.enter Try.func96 rfl Try.ntmps96 rfl (M := (([] ++ N))) rfl ?_
  refine CW.seq ?_
  refine CW.region ?_
  refine OW.boxA rfl rfl (fun b1 => ?_)
  refine OW.boxA rfl rfl (fun b2 => ?_)
  refine OW.alloc (l := (u64s (Vector.replicate 4 0#64).toList)) rfl (by rw [Vector.toList_replicate, ← u64s_rep]; rfl) rfl (fun b3 => ?_)
  refine OW.rv (RV.assign rfl) rfl ?_
  refine OW.nil ?_
  refine QW.then_n ?_
  refine CW.seq ?_
  refine CW.region ?_
  refine OW.alloc (l := (u64s (Vector.replicate 4 0#64).toList)) rfl (by rw [Vector.toList_replicate, ← u64s_rep]; rfl) rfl (fun b4 => ?_)
  refine OW.nil ?_
  refine QW.then_n ?_
  refine CW.seq ?_
  refine CW.region ?_
  refine OW.rv (RV.assign rfl) rfl ?_
  refine OW.nil ?_
  refine QW.then_n ?_
  refine CW.seq ?_
  refine CW.seq ?_
  refine CW.region ?_
  refine OW.rv (RV.move rfl) rfl ?_
  refine OW.nil ?_
  refine QW.then_n ?_
  obtain ⟨q5, hq6, hf⟩ := some_bind hf
  refine CW.cutJ (fun L' M' => ∃ w7 : BitVec 64, ∃ w8 : Vector (BitVec 64) 4, q5 = (w7, w8) ∧ L' = [(4, ptr (some b3) 0), (6, ptr (some b4) 0), (7, U64 w7)] ∧ M' = ((some b4, blk (u64s w8.toList) 25) :: (some b3, blk (u64s (Vector.replicate 4 0#64).toList) 25) :: ([] ++ N))) ?_ ?_
  · rintro L10 M11 ⟨w7, w8, e9, e12, e13⟩
    rw [e12, e13]
    clear e12 e13 L10 M11
    clear hq6
    rw [e9] at hf
    clear e9
    try dsimp only at hf
    refine QW.then_n ?_
    refine CW.seq ?_
    refine CW.region ?_
    refine OW.rv (RV.loadW rfl (List.Mem.head _) rfl rfl rfl rfl ((u64s_length _).trans Vector.length_toList)) rfl ?_
    refine OW.rv (RV.move rfl) rfl ?_
    refine OW.rot1 ?_
    refine OW.sv (SV.storeW rfl rfl rfl (u64s_one _) rfl ((u64s_length _).trans Vector.length_toList) ((u64s_length _).trans Vector.length_toList)) ?_
    refine OW.rv (RV.assign rfl) rfl ?_
    refine OW.nil ?_
    refine QW.then_n ?_
    refine CW.ret ?_
    have er0 := Option.some.inj hf
    obtain ⟨e0, er1⟩ := Prod.mk.inj er0
    clear er0
    subst e0
    subst er1
    refine QW.retG (rs := [.cell 4 25, .tmp 5]) ([.agg (u64s w8.toList).toArray, U64 w7]) ((some b3, blk (u64s w8.toList) 25) :: (some b4, blk (u64s w8.toList) 25) :: []) rfl ?_ rfl ?_ ?_ _ (.inl rfl)
    · exact ⟨⟨_, _, _, _, rfl, (List.Mem.head _), rfl, rfl, (congrArg some ((u64s_length _).trans Vector.length_toList).symm), rfl⟩, rfl, trivial⟩
    · exact rfl
    · exact (fun w m => m)
  · skip
    refine CW.block ?_
    refine CW.loopJ (fun k L' M' => ∃ w14 : BitVec 64, ∃ n15 : Nat, ∃ w17 : Vector (BitVec 64) 4, (u256_Sub.l1 a0 a1 k w14 n15 w17) = some q5 ∧ (n15 ≤ 9223372036854775807) ∧ L' = [(2, ptr (some b1) 0), (3, ptr (some b2) 0), (4, ptr (some b3) 0), (6, ptr (some b4) 0), (7, U64 w14), (9, .int .i64 ((n15 : Nat) : Int))] ∧ M' = ((some b4, blk (u64s w17.toList) 25) :: (some b3, blk (u64s (Vector.replicate 4 0#64).toList) 25) :: (some b2, blk (u64s a1.toList) 25) :: (some b1, blk (u64s a0.toList) 25) :: ([] ++ N))) (k0 := (4 - 0 + 2)) ⟨0#64, 0, (Vector.replicate 4 0#64), hq6, (by omega), rfl, rfl⟩ ⟨rfl, rfl, rfl, rfl, rfl, rfl, trivial⟩ (fun w m => m.pick [0, 1, 2, 3] 4 rfl rfl) ?_
    clear hq6
    rintro k18 L21 M22 ⟨w14, n15, w17, hl19, b16, e23, e24⟩
    rw [e23, e24]
    clear e23 e24 L21 M22
    rcases k18 with _ | k18
    · rw [u256_Sub.l1] at hl19; cases hl19
    rw [u256_Sub.l1] at hl19
    refine CW.seq ?_
    refine CW.region ?_
    refine OW.rv (RV.lss rfl rfl) rfl ?_
    refine OW.slot (.bool (decide (n15 < 4))) (congrArg Value.bool (decide_eq_decide.2 (by omega))) ?_
    refine OW.nil ?_
    refine QW.then_n ?_
    refine CW.seq ?_
    by_cases h25 : n15 < 4
    · replace hl19 := if_t hl19 h25
      refine CW.is_t rfl (decide_eq_true h25) ?_
      refine CW.skip ?_
      refine QW.then_n ?_
      refine CW.seq ?_
      refine CW.block ?_
      refine CW.seq ?_
      refine CW.region ?_
      refine OW.rv (RV.move rfl) rfl ?_
      refine OW.rv (RV.assign rfl) rfl ?_
      refine OW.nil ?_
      refine QW.then_n ?_
      refine CW.drawsX ((some b3, blk (u64s (Vector.replicate 4 0#64).toList) 25) :: (some b2, blk (u64s a1.toList) 25) :: (some b1, blk (u64s a0.toList) 25) :: ([] ++ N)) [13] (fun w m => m.pick [1, 2, 3] 4 rfl rfl) mixed (by kernel_rfl) ?_
      refine XW.rs 0 rfl (by kernel_rfl) rfl (RV.move rfl) rfl ?_
      refine XW.rs 1 rfl (by kernel_rfl) rfl (RV.move rfl) rfl ?_
      refine XW.rs 2 rfl (by kernel_rfl) rfl (RV.idx_a (n15) rfl rfl rfl rfl rfl (by omega)) rfl ?_
      obtain ⟨x26, hx27, hl19⟩ := some_bind hl19
      refine XW.rs 3 rfl (by kernel_rfl) rfl (RV.load rfl (List.Mem.tail _ (List.Mem.tail _ (List.Mem.head _))) rfl rfl rfl (by rw [Nat.zero_add]; exact u64s_at (vat hx27))) rfl ?_
      refine XW.rs 4 rfl (by kernel_rfl) rfl (RV.move rfl) rfl ?_
      refine XW.rs 5 rfl (by kernel_rfl) rfl (RV.idx_a (n15) rfl rfl rfl rfl rfl (by omega)) rfl ?_
      obtain ⟨x28, hx29, hl19⟩ := some_bind hl19
      refine XW.rs 6 rfl (by kernel_rfl) rfl (RV.load rfl (List.Mem.tail _ (List.Mem.head _)) rfl rfl rfl (by rw [Nat.zero_add]; exact u64s_at (vat hx29))) rfl ?_
      refine XW.rs 7 rfl (by kernel_rfl) rfl (RV.move rfl) rfl ?_
      obtain ⟨⟨w30, w31⟩, hx32, hl19⟩ := some_bind hl19
      try dsimp only at hl19
      refine XW.rs 8 rfl (by kernel_rfl) rfl (RV.sub64c Try.ext97 rfl hx32) rfl ?_
      refine XW.rs 9 rfl (by kernel_rfl) rfl (RV.move rfl) rfl ?_
      refine XW.rs 10 rfl (by kernel_rfl) rfl (RV.extract rfl rfl) rfl ?_
      refine XW.slot (U64 w30) (rfl) ?_
      refine XW.rs 11 rfl (by kernel_rfl) rfl (RV.extract rfl rfl) rfl ?_
      refine XW.slot (U64 w31) (rfl) ?_
      refine XW.rs 12 rfl (by kernel_rfl) rfl (RV.idx_a (n15) rfl rfl rfl rfl rfl (by omega)) rfl ?_
      refine XW.sv 13 rfl (by kernel_rfl) (SV.store rfl rfl rfl rfl rfl (by rw [u64s_length, Vector.length_toList]; omega)) (fun w m => m.pick [1, 2, 3] 4 rfl rfl) ?_
      refine XW.cells (u64s (w17.setIfInBounds n15 w30).toList) (by rw [Nat.zero_add, u64s_set', vset]) ?_
      refine XW.rs 14 rfl (by kernel_rfl) rfl (RV.assign rfl) rfl ?_
      refine XW.nil (by kernel_rfl) ?_
      refine QW.block_n ?_
      refine QW.then_n ?_
      refine CW.region ?_
      refine OW.rv (RV.add rfl rfl (by omega)) rfl ?_
      refine OW.slot (.int .i64 (((n15 + 1) : Nat) : Int)) (by first | rfl | (congr 1) | (congr 1; omega)) ?_
      refine OW.rv (RV.move rfl) rfl ?_
      refine OW.nil ?_
      exact QW.againJ (k' := k18) (Nat.lt_succ_self _) ⟨w31, (n15 + 1), (w17.setIfInBounds n15 w30), hl19, (by omega), rfl, rfl⟩ ⟨rfl, rfl, rfl, rfl, rfl, rfl, trivial⟩ (fun w m => m.pick [0, 1, 2, 3] 4 rfl rfl)
    · replace hl19 := if_f hl19 h25
      refine CW.is_f rfl (decide_eq_false h25) ?_
      refine CW.exit ?_
      refine QW.then_x ?_
      refine QW.then_x ?_
      refine QW.block_xe ?_
      exact QW.join ⟨w14, w17, (Option.some.inj hl19).symm, rfl, rfl⟩ ⟨rfl, rfl, rfl, trivial⟩ (fun w m => m.pick [0, 1] 4 rfl rfl)
theorem u256_Cmp_does (w0 : World) (Φ : Ctx) (N : List Ent) (hΦ : ∀ w, Mem w0 w N → Φ w) (a0 : Vector (BitVec 64) 4) (a1 : Vector (BitVec 64) 4) (res0 : Int) (hf : u256_Cmp a0 a1 = some res0) : DoesG Try.prog 93 [.agg (u64s a0.toList).toArray, .agg (u64s a1.toList).toArray] w0 [] N (fun v G => (-9223372036854775808 ≤ res0 ∧ res0 ≤ 9223372036854775807) ∧ v = .int .i64 res0) := by
  unfold u256_Cmp at hf
  refine DoesG.enter Try.func93 rfl Try.ntmps93 rfl (M := (([] ++ N))) rfl ?_
  refine CW.seq ?_
  refine CW.region ?_
  refine OW.boxA rfl rfl (fun b1 => ?_)
  refine OW.boxA rfl rfl (fun b2 => ?_)
  refine OW.rv (RV.assign rfl) rfl ?_
  refine OW.nil ?_
  refine QW.then_n ?_
  refine CW.seq ?_
  refine CW.seq ?_
  refine CW.region ?_
  refine OW.rv (RV.loadW rfl (List.Mem.tail _ (List.Mem.head _)) rfl rfl rfl rfl ((u64s_length _).trans Vector.length_toList)) rfl ?_
  refine OW.rv (RV.loadW rfl (List.Mem.head _) rfl rfl rfl rfl ((u64s_length _).trans Vector.length_toList)) rfl ?_
  refine OW.rv (RV.eqA64 rfl rfl rfl rfl rfl rfl (Vector.length_toList) (Vector.length_toList)) rfl ?_
  refine OW.slot (.bool (decide (a0 = a1))) (congrArg Value.bool (decide_eq_decide.2 Vector.toList_inj)) ?_
  refine OW.nil ?_
  refine QW.then_n ?_
  by_cases h3 : a0 = a1
  · replace hf := if_t hf h3
    refine CW.is_t rfl (decide_eq_true h3) ?_
    refine CW.seq ?_
    refine CW.region ?_
    refine OW.rv (RV.assign rfl) rfl ?_
    refine OW.nil ?_
    refine QW.then_n ?_
    refine CW.ret ?_
    refine QW.then_r ?_
    have e0 := Option.some.inj hf
    subst e0
    refine QW.retG (rs := [.tmp 4]) ([.int .i64 (0 : Int)]) ((some b2, blk (u64s a1.toList) 25) :: (some b1, blk (u64s a0.toList) 25) :: []) rfl ?_ rfl ?_ ?_ _ (.inl rfl)
    · exact ⟨rfl, trivial⟩
    · exact ⟨(by omega), rfl⟩
    · exact (fun w m => m)
  · replace hf := if_f hf h3
    refine CW.is_f rfl (decide_eq_false h3) ?_
    refine CW.skip ?_
    refine QW.then_n ?_
    refine CW.seq ?_
    refine CW.seq ?_
    refine CW.region ?_
    refine OW.rv (RV.loadW rfl (List.Mem.tail _ (List.Mem.head _)) rfl rfl rfl rfl ((u64s_length _).trans Vector.length_toList)) rfl ?_
    refine OW.rv (RV.loadW rfl (List.Mem.head _) rfl rfl rfl rfl ((u64s_length _).trans Vector.length_toList)) rfl ?_
    obtain ⟨⟨x5, x6⟩, hx4, hf⟩ := some_bind hf
    try dsimp only at hf
    refine OW.callG Try.call96 rfl (u256_Sub_does w0 (More w0 Φ []) ((some b2, blk (u64s a1.toList) 25) :: (some b1, blk (u64s a0.toList) 25) :: ([] ++ N)) (fun w m => More.of hΦ 2 m rfl) a0 a1 x5 x6 hx4) rfl rfl ?_
    rintro _ G7 rfl
    refine OW.mem (M' := ((some b2, blk (u64s a1.toList) 25) :: (some b1, blk (u64s a0.toList) 25) :: ([] ++ N))) (fun w m => m.appR) ?_
    refine OW.rv (RV.move rfl) rfl ?_
    refine OW.rv (RV.extract rfl rfl) rfl ?_
    refine OW.slot (.agg (u64s x5.toList).toArray) (rfl) ?_
    refine OW.rv (RV.extract rfl rfl) rfl ?_
    refine OW.slot (U64 x6) (rfl) ?_
    refine OW.alloc (l := (u64s (Vector.replicate 4 0#64).toList)) rfl (by rw [Vector.toList_replicate, ← u64s_rep]; rfl) rfl (fun b9 => ?_)
    refine OW.sv (SV.storeW rfl rfl rfl (u64s_one _) rfl ((u64s_length _).trans Vector.length_toList) ((u64s_length _).trans Vector.length_toList)) ?_
    refine OW.rv (RV.assign rfl) rfl ?_
    refine OW.nil ?_
    refine QW.then_n ?_
    refine CW.seq ?_
    refine CW.region ?_
    refine OW.rv (RV.move rfl) rfl ?_
    refine OW.rv (RV.eql64 rfl (by first | rfl | exact lit64 _ rfl) rfl (by first | rfl | exact lit64 _ rfl)) rfl ?_
    refine OW.nil ?_
    refine QW.then_n ?_
    by_cases h10 : x6 = 1#64
    · replace hf := if_t hf h10
      refine CW.is_t rfl (decide_eq_true h10) ?_
      refine CW.seq ?_
      refine CW.region ?_
      refine OW.rv (RV.assign rfl) rfl ?_
      refine OW.nil ?_
      refine QW.then_n ?_
      refine CW.ret ?_
      refine QW.then_r ?_
      have e0 := Option.some.inj hf
      subst e0
      refine QW.retG (rs := [.tmp 4]) ([.int .i64 (-1 : Int)]) ((some b9, blk (u64s x5.toList) 25) :: (some b2, blk (u64s a1.toList) 25) :: (some b1, blk (u64s a0.toList) 25) :: []) rfl ?_ rfl ?_ ?_ _ (.inl rfl)
      · exact ⟨rfl, trivial⟩
      · exact ⟨(by omega), rfl⟩
      · exact (fun w m => m)
    · replace hf := if_f hf h10
      refine CW.is_f rfl (decide_eq_false h10) ?_
      refine CW.skip ?_
      refine QW.then_n ?_
      refine CW.seq ?_
      refine CW.region ?_
      refine OW.rv (RV.assign rfl) rfl ?_
      refine OW.nil ?_
      refine QW.then_n ?_
      refine CW.ret ?_
      have e0 := Option.some.inj hf
      subst e0
      refine QW.retG (rs := [.tmp 4]) ([.int .i64 (1 : Int)]) ((some b9, blk (u64s x5.toList) 25) :: (some b2, blk (u64s a1.toList) 25) :: (some b1, blk (u64s a0.toList) 25) :: []) rfl ?_ rfl ?_ ?_ _ (.inl rfl)
      · exact ⟨rfl, trivial⟩
      · exact ⟨(by omega), rfl⟩
      · exact (fun w m => m)
theorem waybillref01_Cmp_does (w0 : World) (Φ : Ctx) (N : List Ent) (hΦ : ∀ w, Mem w0 w N → Φ w) (a0 : Vector (BitVec 64) 4) (a1 : Vector (BitVec 64) 4) (res0 : Int) (hf : waybillref01_Cmp a0 a1 = some res0) : DoesG Try.prog 94 [.agg (u64s a0.toList).toArray, .agg (u64s a1.toList).toArray] w0 [] N (fun v G => (-9223372036854775808 ≤ res0 ∧ res0 ≤ 9223372036854775807) ∧ v = .int .i64 res0) := by
  unfold waybillref01_Cmp at hf
  refine DoesG.enter Try.func94 rfl Try.ntmps94 rfl (M := (([] ++ N))) rfl ?_
  refine CW.seq ?_
  refine CW.region ?_
  refine OW.boxA rfl rfl (fun b1 => ?_)
  refine OW.boxA rfl rfl (fun b2 => ?_)
  refine OW.rv (RV.assign rfl) rfl ?_
  refine OW.nil ?_
  refine QW.then_n ?_
  refine CW.seq ?_
  refine CW.seq ?_
  refine CW.region ?_
  refine OW.rv (RV.assign rfl) rfl ?_
  refine OW.nil ?_
  refine QW.then_n ?_
  obtain ⟨q3, hq4, hf⟩ := some_bind hf
  refine CW.cutJ (fun L' M' => q3 = Lp.go () ∧ L' = [] ∧ M' = (([] ++ N))) ?_ ?_
  · rintro L6 M7 ⟨e5, e8, e9⟩
    rw [e8, e9]
    clear e8 e9 L6 M7
    clear hq4
    rw [e5] at hf
    clear e5
    try dsimp only at hf
    refine QW.then_n ?_
    refine CW.seq ?_
    refine CW.region ?_
    refine OW.rv (RV.assign rfl) rfl ?_
    refine OW.nil ?_
    refine QW.then_n ?_
    refine CW.ret ?_
    have e0 := Option.some.inj hf
    subst e0
    refine QW.retG (rs := [.tmp 4]) ([.int .i64 (0 : Int)]) ([]) rfl ?_ rfl ?_ ?_ _ (.inl rfl)
    · exact ⟨rfl, trivial⟩
    · exact ⟨(by omega), rfl⟩
    · exact (fun w m => m)
  · skip
    refine CW.block ?_
    refine CW.loopJ (fun k L' M' => ∃ z10 : Int, (waybillref01_Cmp.l1 a0 a1 k z10) = some q3 ∧ (-9223372036854775808 ≤ z10 ∧ z10 ≤ 9223372036854775807) ∧ L' = [(2, ptr (some b1) 0), (3, ptr (some b2) 0), (5, .int .i64 z10)] ∧ M' = ((some b2, blk (u64s a1.toList) 25) :: (some b1, blk (u64s a0.toList) 25) :: ([] ++ N))) (k0 := 5) ⟨(3 : Int), hq4, (by omega), rfl, rfl⟩ ⟨rfl, rfl, rfl, trivial⟩ (fun w m => m.pick [0, 1] 2 rfl rfl) ?_
    clear hq4
    rintro k12 L15 M16 ⟨z10, hl13, b11, e17, e18⟩
    rw [e17, e18]
    clear e17 e18 L15 M16
    rcases k12 with _ | k12
    · rw [waybillref01_Cmp.l1] at hl13; cases hl13
    rw [waybillref01_Cmp.l1] at hl13
    refine CW.seq ?_
    refine CW.seq ?_
    refine CW.region ?_
    refine OW.rv (RV.move rfl) rfl ?_
    refine OW.rv (RV.geq rfl rfl) rfl ?_
    refine OW.nil ?_
    refine QW.then_n ?_
    by_cases h19 : (0 : Int) ≤ z10
    · replace hl13 := if_t hl13 h19
      refine CW.is_t rfl (decide_eq_true h19) ?_
      refine CW.skip ?_
      refine QW.then_n ?_
      refine CW.seq ?_
      refine CW.block ?_
      refine CW.seq ?_
      refine CW.seq ?_
      refine CW.drawsU 7 mixed (by kernel_rfl) rfl ?_
      refine UW.rv 0 rfl (by kernel_rfl) rfl (RV.move rfl) rfl ?_
      obtain ⟨g20, hl13⟩ := some_if hl13
      refine UW.rv 1 rfl (by kernel_rfl) rfl (RV.idx_a ((z10).toNat) rfl rfl (by omega) rfl rfl (by omega)) rfl ?_
      obtain ⟨x21, hx22, hl13⟩ := some_bind hl13
      refine UW.rv 2 rfl (by kernel_rfl) rfl (RV.load rfl (List.Mem.tail _ (List.Mem.head _)) rfl rfl rfl (by rw [Nat.zero_add]; exact u64s_at (vat hx22))) rfl ?_
      refine UW.rv 3 rfl (by kernel_rfl) rfl (RV.move rfl) rfl ?_
      refine UW.rv 4 rfl (by kernel_rfl) rfl (RV.idx_a ((z10).toNat) rfl rfl (by omega) rfl rfl (by omega)) rfl ?_
      obtain ⟨x23, hx24, hl13⟩ := some_bind hl13
      refine UW.rv 5 rfl (by kernel_rfl) rfl (RV.load rfl (List.Mem.head _) rfl rfl rfl (by rw [Nat.zero_add]; exact u64s_at (vat hx24))) rfl ?_
      refine UW.rv 6 rfl (by kernel_rfl) rfl (RV.lss rfl rfl) rfl ?_
      refine UW.slot (.bool (decide (x21.toNat < x23.toNat))) (congrArg Value.bool (decide_eq_decide.2 (by first | omega | (simp; omega) | simp))) ?_
      refine UW.nil (by kernel_rfl) ?_
      refine OW.nil ?_
      refine QW.then_n ?_
      by_cases h25 : x21.toNat < x23.toNat
      · replace hl13 := if_t hl13 h25
        refine CW.is_t rfl (decide_eq_true h25) ?_
        refine CW.seq ?_
        refine CW.region ?_
        refine OW.rv (RV.assign rfl) rfl ?_
        refine OW.nil ?_
        refine QW.then_n ?_
        refine CW.ret ?_
        refine QW.then_r ?_
        refine QW.block_r ?_
        refine QW.then_r ?_
        refine QW.then_r ?_
        refine QW.block_r ?_
        refine QW.then_r ?_
        have hc := Option.some.inj hl13
        subst hc
        try dsimp only at hf
        refine QW.then_r ?_
        have e0 := Option.some.inj hf
        subst e0
        refine QW.retG (rs := [.tmp 4]) ([.int .i64 (-1 : Int)]) ((some b2, blk (u64s a1.toList) 25) :: (some b1, blk (u64s a0.toList) 25) :: []) rfl ?_ rfl ?_ ?_ _ (.inl rfl)
        · exact ⟨rfl, trivial⟩
        · exact ⟨(by omega), rfl⟩
        · exact (fun w m => m)
      · replace hl13 := if_f hl13 h25
        refine CW.is_f rfl (decide_eq_false h25) ?_
        refine CW.skip ?_
        refine QW.then_n ?_
        refine CW.seq ?_
        refine CW.drawsU 7 mixed (by kernel_rfl) rfl ?_
        refine UW.rv 0 rfl (by kernel_rfl) rfl (RV.move rfl) rfl ?_
        refine UW.rv 1 rfl (by kernel_rfl) rfl (RV.idx_a ((z10).toNat) rfl rfl (by omega) rfl rfl (by omega)) rfl ?_
        obtain ⟨x26, hx27, hl13⟩ := some_bind hl13
        refine UW.rv 2 rfl (by kernel_rfl) rfl (RV.load rfl (List.Mem.tail _ (List.Mem.head _)) rfl rfl rfl (by rw [Nat.zero_add]; exact u64s_at (vat hx27))) rfl ?_
        refine UW.rv 3 rfl (by kernel_rfl) rfl (RV.move rfl) rfl ?_
        refine UW.rv 4 rfl (by kernel_rfl) rfl (RV.idx_a ((z10).toNat) rfl rfl (by omega) rfl rfl (by omega)) rfl ?_
        obtain ⟨x28, hx29, hl13⟩ := some_bind hl13
        refine UW.rv 5 rfl (by kernel_rfl) rfl (RV.load rfl (List.Mem.head _) rfl rfl rfl (by rw [Nat.zero_add]; exact u64s_at (vat hx29))) rfl ?_
        refine UW.rv 6 rfl (by kernel_rfl) rfl (RV.gtr rfl rfl) rfl ?_
        refine UW.slot (.bool (decide (x28.toNat < x26.toNat))) (congrArg Value.bool (decide_eq_decide.2 (by first | omega | (simp; omega) | simp))) ?_
        refine UW.nil (by kernel_rfl) ?_
        refine OW.nil ?_
        refine QW.then_n ?_
        by_cases h30 : x28.toNat < x26.toNat
        · replace hl13 := if_t hl13 h30
          refine CW.is_t rfl (decide_eq_true h30) ?_
          refine CW.seq ?_
          refine CW.region ?_
          refine OW.rv (RV.assign rfl) rfl ?_
          refine OW.nil ?_
          refine QW.then_n ?_
          refine CW.ret ?_
          refine QW.block_r ?_
          refine QW.then_r ?_
          refine QW.then_r ?_
          refine QW.block_r ?_
          refine QW.then_r ?_
          have hc := Option.some.inj hl13
          subst hc
          try dsimp only at hf
          refine QW.then_r ?_
          have e0 := Option.some.inj hf
          subst e0
          refine QW.retG (rs := [.tmp 4]) ([.int .i64 (1 : Int)]) ((some b2, blk (u64s a1.toList) 25) :: (some b1, blk (u64s a0.toList) 25) :: []) rfl ?_ rfl ?_ ?_ _ (.inl rfl)
          · exact ⟨rfl, trivial⟩
          · exact ⟨(by omega), rfl⟩
          · exact (fun w m => m)
        · replace hl13 := if_f hl13 h30
          refine CW.is_f rfl (decide_eq_false h30) ?_
          refine CW.skip ?_
          refine QW.block_n ?_
          refine QW.then_n ?_
          refine CW.region ?_
          refine OW.rv (RV.move rfl) rfl ?_
          obtain ⟨g31, hl13⟩ := some_if hl13
          refine OW.rv (RV.sub rfl rfl (by omega)) rfl ?_
          refine OW.rv (RV.assign rfl) rfl ?_
          refine OW.nil ?_
          exact QW.againJ (k' := k12) (Nat.lt_succ_self _) ⟨(z10 - (1 : Int)), hl13, (by omega), rfl, rfl⟩ ⟨rfl, rfl, rfl, trivial⟩ (fun w m => m.pick [0, 1] 2 rfl rfl)
    · replace hl13 := if_f hl13 h19
      refine CW.is_f rfl (decide_eq_false h19) ?_
      refine CW.exit ?_
      refine QW.then_x ?_
      refine QW.then_x ?_
      refine QW.block_xe ?_
      exact QW.join ⟨(Option.some.inj hl13).symm, rfl, rfl⟩ trivial (fun w m => m.pick [] 2 rfl rfl)
theorem u256_Get_does (w0 : World) (Φ : Ctx) (N : List Ent) (hΦ : ∀ w, Mem w0 w N → Φ w) (A0_ : Option Addr) (c0_ : Nat) (a0 : List (BitVec 8)) (res0 : Vector (BitVec 64) 4) (res1 : Nat) (va0 : View Φ A0_ a0.length c0_ 1 (u8s a0)) (hf : u256_Get a0 = some (res0, res1)) : DoesG Try.prog 92 [.slice A0_ a0.length c0_] w0 [] N (fun v G => (res1 ≤ 9223372036854775807) ∧ v = .tuple #[.agg (u64s res0.toList).toArray, .int .i64 ((res1 : Nat) : Int)]) := by
  unfold u256_Get at hf
  replace va0 := va0.mono (Ψ := More w0 Φ []) (fun w q => q.1)
  have m1 := va0.mx
  refine DoesG.enter Try.func92 rfl Try.ntmps92 rfl (M := (([] ++ N))) rfl ?_
  refine CW.seq ?_
  refine CW.region ?_
  refine OW.alloc (l := (u64s (Vector.replicate 4 0#64).toList)) rfl (by rw [Vector.toList_replicate, ← u64s_rep]; rfl) rfl (fun b2 => ?_)
  refine OW.rv (RV.assign rfl) rfl ?_
  refine OW.nil ?_
  refine QW.then_n ?_
  refine CW.seq ?_
  refine CW.seq ?_
  refine CW.region ?_
  refine OW.rv (RV.move rfl) rfl ?_
  refine OW.rv (RV.len rfl rfl) rfl ?_
  refine OW.rv (RV.gtr rfl rfl) rfl ?_
  refine OW.slot (.bool (decide (32 < a0.length))) (congrArg Value.bool (decide_eq_decide.2 (by omega))) ?_
  refine OW.nil ?_
  refine QW.then_n ?_
  by_cases h3 : 32 < a0.length
  · replace hf := if_t hf h3
    refine CW.is_t rfl (decide_eq_true h3) ?_
    refine CW.seq ?_
    refine CW.region ?_
    refine OW.rv (RV.build0 (l := (u64s (Vector.replicate 4 0#64).toList)) rfl rfl rfl (by rw [Vector.toList_replicate, ← u64s_rep]; rfl)) rfl ?_
    refine OW.sv (SV.storeW rfl rfl rfl (u64s_one _) rfl ((u64s_length _).trans Vector.length_toList) ((u64s_length _).trans Vector.length_toList)) ?_
    refine OW.rv (RV.assign rfl) rfl ?_
    refine OW.nil ?_
    refine QW.then_n ?_
    refine CW.ret ?_
    refine QW.then_r ?_
    have er0 := Option.some.inj hf
    obtain ⟨e0, er1⟩ := Prod.mk.inj er0
    clear er0
    subst e0
    subst er1
    refine QW.retG (rs := [.cell 2 25, .tmp 3]) ([.agg (u64s (Vector.replicate 4 0#64).toList).toArray, .int .i64 (11 : Int)]) ((some b2, blk (u64s (Vector.replicate 4 0#64).toList) 25) :: []) rfl ?_ rfl ?_ ?_ _ (.inl rfl)
    · exact ⟨⟨_, _, _, _, rfl, (List.Mem.head _), rfl, rfl, (congrArg some ((u64s_length _).trans Vector.length_toList).symm), rfl⟩, rfl, trivial⟩
    · exact ⟨(by omega), rfl⟩
    · exact (fun w m => m)
  · replace hf := if_f hf h3
    refine CW.is_f rfl (decide_eq_false h3) ?_
    refine CW.skip ?_
    refine QW.then_n ?_
    refine CW.seq ?_
    refine CW.region ?_
    refine OW.alloc (l := (u64s (Vector.replicate 4 0#64).toList)) rfl (by rw [Vector.toList_replicate, ← u64s_rep]; rfl) rfl (fun b4 => ?_)
    refine OW.nil ?_
    refine QW.then_n ?_
    refine CW.seq ?_
    refine CW.seq ?_
    refine CW.region ?_
    refine OW.rv (RV.move rfl) rfl ?_
    refine OW.rv (RV.len rfl rfl) rfl ?_
    refine OW.rv (RV.move rfl) rfl ?_
    refine OW.nil ?_
    refine QW.then_n ?_
    obtain ⟨q5, hq6, hf⟩ := some_bind hf
    refine CW.cutJ (fun L' M' => ∃ w7 : Vector (BitVec 64) 4, q5 = w7 ∧ L' = [(2, ptr (some b2) 0), (4, ptr (some b4) 0)] ∧ M' = ((some b4, blk (u64s w7.toList) 25) :: (some b2, blk (u64s (Vector.replicate 4 0#64).toList) 25) :: ([] ++ N))) ?_ ?_
    · rintro L9 M10 ⟨w7, e8, e11, e12⟩
      rw [e11, e12]
      clear e11 e12 L9 M10
      clear hq6
      rw [e8] at hf
      clear e8
      try dsimp only at hf
      refine QW.then_n ?_
      refine CW.seq ?_
      refine CW.region ?_
      refine OW.rv (RV.loadW rfl (List.Mem.head _) rfl rfl rfl rfl ((u64s_length _).trans Vector.length_toList)) rfl ?_
      refine OW.rot1 ?_
      refine OW.sv (SV.storeW rfl rfl rfl (u64s_one _) rfl ((u64s_length _).trans Vector.length_toList) ((u64s_length _).trans Vector.length_toList)) ?_
      refine OW.rv (RV.assign rfl) rfl ?_
      refine OW.nil ?_
      refine QW.then_n ?_
      refine CW.ret ?_
      have er0 := Option.some.inj hf
      obtain ⟨e0, er1⟩ := Prod.mk.inj er0
      clear er0
      subst e0
      subst er1
      refine QW.retG (rs := [.cell 2 25, .tmp 3]) ([.agg (u64s w7.toList).toArray, .int .i64 (0 : Int)]) ((some b2, blk (u64s w7.toList) 25) :: (some b4, blk (u64s w7.toList) 25) :: []) rfl ?_ rfl ?_ ?_ _ (.inl rfl)
      · exact ⟨⟨_, _, _, _, rfl, (List.Mem.head _), rfl, rfl, (congrArg some ((u64s_length _).trans Vector.length_toList).symm), rfl⟩, rfl, trivial⟩
      · exact ⟨(by omega), rfl⟩
      · exact (fun w m => m)
    · skip
      refine CW.block ?_
      refine CW.loopJ (fun k L' M' => ∃ n13 : Nat, ∃ w15 : Vector (BitVec 64) 4, (u256_Get.l1 a0 k n13 w15) = some q5 ∧ (n13 ≤ 9223372036854775807) ∧ L' = [(0, .slice A0_ a0.length c0_), (2, ptr (some b2) 0), (4, ptr (some b4) 0), (12, .int .i64 ((a0.length : Nat) : Int)), (13, .int .i64 ((n13 : Nat) : Int))] ∧ M' = ((some b4, blk (u64s w15.toList) 25) :: (some b2, blk (u64s (Vector.replicate 4 0#64).toList) 25) :: ([] ++ N))) (k0 := (a0.length - 0 + 2)) ⟨0, (Vector.replicate 4 0#64), hq6, (by omega), rfl, rfl⟩ ⟨rfl, rfl, rfl, rfl, rfl, trivial⟩ (fun w m => m.pick [0, 1] 2 rfl rfl) ?_
      clear hq6
      rintro k16 L19 M20 ⟨n13, w15, hl17, b14, e21, e22⟩
      rw [e21, e22]
      clear e21 e22 L19 M20
      rcases k16 with _ | k16
      · rw [u256_Get.l1] at hl17; cases hl17
      rw [u256_Get.l1] at hl17
      refine CW.seq ?_
      refine CW.region ?_
      refine OW.rv (RV.lss rfl rfl) rfl ?_
      refine OW.slot (.bool (decide (n13 < a0.length))) (congrArg Value.bool (decide_eq_decide.2 (by omega))) ?_
      refine OW.nil ?_
      refine QW.then_n ?_
      refine CW.seq ?_
      by_cases h23 : n13 < a0.length
      · replace hl17 := if_t hl17 h23
        refine CW.is_t rfl (decide_eq_true h23) ?_
        refine CW.skip ?_
        refine QW.then_n ?_
        refine CW.seq ?_
        refine CW.block ?_
        refine CW.seq ?_
        refine CW.region ?_
        refine OW.rv (RV.move rfl) rfl ?_
        refine OW.rv (RV.assign rfl) rfl ?_
        refine OW.nil ?_
        refine QW.then_n ?_
        refine CW.seq ?_
        refine CW.region ?_
        refine OW.rv (RV.move rfl) rfl ?_
        refine OW.rv (RV.len rfl rfl) rfl ?_
        obtain ⟨g24, hl17⟩ := some_if hl17
        refine OW.rv (RV.sub rfl rfl (by omega)) rfl ?_
        refine OW.slot (.int .i64 ((a0.length - 1 : Nat) : Int)) (by congr 1; omega) ?_
        refine OW.rv (RV.move rfl) rfl ?_
        obtain ⟨g25, hl17⟩ := some_if hl17
        refine OW.rv (RV.sub rfl rfl (by omega)) rfl ?_
        refine OW.slot (.int .i64 (((a0.length - 1) - n13 : Nat) : Int)) (by congr 1; omega) ?_
        refine OW.rv (RV.assign rfl) rfl ?_
        refine OW.nil ?_
        refine QW.then_n ?_
        refine CW.drawsX ((some b2, blk (u64s (Vector.replicate 4 0#64).toList) 25) :: ([] ++ N)) [15] (fun w m => m.pick [1] 2 rfl rfl) mixed (by kernel_rfl) ?_
        refine XW.rs 0 rfl (by kernel_rfl) rfl (RV.move rfl) rfl ?_
        refine XW.rs 1 rfl (by kernel_rfl) rfl (RV.quo rfl rfl (by omega) (by omega) (by omega)) rfl ?_
        refine XW.slot (.int .i64 ((((a0.length - 1) - n13) / 8 : Nat) : Int)) (by first | rfl | (congr 1; omega)) ?_
        obtain ⟨g26, hl17⟩ := some_if hl17
        refine XW.rs 2 rfl (by kernel_rfl) rfl (RV.idx_a ((((a0.length - 1) - n13) / 8)) rfl rfl rfl rfl rfl (by omega)) rfl ?_
        obtain ⟨x27, hx28, hl17⟩ := some_bind hl17
        refine XW.rv 3 rfl (by kernel_rfl) rfl (by kernel_rfl) (RV.load rfl (List.Mem.head _) rfl rfl rfl (by rw [Nat.zero_add]; exact u64s_at (vat hx28))) rfl ?_
        refine XW.rs 4 rfl (by kernel_rfl) rfl (RV.move rfl) rfl ?_
        refine XW.rs 5 rfl (by kernel_rfl) rfl (RV.move rfl) rfl ?_
        obtain ⟨x29, hx30, hl17⟩ := some_bind hl17
        have hl31 := lt_of_at hx30
        refine XW.rs 6 rfl (by kernel_rfl) rfl (RV.idx_r (n13) rfl rfl rfl rfl rfl (va0.isSome (by decide) hl31) (by omega)) rfl ?_
        refine XW.rs 7 rfl (by kernel_rfl) rfl (RV.load_at rfl rfl rfl (fun w m => va0.cell (More.of hΦ 1 m rfl) (u8s_at hx30))) rfl ?_
        refine XW.rs 8 rfl (by kernel_rfl) rfl (RV.conv8_64 rfl (by first | rfl | exact lit8 _ rfl) rfl rfl) rfl ?_
        refine XW.rs 9 rfl (by kernel_rfl) rfl (RV.move rfl) rfl ?_
        refine XW.rs 10 rfl (by kernel_rfl) rfl (RV.rem rfl rfl (by omega) (by omega)) rfl ?_
        refine XW.slot (.int .i64 ((((a0.length - 1) - n13) % 8 : Nat) : Int)) (by first | rfl | (congr 1; omega)) ?_
        refine XW.rs 11 rfl (by kernel_rfl) rfl (RV.mul rfl rfl (by omega)) rfl ?_
        refine XW.slot (.int .i64 (((8 * (((a0.length - 1) - n13) % 8)) : Nat) : Int)) (by first | rfl | (congr 1) | (congr 1; omega)) ?_
        refine XW.rs 12 rfl (by kernel_rfl) rfl (RV.shl64 (s := (8 * (((a0.length - 1) - n13) % 8))) rfl (by first | rfl | exact lit64 _ rfl) rfl (by first | rfl | (congr 1))) rfl ?_
        refine XW.rs 13 rfl (by kernel_rfl) rfl (RV.or64 rfl (by first | rfl | exact lit64 _ rfl) rfl (by first | rfl | exact lit64 _ rfl)) rfl ?_
        refine XW.rs 14 rfl (by kernel_rfl) rfl (RV.idx_a ((((a0.length - 1) - n13) / 8)) rfl rfl rfl rfl rfl (by omega)) rfl ?_
        refine XW.sv 15 rfl (by kernel_rfl) (SV.store rfl rfl rfl rfl rfl (by rw [u64s_length, Vector.length_toList]; omega)) (fun w m => m.pick [1] 2 rfl rfl) ?_
        refine XW.cells (u64s (w15.setIfInBounds (((a0.length - 1) - n13) / 8) (x27 ||| ((x29.setWidth 64) <<< (8 * (((a0.length - 1) - n13) % 8))))).toList) (by rw [Nat.zero_add, u64s_set', vset]) ?_
        refine XW.nil (by kernel_rfl) ?_
        refine QW.block_n ?_
        refine QW.then_n ?_
        refine CW.region ?_
        refine OW.rv (RV.add rfl rfl (by omega)) rfl ?_
        refine OW.slot (.int .i64 (((n13 + 1) : Nat) : Int)) (by first | rfl | (congr 1) | (congr 1; omega)) ?_
        refine OW.rv (RV.move rfl) rfl ?_
        refine OW.nil ?_
        exact QW.againJ (k' := k16) (Nat.lt_succ_self _) ⟨(n13 + 1), (w15.setIfInBounds (((a0.length - 1) - n13) / 8) (x27 ||| ((x29.setWidth 64) <<< (8 * (((a0.length - 1) - n13) % 8))))), hl17, (by omega), rfl, rfl⟩ ⟨rfl, rfl, rfl, rfl, rfl, trivial⟩ (fun w m => m.pick [0, 1] 2 rfl rfl)
      · replace hl17 := if_f hl17 h23
        refine CW.is_f rfl (decide_eq_false h23) ?_
        refine CW.exit ?_
        refine QW.then_x ?_
        refine QW.then_x ?_
        refine QW.block_xe ?_
        exact QW.join ⟨w15, (Option.some.inj hl17).symm, rfl, rfl⟩ ⟨rfl, rfl, trivial⟩ (fun w m => m.pick [0, 1] 2 rfl rfl)
theorem waybillref01_Get_does (w0 : World) (Φ : Ctx) (N : List Ent) (hΦ : ∀ w, Mem w0 w N → Φ w) (A0_ : Option Addr) (c0_ : Nat) (a0 : List (BitVec 8)) (res0 : Vector (BitVec 64) 4) (res1 : Nat) (va0 : View Φ A0_ a0.length c0_ 1 (u8s a0)) (hf : waybillref01_Get a0 = some (res0, res1)) : DoesG Try.prog 91 [.slice A0_ a0.length c0_] w0 [] N (fun v G => (res1 ≤ 9223372036854775807) ∧ v = .tuple #[.agg (u64s res0.toList).toArray, .int .i64 ((res1 : Nat) : Int)]) := by
  unfold waybillref01_Get at hf
  replace va0 := va0.mono (Ψ := More w0 Φ []) (fun w q => q.1)
  have m1 := va0.mx
  refine DoesG.enter Try.func91 rfl Try.ntmps91 rfl (M := (([] ++ N))) rfl ?_
  refine CW.seq ?_
  refine CW.region ?_
  refine OW.alloc (l := (u64s (Vector.replicate 4 0#64).toList)) rfl (by rw [Vector.toList_replicate, ← u64s_rep]; rfl) rfl (fun b2 => ?_)
  refine OW.rv (RV.assign rfl) rfl ?_
  refine OW.nil ?_
  refine QW.then_n ?_
  refine CW.seq ?_
  refine CW.region ?_
  refine OW.alloc (l := (u64s (Vector.replicate 4 0#64).toList)) rfl (by rw [Vector.toList_replicate, ← u64s_rep]; rfl) rfl (fun b3 => ?_)
  refine OW.nil ?_
  refine QW.then_n ?_
  refine CW.seq ?_
  refine CW.seq ?_
  refine CW.region ?_
  refine OW.rv (RV.move rfl) rfl ?_
  refine OW.rv (RV.len rfl rfl) rfl ?_
  refine OW.rv (RV.gtr rfl rfl) rfl ?_
  refine OW.slot (.bool (decide (32 < a0.length))) (congrArg Value.bool (decide_eq_decide.2 (by omega))) ?_
  refine OW.nil ?_
  refine QW.then_n ?_
  by_cases h4 : 32 < a0.length
  · replace hf := if_t hf h4
    refine CW.is_t rfl (decide_eq_true h4) ?_
    refine CW.seq ?_
    refine CW.region ?_
    refine OW.rv (RV.loadW rfl (List.Mem.head _) rfl rfl rfl rfl ((u64s_length _).trans Vector.length_toList)) rfl ?_
    refine OW.rot1 ?_
    refine OW.sv (SV.storeW rfl rfl rfl (u64s_one _) rfl ((u64s_length _).trans Vector.length_toList) ((u64s_length _).trans Vector.length_toList)) ?_
    refine OW.rv (RV.assign rfl) rfl ?_
    refine OW.nil ?_
    refine QW.then_n ?_
    refine CW.ret ?_
    refine QW.then_r ?_
    have er0 := Option.some.inj hf
    obtain ⟨e0, er1⟩ := Prod.mk.inj er0
    clear er0
    subst e0
    subst er1
    refine QW.retG (rs := [.cell 2 25, .tmp 3]) ([.agg (u64s (Vector.replicate 4 0#64).toList).toArray, .int .i64 (11 : Int)]) ((some b2, blk (u64s (Vector.replicate 4 0#64).toList) 25) :: (some b3, blk (u64s (Vector.replicate 4 0#64).toList) 25) :: []) rfl ?_ rfl ?_ ?_ _ (.inl rfl)
    · exact ⟨⟨_, _, _, _, rfl, (List.Mem.head _), rfl, rfl, (congrArg some ((u64s_length _).trans Vector.length_toList).symm), rfl⟩, rfl, trivial⟩
    · exact ⟨(by omega), rfl⟩
    · exact (fun w m => m)
  · replace hf := if_f hf h4
    refine CW.is_f rfl (decide_eq_false h4) ?_
    refine CW.skip ?_
    refine QW.then_n ?_
    refine CW.seq ?_
    refine CW.seq ?_
    refine CW.region ?_
    refine OW.rv (RV.assign rfl) rfl ?_
    refine OW.nil ?_
    refine QW.then_n ?_
    obtain ⟨q5, hq6, hf⟩ := some_bind hf
    refine CW.cutJ (fun L' M' => ∃ w7 : Vector (BitVec 64) 4, q5 = w7 ∧ L' = [(2, ptr (some b2) 0), (4, ptr (some b3) 0)] ∧ M' = ((some b3, blk (u64s w7.toList) 25) :: (some b2, blk (u64s (Vector.replicate 4 0#64).toList) 25) :: ([] ++ N))) ?_ ?_
    · rintro L9 M10 ⟨w7, e8, e11, e12⟩
      rw [e11, e12]
      clear e11 e12 L9 M10
      clear hq6
      rw [e8] at hf
      clear e8
      try dsimp only at hf
      refine QW.then_n ?_
      refine CW.seq ?_
      refine CW.region ?_
      refine OW.rv (RV.loadW rfl (List.Mem.head _) rfl rfl rfl rfl ((u64s_length _).trans Vector.length_toList)) rfl ?_
      refine OW.rot1 ?_
      refine OW.sv (SV.storeW rfl rfl rfl (u64s_one _) rfl ((u64s_length _).trans Vector.length_toList) ((u64s_length _).trans Vector.length_toList)) ?_
      refine OW.rv (RV.assign rfl) rfl ?_
      refine OW.nil ?_
      refine QW.then_n ?_
      refine CW.ret ?_
      have er0 := Option.some.inj hf
      obtain ⟨e0, er1⟩ := Prod.mk.inj er0
      clear er0
      subst e0
      subst er1
      refine QW.retG (rs := [.cell 2 25, .tmp 3]) ([.agg (u64s w7.toList).toArray, .int .i64 (0 : Int)]) ((some b2, blk (u64s w7.toList) 25) :: (some b3, blk (u64s w7.toList) 25) :: []) rfl ?_ rfl ?_ ?_ _ (.inl rfl)
      · exact ⟨⟨_, _, _, _, rfl, (List.Mem.head _), rfl, rfl, (congrArg some ((u64s_length _).trans Vector.length_toList).symm), rfl⟩, rfl, trivial⟩
      · exact ⟨(by omega), rfl⟩
      · exact (fun w m => m)
    · skip
      refine CW.block ?_
      refine CW.loopJ (fun k L' M' => ∃ n13 : Nat, ∃ w15 : Vector (BitVec 64) 4, (waybillref01_Get.l1 a0 k n13 w15) = some q5 ∧ (n13 ≤ 9223372036854775807) ∧ L' = [(0, .slice A0_ a0.length c0_), (2, ptr (some b2) 0), (4, ptr (some b3) 0), (5, .int .i64 ((n13 : Nat) : Int))] ∧ M' = ((some b3, blk (u64s w15.toList) 25) :: (some b2, blk (u64s (Vector.replicate 4 0#64).toList) 25) :: ([] ++ N))) (k0 := (a0.length - 0 + 2)) ⟨0, (Vector.replicate 4 0#64), hq6, (by omega), rfl, rfl⟩ ⟨rfl, rfl, rfl, rfl, trivial⟩ (fun w m => m.pick [0, 1] 2 rfl rfl) ?_
      clear hq6
      rintro k16 L19 M20 ⟨n13, w15, hl17, b14, e21, e22⟩
      rw [e21, e22]
      clear e21 e22 L19 M20
      rcases k16 with _ | k16
      · rw [waybillref01_Get.l1] at hl17; cases hl17
      rw [waybillref01_Get.l1] at hl17
      refine CW.seq ?_
      refine CW.seq ?_
      refine CW.region ?_
      refine OW.rv (RV.move rfl) rfl ?_
      refine OW.rv (RV.move rfl) rfl ?_
      refine OW.rv (RV.len rfl rfl) rfl ?_
      refine OW.rv (RV.lss rfl rfl) rfl ?_
      refine OW.slot (.bool (decide (n13 < a0.length))) (congrArg Value.bool (decide_eq_decide.2 (by omega))) ?_
      refine OW.nil ?_
      refine QW.then_n ?_
      by_cases h23 : n13 < a0.length
      · replace hl17 := if_t hl17 h23
        refine CW.is_t rfl (decide_eq_true h23) ?_
        refine CW.skip ?_
        refine QW.then_n ?_
        refine CW.seq ?_
        refine CW.block ?_
        refine CW.seq ?_
        refine CW.region ?_
        refine OW.rv (RV.move rfl) rfl ?_
        refine OW.rv (RV.len rfl rfl) rfl ?_
        obtain ⟨g24, hl17⟩ := some_if hl17
        refine OW.rv (RV.sub rfl rfl (by omega)) rfl ?_
        refine OW.slot (.int .i64 ((a0.length - 1 : Nat) : Int)) (by congr 1; omega) ?_
        refine OW.rv (RV.move rfl) rfl ?_
        obtain ⟨g25, hl17⟩ := some_if hl17
        refine OW.rv (RV.sub rfl rfl (by omega)) rfl ?_
        refine OW.slot (.int .i64 (((a0.length - 1) - n13 : Nat) : Int)) (by congr 1; omega) ?_
        refine OW.rv (RV.assign rfl) rfl ?_
        refine OW.nil ?_
        refine QW.then_n ?_
        refine CW.drawsX ((some b2, blk (u64s (Vector.replicate 4 0#64).toList) 25) :: ([] ++ N)) [18] (fun w m => m.pick [1] 2 rfl rfl) mixed (by kernel_rfl) ?_
        refine XW.rs 0 rfl (by kernel_rfl) rfl (RV.move rfl) rfl ?_
        refine XW.rs 1 rfl (by kernel_rfl) rfl (RV.quo rfl rfl (by omega) (by omega) (by omega)) rfl ?_
        refine XW.slot (.int .i64 ((((a0.length - 1) - n13) / 8 : Nat) : Int)) (by first | rfl | (congr 1; omega)) ?_
        refine XW.rs 2 rfl (by kernel_rfl) rfl (RV.move rfl) rfl ?_
        refine XW.rs 3 rfl (by kernel_rfl) rfl (RV.quo rfl rfl (by omega) (by omega) (by omega)) rfl ?_
        refine XW.slot (.int .i64 ((((a0.length - 1) - n13) / 8 : Nat) : Int)) (by first | rfl | (congr 1; omega)) ?_
        obtain ⟨g26, hl17⟩ := some_if hl17
        refine XW.rs 4 rfl (by kernel_rfl) rfl (RV.idx_a ((((a0.length - 1) - n13) / 8)) rfl rfl rfl rfl rfl (by omega)) rfl ?_
        obtain ⟨x27, hx28, hl17⟩ := some_bind hl17
        refine XW.rv 5 rfl (by kernel_rfl) rfl (by kernel_rfl) (RV.load rfl (List.Mem.head _) rfl rfl rfl (by rw [Nat.zero_add]; exact u64s_at (vat hx28))) rfl ?_
        refine XW.rs 6 rfl (by kernel_rfl) rfl (RV.move rfl) rfl ?_
        refine XW.rs 7 rfl (by kernel_rfl) rfl (RV.move rfl) rfl ?_
        obtain ⟨x29, hx30, hl17⟩ := some_bind hl17
        have hl31 := lt_of_at hx30
        refine XW.rs 8 rfl (by kernel_rfl) rfl (RV.idx_r (n13) rfl rfl rfl rfl rfl (va0.isSome (by decide) hl31) (by omega)) rfl ?_
        refine XW.rs 9 rfl (by kernel_rfl) rfl (RV.load_at rfl rfl rfl (fun w m => va0.cell (More.of hΦ 1 m rfl) (u8s_at hx30))) rfl ?_
        refine XW.rs 10 rfl (by kernel_rfl) rfl (RV.conv8_64 rfl (by first | rfl | exact lit8 _ rfl) rfl rfl) rfl ?_
        refine XW.rs 11 rfl (by kernel_rfl) rfl (RV.move rfl) rfl ?_
        refine XW.rs 12 rfl (by kernel_rfl) rfl (RV.rem rfl rfl (by omega) (by omega)) rfl ?_
        refine XW.slot (.int .i64 ((((a0.length - 1) - n13) % 8 : Nat) : Int)) (by first | rfl | (congr 1; omega)) ?_
        refine XW.rs 13 rfl (by kernel_rfl) rfl (RV.mul rfl rfl (by omega)) rfl ?_
        refine XW.slot (.int .i64 (((8 * (((a0.length - 1) - n13) % 8)) : Nat) : Int)) (by first | rfl | (congr 1) | (congr 1; omega)) ?_
        refine XW.rs 14 rfl (by kernel_rfl) rfl (RV.conv_i64 rfl rfl rfl) rfl ?_
        refine XW.slot (U64 (BitVec.ofNat 64 (8 * (((a0.length - 1) - n13) % 8)))) (congrArg U64 (BitVec.ofInt_natCast ..)) ?_
        refine XW.rs 15 rfl (by kernel_rfl) rfl (RV.shl64 (s := (BitVec.ofNat 64 (8 * (((a0.length - 1) - n13) % 8))).toNat) rfl (by first | rfl | exact lit64 _ rfl) rfl (by first | rfl | (simp [U64]; done))) rfl ?_
        refine XW.rs 16 rfl (by kernel_rfl) rfl (RV.add64 rfl (by first | rfl | exact lit64 _ rfl) rfl (by first | rfl | exact lit64 _ rfl)) rfl ?_
        refine XW.rs 17 rfl (by kernel_rfl) rfl (RV.idx_a ((((a0.length - 1) - n13) / 8)) rfl rfl rfl rfl rfl (by omega)) rfl ?_
        refine XW.sv 18 rfl (by kernel_rfl) (SV.store rfl rfl rfl rfl rfl (by rw [u64s_length, Vector.length_toList]; omega)) (fun w m => m.pick [1] 2 rfl rfl) ?_
        refine XW.cells (u64s (w15.setIfInBounds (((a0.length - 1) - n13) / 8) (x27 + ((x29.setWidth 64) <<< (BitVec.ofNat 64 (8 * (((a0.length - 1) - n13) % 8))).toNat))).toList) (by rw [Nat.zero_add, u64s_set', vset]) ?_
        refine XW.nil (by kernel_rfl) ?_
        refine QW.block_n ?_
        refine QW.then_n ?_
        refine CW.region ?_
        refine OW.rv (RV.move rfl) rfl ?_
        refine OW.rv (RV.add rfl rfl (by omega)) rfl ?_
        refine OW.slot (.int .i64 (((n13 + 1) : Nat) : Int)) (by first | rfl | (congr 1) | (congr 1; omega)) ?_
        refine OW.rv (RV.assign rfl) rfl ?_
        refine OW.nil ?_
        exact QW.againJ (k' := k16) (Nat.lt_succ_self _) ⟨(n13 + 1), (w15.setIfInBounds (((a0.length - 1) - n13) / 8) (x27 + ((x29.setWidth 64) <<< (BitVec.ofNat 64 (8 * (((a0.length - 1) - n13) % 8))).toNat))), hl17, (by omega), rfl, rfl⟩ ⟨rfl, rfl, rfl, rfl, trivial⟩ (fun w m => m.pick [0, 1] 2 rfl rfl)
      · replace hl17 := if_f hl17 h23
        refine CW.is_f rfl (decide_eq_false h23) ?_
        refine CW.exit ?_
        refine QW.then_x ?_
        refine QW.then_x ?_
        refine QW.block_xe ?_
        exact QW.join ⟨w15, (Option.some.inj hl17).symm, rfl, rfl⟩ ⟨rfl, rfl, trivial⟩ (fun w m => m.pick [0, 1] 2 rfl rfl)
theorem rlp_cut_does (w0 : World) (Φ : Ctx) (N : List Ent) (hΦ : ∀ w, Mem w0 w N → Φ w) (A0_ : Option Addr) (c0_ : Nat) (a0 : List (BitVec 8)) (res0 : Bool) (res1 : List (BitVec 8)) (res2 : List (BitVec 8)) (res3 : Nat) (va0 : View Φ A0_ a0.length c0_ 1 (u8s a0)) (hf : rlp_cut a0 = some (res0, res1, res2, res3)) : DoesG Try.prog 75 [.slice A0_ a0.length c0_] w0 [] N (fun v G => ∃ B : List Ent, ∃ Ar1 : Option Addr, ∃ kr1 : Nat, ∃ Ar2 : Option Addr, ∃ kr2 : Nat, (View (More w0 Φ B) Ar1 res1.length kr1 1 (u8s res1)) ∧ (View (More w0 Φ B) Ar2 res2.length kr2 1 (u8s res2)) ∧ (res3 ≤ 9223372036854775807) ∧ v = .tuple #[.bool res0, .slice Ar1 res1.length kr1, .slice Ar2 res2.length kr2, .int .i64 ((res3 : Nat) : Int)] ∧ G = B) := by
  unfold rlp_cut at hf
  replace va0 := va0.mono (Ψ := More w0 Φ []) (fun w q => q.1)
  have m1 := va0.mx
  refine DoesG.enter Try.func75 rfl Try.ntmps75 rfl (M := (([] ++ N))) rfl ?_
  refine CW.seq ?_
  refine CW.region ?_
  refine OW.rv (RV.assign rfl) rfl ?_
  refine OW.rv (RV.assign rfl) rfl ?_
  refine OW.rv (RV.assign rfl) rfl ?_
  refine OW.rv (RV.assign rfl) rfl ?_
  refine OW.nil ?_
  refine QW.then_n ?_
  refine CW.seq ?_
  refine CW.seq ?_
  refine CW.region ?_
  refine OW.rv (RV.move rfl) rfl ?_
  refine OW.rv (RV.len rfl rfl) rfl ?_
  refine OW.rv (RV.eql rfl rfl) rfl ?_
  refine OW.slot (.bool (decide (a0.length = 0))) (congrArg Value.bool (decide_eq_decide.2 (by omega))) ?_
  refine OW.nil ?_
  refine QW.then_n ?_
  by_cases h2 : a0.length = 0
  · replace hf := if_t hf h2
    refine CW.is_t rfl (decide_eq_true h2) ?_
    refine CW.seq ?_
    refine CW.region ?_
    refine OW.rv (RV.assign rfl) rfl ?_
    refine OW.rv (RV.assign rfl) rfl ?_
    refine OW.rv (RV.assign rfl) rfl ?_
    refine OW.rv (RV.assign rfl) rfl ?_
    refine OW.nil ?_
    refine QW.then_n ?_
    refine CW.ret ?_
    refine QW.then_r ?_
    have er0 := Option.some.inj hf
    obtain ⟨e0, er1⟩ := Prod.mk.inj er0
    clear er0
    obtain ⟨e1, er2⟩ := Prod.mk.inj er1
    clear er1
    obtain ⟨e2, er3⟩ := Prod.mk.inj er2
    clear er2
    subst e0
    subst e1
    subst e2
    subst er3
    refine QW.retG (rs := [.tmp 2, .tmp 3, .tmp 4, .tmp 5]) ([.bool false, .slice none 0 0, .slice none 0 0, .int .i64 (70 : Int)]) ([]) rfl ?_ rfl ?_ ?_ _ (.inl rfl)
    · exact ⟨rfl, rfl, rfl, rfl, trivial⟩
    · exact ⟨[], none, 0, none, 0, View.nil, View.nil, (by omega), rfl, rfl⟩
    · exact (fun w m => m.pick [] 0 rfl rfl)
  · replace hf := if_f hf h2
    refine CW.is_f rfl (decide_eq_false h2) ?_
    refine CW.skip ?_
    refine QW.then_n ?_
    refine CW.seq ?_
    refine CW.region ?_
    refine OW.rv (RV.move rfl) rfl ?_
    obtain ⟨x3, hx4, hf⟩ := some_bind hf
    have hl5 := lt_of_at hx4
    refine OW.rv (RV.idx_r (0) rfl rfl rfl rfl rfl (va0.isSome (by decide) hl5) (by omega)) rfl ?_
    refine OW.rv (RV.load_at rfl rfl rfl (fun w m => va0.cell (More.of hΦ 0 m rfl) (u8s_at hx4))) rfl ?_
    refine OW.rv (RV.assign rfl) rfl ?_
    refine OW.nil ?_
    refine QW.then_n ?_
    refine CW.seq ?_
    refine CW.seq ?_
    refine CW.region ?_
    refine OW.rv (RV.move rfl) rfl ?_
    refine OW.rv (RV.lss rfl rfl) rfl ?_
    refine OW.slot (.bool (decide (x3.toNat < 128))) (congrArg Value.bool (decide_eq_decide.2 (by first | omega | (simp; omega) | simp))) ?_
    refine OW.nil ?_
    refine QW.then_n ?_
    by_cases h6 : x3.toNat < 128
    · replace hf := if_t hf h6
      refine CW.is_t rfl (decide_eq_true h6) ?_
      refine CW.seq ?_
      refine CW.drawsU 8 mixed (by kernel_rfl) rfl ?_
      refine UW.rv 0 rfl (by kernel_rfl) rfl (RV.move rfl) rfl ?_
      obtain ⟨g8, hf⟩ := some_if hf
      have hle := va0.le
      have hlen_ : a0.length = a0.length := rfl
      refine UW.rv 1 rfl (by kernel_rfl) rfl (RV.cut_hi (1) rfl rfl (by omega) rfl rfl (by omega)) rfl ?_
      refine UW.slot (.slice A0_ (a0.take 1).length c0_) (by rw [show ((a0.take 1)).length = 1 from List.length_take.trans (Nat.min_eq_left (by omega))]) ?_
      have v7 : View (More w0 Φ []) A0_ (a0.take 1).length c0_ 1 (u8s (a0.take 1)) := va0.hi8 (by omega)
      have m9 := v7.mx
      refine UW.rv 2 rfl (by kernel_rfl) rfl (RV.move rfl) rfl ?_
      refine UW.rv 3 rfl (by kernel_rfl) rfl (RV.cut_lo (s := 1) (1) rfl rfl (by omega) rfl rfl (by omega)) rfl ?_
      refine UW.slot (.slice (subA A0_ c0_ 1 1) (a0.drop 1).length (c0_ - 1)) (by rw [show ((a0.drop 1)).length = (a0).length - (1) from List.length_drop]) ?_
      have v10 : View (More w0 Φ []) (subA A0_ c0_ 1 1) (a0.drop 1).length (c0_ - 1) 1 (u8s (a0.drop 1)) := va0.lo8 (by omega)
      have m11 := v10.mx
      refine UW.rv 4 rfl (by kernel_rfl) rfl (RV.assign rfl) rfl ?_
      refine UW.rv 5 rfl (by kernel_rfl) rfl (RV.assign rfl) rfl ?_
      refine UW.rv 6 rfl (by kernel_rfl) rfl (RV.assign rfl) rfl ?_
      refine UW.rv 7 rfl (by kernel_rfl) rfl (RV.assign rfl) rfl ?_
      refine UW.nil (by kernel_rfl) ?_
      refine OW.nil ?_
      refine QW.then_n ?_
      refine CW.ret ?_
      refine QW.then_r ?_
      have er0 := Option.some.inj hf
      obtain ⟨e0, er1⟩ := Prod.mk.inj er0
      clear er0
      obtain ⟨e1, er2⟩ := Prod.mk.inj er1
      clear er1
      obtain ⟨e2, er3⟩ := Prod.mk.inj er2
      clear er2
      subst e0
      subst e1
      subst e2
      subst er3
      refine QW.retG (rs := [.tmp 2, .tmp 3, .tmp 4, .tmp 5]) ([.bool false, .slice A0_ (a0.take 1).length c0_, .slice (subA A0_ c0_ 1 1) (a0.drop 1).length (c0_ - 1), .int .i64 (0 : Int)]) ([]) rfl ?_ rfl ?_ ?_ _ (.inl rfl)
      · exact ⟨rfl, rfl, rfl, rfl, trivial⟩
      · exact ⟨[], A0_, c0_, (subA A0_ c0_ 1 1), (c0_ - 1), v7, v10, (by omega), rfl, rfl⟩
      · exact (fun w m => m.pick [] 0 rfl rfl)
    · replace hf := if_f hf h6
      refine CW.is_f rfl (decide_eq_false h6) ?_
      refine CW.skip ?_
      refine QW.then_n ?_
      refine CW.seq ?_
      refine CW.region ?_
      refine OW.rv (RV.move rfl) rfl ?_
      refine OW.rv (RV.geq rfl rfl) rfl ?_
      refine OW.slot (.bool (decide (192 ≤ x3.toNat))) (congrArg Value.bool (decide_eq_decide.2 (by first | omega | (simp; omega) | simp))) ?_
      refine OW.rv (RV.assign rfl) rfl ?_
      refine OW.nil ?_
      refine QW.then_n ?_
      refine CW.seq ?_
      refine CW.region ?_
      refine OW.rv (RV.move rfl) rfl ?_
      refine OW.rv (RV.sub8 rfl (by first | rfl | exact lit8 _ rfl) rfl (by first | rfl | exact lit8 _ rfl)) rfl ?_
      refine OW.rv (RV.conv8_i rfl (by first | rfl | exact lit8 _ rfl) rfl rfl) rfl ?_
      have m12 := ((x3 - 128#8)).isLt
      refine OW.rv (RV.assign rfl) rfl ?_
      refine OW.nil ?_
      refine QW.then_n ?_
      refine CW.seq ?_
      refine CW.seq ?_
      refine CW.region ?_
      refine OW.rv (RV.move rfl) rfl ?_
      refine OW.nil ?_
      refine QW.then_n ?_
      obtain ⟨q13, hq14, hf⟩ := some_bind hf
      refine CW.cutJ (fun L' M' => ∃ n15 : Nat, q13 = n15 ∧ (n15 ≤ 9223372036854775807) ∧ L' = [(0, .slice A0_ a0.length c0_), (2, .bool (decide (192 ≤ x3.toNat))), (7, .int .i64 ((n15 : Nat) : Int))] ∧ M' = (([] ++ N))) ?_ ?_
      · rintro L18 M19 ⟨n15, e17, b16, e20, e21⟩
        rw [e20, e21]
        clear e20 e21 L18 M19
        clear hq14
        rw [e17] at hf
        clear e17
        try dsimp only at hf
        refine QW.then_n ?_
        refine CW.seq ?_
        refine CW.region ?_
        refine OW.rv (RV.move rfl) rfl ?_
        obtain ⟨g23, hf⟩ := some_if hf
        refine OW.rv (RV.cut_lo (s := 1) (1) rfl rfl (by omega) rfl rfl (by omega)) rfl ?_
        refine OW.slot (.slice (subA A0_ c0_ 1 1) (a0.drop 1).length (c0_ - 1)) (by rw [show ((a0.drop 1)).length = (a0).length - (1) from List.length_drop]) ?_
        have v22 : View (More w0 Φ []) (subA A0_ c0_ 1 1) (a0.drop 1).length (c0_ - 1) 1 (u8s (a0.drop 1)) := va0.lo8 (by omega)
        have m24 := v22.mx
        refine OW.rv (RV.assign rfl) rfl ?_
        refine OW.nil ?_
        refine QW.then_n ?_
        refine CW.seq ?_
        refine CW.seq ?_
        refine CW.region ?_
        refine OW.rv (RV.move rfl) rfl ?_
        refine OW.rv (RV.gtr rfl rfl) rfl ?_
        refine OW.slot (.bool (decide (55 < n15))) (congrArg Value.bool (decide_eq_decide.2 (by omega))) ?_
        refine OW.nil ?_
        refine QW.then_n ?_
        obtain ⟨q25, hq26, hf⟩ := some_bind hf
        refine CW.cutJ (fun L' M' => ∃ l27 : List (BitVec 8), ∃ n31 : Nat, ∃ A28 : Option Addr, ∃ c29 : Nat, q25 = Lp.go (l27, n31) ∧ (View (More w0 Φ []) A28 l27.length c29 1 (u8s l27)) ∧ (n31 ≤ 9223372036854775807) ∧ L' = [(0, .slice A28 l27.length c29), (2, .bool (decide (192 ≤ x3.toNat))), (7, .int .i64 ((n31 : Nat) : Int))] ∧ M' = (([] ++ N))) ?_ ?_
        · rintro L34 M35 ⟨l27, n31, A28, c29, e33, v30, b32, e36, e37⟩
          rw [e36, e37]
          clear e36 e37 L34 M35
          clear hq26
          rw [e33] at hf
          clear e33
          try dsimp only at hf
          have m38 := v30.mx
          refine QW.then_n ?_
          refine CW.seq ?_
          refine CW.seq ?_
          refine CW.region ?_
          refine OW.rv (RV.move rfl) rfl ?_
          refine OW.rv (RV.len rfl rfl) rfl ?_
          refine OW.rv (RV.move rfl) rfl ?_
          refine OW.rv (RV.lss rfl rfl) rfl ?_
          refine OW.slot (.bool (decide (l27.length < n31))) (congrArg Value.bool (decide_eq_decide.2 (by omega))) ?_
          refine OW.nil ?_
          refine QW.then_n ?_
          by_cases h39 : l27.length < n31
          · replace hf := if_t hf h39
            refine CW.is_t rfl (decide_eq_true h39) ?_
            refine CW.seq ?_
            refine CW.region ?_
            refine OW.rv (RV.assign rfl) rfl ?_
            refine OW.rv (RV.assign rfl) rfl ?_
            refine OW.rv (RV.assign rfl) rfl ?_
            refine OW.rv (RV.assign rfl) rfl ?_
            refine OW.nil ?_
            refine QW.then_n ?_
            refine CW.ret ?_
            refine QW.then_r ?_
            have er0 := Option.some.inj hf
            obtain ⟨e0, er1⟩ := Prod.mk.inj er0
            clear er0
            obtain ⟨e1, er2⟩ := Prod.mk.inj er1
            clear er1
            obtain ⟨e2, er3⟩ := Prod.mk.inj er2
            clear er2
            subst e0
            subst e1
            subst e2
            subst er3
            refine QW.retG (rs := [.tmp 2, .tmp 3, .tmp 4, .tmp 5]) ([.bool false, .slice none 0 0, .slice none 0 0, .int .i64 (70 : Int)]) ([]) rfl ?_ rfl ?_ ?_ _ (.inl rfl)
            · exact ⟨rfl, rfl, rfl, rfl, trivial⟩
            · exact ⟨[], none, 0, none, 0, View.nil, View.nil, (by omega), rfl, rfl⟩
            · exact (fun w m => m.pick [] 0 rfl rfl)
          · replace hf := if_f hf h39
            refine CW.is_f rfl (decide_eq_false h39) ?_
            refine CW.skip ?_
            refine QW.then_n ?_
            refine CW.seq ?_
            refine CW.seq ?_
            obtain ⟨q40, hq41, hf⟩ := some_bind hf
            refine CW.cutJ (fun L' M' => ∃ p42 : Bool, q40 = p42 ∧ L' = [(0, .slice A28 l27.length c29), (2, .bool (decide (192 ≤ x3.toNat))), (7, .int .i64 ((n31 : Nat) : Int)), (87, .bool (p42))] ∧ M' = (([] ++ N))) ?_ ?_
            · rintro L44 M45 ⟨p42, e43, e46, e47⟩
              rw [e46, e47]
              clear e46 e47 L44 M45
              clear hq41
              rw [e43] at hf
              clear e43
              try dsimp only at hf
              refine QW.then_n ?_
              by_cases h48 : p42 = true
              · replace hf := if_t hf h48
                refine CW.is_t rfl (h48) ?_
                refine CW.seq ?_
                refine CW.region ?_
                refine OW.rv (RV.assign rfl) rfl ?_
                refine OW.rv (RV.assign rfl) rfl ?_
                refine OW.rv (RV.assign rfl) rfl ?_
                refine OW.rv (RV.assign rfl) rfl ?_
                refine OW.nil ?_
                refine QW.then_n ?_
                refine CW.ret ?_
                refine QW.then_r ?_
                have er0 := Option.some.inj hf
                obtain ⟨e0, er1⟩ := Prod.mk.inj er0
                clear er0
                obtain ⟨e1, er2⟩ := Prod.mk.inj er1
                clear er1
                obtain ⟨e2, er3⟩ := Prod.mk.inj er2
                clear er2
                subst e0
                subst e1
                subst e2
                subst er3
                refine QW.retG (rs := [.tmp 2, .tmp 3, .tmp 4, .tmp 5]) ([.bool false, .slice none 0 0, .slice none 0 0, .int .i64 (71 : Int)]) ([]) rfl ?_ rfl ?_ ?_ _ (.inl rfl)
                · exact ⟨rfl, rfl, rfl, rfl, trivial⟩
                · exact ⟨[], none, 0, none, 0, View.nil, View.nil, (by omega), rfl, rfl⟩
                · exact (fun w m => m.pick [] 0 rfl rfl)
              · replace hf := if_f hf h48
                refine CW.is_f rfl (Bool.eq_false_iff.2 h48) ?_
                refine CW.skip ?_
                refine QW.then_n ?_
                refine CW.seq ?_
                refine CW.drawsU 11 mixed (by kernel_rfl) rfl ?_
                refine UW.rv 0 rfl (by kernel_rfl) rfl (RV.move rfl) rfl ?_
                refine UW.rv 1 rfl (by kernel_rfl) rfl (RV.move rfl) rfl ?_
                refine UW.rv 2 rfl (by kernel_rfl) rfl (RV.move rfl) rfl ?_
                obtain ⟨g50, hf⟩ := some_if hf
                have hle := v30.le
                have hlen_ : l27.length = l27.length := rfl
                refine UW.rv 3 rfl (by kernel_rfl) rfl (RV.cut_hi (n31) rfl rfl (by omega) rfl rfl (by omega)) rfl ?_
                refine UW.slot (.slice A28 (l27.take n31).length c29) (by rw [show ((l27.take n31)).length = n31 from List.length_take.trans (Nat.min_eq_left (by omega))]) ?_
                have v49 : View (More w0 Φ []) A28 (l27.take n31).length c29 1 (u8s (l27.take n31)) := v30.hi8 (by omega)
                have m51 := v49.mx
                refine UW.rv 4 rfl (by kernel_rfl) rfl (RV.move rfl) rfl ?_
                refine UW.rv 5 rfl (by kernel_rfl) rfl (RV.move rfl) rfl ?_
                refine UW.rv 6 rfl (by kernel_rfl) rfl (RV.cut_lo (s := 1) (n31) rfl rfl (by omega) rfl rfl (by omega)) rfl ?_
                refine UW.slot (.slice (subA A28 c29 n31 1) (l27.drop n31).length (c29 - n31)) (by rw [show ((l27.drop n31)).length = (l27).length - (n31) from List.length_drop]) ?_
                have v52 : View (More w0 Φ []) (subA A28 c29 n31 1) (l27.drop n31).length (c29 - n31) 1 (u8s (l27.drop n31)) := v30.lo8 (by omega)
                have m53 := v52.mx
                refine UW.rv 7 rfl (by kernel_rfl) rfl (RV.assign rfl) rfl ?_
                refine UW.rv 8 rfl (by kernel_rfl) rfl (RV.assign rfl) rfl ?_
                refine UW.rv 9 rfl (by kernel_rfl) rfl (RV.assign rfl) rfl ?_
                refine UW.rv 10 rfl (by kernel_rfl) rfl (RV.assign rfl) rfl ?_
                refine UW.nil (by kernel_rfl) ?_
                refine OW.nil ?_
                refine QW.then_n ?_
                refine CW.ret ?_
                have er0 := Option.some.inj hf
                obtain ⟨e0, er1⟩ := Prod.mk.inj er0
                clear er0
                obtain ⟨e1, er2⟩ := Prod.mk.inj er1
                clear er1
                obtain ⟨e2, er3⟩ := Prod.mk.inj er2
                clear er2
                subst e0
                subst e1
                subst e2
                subst er3
                refine QW.retG (rs := [.tmp 2, .tmp 3, .tmp 4, .tmp 5]) ([.bool (decide (192 ≤ x3.toNat)), .slice A28 (l27.take n31).length c29, .slice (subA A28 c29 n31 1) (l27.drop n31).length (c29 - n31), .int .i64 (0 : Int)]) ([]) rfl ?_ rfl ?_ ?_ _ (.inl rfl)
                · exact ⟨rfl, rfl, rfl, rfl, trivial⟩
                · exact ⟨[], A28, c29, (subA A28 c29 n31 1), (c29 - n31), v49, v52, (by omega), rfl, rfl⟩
                · exact (fun w m => m.pick [] 0 rfl rfl)
            · skip
              refine CW.region ?_
              refine OW.rv (RV.move rfl) rfl ?_
              refine OW.rv (RV.not rfl) rfl ?_
              refine OW.rv (RV.move rfl) rfl ?_
              by_cases h54 : 192 ≤ x3.toNat
              · replace hq41 := if_t hq41 h54
                refine OW.slot (.bool false) (congrArg Value.bool (congrArg (fun b => !b) (decide_eq_true h54))) ?_
                refine OW.skip rfl rfl rfl ?_
                refine OW.skip rfl rfl rfl ?_
                refine OW.rv (RV.pick_f rfl rfl rfl) rfl ?_
                refine OW.rv (RV.move rfl) rfl ?_
                refine OW.skip rfl rfl rfl ?_
                refine OW.skip rfl rfl rfl ?_
                refine OW.skip rfl rfl rfl ?_
                refine OW.skip rfl rfl rfl ?_
                refine OW.rv (RV.pick_f rfl rfl rfl) rfl ?_
                refine OW.nil ?_
                exact QW.join ⟨false, (Option.some.inj hq41).symm, rfl, rfl⟩ ⟨rfl, rfl, rfl, rfl, trivial⟩ (fun w m => m.pick [] 0 rfl rfl)
              · replace hq41 := if_f hq41 h54
                refine OW.slot (.bool true) (congrArg Value.bool (congrArg (fun b => !b) (decide_eq_false h54))) ?_
                refine OW.want rfl ?_
                refine OW.rv (RV.move rfl) rfl ?_
                refine OW.want rfl ?_
                refine OW.rv (RV.eql rfl rfl) rfl ?_
                refine OW.slot (.bool (decide (n31 = 1))) (congrArg Value.bool (decide_eq_decide.2 (by omega))) ?_
                refine OW.rv (RV.pick_t rfl rfl rfl) rfl ?_
                refine OW.rv (RV.move rfl) rfl ?_
                by_cases h55 : n31 = 1
                · replace hq41 := if_t hq41 h55
                  refine OW.slot (.bool true) (congrArg Value.bool (decide_eq_true h55)) ?_
                  refine OW.want rfl ?_
                  refine OW.rv (RV.move rfl) rfl ?_
                  refine OW.want rfl ?_
                  obtain ⟨x56, hx57, hq41⟩ := some_bind hq41
                  have hl58 := lt_of_at hx57
                  refine OW.rv (RV.idx_r (0) rfl rfl rfl rfl rfl (v30.isSome (by decide) hl58) (by omega)) rfl ?_
                  refine OW.want rfl ?_
                  refine OW.rv (RV.load_at rfl rfl rfl (fun w m => v30.cell (More.of hΦ 0 m rfl) (u8s_at hx57))) rfl ?_
                  refine OW.want rfl ?_
                  refine OW.rv (RV.lss rfl rfl) rfl ?_
                  refine OW.slot (.bool (decide (x56.toNat < 128))) (congrArg Value.bool (decide_eq_decide.2 (by first | omega | (simp; omega) | simp))) ?_
                  refine OW.rv (RV.pick_t rfl rfl rfl) rfl ?_
                  refine OW.nil ?_
                  exact QW.join ⟨(decide (x56.toNat < 128)), (Option.some.inj hq41).symm, rfl, rfl⟩ ⟨rfl, rfl, rfl, rfl, trivial⟩ (fun w m => m.pick [] 0 rfl rfl)
                · replace hq41 := if_f hq41 h55
                  refine OW.slot (.bool false) (congrArg Value.bool (decide_eq_false h55)) ?_
                  refine OW.skip rfl rfl rfl ?_
                  refine OW.skip rfl rfl rfl ?_
                  refine OW.skip rfl rfl rfl ?_
                  refine OW.skip rfl rfl rfl ?_
                  refine OW.rv (RV.pick_f rfl rfl rfl) rfl ?_
                  refine OW.nil ?_
                  exact QW.join ⟨false, (Option.some.inj hq41).symm, rfl, rfl⟩ ⟨rfl, rfl, rfl, rfl, trivial⟩ (fun w m => m.pick [] 0 rfl rfl)
        · skip
          by_cases h59 : 55 < n15
          · replace hq26 := if_t hq26 h59
            refine CW.is_t rfl (decide_eq_true h59) ?_
            refine CW.seq ?_
            refine CW.region ?_
            refine OW.rv (RV.move rfl) rfl ?_
            refine OW.rv (RV.sub rfl rfl (by omega)) rfl ?_
            refine OW.slot (.int .i64 ((n15 - 55 : Nat) : Int)) (by congr 1; omega) ?_
            refine OW.rv (RV.assign rfl) rfl ?_
            refine OW.nil ?_
            refine QW.then_n ?_
            refine CW.seq ?_
            refine CW.seq ?_
            refine CW.region ?_
            refine OW.rv (RV.move rfl) rfl ?_
            refine OW.rv (RV.len rfl rfl) rfl ?_
            refine OW.rv (RV.move rfl) rfl ?_
            refine OW.rv (RV.lss rfl rfl) rfl ?_
            refine OW.slot (.bool (decide ((a0.drop 1).length < (n15 - 55)))) (congrArg Value.bool (decide_eq_decide.2 (by omega))) ?_
            refine OW.nil ?_
            refine QW.then_n ?_
            by_cases h60 : (a0.drop 1).length < (n15 - 55)
            · replace hq26 := if_t hq26 h60
              refine CW.is_t rfl (decide_eq_true h60) ?_
              refine CW.seq ?_
              refine CW.region ?_
              refine OW.rv (RV.assign rfl) rfl ?_
              refine OW.rv (RV.assign rfl) rfl ?_
              refine OW.rv (RV.assign rfl) rfl ?_
              refine OW.rv (RV.assign rfl) rfl ?_
              refine OW.nil ?_
              refine QW.then_n ?_
              refine CW.ret ?_
              refine QW.then_r ?_
              refine QW.then_r ?_
              have hc := Option.some.inj hq26
              subst hc
              try dsimp only at hf
              refine QW.then_r ?_
              have er0 := Option.some.inj hf
              obtain ⟨e0, er1⟩ := Prod.mk.inj er0
              clear er0
              obtain ⟨e1, er2⟩ := Prod.mk.inj er1
              clear er1
              obtain ⟨e2, er3⟩ := Prod.mk.inj er2
              clear er2
              subst e0
              subst e1
              subst e2
              subst er3
              refine QW.retG (rs := [.tmp 2, .tmp 3, .tmp 4, .tmp 5]) ([.bool false, .slice none 0 0, .slice none 0 0, .int .i64 (70 : Int)]) ([]) rfl ?_ rfl ?_ ?_ _ (.inl rfl)
              · exact ⟨rfl, rfl, rfl, rfl, trivial⟩
              · exact ⟨[], none, 0, none, 0, View.nil, View.nil, (by omega), rfl, rfl⟩
              · exact (fun w m => m.pick [] 0 rfl rfl)
            · replace hq26 := if_f hq26 h60
              refine CW.is_f rfl (decide_eq_false h60) ?_
              refine CW.skip ?_
              refine QW.then_n ?_
              refine CW.seq ?_
              refine CW.region ?_
              refine OW.rv (RV.move rfl) rfl ?_
              refine OW.rv (RV.move rfl) rfl ?_
              obtain ⟨g62, hq26⟩ := some_if hq26
              have hle := v22.le
              have hlen_ : (a0.drop 1).length = (a0.drop 1).length := rfl
              refine OW.rv (RV.cut_hi ((n15 - 55)) rfl rfl (by omega) rfl rfl (by omega)) rfl ?_
              refine OW.slot (.slice (subA A0_ c0_ 1 1) ((a0.drop 1).take (n15 - 55)).length (c0_ - 1)) (by rw [show (((a0.drop 1).take (n15 - 55))).length = (n15 - 55) from List.length_take.trans (Nat.min_eq_left (by omega))]) ?_
              have v61 : View (More w0 Φ []) (subA A0_ c0_ 1 1) ((a0.drop 1).take (n15 - 55)).length (c0_ - 1) 1 (u8s ((a0.drop 1).take (n15 - 55))) := v22.hi8 (by omega)
              have m63 := v61.mx
              obtain ⟨⟨x65, x66⟩, hx64, hq26⟩ := some_bind hq26
              try dsimp only at hq26
              refine OW.callG Try.call92 rfl (u256_Get_does w0 (More w0 Φ []) (([] ++ N)) (fun w m => More.of hΦ 0 m rfl) (subA A0_ c0_ 1 1) (c0_ - 1) ((a0.drop 1).take (n15 - 55)) x65 x66 v61 hx64) rfl rfl ?_
              rintro _ G68 ⟨b67, rfl⟩
              refine OW.mem (M' := (([] ++ N))) (fun w m => m.appR) ?_
              refine OW.rv (RV.move rfl) rfl ?_
              refine OW.rv (RV.extract rfl rfl) rfl ?_
              refine OW.slot (.agg (u64s x65.toList).toArray) (rfl) ?_
              refine OW.rv (RV.extract rfl rfl) rfl ?_
              refine OW.slot (.int .i64 ((x66 : Nat) : Int)) (rfl) ?_
              refine OW.alloc (l := (u64s (Vector.replicate 4 0#64).toList)) rfl (by rw [Vector.toList_replicate, ← u64s_rep]; rfl) rfl (fun b70 => ?_)
              refine OW.sv (SV.storeW rfl rfl rfl (u64s_one _) rfl ((u64s_length _).trans Vector.length_toList) ((u64s_length _).trans Vector.length_toList)) ?_
              refine OW.rv (RV.assign rfl) rfl ?_
              refine OW.nil ?_
              refine QW.then_n ?_
              refine CW.seq ?_
              refine CW.seq ?_
              obtain ⟨q71, hq72, hq26⟩ := some_bind hq26
              refine CW.cutJ (fun L' M' => ∃ p73 : Bool, q71 = p73 ∧ L' = [(0, .slice (subA A0_ c0_ 1 1) (a0.drop 1).length (c0_ - 1)), (2, .bool (decide (192 ≤ x3.toNat))), (8, .int .i64 ((n15 - 55 : Nat) : Int)), (9, ptr (some b70) 0), (58, .bool (p73))] ∧ M' = ((some b70, blk (u64s x65.toList) 25) :: ([] ++ N))) ?_ ?_
              · rintro L75 M76 ⟨p73, e74, e77, e78⟩
                rw [e77, e78]
                clear e77 e78 L75 M76
                clear hq72
                rw [e74] at hq26
                clear e74
                try dsimp only at hq26
                refine QW.then_n ?_
                by_cases h79 : p73 = true
                · replace hq26 := if_t hq26 h79
                  refine CW.is_t rfl (h79) ?_
                  refine CW.seq ?_
                  refine CW.region ?_
                  refine OW.rv (RV.assign rfl) rfl ?_
                  refine OW.rv (RV.assign rfl) rfl ?_
                  refine OW.rv (RV.assign rfl) rfl ?_
                  refine OW.rv (RV.assign rfl) rfl ?_
                  refine OW.nil ?_
                  refine QW.then_n ?_
                  refine CW.ret ?_
                  refine QW.then_r ?_
                  refine QW.then_r ?_
                  have hc := Option.some.inj hq26
                  subst hc
                  try dsimp only at hf
                  refine QW.then_r ?_
                  have er0 := Option.some.inj hf
                  obtain ⟨e0, er1⟩ := Prod.mk.inj er0
                  clear er0
                  obtain ⟨e1, er2⟩ := Prod.mk.inj er1
                  clear er1
                  obtain ⟨e2, er3⟩ := Prod.mk.inj er2
                  clear er2
                  subst e0
                  subst e1
                  subst e2
                  subst er3
                  refine QW.retG (rs := [.tmp 2, .tmp 3, .tmp 4, .tmp 5]) ([.bool false, .slice none 0 0, .slice none 0 0, .int .i64 (72 : Int)]) ([]) rfl ?_ rfl ?_ ?_ _ (.inl rfl)
                  · exact ⟨rfl, rfl, rfl, rfl, trivial⟩
                  · exact ⟨[], none, 0, none, 0, View.nil, View.nil, (by omega), rfl, rfl⟩
                  · exact (fun w m => m.pick [] 1 rfl rfl)
                · replace hq26 := if_f hq26 h79
                  refine CW.is_f rfl (Bool.eq_false_iff.2 h79) ?_
                  refine CW.skip ?_
                  refine QW.then_n ?_
                  refine CW.seq ?_
                  refine CW.region ?_
                  refine OW.rv (RV.move rfl) rfl ?_
                  refine OW.rv (RV.move rfl) rfl ?_
                  refine OW.rv (RV.cut_lo (s := 1) ((n15 - 55)) rfl rfl (by omega) rfl rfl (by omega)) rfl ?_
                  refine OW.slot (.slice (subA (subA A0_ c0_ 1 1) (c0_ - 1) (n15 - 55) 1) ((a0.drop 1).drop (n15 - 55)).length ((c0_ - 1) - (n15 - 55))) (by rw [show (((a0.drop 1).drop (n15 - 55))).length = ((a0.drop 1)).length - ((n15 - 55)) from List.length_drop]) ?_
                  have v80 : View (More w0 Φ []) (subA (subA A0_ c0_ 1 1) (c0_ - 1) (n15 - 55) 1) ((a0.drop 1).drop (n15 - 55)).length ((c0_ - 1) - (n15 - 55)) 1 (u8s ((a0.drop 1).drop (n15 - 55))) := v22.lo8 (by omega)
                  have m81 := v80.mx
                  refine OW.rv (RV.assign rfl) rfl ?_
                  refine OW.nil ?_
                  refine QW.then_n ?_
                  refine CW.seq ?_
                  refine CW.seq ?_
                  refine CW.drawsU 7 mixed (by kernel_rfl) rfl ?_
                  refine UW.rv 0 rfl (by kernel_rfl) rfl (RV.loadW rfl (List.Mem.head _) rfl rfl rfl rfl ((u64s_length _).trans Vector.length_toList)) rfl ?_
                  refine UW.rv 1 rfl (by kernel_rfl) rfl (RV.move rfl) rfl ?_
                  refine UW.rv 2 rfl (by kernel_rfl) rfl (RV.len rfl rfl) rfl ?_
                  refine UW.rv 3 rfl (by kernel_rfl) rfl (RV.conv_i64 rfl rfl rfl) rfl ?_
                  refine UW.slot (U64 (BitVec.ofNat 64 (((a0.drop 1).drop (n15 - 55)).length))) (congrArg U64 (BitVec.ofInt_natCast ..)) ?_
                  obtain ⟨x83, hx82, hq26⟩ := some_bind hq26
                  refine UW.callG 4 rfl (by kernel_rfl) rfl Try.call66 rfl (fun N' hN' => u256_From_does w0 (More w0 Φ []) N' (fun w m => More.of hΦ 1 (hN' w m) rfl) (BitVec.ofNat 64 (((a0.drop 1).drop (n15 - 55)).length)) x83 hx82) rfl ?_
                  rintro _ G84 rfl
                  refine UW.mem (M' := ((some b70, blk (u64s x65.toList) 25) :: ([] ++ N))) (fun w m => m.appR) ?_
                  obtain ⟨x87, hx86, hq26⟩ := some_bind hq26
                  refine UW.callG 5 rfl (by kernel_rfl) rfl Try.call93 rfl (fun N' hN' => u256_Cmp_does w0 (More w0 Φ []) N' (fun w m => More.of hΦ 1 (hN' w m) rfl) x65 x83 x87 hx86) rfl ?_
                  rintro _ G89 ⟨b88, rfl⟩
                  refine UW.mem (M' := ((some b70, blk (u64s x65.toList) 25) :: ([] ++ N))) (fun w m => m.appR) ?_
                  refine UW.rv 6 rfl (by kernel_rfl) rfl (RV.gtr rfl rfl) rfl ?_
                  refine UW.nil (by kernel_rfl) ?_
                  refine OW.nil ?_
                  refine QW.then_n ?_
                  by_cases h91 : (0 : Int) < x87
                  · replace hq26 := if_t hq26 h91
                    refine CW.is_t rfl (decide_eq_true h91) ?_
                    refine CW.seq ?_
                    refine CW.region ?_
                    refine OW.rv (RV.assign rfl) rfl ?_
                    refine OW.rv (RV.assign rfl) rfl ?_
                    refine OW.rv (RV.assign rfl) rfl ?_
                    refine OW.rv (RV.assign rfl) rfl ?_
                    refine OW.nil ?_
                    refine QW.then_n ?_
                    refine CW.ret ?_
                    refine QW.then_r ?_
                    refine QW.then_r ?_
                    have hc := Option.some.inj hq26
                    subst hc
                    try dsimp only at hf
                    refine QW.then_r ?_
                    have er0 := Option.some.inj hf
                    obtain ⟨e0, er1⟩ := Prod.mk.inj er0
                    clear er0
                    obtain ⟨e1, er2⟩ := Prod.mk.inj er1
                    clear er1
                    obtain ⟨e2, er3⟩ := Prod.mk.inj er2
                    clear er2
                    subst e0
                    subst e1
                    subst e2
                    subst er3
                    refine QW.retG (rs := [.tmp 2, .tmp 3, .tmp 4, .tmp 5]) ([.bool false, .slice none 0 0, .slice none 0 0, .int .i64 (70 : Int)]) ([]) rfl ?_ rfl ?_ ?_ _ (.inl rfl)
                    · exact ⟨rfl, rfl, rfl, rfl, trivial⟩
                    · exact ⟨[], none, 0, none, 0, View.nil, View.nil, (by omega), rfl, rfl⟩
                    · exact (fun w m => m.pick [] 1 rfl rfl)
                  · replace hq26 := if_f hq26 h91
                    refine CW.is_f rfl (decide_eq_false h91) ?_
                    refine CW.skip ?_
                    refine QW.then_n ?_
                    refine CW.region ?_
                    refine OW.rv (RV.idx_a (0) rfl rfl rfl rfl rfl (by omega)) rfl ?_
                    refine OW.rv (RV.load rfl (List.Mem.head _) rfl rfl rfl (u64s_at (vat' (by decide)))) rfl ?_
                    obtain ⟨g92, hq26⟩ := some_if hq26
                    refine OW.rv (RV.conv64_i rfl (by first | rfl | exact lit64 _ rfl) rfl rfl (by first | omega | (simp; omega))) rfl ?_
                    have m93 := (x65[0]).isLt
                    refine OW.rv (RV.assign rfl) rfl ?_
                    refine OW.nil ?_
                    exact QW.join ⟨((a0.drop 1).drop (n15 - 55)), (x65[0]).toNat, (subA (subA A0_ c0_ 1 1) (c0_ - 1) (n15 - 55) 1), ((c0_ - 1) - (n15 - 55)), (Option.some.inj hq26).symm, v80, (by omega), rfl, rfl⟩ ⟨rfl, rfl, rfl, trivial⟩ (fun w m => m.pick [] 1 rfl rfl)
              · skip
                refine CW.drawsU 10 mixed (by kernel_rfl) rfl ?_
                refine UW.rv 0 rfl (by kernel_rfl) rfl (RV.move rfl) rfl ?_
                obtain ⟨x94, hx95, hq72⟩ := some_bind hq72
                have hl96 := lt_of_at hx95
                refine UW.rv 1 rfl (by kernel_rfl) rfl (RV.idx_r (0) rfl rfl rfl rfl rfl (v22.isSome (by decide) hl96) (by omega)) rfl ?_
                refine UW.rv 2 rfl (by kernel_rfl) rfl (RV.load_at rfl rfl rfl (fun w m => v22.cell (More.of hΦ 1 m rfl) (u8s_at hx95))) rfl ?_
                refine UW.rv 3 rfl (by kernel_rfl) rfl (RV.eql8 rfl (by first | rfl | exact lit8 _ rfl) rfl (by first | rfl | exact lit8 _ rfl)) rfl ?_
                refine UW.rv 4 rfl (by kernel_rfl) rfl (RV.move rfl) rfl ?_
                by_cases h97 : x94 = 0#8
                · replace hq72 := if_t hq72 h97
                  refine UW.slot (.bool true) (congrArg Value.bool (decide_eq_true h97)) ?_
                  refine UW.skip 5 rfl (by kernel_rfl) rfl rfl ?_
                  refine UW.skip 6 rfl (by kernel_rfl) rfl rfl ?_
                  refine UW.skip 7 rfl (by kernel_rfl) rfl rfl ?_
                  refine UW.skip 8 rfl (by kernel_rfl) rfl rfl ?_
                  refine UW.rv 9 rfl (by kernel_rfl) rfl (RV.pick_t rfl rfl rfl) rfl ?_
                  refine UW.nil (by kernel_rfl) ?_
                  refine OW.nil ?_
                  exact QW.join ⟨true, (Option.some.inj hq72).symm, rfl, rfl⟩ ⟨rfl, rfl, rfl, rfl, rfl, trivial⟩ (fun w m => m.pick [0] 1 rfl rfl)
                · replace hq72 := if_f hq72 h97
                  refine UW.slot (.bool false) (congrArg Value.bool (decide_eq_false h97)) ?_
                  refine UW.rv 5 rfl (by kernel_rfl) rfl (RV.loadW rfl (List.Mem.head _) rfl rfl rfl rfl ((u64s_length _).trans Vector.length_toList)) rfl ?_
                  obtain ⟨x99, hx98, hq72⟩ := some_bind hq72
                  refine UW.callG 6 rfl (by kernel_rfl) rfl Try.call66 rfl (fun N' hN' => u256_From_does w0 (More w0 Φ []) N' (fun w m => More.of hΦ 1 (hN' w m) rfl) (55#64) x99 hx98) rfl ?_
                  rintro _ G100 rfl
                  refine UW.mem (M' := ((some b70, blk (u64s x65.toList) 25) :: ([] ++ N))) (fun w m => m.appR) ?_
                  obtain ⟨x103, hx102, hq72⟩ := some_bind hq72
                  refine UW.callG 7 rfl (by kernel_rfl) rfl Try.call93 rfl (fun N' hN' => u256_Cmp_does w0 (More w0 Φ []) N' (fun w m => More.of hΦ 1 (hN' w m) rfl) x65 x99 x103 hx102) rfl ?_
                  rintro _ G105 ⟨b104, rfl⟩
                  refine UW.mem (M' := ((some b70, blk (u64s x65.toList) 25) :: ([] ++ N))) (fun w m => m.appR) ?_
                  refine UW.rv 8 rfl (by kernel_rfl) rfl (RV.leq rfl rfl) rfl ?_
                  refine UW.rv 9 rfl (by kernel_rfl) rfl (RV.pick_f rfl rfl rfl) rfl ?_
                  refine UW.nil (by kernel_rfl) ?_
                  refine OW.nil ?_
                  exact QW.join ⟨(decide (x103 ≤ (0 : Int))), (Option.some.inj hq72).symm, rfl, rfl⟩ ⟨rfl, rfl, rfl, rfl, rfl, trivial⟩ (fun w m => m.pick [0] 1 rfl rfl)
          · replace hq26 := if_f hq26 h59
            refine CW.is_f rfl (decide_eq_false h59) ?_
            refine CW.skip ?_
            exact QW.join ⟨(a0.drop 1), n15, (subA A0_ c0_ 1 1), (c0_ - 1), (Option.some.inj hq26).symm, v22, (by omega), rfl, rfl⟩ ⟨rfl, rfl, rfl, trivial⟩ (fun w m => m.pick [] 0 rfl rfl)
      · skip
        by_cases h107 : 192 ≤ x3.toNat
        · replace hq14 := if_t hq14 h107
          refine CW.is_t rfl (decide_eq_true h107) ?_
          refine CW.region ?_
          refine OW.rv (RV.move rfl) rfl ?_
          refine OW.rv (RV.sub8 rfl (by first | rfl | exact lit8 _ rfl) rfl (by first | rfl | exact lit8 _ rfl)) rfl ?_
          refine OW.rv (RV.conv8_i rfl (by first | rfl | exact lit8 _ rfl) rfl rfl) rfl ?_
          have m108 := ((x3 - 192#8)).isLt
          refine OW.rv (RV.assign rfl) rfl ?_
          refine OW.nil ?_
          exact QW.join ⟨(x3 - 192#8).toNat, (Option.some.inj hq14).symm, (by omega), rfl, rfl⟩ ⟨rfl, rfl, rfl, trivial⟩ (fun w m => m.pick [] 0 rfl rfl)
        · replace hq14 := if_f hq14 h107
          refine CW.is_f rfl (decide_eq_false h107) ?_
          refine CW.skip ?_
          exact QW.join ⟨(x3 - 128#8).toNat, (Option.some.inj hq14).symm, (by omega), rfl, rfl⟩ ⟨rfl, rfl, rfl, trivial⟩ (fun w m => m.pick [] 0 rfl rfl)
theorem waybillref07_head_does (w0 : World) (Φ : Ctx) (N : List Ent) (hΦ : ∀ w, Mem w0 w N → Φ w) (A0_ : Option Addr) (c0_ : Nat) (a0 : List (BitVec 8)) (a1 : Nat) (a2 : Nat) (res0 : Hd) (res1 : Nat) (va0 : View Φ A0_ a0.length c0_ 1 (u8s a0)) (ba1 : a1 ≤ 9223372036854775807) (ba2 : a2 ≤ 9223372036854775807) (hf : waybillref07_head a0 a1 a2 = some (res0, res1)) : DoesG Try.prog 76 [.slice A0_ a0.length c0_, .int .i64 ((a1 : Nat) : Int), .int .i64 ((a2 : Nat) : Int)] w0 [] N (fun v G => ∃ B : List Ent, ∃ cr0 : List Value, (HdRd (More w0 Φ B) cr0 res0) ∧ (res1 ≤ 9223372036854775807) ∧ v = .tuple #[.agg cr0.toArray, .int .i64 ((res1 : Nat) : Int)] ∧ G = B) := by
  unfold waybillref07_head at hf
  replace va0 := va0.mono (Ψ := More w0 Φ []) (fun w q => q.1)
  have m1 := va0.mx
  refine DoesG.enter Try.func76 rfl Try.ntmps76 rfl (M := (([] ++ N))) rfl ?_
  refine CW.seq ?_
  refine CW.region ?_
  refine OW.alloc (l := [.bool false, .int .i64 (0 : Int), .int .i64 (0 : Int)]) rfl rfl rfl (fun b2 => ?_)
  refine OW.rv (RV.assign rfl) rfl ?_
  refine OW.nil ?_
  refine QW.then_n ?_
  refine CW.seq ?_
  refine CW.seq ?_
  refine CW.region ?_
  refine OW.rv (RV.move rfl) rfl ?_
  refine OW.rv (RV.move rfl) rfl ?_
  refine OW.rv (RV.geq rfl rfl) rfl ?_
  refine OW.slot (.bool (decide (a2 ≤ a1))) (congrArg Value.bool (decide_eq_decide.2 (by omega))) ?_
  refine OW.nil ?_
  refine QW.then_n ?_
  by_cases h3 : a2 ≤ a1
  · replace hf := if_t hf h3
    refine CW.is_t rfl (decide_eq_true h3) ?_
    refine CW.seq ?_
    refine CW.region ?_
    refine OW.rv (RV.buildSt (l := [.bool false, .int .i64 (0 : Int), .int .i64 (0 : Int)]) (cs := [.bool false, .int .i64 (0 : Int), .int .i64 (0 : Int)]) [] rfl rfl rfl rfl rfl rfl rfl) rfl ?_
    refine OW.sv (SV.storeW rfl rfl rfl (by intro u hu; simp at hu; rcases hu with rfl | rfl | rfl <;> rfl) rfl rfl rfl) ?_
    refine OW.rv (RV.assign rfl) rfl ?_
    refine OW.nil ?_
    refine QW.then_n ?_
    refine CW.ret ?_
    refine QW.then_r ?_
    have er0 := Option.some.inj hf
    obtain ⟨e0, er1⟩ := Prod.mk.inj er0
    clear er0
    subst e0
    subst er1
    have h4 : HdRd (More w0 Φ []) [.bool false, .int .i64 (0 : Int), .int .i64 (0 : Int)] (Hd.mk false 0 0) := by refine HdRd.mk ?_ ?_ <;> (first | omega | (dsimp only; omega)| (simp; done) | (show 0 ≤ 9223372036854775807; omega))
    refine QW.retG (rs := [.cell 6 105, .tmp 7]) ([.agg [.bool false, .int .i64 (0 : Int), .int .i64 (0 : Int)].toArray, .int .i64 (70 : Int)]) ([]) rfl ?_ rfl ?_ ?_ _ (.inl rfl)
    · exact ⟨⟨_, _, _, _, rfl, (List.Mem.head _), rfl, rfl, rfl, rfl⟩, rfl, trivial⟩
    · exact ⟨[], [.bool false, .int .i64 (0 : Int), .int .i64 (0 : Int)], h4, (by omega), rfl, rfl⟩
    · exact (fun w m => m.pick [] 1 rfl rfl)
  · replace hf := if_f hf h3
    refine CW.is_f rfl (decide_eq_false h3) ?_
    refine CW.skip ?_
    refine QW.then_n ?_
    refine CW.seq ?_
    refine CW.region ?_
    refine OW.rv (RV.move rfl) rfl ?_
    refine OW.rv (RV.move rfl) rfl ?_
    obtain ⟨x5, hx6, hf⟩ := some_bind hf
    have hl7 := lt_of_at hx6
    refine OW.rv (RV.idx_r (a1) rfl rfl rfl rfl rfl (va0.isSome (by decide) hl7) (by omega)) rfl ?_
    refine OW.rv (RV.load_at rfl rfl rfl (fun w m => va0.cell (More.of hΦ 1 m rfl) (u8s_at hx6))) rfl ?_
    refine OW.rv (RV.conv8_i rfl (by first | rfl | exact lit8 _ rfl) rfl rfl) rfl ?_
    have m8 := (x5).isLt
    refine OW.rv (RV.assign rfl) rfl ?_
    refine OW.nil ?_
    refine QW.then_n ?_
    refine CW.seq ?_
    refine CW.seq ?_
    refine CW.region ?_
    refine OW.rv (RV.move rfl) rfl ?_
    refine OW.rv (RV.lss rfl rfl) rfl ?_
    refine OW.slot (.bool (decide (x5.toNat < 128))) (congrArg Value.bool (decide_eq_decide.2 (by omega))) ?_
    refine OW.nil ?_
    refine QW.then_n ?_
    by_cases h9 : x5.toNat < 128
    · replace hf := if_t hf h9
      refine CW.is_t rfl (decide_eq_true h9) ?_
      refine CW.seq ?_
      refine CW.region ?_
      refine OW.rv (RV.move rfl) rfl ?_
      refine OW.rv (RV.move rfl) rfl ?_
      refine OW.rv (RV.add rfl rfl (by omega)) rfl ?_
      refine OW.slot (.int .i64 (((a1 + 1) : Nat) : Int)) (by first | rfl | (congr 1) | (congr 1; omega)) ?_
      refine OW.rv (RV.buildSt (l := [.bool false, .int .i64 (0 : Int), .int .i64 (0 : Int)]) (cs := [.bool false, .int .i64 ((a1 : Nat) : Int), .int .i64 (((a1 + 1) : Nat) : Int)]) [(1, [.int .i64 ((a1 : Nat) : Int)]), (2, [.int .i64 (((a1 + 1) : Nat) : Int)])] rfl rfl rfl rfl rfl rfl rfl) rfl ?_
      refine OW.sv (SV.storeW rfl rfl rfl (by intro u hu; simp at hu; rcases hu with rfl | rfl | rfl <;> rfl) rfl rfl rfl) ?_
      refine OW.rv (RV.assign rfl) rfl ?_
      refine OW.nil ?_
      refine QW.then_n ?_
      refine CW.ret ?_
      refine QW.then_r ?_
      have er0 := Option.some.inj hf
      obtain ⟨e0, er1⟩ := Prod.mk.inj er0
      clear er0
      subst e0
      subst er1
      have h10 : HdRd (More w0 Φ []) [.bool false, .int .i64 ((a1 : Nat) : Int), .int .i64 (((a1 + 1) : Nat) : Int)] (Hd.mk false a1 (a1 + 1)) := by refine HdRd.mk ?_ ?_ <;> (first | omega | (dsimp only; omega)| (simp; done) | (show 0 ≤ 9223372036854775807; omega))
      refine QW.retG (rs := [.cell 6 105, .tmp 7]) ([.agg [.bool false, .int .i64 ((a1 : Nat) : Int), .int .i64 (((a1 + 1) : Nat) : Int)].toArray, .int .i64 (0 : Int)]) ([]) rfl ?_ rfl ?_ ?_ _ (.inl rfl)
      · exact ⟨⟨_, _, _, _, rfl, (List.Mem.head _), rfl, rfl, rfl, rfl⟩, rfl, trivial⟩
      · exact ⟨[], [.bool false, .int .i64 ((a1 : Nat) : Int), .int .i64 (((a1 + 1) : Nat) : Int)], h10, (by omega), rfl, rfl⟩
      · exact (fun w m => m.pick [] 1 rfl rfl)
    · replace hf := if_f hf h9
      refine CW.is_f rfl (decide_eq_false h9) ?_
      refine CW.skip ?_
      refine QW.then_n ?_
      refine CW.seq ?_
      refine CW.region ?_
      refine OW.rv (RV.move rfl) rfl ?_
      refine OW.rv (RV.geq rfl rfl) rfl ?_
      refine OW.slot (.bool (decide (192 ≤ x5.toNat))) (congrArg Value.bool (decide_eq_decide.2 (by omega))) ?_
      refine OW.rv (RV.move rfl) rfl ?_
      refine OW.rv (RV.add rfl rfl (by omega)) rfl ?_
      refine OW.slot (.int .i64 (((a1 + 1) : Nat) : Int)) (by first | rfl | (congr 1) | (congr 1; omega)) ?_
      refine OW.rv (RV.buildSt (l := [.bool false, .int .i64 (0 : Int), .int .i64 (0 : Int)]) (cs := [.bool (decide (192 ≤ x5.toNat)), .int .i64 (((a1 + 1) : Nat) : Int), .int .i64 (0 : Int)]) [(0, [.bool (decide (192 ≤ x5.toNat))]), (1, [.int .i64 (((a1 + 1) : Nat) : Int)])] rfl rfl rfl rfl rfl rfl rfl) rfl ?_
      refine OW.alloc (l := [.bool false, .int .i64 (0 : Int), .int .i64 (0 : Int)]) rfl rfl rfl (fun b11 => ?_)
      refine OW.sv (SV.storeW rfl rfl rfl (by intro u hu; simp at hu; rcases hu with rfl | rfl | rfl <;> rfl) rfl rfl rfl) ?_
      refine OW.nil ?_
      refine QW.then_n ?_
      refine CW.seq ?_
      refine CW.region ?_
      refine OW.rv (RV.move rfl) rfl ?_
      refine OW.rv (RV.rem rfl rfl (by omega) (by omega)) rfl ?_
      refine OW.slot (.int .i64 ((x5.toNat % 64 : Nat) : Int)) (by first | rfl | (congr 1; omega)) ?_
      refine OW.rv (RV.assign rfl) rfl ?_
      refine OW.nil ?_
      refine QW.then_n ?_
      refine CW.seq ?_
      refine CW.seq ?_
      refine CW.region ?_
      refine OW.rv (RV.move rfl) rfl ?_
      refine OW.rv (RV.gtr rfl rfl) rfl ?_
      refine OW.slot (.bool (decide (55 < (x5.toNat % 64)))) (congrArg Value.bool (decide_eq_decide.2 (by omega))) ?_
      refine OW.nil ?_
      refine QW.then_n ?_
      obtain ⟨q12, hq13, hf⟩ := some_bind hf
      refine CW.cutJ (fun L' M' => ∃ n14 : Nat, ∃ p16 : Bool, ∃ n17 : Nat, ∃ n19 : Nat, q12 = Lp.go (n14, p16, n17, n19) ∧ (n14 ≤ 9223372036854775807) ∧ (n17 ≤ 9223372036854775807) ∧ (n19 ≤ 9223372036854775807) ∧ L' = [(0, .slice A0_ a0.length c0_), (2, .int .i64 ((a2 : Nat) : Int)), (6, ptr (some b2) 0), (9, ptr (some b11) 0), (10, .int .i64 ((n14 : Nat) : Int))] ∧ M' = ((some b11, blk [.bool (p16), .int .i64 ((n17 : Nat) : Int), .int .i64 ((n19 : Nat) : Int)] 105) :: (some b2, blk [.bool false, .int .i64 (0 : Int), .int .i64 (0 : Int)] 105) :: ([] ++ N))) ?_ ?_
      · rintro L22 M23 ⟨n14, p16, n17, n19, e21, b15, b18, b20, e24, e25⟩
        rw [e24, e25]
        clear e24 e25 L22 M23
        clear hq13
        rw [e21] at hf
        clear e21
        try dsimp only at hf
        refine QW.then_n ?_
        refine CW.seq ?_
        refine CW.seq ?_
        refine CW.region ?_
        refine OW.rv (RV.move rfl) rfl ?_
        refine OW.rv (RV.move rfl) rfl ?_
        refine OW.rv (RV.field rfl rfl rfl rfl) rfl ?_
        refine OW.rv (RV.load rfl (List.Mem.head _) rfl rfl rfl rfl) rfl ?_
        refine OW.rv (RV.sub rfl rfl (by omega)) rfl ?_
        refine OW.rv (RV.gtr rfl rfl) rfl ?_
        refine OW.nil ?_
        refine QW.then_n ?_
        by_cases h26 : (((a2 : Nat) : Int) - ((n17 : Nat) : Int)) < ((n14 : Nat) : Int)
        · replace hf := if_t hf h26
          refine CW.is_t rfl (decide_eq_true h26) ?_
          refine CW.seq ?_
          refine CW.region ?_
          refine OW.rv (RV.buildSt (l := [.bool false, .int .i64 (0 : Int), .int .i64 (0 : Int)]) (cs := [.bool false, .int .i64 (0 : Int), .int .i64 (0 : Int)]) [] rfl rfl rfl rfl rfl rfl rfl) rfl ?_
          refine OW.rot1 ?_
          refine OW.sv (SV.storeW rfl rfl rfl (by intro u hu; simp at hu; rcases hu with rfl | rfl | rfl <;> rfl) rfl rfl rfl) ?_
          refine OW.rv (RV.assign rfl) rfl ?_
          refine OW.nil ?_
          refine QW.then_n ?_
          refine CW.ret ?_
          refine QW.then_r ?_
          have er0 := Option.some.inj hf
          obtain ⟨e0, er1⟩ := Prod.mk.inj er0
          clear er0
          subst e0
          subst er1
          have h27 : HdRd (More w0 Φ []) [.bool false, .int .i64 (0 : Int), .int .i64 (0 : Int)] (Hd.mk false 0 0) := by refine HdRd.mk ?_ ?_ <;> (first | omega | (dsimp only; omega)| (simp; done) | (show 0 ≤ 9223372036854775807; omega))
          refine QW.retG (rs := [.cell 6 105, .tmp 7]) ([.agg [.bool false, .int .i64 (0 : Int), .int .i64 (0 : Int)].toArray, .int .i64 (70 : Int)]) ([]) rfl ?_ rfl ?_ ?_ _ (.inl rfl)
          · exact ⟨⟨_, _, _, _, rfl, (List.Mem.head _), rfl, rfl, rfl, rfl⟩, rfl, trivial⟩
          · exact ⟨[], [.bool false, .int .i64 (0 : Int), .int .i64 (0 : Int)], h27, (by omega), rfl, rfl⟩
          · exact (fun w m => m.pick [] 2 rfl rfl)
        · replace hf := if_f hf h26
          refine CW.is_f rfl (decide_eq_false h26) ?_
          refine CW.skip ?_
          refine QW.then_n ?_
          refine CW.seq ?_
          refine CW.region ?_
          refine OW.rv (RV.field rfl rfl rfl rfl) rfl ?_
          refine OW.rv (RV.load rfl (List.Mem.head _) rfl rfl rfl rfl) rfl ?_
          refine OW.rv (RV.move rfl) rfl ?_
          obtain ⟨g28, hf⟩ := some_if hf
          refine OW.rv (RV.add rfl rfl (by omega)) rfl ?_
          refine OW.slot (.int .i64 (((n17 + n14) : Nat) : Int)) (by first | rfl | (congr 1) | (congr 1; omega)) ?_
          refine OW.rv (RV.field rfl rfl rfl rfl) rfl ?_
          refine OW.sv (SV.store rfl rfl rfl rfl rfl (by simp)) ?_
          refine OW.cells [.bool (p16), .int .i64 ((n17 : Nat) : Int), .int .i64 (((n17 + n14) : Nat) : Int)] rfl ?_
          refine OW.nil ?_
          refine QW.then_n ?_
          refine CW.seq ?_
          refine CW.seq ?_
          obtain ⟨q29, hq30, hf⟩ := some_bind hf
          refine CW.cutJ (fun L' M' => ∃ p31 : Bool, q29 = p31 ∧ L' = [(6, ptr (some b2) 0), (9, ptr (some b11) 0), (116, .bool (p31))] ∧ M' = ((some b11, blk [.bool (p16), .int .i64 ((n17 : Nat) : Int), .int .i64 (((n17 + n14) : Nat) : Int)] 105) :: (some b2, blk [.bool false, .int .i64 (0 : Int), .int .i64 (0 : Int)] 105) :: ([] ++ N))) ?_ ?_
          · rintro L33 M34 ⟨p31, e32, e35, e36⟩
            rw [e35, e36]
            clear e35 e36 L33 M34
            clear hq30
            rw [e32] at hf
            clear e32
            try dsimp only at hf
            refine QW.then_n ?_
            by_cases h37 : p31 = true
            · replace hf := if_t hf h37
              refine CW.is_t rfl (h37) ?_
              refine CW.seq ?_
              refine CW.region ?_
              refine OW.rv (RV.buildSt (l := [.bool false, .int .i64 (0 : Int), .int .i64 (0 : Int)]) (cs := [.bool false, .int .i64 (0 : Int), .int .i64 (0 : Int)]) [] rfl rfl rfl rfl rfl rfl rfl) rfl ?_
              refine OW.rot1 ?_
              refine OW.sv (SV.storeW rfl rfl rfl (by intro u hu; simp at hu; rcases hu with rfl | rfl | rfl <;> rfl) rfl rfl rfl) ?_
              refine OW.rv (RV.assign rfl) rfl ?_
              refine OW.nil ?_
              refine QW.then_n ?_
              refine CW.ret ?_
              refine QW.then_r ?_
              have er0 := Option.some.inj hf
              obtain ⟨e0, er1⟩ := Prod.mk.inj er0
              clear er0
              subst e0
              subst er1
              have h38 : HdRd (More w0 Φ []) [.bool false, .int .i64 (0 : Int), .int .i64 (0 : Int)] (Hd.mk false 0 0) := by refine HdRd.mk ?_ ?_ <;> (first | omega | (dsimp only; omega)| (simp; done) | (show 0 ≤ 9223372036854775807; omega))
              refine QW.retG (rs := [.cell 6 105, .tmp 7]) ([.agg [.bool false, .int .i64 (0 : Int), .int .i64 (0 : Int)].toArray, .int .i64 (71 : Int)]) ([]) rfl ?_ rfl ?_ ?_ _ (.inl rfl)
              · exact ⟨⟨_, _, _, _, rfl, (List.Mem.head _), rfl, rfl, rfl, rfl⟩, rfl, trivial⟩
              · exact ⟨[], [.bool false, .int .i64 (0 : Int), .int .i64 (0 : Int)], h38, (by omega), rfl, rfl⟩
              · exact (fun w m => m.pick [] 2 rfl rfl)
            · replace hf := if_f hf h37
              refine CW.is_f rfl (Bool.eq_false_iff.2 h37) ?_
              refine CW.skip ?_
              refine QW.then_n ?_
              refine CW.seq ?_
              refine CW.region ?_
              refine OW.rv (RV.loadW rfl (List.Mem.head _) rfl rfl rfl rfl rfl) rfl ?_
              refine OW.rot1 ?_
              refine OW.sv (SV.storeW rfl rfl rfl (by intro u hu; simp at hu; rcases hu with rfl | rfl | rfl <;> rfl) rfl rfl rfl) ?_
              refine OW.rv (RV.assign rfl) rfl ?_
              refine OW.nil ?_
              refine QW.then_n ?_
              refine CW.ret ?_
              have er0 := Option.some.inj hf
              obtain ⟨e0, er1⟩ := Prod.mk.inj er0
              clear er0
              subst e0
              subst er1
              have h39 : HdRd (More w0 Φ []) [.bool (p16), .int .i64 ((n17 : Nat) : Int), .int .i64 (((n17 + n14) : Nat) : Int)] (Hd.mk (p16) n17 (n17 + n14)) := by refine HdRd.mk ?_ ?_ <;> (first | omega | (dsimp only; omega)| (simp; done) | (show 0 ≤ 9223372036854775807; omega))
              refine QW.retG (rs := [.cell 6 105, .tmp 7]) ([.agg [.bool (p16), .int .i64 ((n17 : Nat) : Int), .int .i64 (((n17 + n14) : Nat) : Int)].toArray, .int .i64 (0 : Int)]) ([]) rfl ?_ rfl ?_ ?_ _ (.inl rfl)
              · exact ⟨⟨_, _, _, _, rfl, (List.Mem.head _), rfl, rfl, rfl, rfl⟩, rfl, trivial⟩
              · exact ⟨[], [.bool (p16), .int .i64 ((n17 : Nat) : Int), .int .i64 (((n17 + n14) : Nat) : Int)], h39, (by omega), rfl, rfl⟩
              · exact (fun w m => m.pick [] 2 rfl rfl)
          · skip
            refine CW.region ?_
            refine OW.rv (RV.field rfl rfl rfl rfl) rfl ?_
            refine OW.rv (RV.load rfl (List.Mem.head _) rfl rfl rfl rfl) rfl ?_
            refine OW.rv (RV.not rfl) rfl ?_
            refine OW.rv (RV.move rfl) rfl ?_
            by_cases h40 : p16 = true
            · replace hq30 := if_t hq30 h40
              refine OW.slot (.bool false) (congrArg Value.bool (congrArg (fun b => !b) (h40))) ?_
              refine OW.skip rfl rfl rfl ?_
              refine OW.skip rfl rfl rfl ?_
              refine OW.rv (RV.pick_f rfl rfl rfl) rfl ?_
              refine OW.rv (RV.move rfl) rfl ?_
              refine OW.skip rfl rfl rfl ?_
              refine OW.skip rfl rfl rfl ?_
              refine OW.skip rfl rfl rfl ?_
              refine OW.skip rfl rfl rfl ?_
              refine OW.skip rfl rfl rfl ?_
              refine OW.skip rfl rfl rfl ?_
              refine OW.rv (RV.pick_f rfl rfl rfl) rfl ?_
              refine OW.nil ?_
              exact QW.join ⟨false, (Option.some.inj hq30).symm, rfl, rfl⟩ ⟨rfl, rfl, rfl, trivial⟩ (fun w m => m.pick [0, 1] 2 rfl rfl)
            · replace hq30 := if_f hq30 h40
              refine OW.slot (.bool true) (congrArg Value.bool (congrArg (fun b => !b) (Bool.eq_false_iff.2 h40))) ?_
              refine OW.want rfl ?_
              refine OW.rv (RV.move rfl) rfl ?_
              refine OW.want rfl ?_
              refine OW.rv (RV.eql rfl rfl) rfl ?_
              refine OW.slot (.bool (decide (n14 = 1))) (congrArg Value.bool (decide_eq_decide.2 (by omega))) ?_
              refine OW.rv (RV.pick_t rfl rfl rfl) rfl ?_
              refine OW.rv (RV.move rfl) rfl ?_
              by_cases h41 : n14 = 1
              · replace hq30 := if_t hq30 h41
                refine OW.slot (.bool true) (congrArg Value.bool (decide_eq_true h41)) ?_
                refine OW.want rfl ?_
                refine OW.rv (RV.move rfl) rfl ?_
                refine OW.want rfl ?_
                refine OW.rv (RV.field rfl rfl rfl rfl) rfl ?_
                refine OW.want rfl ?_
                refine OW.rv (RV.load rfl (List.Mem.head _) rfl rfl rfl rfl) rfl ?_
                refine OW.want rfl ?_
                obtain ⟨x42, hx43, hq30⟩ := some_bind hq30
                have hl44 := lt_of_at hx43
                refine OW.rv (RV.idx_r (n17) rfl rfl rfl rfl rfl (va0.isSome (by decide) hl44) (by omega)) rfl ?_
                refine OW.want rfl ?_
                refine OW.rv (RV.load_at rfl rfl rfl (fun w m => va0.cell (More.of hΦ 2 m rfl) (u8s_at hx43))) rfl ?_
                refine OW.want rfl ?_
                refine OW.rv (RV.lss rfl rfl) rfl ?_
                refine OW.slot (.bool (decide (x42.toNat < 128))) (congrArg Value.bool (decide_eq_decide.2 (by first | omega | (simp; omega) | simp))) ?_
                refine OW.rv (RV.pick_t rfl rfl rfl) rfl ?_
                refine OW.nil ?_
                exact QW.join ⟨(decide (x42.toNat < 128)), (Option.some.inj hq30).symm, rfl, rfl⟩ ⟨rfl, rfl, rfl, trivial⟩ (fun w m => m.pick [0, 1] 2 rfl rfl)
              · replace hq30 := if_f hq30 h41
                refine OW.slot (.bool false) (congrArg Value.bool (decide_eq_false h41)) ?_
                refine OW.skip rfl rfl rfl ?_
                refine OW.skip rfl rfl rfl ?_
                refine OW.skip rfl rfl rfl ?_
                refine OW.skip rfl rfl rfl ?_
                refine OW.skip rfl rfl rfl ?_
                refine OW.skip rfl rfl rfl ?_
                refine OW.rv (RV.pick_f rfl rfl rfl) rfl ?_
                refine OW.nil ?_
                exact QW.join ⟨false, (Option.some.inj hq30).symm, rfl, rfl⟩ ⟨rfl, rfl, rfl, trivial⟩ (fun w m => m.pick [0, 1] 2 rfl rfl)
      · skip
        by_cases h45 : 55 < (x5.toNat % 64)
        · replace hq13 := if_t hq13 h45
          refine CW.is_t rfl (decide_eq_true h45) ?_
          refine CW.seq ?_
          refine CW.region ?_
          refine OW.rv (RV.move rfl) rfl ?_
          refine OW.rv (RV.sub rfl rfl (by omega)) rfl ?_
          refine OW.slot (.int .i64 (((x5.toNat % 64) - 55 : Nat) : Int)) (by congr 1; omega) ?_
          refine OW.rv (RV.assign rfl) rfl ?_
          refine OW.nil ?_
          refine QW.then_n ?_
          refine CW.seq ?_
          refine CW.seq ?_
          refine CW.region ?_
          refine OW.rv (RV.move rfl) rfl ?_
          refine OW.rv (RV.field rfl rfl rfl rfl) rfl ?_
          refine OW.rv (RV.load rfl (List.Mem.head _) rfl rfl rfl rfl) rfl ?_
          refine OW.rv (RV.sub rfl rfl (by omega)) rfl ?_
          refine OW.rv (RV.move rfl) rfl ?_
          refine OW.rv (RV.lss rfl rfl) rfl ?_
          refine OW.nil ?_
          refine QW.then_n ?_
          by_cases h46 : (((a2 : Nat) : Int) - (((a1 + 1) : Nat) : Int)) < (((x5.toNat % 64) - 55 : Nat) : Int)
          · replace hq13 := if_t hq13 h46
            refine CW.is_t rfl (decide_eq_true h46) ?_
            refine CW.seq ?_
            refine CW.region ?_
            refine OW.rv (RV.buildSt (l := [.bool false, .int .i64 (0 : Int), .int .i64 (0 : Int)]) (cs := [.bool false, .int .i64 (0 : Int), .int .i64 (0 : Int)]) [] rfl rfl rfl rfl rfl rfl rfl) rfl ?_
            refine OW.rot1 ?_
            refine OW.sv (SV.storeW rfl rfl rfl (by intro u hu; simp at hu; rcases hu with rfl | rfl | rfl <;> rfl) rfl rfl rfl) ?_
            refine OW.rv (RV.assign rfl) rfl ?_
            refine OW.nil ?_
            refine QW.then_n ?_
            refine CW.ret ?_
            refine QW.then_r ?_
            refine QW.then_r ?_
            have hc := Option.some.inj hq13
            subst hc
            try dsimp only at hf
            refine QW.then_r ?_
            have er0 := Option.some.inj hf
            obtain ⟨e0, er1⟩ := Prod.mk.inj er0
            clear er0
            subst e0
            subst er1
            have h47 : HdRd (More w0 Φ []) [.bool false, .int .i64 (0 : Int), .int .i64 (0 : Int)] (Hd.mk false 0 0) := by refine HdRd.mk ?_ ?_ <;> (first | omega | (dsimp only; omega)| (simp; done) | (show 0 ≤ 9223372036854775807; omega))
            refine QW.retG (rs := [.cell 6 105, .tmp 7]) ([.agg [.bool false, .int .i64 (0 : Int), .int .i64 (0 : Int)].toArray, .int .i64 (70 : Int)]) ([]) rfl ?_ rfl ?_ ?_ _ (.inl rfl)
            · exact ⟨⟨_, _, _, _, rfl, (List.Mem.head _), rfl, rfl, rfl, rfl⟩, rfl, trivial⟩
            · exact ⟨[], [.bool false, .int .i64 (0 : Int), .int .i64 (0 : Int)], h47, (by omega), rfl, rfl⟩
            · exact (fun w m => m.pick [] 2 rfl rfl)
          · replace hq13 := if_f hq13 h46
            refine CW.is_f rfl (decide_eq_false h46) ?_
            refine CW.skip ?_
            refine QW.then_n ?_
            refine CW.seq ?_
            refine CW.region ?_
            refine OW.rv (RV.move rfl) rfl ?_
            refine OW.rv (RV.field rfl rfl rfl rfl) rfl ?_
            refine OW.rv (RV.load rfl (List.Mem.head _) rfl rfl rfl rfl) rfl ?_
            refine OW.rv (RV.field rfl rfl rfl rfl) rfl ?_
            refine OW.rv (RV.load rfl (List.Mem.head _) rfl rfl rfl rfl) rfl ?_
            refine OW.rv (RV.move rfl) rfl ?_
            obtain ⟨g48, hq13⟩ := some_if hq13
            refine OW.rv (RV.add rfl rfl (by omega)) rfl ?_
            refine OW.slot (.int .i64 ((((a1 + 1) + ((x5.toNat % 64) - 55)) : Nat) : Int)) (by first | rfl | (congr 1) | (congr 1; omega)) ?_
            obtain ⟨g50, hq13⟩ := some_if hq13
            obtain ⟨g51, hq13⟩ := some_if hq13
            have hle := va0.le
            refine OW.rv (RV.cut_both (s := 1) ((a1 + 1)) (((a1 + 1) + ((x5.toNat % 64) - 55))) rfl rfl rfl (by omega) (by omega) rfl rfl (by omega) (by omega)) rfl ?_
            refine OW.slot (.slice (subA A0_ c0_ (a1 + 1) 1) ((a0.take ((a1 + 1) + ((x5.toNat % 64) - 55))).drop (a1 + 1)).length (c0_ - (a1 + 1))) (by rw [show (((a0.take ((a1 + 1) + ((x5.toNat % 64) - 55))).drop (a1 + 1))).length = (((a1 + 1) + ((x5.toNat % 64) - 55))) - ((a1 + 1)) from List.length_drop.trans (by rw [List.length_take, Nat.min_eq_left (by omega)])]) ?_
            have v49 : View (More w0 Φ []) (subA A0_ c0_ (a1 + 1) 1) ((a0.take ((a1 + 1) + ((x5.toNat % 64) - 55))).drop (a1 + 1)).length (c0_ - (a1 + 1)) 1 (u8s ((a0.take ((a1 + 1) + ((x5.toNat % 64) - 55))).drop (a1 + 1))) := va0.mid8 (by omega) (by omega)
            have m52 := v49.mx
            obtain ⟨⟨x54, x55⟩, hx53, hq13⟩ := some_bind hq13
            try dsimp only at hq13
            refine OW.callG Try.call91 rfl (waybillref01_Get_does w0 (More w0 Φ []) ((some b11, blk [.bool (decide (192 ≤ x5.toNat)), .int .i64 (((a1 + 1) : Nat) : Int), .int .i64 (0 : Int)] 105) :: (some b2, blk [.bool false, .int .i64 (0 : Int), .int .i64 (0 : Int)] 105) :: ([] ++ N)) (fun w m => More.of hΦ 2 m rfl) (subA A0_ c0_ (a1 + 1) 1) (c0_ - (a1 + 1)) ((a0.take ((a1 + 1) + ((x5.toNat % 64) - 55))).drop (a1 + 1)) x54 x55 v49 hx53) rfl rfl ?_
            rintro _ G57 ⟨b56, rfl⟩
            refine OW.mem (M' := ((some b11, blk [.bool (decide (192 ≤ x5.toNat)), .int .i64 (((a1 + 1) : Nat) : Int), .int .i64 (0 : Int)] 105) :: (some b2, blk [.bool false, .int .i64 (0 : Int), .int .i64 (0 : Int)] 105) :: ([] ++ N))) (fun w m => m.appR) ?_
            refine OW.rv (RV.move rfl) rfl ?_
            refine OW.rv (RV.extract rfl rfl) rfl ?_
            refine OW.slot (.agg (u64s x54.toList).toArray) (rfl) ?_
            refine OW.rv (RV.extract rfl rfl) rfl ?_
            refine OW.slot (.int .i64 ((x55 : Nat) : Int)) (rfl) ?_
            refine OW.alloc (l := (u64s (Vector.replicate 4 0#64).toList)) rfl (by rw [Vector.toList_replicate, ← u64s_rep]; rfl) rfl (fun b59 => ?_)
            refine OW.sv (SV.storeW rfl rfl rfl (u64s_one _) rfl ((u64s_length _).trans Vector.length_toList) ((u64s_length _).trans Vector.length_toList)) ?_
            refine OW.rv (RV.assign rfl) rfl ?_
            refine OW.nil ?_
            refine QW.then_n ?_
            refine CW.seq ?_
            refine CW.seq ?_
            obtain ⟨q60, hq61, hq13⟩ := some_bind hq13
            refine CW.cutJ (fun L' M' => ∃ p62 : Bool, q60 = p62 ∧ L' = [(0, .slice A0_ a0.length c0_), (2, .int .i64 ((a2 : Nat) : Int)), (6, ptr (some b2) 0), (9, ptr (some b11) 0), (11, .int .i64 (((x5.toNat % 64) - 55 : Nat) : Int)), (12, ptr (some b59) 0), (70, .bool (p62))] ∧ M' = ((some b59, blk (u64s x54.toList) 25) :: (some b11, blk [.bool (decide (192 ≤ x5.toNat)), .int .i64 (((a1 + 1) : Nat) : Int), .int .i64 (0 : Int)] 105) :: (some b2, blk [.bool false, .int .i64 (0 : Int), .int .i64 (0 : Int)] 105) :: ([] ++ N))) ?_ ?_
            · rintro L64 M65 ⟨p62, e63, e66, e67⟩
              rw [e66, e67]
              clear e66 e67 L64 M65
              clear hq61
              rw [e63] at hq13
              clear e63
              try dsimp only at hq13
              refine QW.then_n ?_
              by_cases h68 : p62 = true
              · replace hq13 := if_t hq13 h68
                refine CW.is_t rfl (h68) ?_
                refine CW.seq ?_
                refine CW.region ?_
                refine OW.rv (RV.buildSt (l := [.bool false, .int .i64 (0 : Int), .int .i64 (0 : Int)]) (cs := [.bool false, .int .i64 (0 : Int), .int .i64 (0 : Int)]) [] rfl rfl rfl rfl rfl rfl rfl) rfl ?_
                refine OW.rot2 ?_
                refine OW.sv (SV.storeW rfl rfl rfl (by intro u hu; simp at hu; rcases hu with rfl | rfl | rfl <;> rfl) rfl rfl rfl) ?_
                refine OW.rv (RV.assign rfl) rfl ?_
                refine OW.nil ?_
                refine QW.then_n ?_
                refine CW.ret ?_
                refine QW.then_r ?_
                refine QW.then_r ?_
                have hc := Option.some.inj hq13
                subst hc
                try dsimp only at hf
                refine QW.then_r ?_
                have er0 := Option.some.inj hf
                obtain ⟨e0, er1⟩ := Prod.mk.inj er0
                clear er0
                subst e0
                subst er1
                have h69 : HdRd (More w0 Φ []) [.bool false, .int .i64 (0 : Int), .int .i64 (0 : Int)] (Hd.mk false 0 0) := by refine HdRd.mk ?_ ?_ <;> (first | omega | (dsimp only; omega)| (simp; done) | (show 0 ≤ 9223372036854775807; omega))
                refine QW.retG (rs := [.cell 6 105, .tmp 7]) ([.agg [.bool false, .int .i64 (0 : Int), .int .i64 (0 : Int)].toArray, .int .i64 (72 : Int)]) ([]) rfl ?_ rfl ?_ ?_ _ (.inl rfl)
                · exact ⟨⟨_, _, _, _, rfl, (List.Mem.head _), rfl, rfl, rfl, rfl⟩, rfl, trivial⟩
                · exact ⟨[], [.bool false, .int .i64 (0 : Int), .int .i64 (0 : Int)], h69, (by omega), rfl, rfl⟩
                · exact (fun w m => m.pick [] 3 rfl rfl)
              · replace hq13 := if_f hq13 h68
                refine CW.is_f rfl (Bool.eq_false_iff.2 h68) ?_
                refine CW.skip ?_
                refine QW.then_n ?_
                refine CW.seq ?_
                refine CW.region ?_
                refine OW.rv (RV.field rfl rfl rfl rfl) rfl ?_
                refine OW.rv (RV.load rfl (List.Mem.tail _ (List.Mem.head _)) rfl rfl rfl rfl) rfl ?_
                refine OW.rv (RV.move rfl) rfl ?_
                refine OW.rv (RV.add rfl rfl (by omega)) rfl ?_
                refine OW.slot (.int .i64 ((((a1 + 1) + ((x5.toNat % 64) - 55)) : Nat) : Int)) (by first | rfl | (congr 1) | (congr 1; omega)) ?_
                refine OW.rv (RV.field rfl rfl rfl rfl) rfl ?_
                refine OW.rot1 ?_
                refine OW.sv (SV.store rfl rfl rfl rfl rfl (by simp)) ?_
                refine OW.cells [.bool (decide (192 ≤ x5.toNat)), .int .i64 ((((a1 + 1) + ((x5.toNat % 64) - 55)) : Nat) : Int), .int .i64 (0 : Int)] rfl ?_
                refine OW.nil ?_
                refine QW.then_n ?_
                refine CW.seq ?_
                refine CW.seq ?_
                refine CW.drawsU 9 mixed (by kernel_rfl) rfl ?_
                refine UW.rv 0 rfl (by kernel_rfl) rfl (RV.loadW rfl (List.Mem.tail _ (List.Mem.head _)) rfl rfl rfl rfl ((u64s_length _).trans Vector.length_toList)) rfl ?_
                refine UW.rv 1 rfl (by kernel_rfl) rfl (RV.move rfl) rfl ?_
                refine UW.rv 2 rfl (by kernel_rfl) rfl (RV.field rfl rfl rfl rfl) rfl ?_
                refine UW.rv 3 rfl (by kernel_rfl) rfl (RV.load rfl (List.Mem.head _) rfl rfl rfl rfl) rfl ?_
                refine UW.rv 4 rfl (by kernel_rfl) rfl (RV.sub rfl rfl (by omega)) rfl ?_
                refine UW.rv 5 rfl (by kernel_rfl) rfl (RV.conv_i64 rfl rfl rfl) rfl ?_
                obtain ⟨x71, hx70, hq13⟩ := some_bind hq13
                refine UW.callG 6 rfl (by kernel_rfl) rfl Try.call67 rfl (fun N' hN' => waybillref01_From_does w0 (More w0 Φ []) N' (fun w m => More.of hΦ 3 (hN' w m) rfl) (BitVec.ofInt 64 (((a2 : Nat) : Int) - ((((a1 + 1) + ((x5.toNat % 64) - 55)) : Nat) : Int))) x71 hx70) rfl ?_
                rintro _ G72 rfl
                refine UW.mem (M' := ((some b11, blk [.bool (decide (192 ≤ x5.toNat)), .int .i64 ((((a1 + 1) + ((x5.toNat % 64) - 55)) : Nat) : Int), .int .i64 (0 : Int)] 105) :: (some b59, blk (u64s x54.toList) 25) :: (some b2, blk [.bool false, .int .i64 (0 : Int), .int .i64 (0 : Int)] 105) :: ([] ++ N))) (fun w m => m.appR) ?_
                obtain ⟨x75, hx74, hq13⟩ := some_bind hq13
                refine UW.callG 7 rfl (by kernel_rfl) rfl Try.call94 rfl (fun N' hN' => waybillref01_Cmp_does w0 (More w0 Φ []) N' (fun w m => More.of hΦ 3 (hN' w m) rfl) x54 x71 x75 hx74) rfl ?_
                rintro _ G77 ⟨b76, rfl⟩
                refine UW.mem (M' := ((some b11, blk [.bool (decide (192 ≤ x5.toNat)), .int .i64 ((((a1 + 1) + ((x5.toNat % 64) - 55)) : Nat) : Int), .int .i64 (0 : Int)] 105) :: (some b59, blk (u64s x54.toList) 25) :: (some b2, blk [.bool false, .int .i64 (0 : Int), .int .i64 (0 : Int)] 105) :: ([] ++ N))) (fun w m => m.appR) ?_
                refine UW.rv 8 rfl (by kernel_rfl) rfl (RV.gtr rfl rfl) rfl ?_
                refine UW.nil (by kernel_rfl) ?_
                refine OW.nil ?_
                refine QW.then_n ?_
                by_cases h79 : (0 : Int) < x75
                · replace hq13 := if_t hq13 h79
                  refine CW.is_t rfl (decide_eq_true h79) ?_
                  refine CW.seq ?_
                  refine CW.region ?_
                  refine OW.rv (RV.buildSt (l := [.bool false, .int .i64 (0 : Int), .int .i64 (0 : Int)]) (cs := [.bool false, .int .i64 (0 : Int), .int .i64 (0 : Int)]) [] rfl rfl rfl rfl rfl rfl rfl) rfl ?_
                  refine OW.rot2 ?_
                  refine OW.sv (SV.storeW rfl rfl rfl (by intro u hu; simp at hu; rcases hu with rfl | rfl | rfl <;> rfl) rfl rfl rfl) ?_
                  refine OW.rv (RV.assign rfl) rfl ?_
                  refine OW.nil ?_
                  refine QW.then_n ?_
                  refine CW.ret ?_
                  refine QW.then_r ?_
                  refine QW.then_r ?_
                  have hc := Option.some.inj hq13
                  subst hc
                  try dsimp only at hf
                  refine QW.then_r ?_
                  have er0 := Option.some.inj hf
                  obtain ⟨e0, er1⟩ := Prod.mk.inj er0
                  clear er0
                  subst e0
                  subst er1
                  have h80 : HdRd (More w0 Φ []) [.bool false, .int .i64 (0 : Int), .int .i64 (0 : Int)] (Hd.mk false 0 0) := by refine HdRd.mk ?_ ?_ <;> (first | omega | (dsimp only; omega)| (simp; done) | (show 0 ≤ 9223372036854775807; omega))
                  refine QW.retG (rs := [.cell 6 105, .tmp 7]) ([.agg [.bool false, .int .i64 (0 : Int), .int .i64 (0 : Int)].toArray, .int .i64 (70 : Int)]) ([]) rfl ?_ rfl ?_ ?_ _ (.inl rfl)
                  · exact ⟨⟨_, _, _, _, rfl, (List.Mem.head _), rfl, rfl, rfl, rfl⟩, rfl, trivial⟩
                  · exact ⟨[], [.bool false, .int .i64 (0 : Int), .int .i64 (0 : Int)], h80, (by omega), rfl, rfl⟩
                  · exact (fun w m => m.pick [] 3 rfl rfl)
                · replace hq13 := if_f hq13 h79
                  refine CW.is_f rfl (decide_eq_false h79) ?_
                  refine CW.skip ?_
                  refine QW.then_n ?_
                  refine CW.region ?_
                  refine OW.rv (RV.idx_a (0) rfl rfl rfl rfl rfl (by omega)) rfl ?_
                  refine OW.rv (RV.load rfl (List.Mem.tail _ (List.Mem.head _)) rfl rfl rfl (u64s_at (vat' (by decide)))) rfl ?_
                  obtain ⟨g81, hq13⟩ := some_if hq13
                  refine OW.rv (RV.conv64_i rfl (by first | rfl | exact lit64 _ rfl) rfl rfl (by first | omega | (simp; omega))) rfl ?_
                  have m82 := (x54[0]).isLt
                  refine OW.rv (RV.assign rfl) rfl ?_
                  refine OW.nil ?_
                  exact QW.join ⟨(x54[0]).toNat, (decide (192 ≤ x5.toNat)), ((a1 + 1) + ((x5.toNat % 64) - 55)), 0, (Option.some.inj hq13).symm, (by omega), (by omega), (by omega), rfl, rfl⟩ ⟨rfl, rfl, rfl, rfl, rfl, trivial⟩ (fun w m => m.pick [0, 2] 3 rfl rfl)
            · skip
              refine CW.drawsU 12 mixed (by kernel_rfl) rfl ?_
              refine UW.rv 0 rfl (by kernel_rfl) rfl (RV.move rfl) rfl ?_
              refine UW.rv 1 rfl (by kernel_rfl) rfl (RV.field rfl rfl rfl rfl) rfl ?_
              refine UW.rv 2 rfl (by kernel_rfl) rfl (RV.load rfl (List.Mem.tail _ (List.Mem.head _)) rfl rfl rfl rfl) rfl ?_
              obtain ⟨x83, hx84, hq61⟩ := some_bind hq61
              have hl85 := lt_of_at hx84
              refine UW.rv 3 rfl (by kernel_rfl) rfl (RV.idx_r ((a1 + 1)) rfl rfl rfl rfl rfl (va0.isSome (by decide) hl85) (by omega)) rfl ?_
              refine UW.rv 4 rfl (by kernel_rfl) rfl (RV.load_at rfl rfl rfl (fun w m => va0.cell (More.of hΦ 3 m rfl) (u8s_at hx84))) rfl ?_
              refine UW.rv 5 rfl (by kernel_rfl) rfl (RV.eql8 rfl (by first | rfl | exact lit8 _ rfl) rfl (by first | rfl | exact lit8 _ rfl)) rfl ?_
              refine UW.rv 6 rfl (by kernel_rfl) rfl (RV.move rfl) rfl ?_
              by_cases h86 : x83 = 0#8
              · replace hq61 := if_t hq61 h86
                refine UW.slot (.bool true) (congrArg Value.bool (decide_eq_true h86)) ?_
                refine UW.skip 7 rfl (by kernel_rfl) rfl rfl ?_
                refine UW.skip 8 rfl (by kernel_rfl) rfl rfl ?_
                refine UW.skip 9 rfl (by kernel_rfl) rfl rfl ?_
                refine UW.skip 10 rfl (by kernel_rfl) rfl rfl ?_
                refine UW.rv 11 rfl (by kernel_rfl) rfl (RV.pick_t rfl rfl rfl) rfl ?_
                refine UW.nil (by kernel_rfl) ?_
                refine OW.nil ?_
                exact QW.join ⟨true, (Option.some.inj hq61).symm, rfl, rfl⟩ ⟨rfl, rfl, rfl, rfl, rfl, rfl, rfl, trivial⟩ (fun w m => m.pick [0, 1, 2] 3 rfl rfl)
              · replace hq61 := if_f hq61 h86
                refine UW.slot (.bool false) (congrArg Value.bool (decide_eq_false h86)) ?_
                refine UW.rv 7 rfl (by kernel_rfl) rfl (RV.loadW rfl (List.Mem.head _) rfl rfl rfl rfl ((u64s_length _).trans Vector.length_toList)) rfl ?_
                obtain ⟨x88, hx87, hq61⟩ := some_bind hq61
                refine UW.callG 8 rfl (by kernel_rfl) rfl Try.call67 rfl (fun N' hN' => waybillref01_From_does w0 (More w0 Φ []) N' (fun w m => More.of hΦ 3 (hN' w m) rfl) (56#64) x88 hx87) rfl ?_
                rintro _ G89 rfl
                refine UW.mem (M' := ((some b59, blk (u64s x54.toList) 25) :: (some b11, blk [.bool (decide (192 ≤ x5.toNat)), .int .i64 (((a1 + 1) : Nat) : Int), .int .i64 (0 : Int)] 105) :: (some b2, blk [.bool false, .int .i64 (0 : Int), .int .i64 (0 : Int)] 105) :: ([] ++ N))) (fun w m => m.appR) ?_
                obtain ⟨x92, hx91, hq61⟩ := some_bind hq61
                refine UW.callG 9 rfl (by kernel_rfl) rfl Try.call94 rfl (fun N' hN' => waybillref01_Cmp_does w0 (More w0 Φ []) N' (fun w m => More.of hΦ 3 (hN' w m) rfl) x54 x88 x92 hx91) rfl ?_
                rintro _ G94 ⟨b93, rfl⟩
                refine UW.mem (M' := ((some b59, blk (u64s x54.toList) 25) :: (some b11, blk [.bool (decide (192 ≤ x5.toNat)), .int .i64 (((a1 + 1) : Nat) : Int), .int .i64 (0 : Int)] 105) :: (some b2, blk [.bool false, .int .i64 (0 : Int), .int .i64 (0 : Int)] 105) :: ([] ++ N))) (fun w m => m.appR) ?_
                refine UW.rv 10 rfl (by kernel_rfl) rfl (RV.lss rfl rfl) rfl ?_
                refine UW.rv 11 rfl (by kernel_rfl) rfl (RV.pick_f rfl rfl rfl) rfl ?_
                refine UW.nil (by kernel_rfl) ?_
                refine OW.nil ?_
                exact QW.join ⟨(decide (x92 < (0 : Int))), (Option.some.inj hq61).symm, rfl, rfl⟩ ⟨rfl, rfl, rfl, rfl, rfl, rfl, rfl, trivial⟩ (fun w m => m.pick [0, 1, 2] 3 rfl rfl)
        · replace hq13 := if_f hq13 h45
          refine CW.is_f rfl (decide_eq_false h45) ?_
          refine CW.skip ?_
          exact QW.join ⟨(x5.toNat % 64), (decide (192 ≤ x5.toNat)), (a1 + 1), 0, (Option.some.inj hq13).symm, (by omega), (by omega), (by omega), rfl, rfl⟩ ⟨rfl, rfl, rfl, rfl, rfl, trivial⟩ (fun w m => m.pick [0, 1] 2 rfl rfl)
theorem rlp_Split_does (w0 : World) (Φ : Ctx) (N : List Ent) (hΦ : ∀ w, Mem w0 w N → Φ w) (A0_ : Option Addr) (c0_ : Nat) (a0 : List (BitVec 8)) (res0 : Bool) (res1 : List (BitVec 8)) (res2 : List (BitVec 8)) (res3 : Nat) (va0 : View Φ A0_ a0.length c0_ 1 (u8s a0)) (hf : rlp_Split a0 = some (res0, res1, res2, res3)) : DoesG Try.prog 45 [.slice A0_ a0.length c0_] w0 [] N (fun v G => ∃ B : List Ent, ∃ or1 : Option Nat, ∃ kr1 : Nat, ∃ rr1 : List Value, ∃ or2 : Option Nat, ∃ kr2 : Nat, ∃ rr2 : List Value, (OwnS or1 res1.length kr1 1 (u8s res1) rr1) ∧ (OwnS or2 res2.length kr2 1 (u8s res2) rr2) ∧ (res3 ≤ 9223372036854775807) ∧ v = .tuple #[.bool res0, sl or1 0 res1.length kr1, sl or2 0 res2.length kr2, .int .i64 ((res3 : Nat) : Int)] ∧ G = (or1, blk ((u8s res1) ++ rr1) 5) :: (or2, blk ((u8s res2) ++ rr2) 5) :: B) := by
  unfold rlp_Split at hf
  replace va0 := va0.mono (Ψ := More w0 Φ []) (fun w q => q.1)
  have m1 := va0.mx
  refine DoesG.enter Try.func45 rfl Try.ntmps45 rfl (M := (([] ++ N))) rfl ?_
  refine CW.seq ?_
  refine CW.region ?_
  refine OW.rv (RV.assign rfl) rfl ?_
  refine OW.rv (RV.assign rfl) rfl ?_
  refine OW.rv (RV.assign rfl) rfl ?_
  refine OW.rv (RV.assign rfl) rfl ?_
  refine OW.nil ?_
  refine QW.then_n ?_
  refine CW.seq ?_
  refine CW.seq ?_
  refine CW.region ?_
  refine OW.rv (RV.move rfl) rfl ?_
  refine OW.rv (RV.len rfl rfl) rfl ?_
  refine OW.rv (RV.gtr rfl rfl) rfl ?_
  refine OW.slot (.bool (decide (16777216 < a0.length))) (congrArg Value.bool (decide_eq_decide.2 (by omega))) ?_
  refine OW.nil ?_
  refine QW.then_n ?_
  by_cases h2 : 16777216 < a0.length
  · replace hf := if_t hf h2
    refine CW.is_t rfl (decide_eq_true h2) ?_
    refine CW.seq ?_
    refine CW.region ?_
    refine OW.rv (RV.assign rfl) rfl ?_
    refine OW.rv (RV.assign rfl) rfl ?_
    refine OW.rv (RV.assign rfl) rfl ?_
    refine OW.rv (RV.assign rfl) rfl ?_
    refine OW.nil ?_
    refine QW.then_n ?_
    refine CW.ret ?_
    refine QW.then_r ?_
    refine QW.mem (M' := ((none, blk ((u8s ([] : List (BitVec 8))) ++ []) 5) :: ([] ++ N))) (fun w m => m.nil_ent _) ?_
    refine QW.mem (M' := ((none, blk ((u8s ([] : List (BitVec 8))) ++ []) 5) :: (none, blk ((u8s ([] : List (BitVec 8))) ++ []) 5) :: ([] ++ N))) (fun w m => m.nil_ent _) ?_
    have er0 := Option.some.inj hf
    obtain ⟨e0, er1⟩ := Prod.mk.inj er0
    clear er0
    obtain ⟨e1, er2⟩ := Prod.mk.inj er1
    clear er1
    obtain ⟨e2, er3⟩ := Prod.mk.inj er2
    clear er2
    subst e0
    subst e1
    subst e2
    subst er3
    refine QW.retG (rs := [.tmp 2, .tmp 3, .tmp 4, .tmp 5]) ([.bool false, sl none 0 ([] : List (BitVec 8)).length 0, sl none 0 ([] : List (BitVec 8)).length 0, .int .i64 (2 : Int)]) ((none, blk ((u8s ([] : List (BitVec 8))) ++ []) 5) :: (none, blk ((u8s ([] : List (BitVec 8))) ++ []) 5) :: []) rfl ?_ rfl ?_ ?_ _ (.inl rfl)
    · exact ⟨rfl, rfl, rfl, rfl, trivial⟩
    · exact ⟨[], none, 0, [], none, 0, [], OwnS.nil, OwnS.nil, (by omega), rfl, rfl⟩
    · exact (fun w m => m.pick [1, 0] 2 rfl rfl)
  · replace hf := if_f hf h2
    refine CW.is_f rfl (decide_eq_false h2) ?_
    refine CW.skip ?_
    refine QW.then_n ?_
    refine CW.seq ?_
    refine CW.seq ?_
    refine CW.region ?_
    refine OW.rv (RV.move rfl) rfl ?_
    obtain ⟨⟨x4, x5, x6, x7⟩, hx3, hf⟩ := some_bind hf
    try dsimp only at hf
    refine OW.callG Try.call75 rfl (rlp_cut_does w0 (More w0 Φ []) (([] ++ N)) (fun w m => More.of hΦ 0 m rfl) A0_ c0_ a0 x4 x5 x6 x7 va0 hx3) rfl rfl ?_
    rintro L16 M17 ⟨B8, A9, c10, A12, c13, v11, v14, b15, e18, e19⟩
    rw [e18, e19]
    clear e18 e19 L16 M17
    refine OW.mem (M' := (((B8 ++ []) ++ N))) (fun w m => by have h := Mem.sinkAt (A := B8) m 0 0 rfl rfl; exact h) ?_
    replace va0 := va0.mono (Ψ := More w0 Φ (B8 ++ [])) (fun w q => More.mono (fun w m => (m).appR) q)
    replace v11 := v11.mono (Ψ := (More w0 Φ (B8 ++ []))) (fun w q => More.flat q)
    replace v14 := v14.mono (Ψ := (More w0 Φ (B8 ++ []))) (fun w q => More.flat q)
    have m20 := v11.mx
    have m21 := v14.mx
    refine OW.rv (RV.move rfl) rfl ?_
    refine OW.rv (RV.extract rfl rfl) rfl ?_
    refine OW.slot (.bool (x4)) (rfl) ?_
    refine OW.rv (RV.extract rfl rfl) rfl ?_
    refine OW.slot (.slice A9 x5.length c10) (rfl) ?_
    refine OW.rv (RV.extract rfl rfl) rfl ?_
    refine OW.slot (.slice A12 x6.length c13) (rfl) ?_
    refine OW.rv (RV.extract rfl rfl) rfl ?_
    refine OW.slot (.int .i64 ((x7 : Nat) : Int)) (rfl) ?_
    refine OW.rv (RV.assign rfl) rfl ?_
    refine OW.rv (RV.assign rfl) rfl ?_
    refine OW.rv (RV.assign rfl) rfl ?_
    refine OW.rv (RV.assign rfl) rfl ?_
    refine OW.nil ?_
    refine QW.then_n ?_
    refine CW.seq ?_
    refine CW.region ?_
    refine OW.rv (RV.move rfl) rfl ?_
    refine OW.rv (RV.neq rfl rfl) rfl ?_
    refine OW.slot (.bool (!decide (x7 = 0))) (congrArg (fun b => Value.bool (!b)) (decide_eq_decide.2 (by omega))) ?_
    refine OW.nil ?_
    refine QW.then_n ?_
    by_cases h22 : x7 = 0
    · replace hf := if_t hf h22
      refine CW.is_f rfl (congrArg (fun b => !b) (decide_eq_true h22)) ?_
      refine CW.skip ?_
      refine QW.then_n ?_
      refine CW.seq ?_
      refine CW.region ?_
      refine OW.rv (RV.move rfl) rfl ?_
      refine OW.rv (RV.move rfl) rfl ?_
      obtain ⟨x24, hx23, hf⟩ := some_bind hf
      refine OW.callG Try.call63 rfl (rlp_clone_does w0 (More w0 Φ (B8 ++ [])) (((B8 ++ []) ++ N)) (fun w m => More.of hΦ 0 m rfl) A9 c10 x5 x24 v11 hx23) rfl rfl ?_
      rintro L30 M31 ⟨B25, ob26, c27, r28, o29, e32, e33⟩
      rw [e32, e33]
      clear e32 e33 L30 M31
      refine OW.mem (M' := ((ob26, blk ((u8s x24) ++ r28) 5) :: ((B25 ++ (B8 ++ [])) ++ N))) (fun w m => by have h := Mem.sinkAt (A := B25) m 1 0 rfl rfl; exact h) ?_
      replace va0 := va0.mono (Ψ := More w0 Φ (B25 ++ (B8 ++ []))) (fun w q => More.mono (fun w m => (m).appR) q)
      replace v11 := v11.mono (Ψ := More w0 Φ (B25 ++ (B8 ++ []))) (fun w q => More.mono (fun w m => (m).appR) q)
      replace v14 := v14.mono (Ψ := More w0 Φ (B25 ++ (B8 ++ []))) (fun w q => More.mono (fun w m => (m).appR) q)
      have m34 := o29.mx
      refine OW.rv (RV.move rfl) rfl ?_
      obtain ⟨x36, hx35, hf⟩ := some_bind hf
      refine OW.callG Try.call63 rfl (rlp_clone_does w0 (More w0 Φ (B25 ++ (B8 ++ []))) ((ob26, blk ((u8s x24) ++ r28) 5) :: ((B25 ++ (B8 ++ [])) ++ N)) (fun w m => More.of hΦ 1 m rfl) A12 c13 x6 x36 v14 hx35) rfl rfl ?_
      rintro L42 M43 ⟨B37, ob38, c39, r40, o41, e44, e45⟩
      rw [e44, e45]
      clear e44 e45 L42 M43
      refine OW.mem (M' := ((ob38, blk ((u8s x36) ++ r40) 5) :: (ob26, blk ((u8s x24) ++ r28) 5) :: ((B37 ++ (B25 ++ (B8 ++ []))) ++ N))) (fun w m => by have h := Mem.sinkAt (A := B37) m 1 1 rfl rfl; exact h) ?_
      replace va0 := va0.mono (Ψ := More w0 Φ (B37 ++ (B25 ++ (B8 ++ [])))) (fun w q => More.mono (fun w m => (m).appR) q)
      replace v11 := v11.mono (Ψ := More w0 Φ (B37 ++ (B25 ++ (B8 ++ [])))) (fun w q => More.mono (fun w m => (m).appR) q)
      replace v14 := v14.mono (Ψ := More w0 Φ (B37 ++ (B25 ++ (B8 ++ [])))) (fun w q => More.mono (fun w m => (m).appR) q)
      have m46 := o41.mx
      refine OW.rv (RV.assign rfl) rfl ?_
      refine OW.rv (RV.assign rfl) rfl ?_
      refine OW.rv (RV.assign rfl) rfl ?_
      refine OW.rv (RV.assign rfl) rfl ?_
      refine OW.nil ?_
      refine QW.then_n ?_
      refine CW.ret ?_
      have er0 := Option.some.inj hf
      obtain ⟨e0, er1⟩ := Prod.mk.inj er0
      clear er0
      obtain ⟨e1, er2⟩ := Prod.mk.inj er1
      clear er1
      obtain ⟨e2, er3⟩ := Prod.mk.inj er2
      clear er2
      subst e0
      subst e1
      subst e2
      subst er3
      refine QW.retG (rs := [.tmp 2, .tmp 3, .tmp 4, .tmp 5]) ([.bool (x4), sl ob26 0 x24.length c27, sl ob38 0 x36.length c39, .int .i64 (0 : Int)]) ((ob26, blk ((u8s x24) ++ r28) 5) :: (ob38, blk ((u8s x36) ++ r40) 5) :: (B37 ++ (B25 ++ (B8 ++ [])))) rfl ?_ rfl ?_ ?_ _ (.inl rfl)
      · exact ⟨rfl, rfl, rfl, rfl, trivial⟩
      · exact ⟨(B37 ++ (B25 ++ (B8 ++ []))), ob26, c27, r28, ob38, c39, r40, o29, o41, (by omega), rfl, rfl⟩
      · exact (fun w m => m.pick [1, 0] 2 rfl rfl)
    · replace hf := if_f hf h22
      refine CW.is_t rfl (congrArg (fun b => !b) (decide_eq_false h22)) ?_
      refine CW.seq ?_
      refine CW.region ?_
      refine OW.rv (RV.move rfl) rfl ?_
      refine OW.rv (RV.assign rfl) rfl ?_
      refine OW.rv (RV.assign rfl) rfl ?_
      refine OW.rv (RV.assign rfl) rfl ?_
      refine OW.rv (RV.assign rfl) rfl ?_
      refine OW.nil ?_
      refine QW.then_n ?_
      refine CW.ret ?_
      refine QW.then_r ?_
      refine QW.mem (M' := ((none, blk ((u8s ([] : List (BitVec 8))) ++ []) 5) :: ((B8 ++ []) ++ N))) (fun w m => m.nil_ent _) ?_
      refine QW.mem (M' := ((none, blk ((u8s ([] : List (BitVec 8))) ++ []) 5) :: (none, blk ((u8s ([] : List (BitVec 8))) ++ []) 5) :: ((B8 ++ []) ++ N))) (fun w m => m.nil_ent _) ?_
      have er0 := Option.some.inj hf
      obtain ⟨e0, er1⟩ := Prod.mk.inj er0
      clear er0
      obtain ⟨e1, er2⟩ := Prod.mk.inj er1
      clear er1
      obtain ⟨e2, er3⟩ := Prod.mk.inj er2
      clear er2
      subst e0
      subst e1
      subst e2
      subst er3
      refine QW.retG (rs := [.tmp 2, .tmp 3, .tmp 4, .tmp 5]) ([.bool false, sl none 0 ([] : List (BitVec 8)).length 0, sl none 0 ([] : List (BitVec 8)).length 0, .int .i64 ((x7 : Nat) : Int)]) ((none, blk ((u8s ([] : List (BitVec 8))) ++ []) 5) :: (none, blk ((u8s ([] : List (BitVec 8))) ++ []) 5) :: (B8 ++ [])) rfl ?_ rfl ?_ ?_ _ (.inl rfl)
      · exact ⟨rfl, rfl, rfl, rfl, trivial⟩
      · exact ⟨(B8 ++ []), none, 0, [], none, 0, [], OwnS.nil, OwnS.nil, (by omega), rfl, rfl⟩
      · exact (fun w m => m.pick [1, 0] 2 rfl rfl)
theorem waybillref07_Split_does (w0 : World) (Φ : Ctx) (N : List Ent) (hΦ : ∀ w, Mem w0 w N → Φ w) (A0_ : Option Addr) (c0_ : Nat) (a0 : List (BitVec 8)) (res0 : Bool) (res1 : List (BitVec 8)) (res2 : List (BitVec 8)) (res3 : Nat) (va0 : View Φ A0_ a0.length c0_ 1 (u8s a0)) (hf : waybillref07_Split a0 = some (res0, res1, res2, res3)) : DoesG Try.prog 46 [.slice A0_ a0.length c0_] w0 [] N (fun v G => ∃ B : List Ent, ∃ or1 : Option Nat, ∃ kr1 : Nat, ∃ rr1 : List Value, ∃ or2 : Option Nat, ∃ kr2 : Nat, ∃ rr2 : List Value, (OwnS or1 res1.length kr1 1 (u8s res1) rr1) ∧ (OwnS or2 res2.length kr2 1 (u8s res2) rr2) ∧ (res3 ≤ 9223372036854775807) ∧ v = .tuple #[.bool res0, sl or1 0 res1.length kr1, sl or2 0 res2.length kr2, .int .i64 ((res3 : Nat) : Int)] ∧ G = (or1, blk ((u8s res1) ++ rr1) 5) :: (or2, blk ((u8s res2) ++ rr2) 5) :: B) := by
  unfold waybillref07_Split at hf
  replace va0 := va0.mono (Ψ := More w0 Φ []) (fun w q => q.1)
  have m1 := va0.mx
  refine DoesG.enter Try.func46 rfl Try.ntmps46 rfl (M := (([] ++ N))) rfl ?_
  refine CW.seq ?_
  refine CW.region ?_
  refine OW.rv (RV.assign rfl) rfl ?_
  refine OW.rv (RV.assign rfl) rfl ?_
  refine OW.rv (RV.assign rfl) rfl ?_
  refine OW.rv (RV.assign rfl) rfl ?_
  refine OW.nil ?_
  refine QW.then_n ?_
  refine CW.seq ?_
  refine CW.seq ?_
  refine CW.region ?_
  refine OW.rv (RV.move rfl) rfl ?_
  refine OW.rv (RV.len rfl rfl) rfl ?_
  refine OW.rv (RV.gtr rfl rfl) rfl ?_
  refine OW.slot (.bool (decide (16777216 < a0.length))) (congrArg Value.bool (decide_eq_decide.2 (by omega))) ?_
  refine OW.nil ?_
  refine QW.then_n ?_
  by_cases h2 : 16777216 < a0.length
  · replace hf := if_t hf h2
    refine CW.is_t rfl (decide_eq_true h2) ?_
    refine CW.seq ?_
    refine CW.region ?_
    refine OW.rv (RV.assign rfl) rfl ?_
    refine OW.rv (RV.assign rfl) rfl ?_
    refine OW.rv (RV.assign rfl) rfl ?_
    refine OW.rv (RV.assign rfl) rfl ?_
    refine OW.nil ?_
    refine QW.then_n ?_
    refine CW.ret ?_
    refine QW.then_r ?_
    refine QW.mem (M' := ((none, blk ((u8s ([] : List (BitVec 8))) ++ []) 5) :: ([] ++ N))) (fun w m => m.nil_ent _) ?_
    refine QW.mem (M' := ((none, blk ((u8s ([] : List (BitVec 8))) ++ []) 5) :: (none, blk ((u8s ([] : List (BitVec 8))) ++ []) 5) :: ([] ++ N))) (fun w m => m.nil_ent _) ?_
    have er0 := Option.some.inj hf
    obtain ⟨e0, er1⟩ := Prod.mk.inj er0
    clear er0
    obtain ⟨e1, er2⟩ := Prod.mk.inj er1
    clear er1
    obtain ⟨e2, er3⟩ := Prod.mk.inj er2
    clear er2
    subst e0
    subst e1
    subst e2
    subst er3
    refine QW.retG (rs := [.tmp 2, .tmp 3, .tmp 4, .tmp 5]) ([.bool false, sl none 0 ([] : List (BitVec 8)).length 0, sl none 0 ([] : List (BitVec 8)).length 0, .int .i64 (2 : Int)]) ((none, blk ((u8s ([] : List (BitVec 8))) ++ []) 5) :: (none, blk ((u8s ([] : List (BitVec 8))) ++ []) 5) :: []) rfl ?_ rfl ?_ ?_ _ (.inl rfl)
    · exact ⟨rfl, rfl, rfl, rfl, trivial⟩
    · exact ⟨[], none, 0, [], none, 0, [], OwnS.nil, OwnS.nil, (by omega), rfl, rfl⟩
    · exact (fun w m => m.pick [1, 0] 2 rfl rfl)
  · replace hf := if_f hf h2
    refine CW.is_f rfl (decide_eq_false h2) ?_
    refine CW.skip ?_
    refine QW.then_n ?_
    refine CW.seq ?_
    refine CW.region ?_
    refine OW.rv (RV.move rfl) rfl ?_
    refine OW.rv (RV.move rfl) rfl ?_
    refine OW.rv (RV.len rfl rfl) rfl ?_
    obtain ⟨⟨x4, x5⟩, hx3, hf⟩ := some_bind hf
    try dsimp only at hf
    refine OW.callG Try.call76 rfl (waybillref07_head_does w0 (More w0 Φ []) (([] ++ N)) (fun w m => More.of hΦ 0 m rfl) A0_ c0_ a0 0 a0.length x4 x5 va0 (by omega) (by omega) hx3) rfl rfl ?_
    rintro L10 M11 ⟨B6, cs7, h8, b9, e12, e13⟩
    rw [e12, e13]
    clear e12 e13 L10 M11
    refine OW.mem (M' := (((B6 ++ []) ++ N))) (fun w m => by have h := Mem.sinkAt (A := B6) m 0 0 rfl rfl; exact h) ?_
    replace va0 := va0.mono (Ψ := More w0 Φ (B6 ++ [])) (fun w q => More.mono (fun w m => (m).appR) q)
    replace h8 := HdRd.mono (Ψ := (More w0 Φ (B6 ++ []))) (fun w q => More.flat q) _ _ h8
    have h17 := h8
    obtain ⟨e16, b14, b15⟩ := HdRd.opn h8
    subst e16
    refine OW.rv (RV.move rfl) rfl ?_
    refine OW.rv (RV.extract rfl rfl) rfl ?_
    refine OW.slot (.agg [.bool (x4.list), .int .i64 ((x4.fr : Nat) : Int), .int .i64 ((x4.to : Nat) : Int)].toArray) (rfl) ?_
    refine OW.rv (RV.extract rfl rfl) rfl ?_
    refine OW.slot (.int .i64 ((x5 : Nat) : Int)) (rfl) ?_
    refine OW.alloc (l := [.bool false, .int .i64 (0 : Int), .int .i64 (0 : Int)]) rfl rfl rfl (fun b18 => ?_)
    refine OW.sv (SV.storeW rfl rfl rfl (by intro u hu; simp at hu; rcases hu with rfl | rfl | rfl <;> rfl) rfl rfl rfl) ?_
    refine OW.rv (RV.assign rfl) rfl ?_
    refine OW.nil ?_
    refine QW.then_n ?_
    refine CW.seq ?_
    refine CW.seq ?_
    refine CW.region ?_
    refine OW.rv (RV.move rfl) rfl ?_
    refine OW.rv (RV.neq rfl rfl) rfl ?_
    refine OW.slot (.bool (!decide (x5 = 0))) (congrArg (fun b => Value.bool (!b)) (decide_eq_decide.2 (by omega))) ?_
    refine OW.nil ?_
    refine QW.then_n ?_
    by_cases h19 : x5 = 0
    · replace hf := if_t hf h19
      refine CW.is_f rfl (congrArg (fun b => !b) (decide_eq_true h19)) ?_
      refine CW.skip ?_
      refine QW.then_n ?_
      refine CW.seq ?_
      refine CW.drawsU 18 mixed (by kernel_rfl) rfl ?_
      refine UW.rv 0 rfl (by kernel_rfl) rfl (RV.field rfl rfl rfl rfl) rfl ?_
      refine UW.rv 1 rfl (by kernel_rfl) rfl (RV.load rfl (List.Mem.head _) rfl rfl rfl rfl) rfl ?_
      refine UW.rv 2 rfl (by kernel_rfl) rfl (RV.move rfl) rfl ?_
      refine UW.rv 3 rfl (by kernel_rfl) rfl (RV.field rfl rfl rfl rfl) rfl ?_
      refine UW.rv 4 rfl (by kernel_rfl) rfl (RV.load rfl (List.Mem.head _) rfl rfl rfl rfl) rfl ?_
      refine UW.rv 5 rfl (by kernel_rfl) rfl (RV.field rfl rfl rfl rfl) rfl ?_
      refine UW.rv 6 rfl (by kernel_rfl) rfl (RV.load rfl (List.Mem.head _) rfl rfl rfl rfl) rfl ?_
      obtain ⟨g21, hf⟩ := some_if hf
      obtain ⟨g22, hf⟩ := some_if hf
      have hle := va0.le
      refine UW.rv 7 rfl (by kernel_rfl) rfl (RV.cut_both (s := 1) (x4.fr) (x4.to) rfl rfl rfl (by omega) (by omega) rfl rfl (by omega) (by omega)) rfl ?_
      refine UW.slot (.slice (subA A0_ c0_ x4.fr 1) ((a0.take x4.to).drop x4.fr).length (c0_ - x4.fr)) (by rw [show (((a0.take x4.to).drop x4.fr)).length = (x4.to) - (x4.fr) from List.length_drop.trans (by rw [List.length_take, Nat.min_eq_left (by omega)])]) ?_
      have v20 : View (More w0 Φ (B6 ++ [])) (subA A0_ c0_ x4.fr 1) ((a0.take x4.to).drop x4.fr).length (c0_ - x4.fr) 1 (u8s ((a0.take x4.to).drop x4.fr)) := va0.mid8 (by omega) (by omega)
      have m23 := v20.mx
      refine UW.rv 9 rfl (by kernel_rfl) rfl (RV.move rfl) rfl ?_
      refine UW.rv 10 rfl (by kernel_rfl) rfl (RV.field rfl rfl rfl rfl) rfl ?_
      refine UW.rv 11 rfl (by kernel_rfl) rfl (RV.load rfl (List.Mem.head _) rfl rfl rfl rfl) rfl ?_
      refine UW.rv 12 rfl (by kernel_rfl) rfl (RV.cut_lo (s := 1) (x4.to) rfl rfl (by omega) rfl rfl (by omega)) rfl ?_
      refine UW.slot (.slice (subA A0_ c0_ x4.to 1) (a0.drop x4.to).length (c0_ - x4.to)) (by rw [show ((a0.drop x4.to)).length = (a0).length - (x4.to) from List.length_drop]) ?_
      have v24 : View (More w0 Φ (B6 ++ [])) (subA A0_ c0_ x4.to 1) (a0.drop x4.to).length (c0_ - x4.to) 1 (u8s (a0.drop x4.to)) := va0.lo8 (by omega)
      have m25 := v24.mx
      obtain ⟨x27, hx26, hf⟩ := some_bind hf
      refine UW.callG 8 rfl (by kernel_rfl) rfl Try.call62 rfl (fun N' hN' => waybillref07_bytes_does w0 (More w0 Φ (B6 ++ [])) N' (fun w m => More.of hΦ 1 (hN' w m) rfl) (subA A0_ c0_ x4.fr 1) (c0_ - x4.fr) ((a0.take x4.to).drop x4.fr) x27 v20 hx26) rfl ?_
      rintro L33 M34 ⟨B28, ob29, c30, r31, o32, e35, e36⟩
      rw [e35, e36]
      clear e35 e36 L33 M34
      refine UW.mem (M' := ((ob29, blk ((u8s x27) ++ r31) 5) :: (some b18, blk [.bool (x4.list), .int .i64 ((x4.fr : Nat) : Int), .int .i64 ((x4.to : Nat) : Int)] 105) :: ((B28 ++ (B6 ++ [])) ++ N))) (fun w m => by have h := Mem.sinkAt (A := B28) m 1 1 rfl rfl; exact h) ?_
      replace va0 := va0.mono (Ψ := More w0 Φ (B28 ++ (B6 ++ []))) (fun w q => More.mono (fun w m => (m).appR) q)
      replace h17 := HdRd.mono (Ψ := More w0 Φ (B28 ++ (B6 ++ []))) (fun w q => More.mono (fun w m => (m).appR) q) _ _ h17
      replace v20 := v20.mono (Ψ := More w0 Φ (B28 ++ (B6 ++ []))) (fun w q => More.mono (fun w m => (m).appR) q)
      replace v24 := v24.mono (Ψ := More w0 Φ (B28 ++ (B6 ++ []))) (fun w q => More.mono (fun w m => (m).appR) q)
      have m37 := o32.mx
      obtain ⟨x39, hx38, hf⟩ := some_bind hf
      refine UW.callG 13 rfl (by kernel_rfl) rfl Try.call62 rfl (fun N' hN' => waybillref07_bytes_does w0 (More w0 Φ (B28 ++ (B6 ++ []))) N' (fun w m => More.of hΦ 2 (hN' w m) rfl) (subA A0_ c0_ x4.to 1) (c0_ - x4.to) (a0.drop x4.to) x39 v24 hx38) rfl ?_
      rintro L45 M46 ⟨B40, ob41, c42, r43, o44, e47, e48⟩
      rw [e47, e48]
      clear e47 e48 L45 M46
      refine UW.mem (M' := ((ob41, blk ((u8s x39) ++ r43) 5) :: (ob29, blk ((u8s x27) ++ r31) 5) :: (some b18, blk [.bool (x4.list), .int .i64 ((x4.fr : Nat) : Int), .int .i64 ((x4.to : Nat) : Int)] 105) :: ((B40 ++ (B28 ++ (B6 ++ []))) ++ N))) (fun w m => by have h := Mem.sinkAt (A := B40) m 1 2 rfl rfl; exact h) ?_
      replace va0 := va0.mono (Ψ := More w0 Φ (B40 ++ (B28 ++ (B6 ++ [])))) (fun w q => More.mono (fun w m => (m).appR) q)
      replace h17 := HdRd.mono (Ψ := More w0 Φ (B40 ++ (B28 ++ (B6 ++ [])))) (fun w q => More.mono (fun w m => (m).appR) q) _ _ h17
      replace v20 := v20.mono (Ψ := More w0 Φ (B40 ++ (B28 ++ (B6 ++ [])))) (fun w q => More.mono (fun w m => (m).appR) q)
      replace v24 := v24.mono (Ψ := More w0 Φ (B40 ++ (B28 ++ (B6 ++ [])))) (fun w q => More.mono (fun w m => (m).appR) q)
      have m49 := o44.mx
      refine UW.rv 14 rfl (by kernel_rfl) rfl (RV.assign rfl) rfl ?_
      refine UW.rv 15 rfl (by kernel_rfl) rfl (RV.assign rfl) rfl ?_
      refine UW.rv 16 rfl (by kernel_rfl) rfl (RV.assign rfl) rfl ?_
      refine UW.rv 17 rfl (by kernel_rfl) rfl (RV.assign rfl) rfl ?_
      refine UW.nil (by kernel_rfl) ?_
      refine OW.nil ?_
      refine QW.then_n ?_
      refine CW.ret ?_
      have er0 := Option.some.inj hf
      obtain ⟨e0, er1⟩ := Prod.mk.inj er0
      clear er0
      obtain ⟨e1, er2⟩ := Prod.mk.inj er1
      clear er1
      obtain ⟨e2, er3⟩ := Prod.mk.inj er2
      clear er2
      subst e0
      subst e1
      subst e2
      subst er3
      refine QW.retG (rs := [.tmp 2, .tmp 3, .tmp 4, .tmp 5]) ([.bool (x4.list), sl ob29 0 x27.length c30, sl ob41 0 x39.length c42, .int .i64 (0 : Int)]) ((ob29, blk ((u8s x27) ++ r31) 5) :: (ob41, blk ((u8s x39) ++ r43) 5) :: (B40 ++ (B28 ++ (B6 ++ [])))) rfl ?_ rfl ?_ ?_ _ (.inl rfl)
      · exact ⟨rfl, rfl, rfl, rfl, trivial⟩
      · exact ⟨(B40 ++ (B28 ++ (B6 ++ []))), ob29, c30, r31, ob41, c42, r43, o32, o44, (by omega), rfl, rfl⟩
      · exact (fun w m => m.pick [1, 0] 3 rfl rfl)
    · replace hf := if_f hf h19
      refine CW.is_t rfl (congrArg (fun b => !b) (decide_eq_false h19)) ?_
      refine CW.seq ?_
      refine CW.region ?_
      refine OW.rv (RV.move rfl) rfl ?_
      refine OW.rv (RV.assign rfl) rfl ?_
      refine OW.rv (RV.assign rfl) rfl ?_
      refine OW.rv (RV.assign rfl) rfl ?_
      refine OW.rv (RV.assign rfl) rfl ?_
      refine OW.nil ?_
      refine QW.then_n ?_
      refine CW.ret ?_
      refine QW.then_r ?_
      refine QW.mem (M' := ((none, blk ((u8s ([] : List (BitVec 8))) ++ []) 5) :: (some b18, blk [.bool (x4.list), .int .i64 ((x4.fr : Nat) : Int), .int .i64 ((x4.to : Nat) : Int)] 105) :: ((B6 ++ []) ++ N))) (fun w m => m.nil_ent _) ?_
      refine QW.mem (M' := ((none, blk ((u8s ([] : List (BitVec 8))) ++ []) 5) :: (none, blk ((u8s ([] : List (BitVec 8))) ++ []) 5) :: (some b18, blk [.bool (x4.list), .int .i64 ((x4.fr : Nat) : Int), .int .i64 ((x4.to : Nat) : Int)] 105) :: ((B6 ++ []) ++ N))) (fun w m => m.nil_ent _) ?_
      have er0 := Option.some.inj hf
      obtain ⟨e0, er1⟩ := Prod.mk.inj er0
      clear er0
      obtain ⟨e1, er2⟩ := Prod.mk.inj er1
      clear er1
      obtain ⟨e2, er3⟩ := Prod.mk.inj er2
      clear er2
      subst e0
      subst e1
      subst e2
      subst er3
      refine QW.retG (rs := [.tmp 2, .tmp 3, .tmp 4, .tmp 5]) ([.bool false, sl none 0 ([] : List (BitVec 8)).length 0, sl none 0 ([] : List (BitVec 8)).length 0, .int .i64 ((x5 : Nat) : Int)]) ((none, blk ((u8s ([] : List (BitVec 8))) ++ []) 5) :: (none, blk ((u8s ([] : List (BitVec 8))) ++ []) 5) :: (B6 ++ [])) rfl ?_ rfl ?_ ?_ _ (.inl rfl)
      · exact ⟨rfl, rfl, rfl, rfl, trivial⟩
      · exact ⟨(B6 ++ []), none, 0, [], none, 0, [], OwnS.nil, OwnS.nil, (by omega), rfl, rfl⟩
      · exact (fun w m => m.pick [1, 0] 3 rfl rfl)
theorem rlp_Parts_does (w0 : World) (Φ : Ctx) (N : List Ent) (hΦ : ∀ w, Mem w0 w N → Φ w) (A0_ : Option Addr) (c0_ : Nat) (a0 : List (BitVec 8)) (res0 : List (List (BitVec 8))) (res1 : Nat) (va0 : View Φ A0_ a0.length c0_ 1 (u8s a0)) (hf : rlp_Parts a0 = some (res0, res1)) : DoesG Try.prog 47 [.slice A0_ a0.length c0_] w0 [] N (fun v G => ∃ B : List Ent, ∃ cr0 : List Value, ∃ or0 : Option Nat, ∃ kr0 : Nat, ∃ rr0 : List Value, (Reps (BsRd (More w0 Φ B)) cr0 res0) ∧ (OwnS or0 res0.length kr0 1 cr0 rr0) ∧ (res1 ≤ 9223372036854775807) ∧ v = .tuple #[sl or0 0 res0.length kr0, .int .i64 ((res1 : Nat) : Int)] ∧ G = (or0, blk (cr0 ++ rr0) 22) :: B) := by
  unfold rlp_Parts at hf
  replace va0 := va0.mono (Ψ := More w0 Φ []) (fun w q => q.1)
  have m1 := va0.mx
  refine DoesG.enter Try.func47 rfl Try.ntmps47 rfl (M := (([] ++ N))) rfl ?_
  refine CW.seq ?_
  refine CW.region ?_
  refine OW.rv (RV.assign rfl) rfl ?_
  refine OW.rv (RV.assign rfl) rfl ?_
  refine OW.nil ?_
  refine QW.then_n ?_
  refine CW.seq ?_
  refine CW.region ?_
  refine OW.rv (RV.move rfl) rfl ?_
  obtain ⟨⟨x3, x4, x5, x6⟩, hx2, hf⟩ := some_bind hf
  try dsimp only at hf
  refine OW.callG Try.call45 rfl (rlp_Split_does w0 (More w0 Φ []) (([] ++ N)) (fun w m => More.of hΦ 0 m rfl) A0_ c0_ a0 x3 x4 x5 x6 va0 hx2) rfl rfl ?_
  rintro L17 M18 ⟨B7, ob8, c9, r10, ob12, c13, r14, o11, o15, b16, e19, e20⟩
  rw [e19, e20]
  clear e19 e20 L17 M18
  refine OW.mem (M' := ((ob8, blk ((u8s x4) ++ r10) 5) :: (ob12, blk ((u8s x5) ++ r14) 5) :: ((B7 ++ []) ++ N))) (fun w m => by have h := Mem.sinkAt (A := B7) m 2 0 rfl rfl; exact h) ?_
  replace va0 := va0.mono (Ψ := More w0 Φ (B7 ++ [])) (fun w q => More.mono (fun w m => (m).appR) q)
  have m21 := o11.mx
  have m22 := o15.mx
  refine OW.rv (RV.move rfl) rfl ?_
  refine OW.rv (RV.extract rfl rfl) rfl ?_
  refine OW.slot (.bool (x3)) (rfl) ?_
  refine OW.rv (RV.extract rfl rfl) rfl ?_
  refine OW.slot (sl ob8 0 x4.length c9) (rfl) ?_
  refine OW.rv (RV.extract rfl rfl) rfl ?_
  refine OW.slot (sl ob12 0 x5.length c13) (rfl) ?_
  refine OW.rv (RV.extract rfl rfl) rfl ?_
  refine OW.slot (.int .i64 ((x6 : Nat) : Int)) (rfl) ?_
  refine OW.rv (RV.assign rfl) rfl ?_
  refine OW.rv (RV.assign rfl) rfl ?_
  refine OW.rv (RV.assign rfl) rfl ?_
  refine OW.rv (RV.assign rfl) rfl ?_
  refine OW.nil ?_
  refine QW.then_n ?_
  refine CW.seq ?_
  refine CW.block ?_
  refine CW.seq ?_
  refine CW.region ?_
  refine OW.rv (RV.move rfl) rfl ?_
  refine OW.rv (RV.neq rfl rfl) rfl ?_
  refine OW.slot (.bool (!decide (x6 = 0))) (congrArg (fun b => Value.bool (!b)) (decide_eq_decide.2 (by omega))) ?_
  refine OW.rv (RV.assign rfl) rfl ?_
  refine OW.nil ?_
  refine QW.then_n ?_
  by_cases h23 : x6 = 0
  · replace hf := if_t hf h23
    refine CW.is_f rfl (congrArg (fun b => !b) (decide_eq_true h23)) ?_
    refine CW.seq ?_
    refine CW.region ?_
    refine OW.rv (RV.move rfl) rfl ?_
    refine OW.rv (RV.not rfl) rfl ?_
    refine OW.rv (RV.assign rfl) rfl ?_
    refine OW.nil ?_
    refine QW.then_n ?_
    by_cases h24 : x3 = true
    · replace hf := if_t hf h24
      refine CW.is_f rfl (congrArg (fun b => !b) (h24)) ?_
      refine CW.seq ?_
      refine CW.region ?_
      refine OW.rv (RV.move rfl) rfl ?_
      refine OW.rv (RV.len rfl rfl) rfl ?_
      refine OW.rv (RV.gtr rfl rfl) rfl ?_
      refine OW.slot (.bool (decide (0 < x5.length))) (congrArg Value.bool (decide_eq_decide.2 (by omega))) ?_
      refine OW.rv (RV.assign rfl) rfl ?_
      refine OW.nil ?_
      refine QW.then_n ?_
      by_cases h25 : 0 < x5.length
      · replace hf := if_t hf h25
        refine CW.is_t rfl (decide_eq_true h25) ?_
        refine CW.seq ?_
        refine CW.region ?_
        refine OW.rv (RV.assign rfl) rfl ?_
        refine OW.rv (RV.assign rfl) rfl ?_
        refine OW.nil ?_
        refine QW.then_n ?_
        refine CW.ret ?_
        refine QW.block_r ?_
        refine QW.then_r ?_
        refine QW.mem (M' := ((none, blk ([] ++ []) 22) :: (ob8, blk ((u8s x4) ++ r10) 5) :: (ob12, blk ((u8s x5) ++ r14) 5) :: ((B7 ++ []) ++ N))) (fun w m => m.nil_ent _) ?_
        have er0 := Option.some.inj hf
        obtain ⟨e0, er1⟩ := Prod.mk.inj er0
        clear er0
        subst e0
        subst er1
        refine QW.retG (rs := [.tmp 2, .tmp 3]) ([sl none 0 ([] : List (List (BitVec 8))).length 0, .int .i64 (73 : Int)]) ((none, blk ([] ++ []) 22) :: (B7 ++ [])) rfl ?_ rfl ?_ ?_ _ (.inl rfl)
        · exact ⟨rfl, rfl, trivial⟩
        · exact ⟨(B7 ++ []), [], none, 0, [], Reps.nil, OwnS.nil, (by omega), rfl, rfl⟩
        · exact (fun w m => m.pick [0] 3 rfl rfl)
      · replace hf := if_f hf h25
        refine CW.is_f rfl (decide_eq_false h25) ?_
        refine CW.skip ?_
        refine QW.block_n ?_
        refine QW.then_n ?_
        refine CW.seq ?_
        refine CW.region ?_
        refine OW.rv (RV.assign rfl) rfl ?_
        refine OW.nil ?_
        refine QW.then_n ?_
        refine CW.seq ?_
        obtain ⟨q26, hq27, hf⟩ := some_bind hf
        refine CW.cutJ (fun L' M' => ∃ l30 : List (List (BitVec 8)), ∃ B28 : List Ent, ∃ cs31 : List Value, ∃ ob33 : Option Nat, ∃ c34 : Nat, ∃ r35 : List Value, q26 = Lp.go l30 ∧ (∀ w, Mem w0 w B28 → Mem w0 w (B7 ++ [])) ∧ (Reps (BsRd (More w0 Φ B28)) cs31 l30) ∧ (OwnS ob33 l30.length c34 1 cs31 r35) ∧ L' = [(8, sl ob33 0 l30.length c34)] ∧ M' = ((ob33, blk (cs31 ++ r35) 22) :: (B28 ++ N))) ?_ ?_
        · rintro L38 M39 ⟨l30, B28, cs31, ob33, c34, r35, e37, hB29, h32, o36, e40, e41⟩
          rw [e40, e41]
          clear e40 e41 L38 M39
          clear hq27
          rw [e37] at hf
          clear e37
          try dsimp only at hf
          have m42 := o36.mx
          refine QW.then_n ?_
          refine CW.seq ?_
          refine CW.region ?_
          refine OW.rv (RV.move rfl) rfl ?_
          refine OW.rv (RV.assign rfl) rfl ?_
          refine OW.rv (RV.assign rfl) rfl ?_
          refine OW.nil ?_
          refine QW.then_n ?_
          refine CW.ret ?_
          have er0 := Option.some.inj hf
          obtain ⟨e0, er1⟩ := Prod.mk.inj er0
          clear er0
          subst e0
          subst er1
          refine QW.retG (rs := [.tmp 2, .tmp 3]) ([sl ob33 0 l30.length c34, .int .i64 (0 : Int)]) ((ob33, blk (cs31 ++ r35) 22) :: B28) rfl ?_ rfl ?_ ?_ _ (.inl rfl)
          · exact ⟨rfl, rfl, trivial⟩
          · exact ⟨B28, cs31, ob33, c34, r35, h32, o36, (by omega), rfl, rfl⟩
          · exact (fun w m => m.pick [0] 1 rfl rfl)
        · skip
          refine CW.block ?_
          refine CW.mem (M' := (ob12, blk ((u8s x5) ++ r14) 5) :: (((ob8, blk ((u8s x4) ++ r10) 5) :: (B7 ++ [])) ++ N)) (fun w m => m.pick [1, 0] 2 rfl rfl) ?_
          replace va0 := va0.mono (Ψ := More w0 Φ ((ob8, blk ((u8s x4) ++ r10) 5) :: (B7 ++ []))) (fun w q => More.mono (fun w m => (m).tail) q)
          have v58 : View (More w0 Φ ((ob8, blk ((u8s x4) ++ r10) 5) :: (B7 ++ []))) ((ob8).map fun k => ⟨k, 0, none⟩) x4.length c9 1 (u8s x4) := o11.view (by decide) (fun w q => q.2.sublist (List.singleton_sublist.2 (List.mem_cons_self ..)))
          refine CW.mem (M' := ((none, blk ([] ++ []) 22) :: (ob12, blk ((u8s x5) ++ r14) 5) :: (((ob8, blk ((u8s x4) ++ r10) 5) :: (B7 ++ [])) ++ N))) (fun w m => m.nil_ent _) ?_
          refine CW.loopJ (fun k L' M' => ∃ l61 : List (BitVec 8), ∃ l65 : List (List (BitVec 8)), ∃ B59 : List Ent, ∃ A62 : Option Addr, ∃ c63 : Nat, ∃ cs66 : List Value, ∃ ob68 : Option Nat, ∃ c69 : Nat, ∃ r70 : List Value, (rlp_Parts.l1 k l61 l65) = some q26 ∧ (∀ w, Mem w0 w B59 → Mem w0 w ((ob8, blk ((u8s x4) ++ r10) 5) :: (B7 ++ []))) ∧ (View (More w0 Φ B59) A62 l61.length c63 1 (u8s l61)) ∧ (Reps (BsRd (More w0 Φ B59)) cs66 l65) ∧ (OwnS ob68 l65.length c69 1 cs66 r70) ∧ L' = [(5, .slice A62 l61.length c63), (8, sl ob68 0 l65.length c69)] ∧ M' = ((ob68, blk (cs66 ++ r70) 22) :: (B59 ++ N))) (k0 := (x4.length - 0 + 2)) ⟨x4, ([] : List (List (BitVec 8))), ((ob8, blk ((u8s x4) ++ r10) 5) :: (B7 ++ [])), ((ob8).map fun k => ⟨k, 0, none⟩), c9, [], none, 0, [], hq27, (fun w m => m), v58, Reps.nil, OwnS.nil, rfl, rfl⟩ ⟨rfl, rfl, trivial⟩ (fun w m => m.pick [0] 2 rfl rfl) ?_
          clear hq27
          rintro k56 L73 M74 ⟨l61, l65, B59, A62, c63, cs66, ob68, c69, r70, hl57, hB60, v64, h67, o71, e75, e76⟩
          rw [e75, e76]
          clear e75 e76 L73 M74
          rcases k56 with _ | k56
          · rw [rlp_Parts.l1] at hl57; cases hl57
          rw [rlp_Parts.l1] at hl57
          have m77 := v64.mx
          have m78 := o71.mx
          refine CW.seq ?_
          refine CW.seq ?_
          refine CW.region ?_
          refine OW.rv (RV.move rfl) rfl ?_
          refine OW.rv (RV.len rfl rfl) rfl ?_
          refine OW.rv (RV.gtr rfl rfl) rfl ?_
          refine OW.slot (.bool (decide (0 < l61.length))) (congrArg Value.bool (decide_eq_decide.2 (by omega))) ?_
          refine OW.nil ?_
          refine QW.then_n ?_
          by_cases h79 : 0 < l61.length
          · replace hl57 := if_t hl57 h79
            refine CW.is_t rfl (decide_eq_true h79) ?_
            refine CW.skip ?_
            refine QW.then_n ?_
            refine CW.block ?_
            refine CW.seq ?_
            refine CW.region ?_
            refine OW.rv (RV.move rfl) rfl ?_
            obtain ⟨⟨x81, x82, x83, x84⟩, hx80, hl57⟩ := some_bind hl57
            try dsimp only at hl57
            refine OW.callG Try.call75 rfl (rlp_cut_does w0 (More w0 Φ B59) ((ob68, blk (cs66 ++ r70) 22) :: (B59 ++ N)) (fun w m => More.of hΦ 1 m rfl) A62 c63 l61 x81 x82 x83 x84 v64 hx80) rfl rfl ?_
            rintro L93 M94 ⟨B85, A86, c87, A89, c90, v88, v91, b92, e95, e96⟩
            rw [e95, e96]
            clear e95 e96 L93 M94
            refine OW.mem (M' := ((ob68, blk (cs66 ++ r70) 22) :: ((B85 ++ B59) ++ N))) (fun w m => by have h := Mem.sinkAt (A := B85) m 0 1 rfl rfl; exact h) ?_
            replace v64 := v64.mono (Ψ := More w0 Φ (B85 ++ B59)) (fun w q => More.mono (fun w m => (m).appR) q)
            replace h67 := h67.mono (BsRd.mono (Ψ := More w0 Φ (B85 ++ B59)) (fun w q => More.mono (fun w m => (m).appR) q))
            replace v88 := v88.mono (Ψ := (More w0 Φ (B85 ++ B59))) (fun w q => More.flat q)
            replace v91 := v91.mono (Ψ := (More w0 Φ (B85 ++ B59))) (fun w q => More.flat q)
            have m97 := v88.mx
            have m98 := v91.mx
            refine OW.rv (RV.move rfl) rfl ?_
            refine OW.rv (RV.extract rfl rfl) rfl ?_
            refine OW.slot (.bool (x81)) (rfl) ?_
            refine OW.rv (RV.extract rfl rfl) rfl ?_
            refine OW.slot (.slice A86 x82.length c87) (rfl) ?_
            refine OW.rv (RV.extract rfl rfl) rfl ?_
            refine OW.slot (.slice A89 x83.length c90) (rfl) ?_
            refine OW.rv (RV.extract rfl rfl) rfl ?_
            refine OW.slot (.int .i64 ((x84 : Nat) : Int)) (rfl) ?_
            refine OW.rv (RV.assign rfl) rfl ?_
            refine OW.rv (RV.assign rfl) rfl ?_
            refine OW.rv (RV.assign rfl) rfl ?_
            refine OW.rv (RV.assign rfl) rfl ?_
            refine OW.nil ?_
            refine QW.then_n ?_
            refine CW.seq ?_
            refine CW.seq ?_
            refine CW.region ?_
            refine OW.rv (RV.move rfl) rfl ?_
            refine OW.rv (RV.neq rfl rfl) rfl ?_
            refine OW.slot (.bool (!decide (x84 = 0))) (congrArg (fun b => Value.bool (!b)) (decide_eq_decide.2 (by omega))) ?_
            refine OW.nil ?_
            refine QW.then_n ?_
            by_cases h99 : x84 = 0
            · replace hl57 := if_t hl57 h99
              refine CW.is_f rfl (congrArg (fun b => !b) (decide_eq_true h99)) ?_
              refine CW.skip ?_
              refine QW.then_n ?_
              refine CW.seq ?_
              refine CW.region ?_
              refine OW.rv (RV.move rfl) rfl ?_
              refine OW.rv (RV.move rfl) rfl ?_
              refine OW.rv (RV.move rfl) rfl ?_
              refine OW.rv (RV.len rfl rfl) rfl ?_
              refine OW.rv (RV.move rfl) rfl ?_
              refine OW.rv (RV.len rfl rfl) rfl ?_
              refine OW.rv (RV.sub rfl rfl (by omega)) rfl ?_
              obtain ⟨g101, hl57⟩ := some_if hl57
              obtain ⟨g102, hl57⟩ := some_if hl57
              have hle := v64.le
              have hlen_ : l61.length = l61.length := rfl
              refine OW.rv (RV.cut_hi (((((l61.length : Nat) : Int) - ((x83.length : Nat) : Int))).toNat) rfl rfl (by omega) rfl rfl (by omega)) rfl ?_
              refine OW.slot (.slice A62 (l61.take (((((l61.length : Nat) : Int) - ((x83.length : Nat) : Int))).toNat)).length c63) (by rw [show ((l61.take (((((l61.length : Nat) : Int) - ((x83.length : Nat) : Int))).toNat))).length = ((((l61.length : Nat) : Int) - ((x83.length : Nat) : Int))).toNat from List.length_take.trans (Nat.min_eq_left (by omega))]) ?_
              have v100 : View (More w0 Φ (B85 ++ B59)) A62 (l61.take (((((l61.length : Nat) : Int) - ((x83.length : Nat) : Int))).toNat)).length c63 1 (u8s (l61.take (((((l61.length : Nat) : Int) - ((x83.length : Nat) : Int))).toNat))) := v64.hi8 (by omega)
              have m103 := v100.mx
              obtain ⟨x105, hx104, hl57⟩ := some_bind hl57
              refine OW.callG Try.call63 rfl (rlp_clone_does w0 (More w0 Φ (B85 ++ B59)) ((ob68, blk (cs66 ++ r70) 22) :: ((B85 ++ B59) ++ N)) (fun w m => More.of hΦ 1 m rfl) A62 c63 (l61.take (((((l61.length : Nat) : Int) - ((x83.length : Nat) : Int))).toNat)) x105 v100 hx104) rfl rfl ?_
              rintro L111 M112 ⟨B106, ob107, c108, r109, o110, e113, e114⟩
              rw [e113, e114]
              clear e113 e114 L111 M112
              refine OW.mem (M' := ((ob107, blk ((u8s x105) ++ r109) 5) :: (ob68, blk (cs66 ++ r70) 22) :: ((B106 ++ (B85 ++ B59)) ++ N))) (fun w m => by have h := Mem.sinkAt (A := B106) m 1 1 rfl rfl; exact h) ?_
              replace v64 := v64.mono (Ψ := More w0 Φ (B106 ++ (B85 ++ B59))) (fun w q => More.mono (fun w m => (m).appR) q)
              replace h67 := h67.mono (BsRd.mono (Ψ := More w0 Φ (B106 ++ (B85 ++ B59))) (fun w q => More.mono (fun w m => (m).appR) q))
              replace v88 := v88.mono (Ψ := More w0 Φ (B106 ++ (B85 ++ B59))) (fun w q => More.mono (fun w m => (m).appR) q)
              replace v91 := v91.mono (Ψ := More w0 Φ (B106 ++ (B85 ++ B59))) (fun w q => More.mono (fun w m => (m).appR) q)
              replace v100 := v100.mono (Ψ := More w0 Φ (B106 ++ (B85 ++ B59))) (fun w q => More.mono (fun w m => (m).appR) q)
              have m115 := o110.mx
              refine OW.mem (M' := (ob68, blk (cs66 ++ r70) 22) :: (((ob107, blk ((u8s x105) ++ r109) 5) :: (B106 ++ (B85 ++ B59))) ++ N)) (fun w m => m.pick [1, 0] 2 rfl rfl) ?_
              replace v64 := v64.mono (Ψ := More w0 Φ ((ob107, blk ((u8s x105) ++ r109) 5) :: (B106 ++ (B85 ++ B59)))) (fun w q => More.mono (fun w m => (m).tail) q)
              replace h67 := h67.mono (BsRd.mono (Ψ := More w0 Φ ((ob107, blk ((u8s x105) ++ r109) 5) :: (B106 ++ (B85 ++ B59)))) (fun w q => More.mono (fun w m => (m).tail) q))
              replace v88 := v88.mono (Ψ := More w0 Φ ((ob107, blk ((u8s x105) ++ r109) 5) :: (B106 ++ (B85 ++ B59)))) (fun w q => More.mono (fun w m => (m).tail) q)
              replace v91 := v91.mono (Ψ := More w0 Φ ((ob107, blk ((u8s x105) ++ r109) 5) :: (B106 ++ (B85 ++ B59)))) (fun w q => More.mono (fun w m => (m).tail) q)
              replace v100 := v100.mono (Ψ := More w0 Φ ((ob107, blk ((u8s x105) ++ r109) 5) :: (B106 ++ (B85 ++ B59)))) (fun w q => More.mono (fun w m => (m).tail) q)
              have v118 : View (More w0 Φ ((ob107, blk ((u8s x105) ++ r109) 5) :: (B106 ++ (B85 ++ B59)))) ((ob107).map fun k => ⟨k, 0, none⟩) x105.length c108 1 (u8s x105) := o110.view (by decide) (fun w q => q.2.sublist (List.singleton_sublist.2 (List.mem_cons_self ..)))
              refine OW.ofN (NV.bs1 rfl rfl rfl rfl rfl rfl) rfl (fun b116 => ?_)
              have h120 : Reps (BsRd (More w0 Φ ((ob107, blk ((u8s x105) ++ r109) 5) :: (B106 ++ (B85 ++ B59))))) (([.slice ((ob107).map fun k => ⟨k, 0, none⟩) x105.length c108] : List Value)) [x105] := Reps.one (BsRd.mk v118)
              refine OW.mem (M' := (((some b116), blk ((([.slice ((ob107).map fun k => ⟨k, 0, none⟩) x105.length c108] : List Value)) ++ []) 22) :: (ob68, blk (cs66 ++ r70) 22) :: (((ob107, blk ((u8s x105) ++ r109) 5) :: (B106 ++ (B85 ++ B59))) ++ N))) (fun w m => m) ?_
              have o117 : OwnS (some b116) ([x105] : List (List (BitVec 8))).length 1 1 (([.slice ((ob107).map fun k => ⟨k, 0, none⟩) x105.length c108] : List Value)) [] := ⟨by simp [BsRd], by simp [BsRd], (fun h => nomatch h), by simp⟩
              refine OW.slot (sl (some b116) 0 ([x105] : List (List (BitVec 8))).length 1) (rfl) ?_
              refine OW.rot1 ?_
              obtain ⟨g121, hl57⟩ := some_if hl57
              have h126 := h67.app h120
              refine OW.appendOwn (s := 1) rfl rfl rfl rfl rfl rfl o71 (fun w m => m.rd0 (List.Mem.tail _ (List.Mem.head _)) (fun e => o117.nilc (by decide) e)) o117.n (h120.cell1 BsRd.one) (o117.zeroO (by decide)) (by decide) (by decide) (by first | omega | (simp only [i22, List.length_nil]; omega)) rfl rfl ((l65 ++ ([x105] : List (List (BitVec 8)))).length) (cs66 ++ (([.slice ((ob107).map fun k => ⟨k, 0, none⟩) x105.length c108] : List Value))) (List.length_append ..).symm rfl (fun ob122 r123 c124 o125 => ?_)
              have m127 := o125.mx
              refine OW.rv (RV.assign rfl) rfl ?_
              refine OW.nil ?_
              refine QW.then_n ?_
              refine CW.region ?_
              refine OW.rv (RV.move rfl) rfl ?_
              refine OW.rv (RV.assign rfl) rfl ?_
              refine OW.nil ?_
              refine QW.block_n ?_
              exact QW.againJ (k' := k56) (Nat.lt_succ_self _) ⟨x83, (l65 ++ ([x105] : List (List (BitVec 8)))), ((ob107, blk ((u8s x105) ++ r109) 5) :: (B106 ++ (B85 ++ B59))), A89, c90, (cs66 ++ (([.slice ((ob107).map fun k => ⟨k, 0, none⟩) x105.length c108] : List Value))), ob122, c124, r123, hl57, (fun w m => hB60 w ((((m).tail).appR).appR)), v91, h126, o125, rfl, rfl⟩ ⟨rfl, rfl, trivial⟩ (fun w m => m.pick [0] 2 rfl rfl)
            · replace hl57 := if_f hl57 h99
              refine CW.is_t rfl (congrArg (fun b => !b) (decide_eq_false h99)) ?_
              refine CW.seq ?_
              refine CW.region ?_
              refine OW.rv (RV.move rfl) rfl ?_
              refine OW.rv (RV.assign rfl) rfl ?_
              refine OW.rv (RV.assign rfl) rfl ?_
              refine OW.nil ?_
              refine QW.then_n ?_
              refine CW.ret ?_
              refine QW.then_r ?_
              refine QW.block_r ?_
              refine QW.then_r ?_
              refine QW.block_r ?_
              refine QW.then_r ?_
              have hc := Option.some.inj hl57
              subst hc
              try dsimp only at hf
              refine QW.then_r ?_
              refine QW.mem (M' := ((none, blk ([] ++ []) 22) :: (ob68, blk (cs66 ++ r70) 22) :: ((B85 ++ B59) ++ N))) (fun w m => m.nil_ent _) ?_
              have er0 := Option.some.inj hf
              obtain ⟨e0, er1⟩ := Prod.mk.inj er0
              clear er0
              subst e0
              subst er1
              refine QW.retG (rs := [.tmp 2, .tmp 3]) ([sl none 0 ([] : List (List (BitVec 8))).length 0, .int .i64 ((x84 : Nat) : Int)]) ((none, blk ([] ++ []) 22) :: (B85 ++ B59)) rfl ?_ rfl ?_ ?_ _ (.inl rfl)
              · exact ⟨rfl, rfl, trivial⟩
              · exact ⟨(B85 ++ B59), [], none, 0, [], Reps.nil, OwnS.nil, (by omega), rfl, rfl⟩
              · exact (fun w m => m.pick [0] 2 rfl rfl)
          · replace hl57 := if_f hl57 h79
            refine CW.is_f rfl (decide_eq_false h79) ?_
            refine CW.exit ?_
            refine QW.then_x ?_
            refine QW.then_x ?_
            refine QW.block_xe ?_
            exact QW.join ⟨l65, B59, cs66, ob68, c69, r70, (Option.some.inj hl57).symm, (fun w m => (hB60 w (m)).tail), h67, o71, rfl, rfl⟩ ⟨rfl, trivial⟩ (fun w m => m.pick [0] 1 rfl rfl)
    · replace hf := if_f hf h24
      refine CW.is_t rfl (congrArg (fun b => !b) (Bool.eq_false_iff.2 h24)) ?_
      refine CW.seq ?_
      refine CW.region ?_
      refine OW.rv (RV.assign rfl) rfl ?_
      refine OW.rv (RV.assign rfl) rfl ?_
      refine OW.nil ?_
      refine QW.then_n ?_
      refine CW.ret ?_
      refine QW.block_r ?_
      refine QW.then_r ?_
      refine QW.mem (M' := ((none, blk ([] ++ []) 22) :: (ob8, blk ((u8s x4) ++ r10) 5) :: (ob12, blk ((u8s x5) ++ r14) 5) :: ((B7 ++ []) ++ N))) (fun w m => m.nil_ent _) ?_
      have er0 := Option.some.inj hf
      obtain ⟨e0, er1⟩ := Prod.mk.inj er0
      clear er0
      subst e0
      subst er1
      refine QW.retG (rs := [.tmp 2, .tmp 3]) ([sl none 0 ([] : List (List (BitVec 8))).length 0, .int .i64 (75 : Int)]) ((none, blk ([] ++ []) 22) :: (B7 ++ [])) rfl ?_ rfl ?_ ?_ _ (.inl rfl)
      · exact ⟨rfl, rfl, trivial⟩
      · exact ⟨(B7 ++ []), [], none, 0, [], Reps.nil, OwnS.nil, (by omega), rfl, rfl⟩
      · exact (fun w m => m.pick [0] 3 rfl rfl)
  · replace hf := if_f hf h23
    refine CW.is_t rfl (congrArg (fun b => !b) (decide_eq_false h23)) ?_
    refine CW.seq ?_
    refine CW.region ?_
    refine OW.rv (RV.move rfl) rfl ?_
    refine OW.rv (RV.assign rfl) rfl ?_
    refine OW.rv (RV.assign rfl) rfl ?_
    refine OW.nil ?_
    refine QW.then_n ?_
    refine CW.ret ?_
    refine QW.block_r ?_
    refine QW.then_r ?_
    refine QW.mem (M' := ((none, blk ([] ++ []) 22) :: (ob8, blk ((u8s x4) ++ r10) 5) :: (ob12, blk ((u8s x5) ++ r14) 5) :: ((B7 ++ []) ++ N))) (fun w m => m.nil_ent _) ?_
    have er0 := Option.some.inj hf
    obtain ⟨e0, er1⟩ := Prod.mk.inj er0
    clear er0
    subst e0
    subst er1
    refine QW.retG (rs := [.tmp 2, .tmp 3]) ([sl none 0 ([] : List (List (BitVec 8))).length 0, .int .i64 ((x6 : Nat) : Int)]) ((none, blk ([] ++ []) 22) :: (B7 ++ [])) rfl ?_ rfl ?_ ?_ _ (.inl rfl)
    · exact ⟨rfl, rfl, trivial⟩
    · exact ⟨(B7 ++ []), [], none, 0, [], Reps.nil, OwnS.nil, (by omega), rfl, rfl⟩
    · exact (fun w m => m.pick [0] 3 rfl rfl)
theorem waybillref07_Parts_does (w0 : World) (Φ : Ctx) (N : List Ent) (hΦ : ∀ w, Mem w0 w N → Φ w) (A0_ : Option Addr) (c0_ : Nat) (a0 : List (BitVec 8)) (res0 : List (List (BitVec 8))) (res1 : Nat) (va0 : View Φ A0_ a0.length c0_ 1 (u8s a0)) (hf : waybillref07_Parts a0 = some (res0, res1)) : DoesG Try.prog 48 [.slice A0_ a0.length c0_] w0 [] N (fun v G => ∃ B : List Ent, ∃ cr0 : List Value, ∃ or0 : Option Nat, ∃ kr0 : Nat, ∃ rr0 : List Value, (Reps (BsRd (More w0 Φ B)) cr0 res0) ∧ (OwnS or0 res0.length kr0 1 cr0 rr0) ∧ (res1 ≤ 9223372036854775807) ∧ v = .tuple #[sl or0 0 res0.length kr0, .int .i64 ((res1 : Nat) : Int)] ∧ G = (or0, blk (cr0 ++ rr0) 22) :: B) := by
  unfold waybillref07_Parts at hf
  replace va0 := va0.mono (Ψ := More w0 Φ []) (fun w q => q.1)
  have m1 := va0.mx
  refine DoesG.enter Try.func48 rfl Try.ntmps48 rfl (M := (([] ++ N))) rfl ?_
  refine CW.seq ?_
  refine CW.region ?_
  refine OW.rv (RV.assign rfl) rfl ?_
  refine OW.rv (RV.assign rfl) rfl ?_
  refine OW.nil ?_
  refine QW.then_n ?_
  refine CW.seq ?_
  refine CW.seq ?_
  refine CW.region ?_
  refine OW.rv (RV.move rfl) rfl ?_
  refine OW.rv (RV.len rfl rfl) rfl ?_
  refine OW.rv (RV.gtr rfl rfl) rfl ?_
  refine OW.slot (.bool (decide (16777216 < a0.length))) (congrArg Value.bool (decide_eq_decide.2 (by omega))) ?_
  refine OW.nil ?_
  refine QW.then_n ?_
  by_cases h2 : 16777216 < a0.length
  · replace hf := if_t hf h2
    refine CW.is_t rfl (decide_eq_true h2) ?_
    refine CW.seq ?_
    refine CW.region ?_
    refine OW.rv (RV.assign rfl) rfl ?_
    refine OW.rv (RV.assign rfl) rfl ?_
    refine OW.nil ?_
    refine QW.then_n ?_
    refine CW.ret ?_
    refine QW.then_r ?_
    refine QW.mem (M' := ((none, blk ([] ++ []) 22) :: ([] ++ N))) (fun w m => m.nil_ent _) ?_
    have er0 := Option.some.inj hf
    obtain ⟨e0, er1⟩ := Prod.mk.inj er0
    clear er0
    subst e0
    subst er1
    refine QW.retG (rs := [.tmp 2, .tmp 3]) ([sl none 0 ([] : List (List (BitVec 8))).length 0, .int .i64 (2 : Int)]) ((none, blk ([] ++ []) 22) :: []) rfl ?_ rfl ?_ ?_ _ (.inl rfl)
    · exact ⟨rfl, rfl, trivial⟩
    · exact ⟨[], [], none, 0, [], Reps.nil, OwnS.nil, (by omega), rfl, rfl⟩
    · exact (fun w m => m.pick [0] 1 rfl rfl)
  · replace hf := if_f hf h2
    refine CW.is_f rfl (decide_eq_false h2) ?_
    refine CW.skip ?_
    refine QW.then_n ?_
    refine CW.seq ?_
    refine CW.region ?_
    refine OW.rv (RV.move rfl) rfl ?_
    refine OW.rv (RV.move rfl) rfl ?_
    refine OW.rv (RV.len rfl rfl) rfl ?_
    obtain ⟨⟨x4, x5⟩, hx3, hf⟩ := some_bind hf
    try dsimp only at hf
    refine OW.callG Try.call76 rfl (waybillref07_head_does w0 (More w0 Φ []) (([] ++ N)) (fun w m => More.of hΦ 0 m rfl) A0_ c0_ a0 0 a0.length x4 x5 va0 (by omega) (by omega) hx3) rfl rfl ?_
    rintro L10 M11 ⟨B6, cs7, h8, b9, e12, e13⟩
    rw [e12, e13]
    clear e12 e13 L10 M11
    refine OW.mem (M' := (((B6 ++ []) ++ N))) (fun w m => by have h := Mem.sinkAt (A := B6) m 0 0 rfl rfl; exact h) ?_
    replace va0 := va0.mono (Ψ := More w0 Φ (B6 ++ [])) (fun w q => More.mono (fun w m => (m).appR) q)
    replace h8 := HdRd.mono (Ψ := (More w0 Φ (B6 ++ []))) (fun w q => More.flat q) _ _ h8
    have h17 := h8
    obtain ⟨e16, b14, b15⟩ := HdRd.opn h8
    subst e16
    refine OW.rv (RV.move rfl) rfl ?_
    refine OW.rv (RV.extract rfl rfl) rfl ?_
    refine OW.slot (.agg [.bool (x4.list), .int .i64 ((x4.fr : Nat) : Int), .int .i64 ((x4.to : Nat) : Int)].toArray) (rfl) ?_
    refine OW.rv (RV.extract rfl rfl) rfl ?_
    refine OW.slot (.int .i64 ((x5 : Nat) : Int)) (rfl) ?_
    refine OW.alloc (l := [.bool false, .int .i64 (0 : Int), .int .i64 (0 : Int)]) rfl rfl rfl (fun b18 => ?_)
    refine OW.sv (SV.storeW rfl rfl rfl (by intro u hu; simp at hu; rcases hu with rfl | rfl | rfl <;> rfl) rfl rfl rfl) ?_
    refine OW.rv (RV.assign rfl) rfl ?_
    refine OW.nil ?_
    refine QW.then_n ?_
    refine CW.seq ?_
    refine CW.seq ?_
    refine CW.region ?_
    refine OW.rv (RV.move rfl) rfl ?_
    refine OW.rv (RV.neq rfl rfl) rfl ?_
    refine OW.slot (.bool (!decide (x5 = 0))) (congrArg (fun b => Value.bool (!b)) (decide_eq_decide.2 (by omega))) ?_
    refine OW.nil ?_
    refine QW.then_n ?_
    by_cases h19 : x5 = 0
    · replace hf := if_t hf h19
      refine CW.is_f rfl (congrArg (fun b => !b) (decide_eq_true h19)) ?_
      refine CW.skip ?_
      refine QW.then_n ?_
      refine CW.seq ?_
      refine CW.seq ?_
      refine CW.region ?_
      refine OW.rv (RV.field rfl rfl rfl rfl) rfl ?_
      refine OW.rv (RV.load rfl (List.Mem.head _) rfl rfl rfl rfl) rfl ?_
      refine OW.rv (RV.not rfl) rfl ?_
      refine OW.nil ?_
      refine QW.then_n ?_
      by_cases h20 : x4.list = true
      · replace hf := if_t hf h20
        refine CW.is_f rfl (congrArg (fun b => !b) (h20)) ?_
        refine CW.skip ?_
        refine QW.then_n ?_
        refine CW.seq ?_
        refine CW.seq ?_
        refine CW.region ?_
        refine OW.rv (RV.field rfl rfl rfl rfl) rfl ?_
        refine OW.rv (RV.load rfl (List.Mem.head _) rfl rfl rfl rfl) rfl ?_
        refine OW.rv (RV.move rfl) rfl ?_
        refine OW.rv (RV.len rfl rfl) rfl ?_
        refine OW.rv (RV.lss rfl rfl) rfl ?_
        refine OW.slot (.bool (decide (x4.to < a0.length))) (congrArg Value.bool (decide_eq_decide.2 (by omega))) ?_
        refine OW.nil ?_
        refine QW.then_n ?_
        by_cases h21 : x4.to < a0.length
        · replace hf := if_t hf h21
          refine CW.is_t rfl (decide_eq_true h21) ?_
          refine CW.seq ?_
          refine CW.region ?_
          refine OW.rv (RV.assign rfl) rfl ?_
          refine OW.rv (RV.assign rfl) rfl ?_
          refine OW.nil ?_
          refine QW.then_n ?_
          refine CW.ret ?_
          refine QW.then_r ?_
          refine QW.mem (M' := ((none, blk ([] ++ []) 22) :: (some b18, blk [.bool (x4.list), .int .i64 ((x4.fr : Nat) : Int), .int .i64 ((x4.to : Nat) : Int)] 105) :: ((B6 ++ []) ++ N))) (fun w m => m.nil_ent _) ?_
          have er0 := Option.some.inj hf
          obtain ⟨e0, er1⟩ := Prod.mk.inj er0
          clear er0
          subst e0
          subst er1
          refine QW.retG (rs := [.tmp 2, .tmp 3]) ([sl none 0 ([] : List (List (BitVec 8))).length 0, .int .i64 (73 : Int)]) ((none, blk ([] ++ []) 22) :: (B6 ++ [])) rfl ?_ rfl ?_ ?_ _ (.inl rfl)
          · exact ⟨rfl, rfl, trivial⟩
          · exact ⟨(B6 ++ []), [], none, 0, [], Reps.nil, OwnS.nil, (by omega), rfl, rfl⟩
          · exact (fun w m => m.pick [0] 2 rfl rfl)
        · replace hf := if_f hf h21
          refine CW.is_f rfl (decide_eq_false h21) ?_
          refine CW.skip ?_
          refine QW.then_n ?_
          refine CW.seq ?_
          refine CW.region ?_
          refine OW.rv (RV.assign rfl) rfl ?_
          refine OW.nil ?_
          refine QW.then_n ?_
          refine CW.seq ?_
          refine CW.seq ?_
          refine CW.region ?_
          refine OW.rv (RV.field rfl rfl rfl rfl) rfl ?_
          refine OW.rv (RV.load rfl (List.Mem.head _) rfl rfl rfl rfl) rfl ?_
          refine OW.rv (RV.assign rfl) rfl ?_
          refine OW.nil ?_
          refine QW.then_n ?_
          obtain ⟨q22, hq23, hf⟩ := some_bind hf
          refine CW.cutJ (fun L' M' => ∃ l26 : List (List (BitVec 8)), ∃ B24 : List Ent, ∃ cs27 : List Value, ∃ ob29 : Option Nat, ∃ c30 : Nat, ∃ r31 : List Value, q22 = Lp.go l26 ∧ (∀ w, Mem w0 w B24 → Mem w0 w (B6 ++ [])) ∧ (Reps (BsRd (More w0 Φ B24)) cs27 l26) ∧ (OwnS ob29 l26.length c30 1 cs27 r31) ∧ L' = [(6, sl ob29 0 l26.length c30)] ∧ M' = ((ob29, blk (cs27 ++ r31) 22) :: (B24 ++ N))) ?_ ?_
          · rintro L34 M35 ⟨l26, B24, cs27, ob29, c30, r31, e33, hB25, h28, o32, e36, e37⟩
            rw [e36, e37]
            clear e36 e37 L34 M35
            clear hq23
            rw [e33] at hf
            clear e33
            try dsimp only at hf
            have m38 := o32.mx
            refine QW.then_n ?_
            refine CW.seq ?_
            refine CW.region ?_
            refine OW.rv (RV.move rfl) rfl ?_
            refine OW.rv (RV.assign rfl) rfl ?_
            refine OW.rv (RV.assign rfl) rfl ?_
            refine OW.nil ?_
            refine QW.then_n ?_
            refine CW.ret ?_
            have er0 := Option.some.inj hf
            obtain ⟨e0, er1⟩ := Prod.mk.inj er0
            clear er0
            subst e0
            subst er1
            refine QW.retG (rs := [.tmp 2, .tmp 3]) ([sl ob29 0 l26.length c30, .int .i64 (0 : Int)]) ((ob29, blk (cs27 ++ r31) 22) :: B24) rfl ?_ rfl ?_ ?_ _ (.inl rfl)
            · exact ⟨rfl, rfl, trivial⟩
            · exact ⟨B24, cs27, ob29, c30, r31, h28, o32, (by omega), rfl, rfl⟩
            · exact (fun w m => m.pick [0] 1 rfl rfl)
          · skip
            refine CW.block ?_
            refine CW.mem (M' := ((none, blk ([] ++ []) 22) :: (some b18, blk [.bool (x4.list), .int .i64 ((x4.fr : Nat) : Int), .int .i64 ((x4.to : Nat) : Int)] 105) :: ((B6 ++ []) ++ N))) (fun w m => m.nil_ent _) ?_
            refine CW.loopJ (fun k L' M' => ∃ l41 : List (List (BitVec 8)), ∃ n48 : Nat, ∃ B39 : List Ent, ∃ cs42 : List Value, ∃ ob44 : Option Nat, ∃ c45 : Nat, ∃ r46 : List Value, (waybillref07_Parts.l1 a0 x4 k l41 n48) = some q22 ∧ (∀ w, Mem w0 w B39 → Mem w0 w (B6 ++ [])) ∧ (Reps (BsRd (More w0 Φ B39)) cs42 l41) ∧ (OwnS ob44 l41.length c45 1 cs42 r46) ∧ (n48 ≤ 9223372036854775807) ∧ L' = [(0, .slice A0_ a0.length c0_), (4, ptr (some b18) 0), (6, sl ob44 0 l41.length c45), (7, .int .i64 ((n48 : Nat) : Int))] ∧ M' = ((ob44, blk (cs42 ++ r46) 22) :: (some b18, blk [.bool (x4.list), .int .i64 ((x4.fr : Nat) : Int), .int .i64 ((x4.to : Nat) : Int)] 105) :: (B39 ++ N))) (k0 := (x4.to - x4.fr + 2)) ⟨([] : List (List (BitVec 8))), x4.fr, (B6 ++ []), [], none, 0, [], hq23, (fun w m => m), Reps.nil, OwnS.nil, (by omega), rfl, rfl⟩ ⟨rfl, rfl, rfl, rfl, trivial⟩ (fun w m => m.pick [0, 1] 2 rfl rfl) ?_
            clear hq23
            rintro k50 L53 M54 ⟨l41, n48, B39, cs42, ob44, c45, r46, hl51, hB40, h43, o47, b49, e55, e56⟩
            rw [e55, e56]
            clear e55 e56 L53 M54
            rcases k50 with _ | k50
            · rw [waybillref07_Parts.l1] at hl51; cases hl51
            rw [waybillref07_Parts.l1] at hl51
            replace va0 := va0.mono (Ψ := More w0 Φ B39) (fun w q => More.mono (fun w m => hB40 w (m)) q)
            replace h17 := HdRd.mono (Ψ := More w0 Φ B39) (fun w q => More.mono (fun w m => hB40 w (m)) q) _ _ h17
            have m57 := o47.mx
            refine CW.seq ?_
            refine CW.seq ?_
            refine CW.region ?_
            refine OW.rv (RV.move rfl) rfl ?_
            refine OW.rv (RV.field rfl rfl rfl rfl) rfl ?_
            refine OW.rv (RV.load rfl (List.Mem.tail _ (List.Mem.head _)) rfl rfl rfl rfl) rfl ?_
            refine OW.rv (RV.lss rfl rfl) rfl ?_
            refine OW.slot (.bool (decide (n48 < x4.to))) (congrArg Value.bool (decide_eq_decide.2 (by omega))) ?_
            refine OW.nil ?_
            refine QW.then_n ?_
            by_cases h58 : n48 < x4.to
            · replace hl51 := if_t hl51 h58
              refine CW.is_t rfl (decide_eq_true h58) ?_
              refine CW.skip ?_
              refine QW.then_n ?_
              refine CW.block ?_
              refine CW.seq ?_
              refine CW.region ?_
              refine OW.rv (RV.move rfl) rfl ?_
              refine OW.rv (RV.move rfl) rfl ?_
              refine OW.rv (RV.field rfl rfl rfl rfl) rfl ?_
              refine OW.rv (RV.load rfl (List.Mem.tail _ (List.Mem.head _)) rfl rfl rfl rfl) rfl ?_
              obtain ⟨⟨x60, x61⟩, hx59, hl51⟩ := some_bind hl51
              try dsimp only at hl51
              refine OW.callG Try.call76 rfl (waybillref07_head_does w0 (More w0 Φ B39) ((ob44, blk (cs42 ++ r46) 22) :: (some b18, blk [.bool (x4.list), .int .i64 ((x4.fr : Nat) : Int), .int .i64 ((x4.to : Nat) : Int)] 105) :: (B39 ++ N)) (fun w m => More.of hΦ 2 m rfl) A0_ c0_ a0 n48 x4.to x60 x61 va0 (by omega) (by omega) hx59) rfl rfl ?_
              rintro L66 M67 ⟨B62, cs63, h64, b65, e68, e69⟩
              rw [e68, e69]
              clear e68 e69 L66 M67
              refine OW.mem (M' := ((ob44, blk (cs42 ++ r46) 22) :: (some b18, blk [.bool (x4.list), .int .i64 ((x4.fr : Nat) : Int), .int .i64 ((x4.to : Nat) : Int)] 105) :: ((B62 ++ B39) ++ N))) (fun w m => by have h := Mem.sinkAt (A := B62) m 0 2 rfl rfl; exact h) ?_
              replace va0 := va0.mono (Ψ := More w0 Φ (B62 ++ B39)) (fun w q => More.mono (fun w m => (m).appR) q)
              replace h43 := h43.mono (BsRd.mono (Ψ := More w0 Φ (B62 ++ B39)) (fun w q => More.mono (fun w m => (m).appR) q))
              replace h17 := HdRd.mono (Ψ := More w0 Φ (B62 ++ B39)) (fun w q => More.mono (fun w m => (m).appR) q) _ _ h17
              replace h64 := HdRd.mono (Ψ := (More w0 Φ (B62 ++ B39))) (fun w q => More.flat q) _ _ h64
              have h73 := h64
              obtain ⟨e72, b70, b71⟩ := HdRd.opn h64
              subst e72
              refine OW.rv (RV.move rfl) rfl ?_
              refine OW.rv (RV.extract rfl rfl) rfl ?_
              refine OW.slot (.agg [.bool (x60.list), .int .i64 ((x60.fr : Nat) : Int), .int .i64 ((x60.to : Nat) : Int)].toArray) (rfl) ?_
              refine OW.rv (RV.extract rfl rfl) rfl ?_
              refine OW.slot (.int .i64 ((x61 : Nat) : Int)) (rfl) ?_
              refine OW.alloc (l := [.bool false, .int .i64 (0 : Int), .int .i64 (0 : Int)]) rfl rfl rfl (fun b74 => ?_)
              refine OW.sv (SV.storeW rfl rfl rfl (by intro u hu; simp at hu; rcases hu with rfl | rfl | rfl <;> rfl) rfl rfl rfl) ?_
              refine OW.rv (RV.assign rfl) rfl ?_
              refine OW.nil ?_
              refine QW.then_n ?_
              refine CW.seq ?_
              refine CW.seq ?_
              refine CW.region ?_
              refine OW.rv (RV.move rfl) rfl ?_
              refine OW.rv (RV.neq rfl rfl) rfl ?_
              refine OW.slot (.bool (!decide (x61 = 0))) (congrArg (fun b => Value.bool (!b)) (decide_eq_decide.2 (by omega))) ?_
              refine OW.nil ?_
              refine QW.then_n ?_
              by_cases h75 : x61 = 0
              · replace hl51 := if_t hl51 h75
                refine CW.is_f rfl (congrArg (fun b => !b) (decide_eq_true h75)) ?_
                refine CW.skip ?_
                refine QW.then_n ?_
                refine CW.seq ?_
                refine CW.region ?_
                refine OW.rv (RV.move rfl) rfl ?_
                refine OW.rv (RV.move rfl) rfl ?_
                refine OW.rv (RV.move rfl) rfl ?_
                refine OW.rv (RV.field rfl rfl rfl rfl) rfl ?_
                refine OW.rv (RV.load rfl (List.Mem.head _) rfl rfl rfl rfl) rfl ?_
                obtain ⟨g77, hl51⟩ := some_if hl51
                obtain ⟨g78, hl51⟩ := some_if hl51
                have hle := va0.le
                refine OW.rv (RV.cut_both (s := 1) (n48) (x60.to) rfl rfl rfl (by omega) (by omega) rfl rfl (by omega) (by omega)) rfl ?_
                refine OW.slot (.slice (subA A0_ c0_ n48 1) ((a0.take x60.to).drop n48).length (c0_ - n48)) (by rw [show (((a0.take x60.to).drop n48)).length = (x60.to) - (n48) from List.length_drop.trans (by rw [List.length_take, Nat.min_eq_left (by omega)])]) ?_
                have v76 : View (More w0 Φ (B62 ++ B39)) (subA A0_ c0_ n48 1) ((a0.take x60.to).drop n48).length (c0_ - n48) 1 (u8s ((a0.take x60.to).drop n48)) := va0.mid8 (by omega) (by omega)
                have m79 := v76.mx
                obtain ⟨x81, hx80, hl51⟩ := some_bind hl51
                refine OW.callG Try.call62 rfl (waybillref07_bytes_does w0 (More w0 Φ (B62 ++ B39)) ((some b74, blk [.bool (x60.list), .int .i64 ((x60.fr : Nat) : Int), .int .i64 ((x60.to : Nat) : Int)] 105) :: (ob44, blk (cs42 ++ r46) 22) :: (some b18, blk [.bool (x4.list), .int .i64 ((x4.fr : Nat) : Int), .int .i64 ((x4.to : Nat) : Int)] 105) :: ((B62 ++ B39) ++ N)) (fun w m => More.of hΦ 3 m rfl) (subA A0_ c0_ n48 1) (c0_ - n48) ((a0.take x60.to).drop n48) x81 v76 hx80) rfl rfl ?_
                rintro L87 M88 ⟨B82, ob83, c84, r85, o86, e89, e90⟩
                rw [e89, e90]
                clear e89 e90 L87 M88
                refine OW.mem (M' := ((ob83, blk ((u8s x81) ++ r85) 5) :: (some b74, blk [.bool (x60.list), .int .i64 ((x60.fr : Nat) : Int), .int .i64 ((x60.to : Nat) : Int)] 105) :: (ob44, blk (cs42 ++ r46) 22) :: (some b18, blk [.bool (x4.list), .int .i64 ((x4.fr : Nat) : Int), .int .i64 ((x4.to : Nat) : Int)] 105) :: ((B82 ++ (B62 ++ B39)) ++ N))) (fun w m => by have h := Mem.sinkAt (A := B82) m 1 3 rfl rfl; exact h) ?_
                replace va0 := va0.mono (Ψ := More w0 Φ (B82 ++ (B62 ++ B39))) (fun w q => More.mono (fun w m => (m).appR) q)
                replace h43 := h43.mono (BsRd.mono (Ψ := More w0 Φ (B82 ++ (B62 ++ B39))) (fun w q => More.mono (fun w m => (m).appR) q))
                replace h73 := HdRd.mono (Ψ := More w0 Φ (B82 ++ (B62 ++ B39))) (fun w q => More.mono (fun w m => (m).appR) q) _ _ h73
                replace v76 := v76.mono (Ψ := More w0 Φ (B82 ++ (B62 ++ B39))) (fun w q => More.mono (fun w m => (m).appR) q)
                replace h17 := HdRd.mono (Ψ := More w0 Φ (B82 ++ (B62 ++ B39))) (fun w q => More.mono (fun w m => (m).appR) q) _ _ h17
                have m91 := o86.mx
                refine OW.mem (M' := (some b74, blk [.bool (x60.list), .int .i64 ((x60.fr : Nat) : Int), .int .i64 ((x60.to : Nat) : Int)] 105) :: (ob44, blk (cs42 ++ r46) 22) :: (some b18, blk [.bool (x4.list), .int .i64 ((x4.fr : Nat) : Int), .int .i64 ((x4.to : Nat) : Int)] 105) :: (((ob83, blk ((u8s x81) ++ r85) 5) :: (B82 ++ (B62 ++ B39))) ++ N)) (fun w m => m.pick [1, 2, 3, 0] 4 rfl rfl) ?_
                replace va0 := va0.mono (Ψ := More w0 Φ ((ob83, blk ((u8s x81) ++ r85) 5) :: (B82 ++ (B62 ++ B39)))) (fun w q => More.mono (fun w m => (m).tail) q)
                replace h43 := h43.mono (BsRd.mono (Ψ := More w0 Φ ((ob83, blk ((u8s x81) ++ r85) 5) :: (B82 ++ (B62 ++ B39)))) (fun w q => More.mono (fun w m => (m).tail) q))
                replace h73 := HdRd.mono (Ψ := More w0 Φ ((ob83, blk ((u8s x81) ++ r85) 5) :: (B82 ++ (B62 ++ B39)))) (fun w q => More.mono (fun w m => (m).tail) q) _ _ h73
                replace v76 := v76.mono (Ψ := More w0 Φ ((ob83, blk ((u8s x81) ++ r85) 5) :: (B82 ++ (B62 ++ B39)))) (fun w q => More.mono (fun w m => (m).tail) q)
                replace h17 := HdRd.mono (Ψ := More w0 Φ ((ob83, blk ((u8s x81) ++ r85) 5) :: (B82 ++ (B62 ++ B39)))) (fun w q => More.mono (fun w m => (m).tail) q) _ _ h17
                have v94 : View (More w0 Φ ((ob83, blk ((u8s x81) ++ r85) 5) :: (B82 ++ (B62 ++ B39)))) ((ob83).map fun k => ⟨k, 0, none⟩) x81.length c84 1 (u8s x81) := o86.view (by decide) (fun w q => q.2.sublist (List.singleton_sublist.2 (List.mem_cons_self ..)))
                refine OW.ofN (NV.bs1 rfl rfl rfl rfl rfl rfl) rfl (fun b92 => ?_)
                have h96 : Reps (BsRd (More w0 Φ ((ob83, blk ((u8s x81) ++ r85) 5) :: (B82 ++ (B62 ++ B39))))) (([.slice ((ob83).map fun k => ⟨k, 0, none⟩) x81.length c84] : List Value)) [x81] := Reps.one (BsRd.mk v94)
                refine OW.mem (M' := (((some b92), blk ((([.slice ((ob83).map fun k => ⟨k, 0, none⟩) x81.length c84] : List Value)) ++ []) 22) :: (some b74, blk [.bool (x60.list), .int .i64 ((x60.fr : Nat) : Int), .int .i64 ((x60.to : Nat) : Int)] 105) :: (ob44, blk (cs42 ++ r46) 22) :: (some b18, blk [.bool (x4.list), .int .i64 ((x4.fr : Nat) : Int), .int .i64 ((x4.to : Nat) : Int)] 105) :: (((ob83, blk ((u8s x81) ++ r85) 5) :: (B82 ++ (B62 ++ B39))) ++ N))) (fun w m => m) ?_
                have o93 : OwnS (some b92) ([x81] : List (List (BitVec 8))).length 1 1 (([.slice ((ob83).map fun k => ⟨k, 0, none⟩) x81.length c84] : List Value)) [] := ⟨by simp [BsRd], by simp [BsRd], (fun h => nomatch h), by simp⟩
                refine OW.slot (sl (some b92) 0 ([x81] : List (List (BitVec 8))).length 1) (rfl) ?_
                refine OW.rot2 ?_
                obtain ⟨g97, hl51⟩ := some_if hl51
                have h102 := h43.app h96
                refine OW.appendOwn (s := 1) rfl rfl rfl rfl rfl rfl o47 (fun w m => m.rd0 (List.Mem.tail _ (List.Mem.head _)) (fun e => o93.nilc (by decide) e)) o93.n (h96.cell1 BsRd.one) (o93.zeroO (by decide)) (by decide) (by decide) (by first | omega | (simp only [i22, List.length_nil]; omega)) rfl rfl ((l41 ++ ([x81] : List (List (BitVec 8)))).length) (cs42 ++ (([.slice ((ob83).map fun k => ⟨k, 0, none⟩) x81.length c84] : List Value))) (List.length_append ..).symm rfl (fun ob98 r99 c100 o101 => ?_)
                have m103 := o101.mx
                refine OW.rv (RV.assign rfl) rfl ?_
                refine OW.nil ?_
                refine QW.then_n ?_
                refine CW.region ?_
                refine OW.rv (RV.field rfl rfl rfl rfl) rfl ?_
                refine OW.rv (RV.load rfl (List.Mem.tail _ (List.Mem.tail _ (List.Mem.head _))) rfl rfl rfl rfl) rfl ?_
                refine OW.rv (RV.assign rfl) rfl ?_
                refine OW.nil ?_
                refine QW.block_n ?_
                exact QW.againJ (k' := k50) (Nat.lt_succ_self _) ⟨(l41 ++ ([x81] : List (List (BitVec 8)))), x60.to, ((ob83, blk ((u8s x81) ++ r85) 5) :: (B82 ++ (B62 ++ B39))), (cs42 ++ (([.slice ((ob83).map fun k => ⟨k, 0, none⟩) x81.length c84] : List Value))), ob98, c100, r99, hl51, (fun w m => hB40 w ((((m).tail).appR).appR)), h102, o101, (by omega), rfl, rfl⟩ ⟨rfl, rfl, rfl, rfl, trivial⟩ (fun w m => m.pick [0, 3] 4 rfl rfl)
              · replace hl51 := if_f hl51 h75
                refine CW.is_t rfl (congrArg (fun b => !b) (decide_eq_false h75)) ?_
                refine CW.seq ?_
                refine CW.region ?_
                refine OW.rv (RV.move rfl) rfl ?_
                refine OW.rv (RV.assign rfl) rfl ?_
                refine OW.rv (RV.assign rfl) rfl ?_
                refine OW.nil ?_
                refine QW.then_n ?_
                refine CW.ret ?_
                refine QW.then_r ?_
                refine QW.block_r ?_
                refine QW.then_r ?_
                refine QW.block_r ?_
                refine QW.then_r ?_
                have hc := Option.some.inj hl51
                subst hc
                try dsimp only at hf
                refine QW.then_r ?_
                refine QW.mem (M' := ((none, blk ([] ++ []) 22) :: (some b74, blk [.bool (x60.list), .int .i64 ((x60.fr : Nat) : Int), .int .i64 ((x60.to : Nat) : Int)] 105) :: (ob44, blk (cs42 ++ r46) 22) :: (some b18, blk [.bool (x4.list), .int .i64 ((x4.fr : Nat) : Int), .int .i64 ((x4.to : Nat) : Int)] 105) :: ((B62 ++ B39) ++ N))) (fun w m => m.nil_ent _) ?_
                have er0 := Option.some.inj hf
                obtain ⟨e0, er1⟩ := Prod.mk.inj er0
                clear er0
                subst e0
                subst er1
                refine QW.retG (rs := [.tmp 2, .tmp 3]) ([sl none 0 ([] : List (List (BitVec 8))).length 0, .int .i64 ((x61 : Nat) : Int)]) ((none, blk ([] ++ []) 22) :: (B62 ++ B39)) rfl ?_ rfl ?_ ?_ _ (.inl rfl)
                · exact ⟨rfl, rfl, trivial⟩
                · exact ⟨(B62 ++ B39), [], none, 0, [], Reps.nil, OwnS.nil, (by omega), rfl, rfl⟩
                · exact (fun w m => m.pick [0] 4 rfl rfl)
            · replace hl51 := if_f hl51 h58
              refine CW.is_f rfl (decide_eq_false h58) ?_
              refine CW.exit ?_
              refine QW.then_x ?_
              refine QW.then_x ?_
              refine QW.block_xe ?_
              exact QW.join ⟨l41, B39, cs42, ob44, c45, r46, (Option.some.inj hl51).symm, (fun w m => hB40 w (m)), h43, o47, rfl, rfl⟩ ⟨rfl, trivial⟩ (fun w m => m.pick [0] 2 rfl rfl)
      · replace hf := if_f hf h20
        refine CW.is_t rfl (congrArg (fun b => !b) (Bool.eq_false_iff.2 h20)) ?_
        refine CW.seq ?_
        refine CW.region ?_
        refine OW.rv (RV.assign rfl) rfl ?_
        refine OW.rv (RV.assign rfl) rfl ?_
        refine OW.nil ?_
        refine QW.then_n ?_
        refine CW.ret ?_
        refine QW.then_r ?_
        refine QW.mem (M' := ((none, blk ([] ++ []) 22) :: (some b18, blk [.bool (x4.list), .int .i64 ((x4.fr : Nat) : Int), .int .i64 ((x4.to : Nat) : Int)] 105) :: ((B6 ++ []) ++ N))) (fun w m => m.nil_ent _) ?_
        have er0 := Option.some.inj hf
        obtain ⟨e0, er1⟩ := Prod.mk.inj er0
        clear er0
        subst e0
        subst er1
        refine QW.retG (rs := [.tmp 2, .tmp 3]) ([sl none 0 ([] : List (List (BitVec 8))).length 0, .int .i64 (75 : Int)]) ((none, blk ([] ++ []) 22) :: (B6 ++ [])) rfl ?_ rfl ?_ ?_ _ (.inl rfl)
        · exact ⟨rfl, rfl, trivial⟩
        · exact ⟨(B6 ++ []), [], none, 0, [], Reps.nil, OwnS.nil, (by omega), rfl, rfl⟩
        · exact (fun w m => m.pick [0] 2 rfl rfl)
    · replace hf := if_f hf h19
      refine CW.is_t rfl (congrArg (fun b => !b) (decide_eq_false h19)) ?_
      refine CW.seq ?_
      refine CW.region ?_
      refine OW.rv (RV.move rfl) rfl ?_
      refine OW.rv (RV.assign rfl) rfl ?_
      refine OW.rv (RV.assign rfl) rfl ?_
      refine OW.nil ?_
      refine QW.then_n ?_
      refine CW.ret ?_
      refine QW.then_r ?_
      refine QW.mem (M' := ((none, blk ([] ++ []) 22) :: (some b18, blk [.bool (x4.list), .int .i64 ((x4.fr : Nat) : Int), .int .i64 ((x4.to : Nat) : Int)] 105) :: ((B6 ++ []) ++ N))) (fun w m => m.nil_ent _) ?_
      have er0 := Option.some.inj hf
      obtain ⟨e0, er1⟩ := Prod.mk.inj er0
      clear er0
      subst e0
      subst er1
      refine QW.retG (rs := [.tmp 2, .tmp 3]) ([sl none 0 ([] : List (List (BitVec 8))).length 0, .int .i64 ((x5 : Nat) : Int)]) ((none, blk ([] ++ []) 22) :: (B6 ++ [])) rfl ?_ rfl ?_ ?_ _ (.inl rfl)
      · exact ⟨rfl, rfl, trivial⟩
      · exact ⟨(B6 ++ []), [], none, 0, [], Reps.nil, OwnS.nil, (by omega), rfl, rfl⟩
      · exact (fun w m => m.pick [0] 2 rfl rfl)
theorem waybilllaw07_same_does (w0 : World) (Φ : Ctx) (N : List Ent) (hΦ : ∀ w, Mem w0 w N → Φ w) (A0_ : Option Addr) (c0_ : Nat) (a0 : List (BitVec 8)) (A1_ : Option Addr) (c1_ : Nat) (a1 : List (BitVec 8)) (res0 : Bool) (va0 : View Φ A0_ a0.length c0_ 1 (u8s a0)) (va1 : View Φ A1_ a1.length c1_ 1 (u8s a1)) (hf : waybilllaw07_same a0 a1 = some res0) : DoesG Try.prog 26 [.slice A0_ a0.length c0_, .slice A1_ a1.length c1_] w0 [] N (fun v G => v = .bool res0) := by
  unfold waybilllaw07_same at hf
  replace va0 := va0.mono (Ψ := More w0 Φ []) (fun w q => q.1)
  replace va1 := va1.mono (Ψ := More w0 Φ []) (fun w q => q.1)
  have m1 := va0.mx
  have m2 := va1.mx
  refine DoesG.enter Try.func26 rfl Try.ntmps26 rfl (M := (([] ++ N))) rfl ?_
  refine CW.seq ?_
  refine CW.region ?_
  refine OW.rv (RV.assign rfl) rfl ?_
  refine OW.nil ?_
  refine QW.then_n ?_
  refine CW.seq ?_
  refine CW.seq ?_
  refine CW.region ?_
  refine OW.rv (RV.move rfl) rfl ?_
  refine OW.rv (RV.len rfl rfl) rfl ?_
  refine OW.rv (RV.move rfl) rfl ?_
  refine OW.rv (RV.len rfl rfl) rfl ?_
  refine OW.rv (RV.neq rfl rfl) rfl ?_
  refine OW.slot (.bool (!decide (a0.length = a1.length))) (congrArg (fun b => Value.bool (!b)) (decide_eq_decide.2 (by omega))) ?_
  refine OW.nil ?_
  refine QW.then_n ?_
  by_cases h3 : a0.length = a1.length
  · replace hf := if_t hf h3
    refine CW.is_f rfl (congrArg (fun b => !b) (decide_eq_true h3)) ?_
    refine CW.skip ?_
    refine QW.then_n ?_
    refine CW.seq ?_
    refine CW.seq ?_
    refine CW.region ?_
    refine OW.rv (RV.assign rfl) rfl ?_
    refine OW.nil ?_
    refine QW.then_n ?_
    obtain ⟨q4, hq5, hf⟩ := some_bind hf
    refine CW.cutJ (fun L' M' => q4 = Lp.go () ∧ L' = [] ∧ M' = (([] ++ N))) ?_ ?_
    · rintro L7 M8 ⟨e6, e9, e10⟩
      rw [e9, e10]
      clear e9 e10 L7 M8
      clear hq5
      rw [e6] at hf
      clear e6
      try dsimp only at hf
      refine QW.then_n ?_
      refine CW.seq ?_
      refine CW.region ?_
      refine OW.rv (RV.assign rfl) rfl ?_
      refine OW.nil ?_
      refine QW.then_n ?_
      refine CW.ret ?_
      have e0 := Option.some.inj hf
      subst e0
      refine QW.retG (rs := [.tmp 4]) ([.bool true]) ([]) rfl ?_ rfl ?_ ?_ _ (.inl rfl)
      · exact ⟨rfl, trivial⟩
      · exact rfl
      · exact (fun w m => m)
    · skip
      refine CW.block ?_
      refine CW.loopJ (fun k L' M' => ∃ n11 : Nat, (waybilllaw07_same.l1 a0 a1 k n11) = some q4 ∧ (n11 ≤ 9223372036854775807) ∧ L' = [(0, .slice A0_ a0.length c0_), (1, .slice A1_ a1.length c1_), (5, .int .i64 ((n11 : Nat) : Int))] ∧ M' = (([] ++ N))) (k0 := (a0.length - 0 + 2)) ⟨0, hq5, (by omega), rfl, rfl⟩ ⟨rfl, rfl, rfl, trivial⟩ (fun w m => m.pick [] 0 rfl rfl) ?_
      clear hq5
      rintro k13 L16 M17 ⟨n11, hl14, b12, e18, e19⟩
      rw [e18, e19]
      clear e18 e19 L16 M17
      rcases k13 with _ | k13
      · rw [waybilllaw07_same.l1] at hl14; cases hl14
      rw [waybilllaw07_same.l1] at hl14
      refine CW.seq ?_
      refine CW.seq ?_
      refine CW.region ?_
      refine OW.rv (RV.move rfl) rfl ?_
      refine OW.rv (RV.move rfl) rfl ?_
      refine OW.rv (RV.len rfl rfl) rfl ?_
      refine OW.rv (RV.lss rfl rfl) rfl ?_
      refine OW.slot (.bool (decide (n11 < a0.length))) (congrArg Value.bool (decide_eq_decide.2 (by omega))) ?_
      refine OW.nil ?_
      refine QW.then_n ?_
      by_cases h20 : n11 < a0.length
      · replace hl14 := if_t hl14 h20
        refine CW.is_t rfl (decide_eq_true h20) ?_
        refine CW.skip ?_
        refine QW.then_n ?_
        refine CW.seq ?_
        refine CW.block ?_
        refine CW.seq ?_
        refine CW.drawsU 9 mixed (by kernel_rfl) rfl ?_
        refine UW.rv 0 rfl (by kernel_rfl) rfl (RV.move rfl) rfl ?_
        refine UW.rv 1 rfl (by kernel_rfl) rfl (RV.move rfl) rfl ?_
        obtain ⟨x21, hx22, hl14⟩ := some_bind hl14
        have hl23 := lt_of_at hx22
        refine UW.rv 2 rfl (by kernel_rfl) rfl (RV.idx_r (n11) rfl rfl rfl rfl rfl (va0.isSome (by decide) hl23) (by omega)) rfl ?_
        refine UW.rv 3 rfl (by kernel_rfl) rfl (RV.load_at rfl rfl rfl (fun w m => va0.cell (More.of hΦ 0 m rfl) (u8s_at hx22))) rfl ?_
        refine UW.rv 4 rfl (by kernel_rfl) rfl (RV.move rfl) rfl ?_
        refine UW.rv 5 rfl (by kernel_rfl) rfl (RV.move rfl) rfl ?_
        obtain ⟨x24, hx25, hl14⟩ := some_bind hl14
        have hl26 := lt_of_at hx25
        refine UW.rv 6 rfl (by kernel_rfl) rfl (RV.idx_r (n11) rfl rfl rfl rfl rfl (va1.isSome (by decide) hl26) (by omega)) rfl ?_
        refine UW.rv 7 rfl (by kernel_rfl) rfl (RV.load_at rfl rfl rfl (fun w m => va1.cell (More.of hΦ 0 m rfl) (u8s_at hx25))) rfl ?_
        refine UW.rv 8 rfl (by kernel_rfl) rfl (RV.neq8 rfl (by first | rfl | exact lit8 _ rfl) rfl (by first | rfl | exact lit8 _ rfl)) rfl ?_
        refine UW.nil (by kernel_rfl) ?_
        refine OW.nil ?_
        refine QW.then_n ?_
        by_cases h27 : x21 = x24
        · replace hl14 := if_t hl14 h27
          refine CW.is_f rfl (congrArg (fun b => !b) (decide_eq_true h27)) ?_
          refine CW.skip ?_
          refine QW.block_n ?_
          refine QW.then_n ?_
          refine CW.region ?_
          refine OW.rv (RV.move rfl) rfl ?_
          refine OW.rv (RV.add rfl rfl (by omega)) rfl ?_
          refine OW.slot (.int .i64 (((n11 + 1) : Nat) : Int)) (by first | rfl | (congr 1) | (congr 1; omega)) ?_
          refine OW.rv (RV.assign rfl) rfl ?_
          refine OW.nil ?_
          exact QW.againJ (k' := k13) (Nat.lt_succ_self _) ⟨(n11 + 1), hl14, (by omega), rfl, rfl⟩ ⟨rfl, rfl, rfl, trivial⟩ (fun w m => m.pick [] 0 rfl rfl)
        · replace hl14 := if_f hl14 h27
          refine CW.is_t rfl (congrArg (fun b => !b) (decide_eq_false h27)) ?_
          refine CW.seq ?_
          refine CW.region ?_
          refine OW.rv (RV.assign rfl) rfl ?_
          refine OW.nil ?_
          refine QW.then_n ?_
          refine CW.ret ?_
          refine QW.block_r ?_
          refine QW.then_r ?_
          refine QW.then_r ?_
          refine QW.block_r ?_
          refine QW.then_r ?_
          have hc := Option.some.inj hl14
          subst hc
          try dsimp only at hf
          refine QW.then_r ?_
          have e0 := Option.some.inj hf
          subst e0
          refine QW.retG (rs := [.tmp 4]) ([.bool false]) ([]) rfl ?_ rfl ?_ ?_ _ (.inl rfl)
          · exact ⟨rfl, trivial⟩
          · exact rfl
          · exact (fun w m => m)
      · replace hl14 := if_f hl14 h20
        refine CW.is_f rfl (decide_eq_false h20) ?_
        refine CW.exit ?_
        refine QW.then_x ?_
        refine QW.then_x ?_
        refine QW.block_xe ?_
        exact QW.join ⟨(Option.some.inj hl14).symm, rfl, rfl⟩ trivial (fun w m => m.pick [] 0 rfl rfl)
  · replace hf := if_f hf h3
    refine CW.is_t rfl (congrArg (fun b => !b) (decide_eq_false h3)) ?_
    refine CW.seq ?_
    refine CW.region ?_
    refine OW.rv (RV.assign rfl) rfl ?_
    refine OW.nil ?_
    refine QW.then_n ?_
    refine CW.ret ?_
    refine QW.then_r ?_
    have e0 := Option.some.inj hf
    subst e0
    refine QW.retG (rs := [.tmp 4]) ([.bool false]) ([]) rfl ?_ rfl ?_ ?_ _ (.inl rfl)
    · exact ⟨rfl, trivial⟩
    · exact rfl
    · exact (fun w m => m)
theorem waybilllaw07_alike_does (w0 : World) (Φ : Ctx) (N : List Ent) (hΦ : ∀ w, Mem w0 w N → Φ w) (A0_ : Option Addr) (c0_ : Nat) (cs0_ : List Value) (a0 : List (List (BitVec 8))) (A1_ : Option Addr) (c1_ : Nat) (cs1_ : List Value) (a1 : List (List (BitVec 8))) (res0 : Bool) (va0 : View Φ A0_ a0.length c0_ 1 cs0_) (ha0 : Reps (BsRd Φ) cs0_ a0) (va1 : View Φ A1_ a1.length c1_ 1 cs1_) (ha1 : Reps (BsRd Φ) cs1_ a1) (hf : waybilllaw07_alike a0 a1 = some res0) : DoesG Try.prog 32 [.slice A0_ a0.length c0_, .slice A1_ a1.length c1_] w0 [] N (fun v G => v = .bool res0) := by
  unfold waybilllaw07_alike at hf
  replace va0 := va0.mono (Ψ := More w0 Φ []) (fun w q => q.1)
  replace va1 := va1.mono (Ψ := More w0 Φ []) (fun w q => q.1)
  replace ha0 := ha0.mono (BsRd.mono (Ψ := More w0 Φ []) (fun w q => q.1))
  replace ha1 := ha1.mono (BsRd.mono (Ψ := More w0 Φ []) (fun w q => q.1))
  have m1 := va0.mx
  have m2 := va1.mx
  refine DoesG.enter Try.func32 rfl Try.ntmps32 rfl (M := (([] ++ N))) rfl ?_
  refine CW.seq ?_
  refine CW.region ?_
  refine OW.rv (RV.assign rfl) rfl ?_
  refine OW.nil ?_
  refine QW.then_n ?_
  refine CW.seq ?_
  refine CW.seq ?_
  refine CW.region ?_
  refine OW.rv (RV.move rfl) rfl ?_
  refine OW.rv (RV.len rfl rfl) rfl ?_
  refine OW.rv (RV.move rfl) rfl ?_
  refine OW.rv (RV.len rfl rfl) rfl ?_
  refine OW.rv (RV.neq rfl rfl) rfl ?_
  refine OW.slot (.bool (!decide (a0.length = a1.length))) (congrArg (fun b => Value.bool (!b)) (decide_eq_decide.2 (by omega))) ?_
  refine OW.nil ?_
  refine QW.then_n ?_
  by_cases h3 : a0.length = a1.length
  · replace hf := if_t hf h3
    refine CW.is_f rfl (congrArg (fun b => !b) (decide_eq_true h3)) ?_
    refine CW.skip ?_
    refine QW.then_n ?_
    refine CW.seq ?_
    refine CW.seq ?_
    refine CW.region ?_
    refine OW.rv (RV.assign rfl) rfl ?_
    refine OW.nil ?_
    refine QW.then_n ?_
    obtain ⟨q4, hq5, hf⟩ := some_bind hf
    refine CW.cutJ (fun L' M' => q4 = Lp.go () ∧ L' = [] ∧ M' = (([] ++ N))) ?_ ?_
    · rintro L7 M8 ⟨e6, e9, e10⟩
      rw [e9, e10]
      clear e9 e10 L7 M8
      clear hq5
      rw [e6] at hf
      clear e6
      try dsimp only at hf
      refine QW.then_n ?_
      refine CW.seq ?_
      refine CW.region ?_
      refine OW.rv (RV.assign rfl) rfl ?_
      refine OW.nil ?_
      refine QW.then_n ?_
      refine CW.ret ?_
      have e0 := Option.some.inj hf
      subst e0
      refine QW.retG (rs := [.tmp 4]) ([.bool true]) ([]) rfl ?_ rfl ?_ ?_ _ (.inl rfl)
      · exact ⟨rfl, trivial⟩
      · exact rfl
      · exact (fun w m => m)
    · skip
      refine CW.block ?_
      refine CW.loopJ (fun k L' M' => ∃ n11 : Nat, (waybilllaw07_alike.l1 a0 a1 k n11) = some q4 ∧ (n11 ≤ 9223372036854775807) ∧ L' = [(0, .slice A0_ a0.length c0_), (1, .slice A1_ a1.length c1_), (5, .int .i64 ((n11 : Nat) : Int))] ∧ M' = (([] ++ N))) (k0 := (a0.length - 0 + 2)) ⟨0, hq5, (by omega), rfl, rfl⟩ ⟨rfl, rfl, rfl, trivial⟩ (fun w m => m.pick [] 0 rfl rfl) ?_
      clear hq5
      rintro k13 L16 M17 ⟨n11, hl14, b12, e18, e19⟩
      rw [e18, e19]
      clear e18 e19 L16 M17
      rcases k13 with _ | k13
      · rw [waybilllaw07_alike.l1] at hl14; cases hl14
      rw [waybilllaw07_alike.l1] at hl14
      refine CW.seq ?_
      refine CW.seq ?_
      refine CW.region ?_
      refine OW.rv (RV.move rfl) rfl ?_
      refine OW.rv (RV.move rfl) rfl ?_
      refine OW.rv (RV.len rfl rfl) rfl ?_
      refine OW.rv (RV.lss rfl rfl) rfl ?_
      refine OW.slot (.bool (decide (n11 < a0.length))) (congrArg Value.bool (decide_eq_decide.2 (by omega))) ?_
      refine OW.nil ?_
      refine QW.then_n ?_
      by_cases h20 : n11 < a0.length
      · replace hl14 := if_t hl14 h20
        refine CW.is_t rfl (decide_eq_true h20) ?_
        refine CW.skip ?_
        refine QW.then_n ?_
        refine CW.seq ?_
        refine CW.block ?_
        refine CW.seq ?_
        refine CW.drawsU 10 mixed (by kernel_rfl) rfl ?_
        refine UW.rv 0 rfl (by kernel_rfl) rfl (RV.move rfl) rfl ?_
        refine UW.rv 1 rfl (by kernel_rfl) rfl (RV.move rfl) rfl ?_
        obtain ⟨x21, hx22, hl14⟩ := some_bind hl14
        have hl23 := lt_of_at hx22
        refine UW.rv 2 rfl (by kernel_rfl) rfl (RV.idx_r (n11) rfl rfl rfl rfl rfl (va0.isSome (by decide) hl23) (by omega)) rfl ?_
        obtain ⟨cs24, h25, h26⟩ := ha0.get BsRd.len hx22
        obtain ⟨A27, c28, e30, v29⟩ := h25
        subst e30
        have m31 := v29.mx
        refine UW.rv 3 rfl (by kernel_rfl) rfl (RV.load_at rfl rfl rfl (fun w m => by have := va0.load (More.of hΦ 0 m rfl) h26 0 _ rfl; simpa [Addr.add] using this)) rfl ?_
        refine UW.rv 4 rfl (by kernel_rfl) rfl (RV.move rfl) rfl ?_
        refine UW.rv 5 rfl (by kernel_rfl) rfl (RV.move rfl) rfl ?_
        obtain ⟨x32, hx33, hl14⟩ := some_bind hl14
        have hl34 := lt_of_at hx33
        refine UW.rv 6 rfl (by kernel_rfl) rfl (RV.idx_r (n11) rfl rfl rfl rfl rfl (va1.isSome (by decide) hl34) (by omega)) rfl ?_
        obtain ⟨cs35, h36, h37⟩ := ha1.get BsRd.len hx33
        obtain ⟨A38, c39, e41, v40⟩ := h36
        subst e41
        have m42 := v40.mx
        refine UW.rv 7 rfl (by kernel_rfl) rfl (RV.load_at rfl rfl rfl (fun w m => by have := va1.load (More.of hΦ 0 m rfl) h37 0 _ rfl; simpa [Addr.add] using this)) rfl ?_
        obtain ⟨x44, hx43, hl14⟩ := some_bind hl14
        refine UW.callG 8 rfl (by kernel_rfl) rfl Try.call26 rfl (fun N' hN' => waybilllaw07_same_does w0 (More w0 Φ []) N' (fun w m => More.of hΦ 0 (hN' w m) rfl) A27 c28 x21 A38 c39 x32 x44 v29 v40 hx43) rfl ?_
        rintro _ G45 rfl
        refine UW.mem (M' := (([] ++ N))) (fun w m => m.appR) ?_
        refine UW.rv 9 rfl (by kernel_rfl) rfl (RV.not rfl) rfl ?_
        refine UW.nil (by kernel_rfl) ?_
        refine OW.nil ?_
        refine QW.then_n ?_
        by_cases h47 : x44 = true
        · replace hl14 := if_t hl14 h47
          refine CW.is_f rfl (congrArg (fun b => !b) (h47)) ?_
          refine CW.skip ?_
          refine QW.block_n ?_
          refine QW.then_n ?_
          refine CW.region ?_
          refine OW.rv (RV.move rfl) rfl ?_
          refine OW.rv (RV.add rfl rfl (by omega)) rfl ?_
          refine OW.slot (.int .i64 (((n11 + 1) : Nat) : Int)) (by first | rfl | (congr 1) | (congr 1; omega)) ?_
          refine OW.rv (RV.assign rfl) rfl ?_
          refine OW.nil ?_
          exact QW.againJ (k' := k13) (Nat.lt_succ_self _) ⟨(n11 + 1), hl14, (by omega), rfl, rfl⟩ ⟨rfl, rfl, rfl, trivial⟩ (fun w m => m.pick [] 0 rfl rfl)
        · replace hl14 := if_f hl14 h47
          refine CW.is_t rfl (congrArg (fun b => !b) (Bool.eq_false_iff.2 h47)) ?_
          refine CW.seq ?_
          refine CW.region ?_
          refine OW.rv (RV.assign rfl) rfl ?_
          refine OW.nil ?_
          refine QW.then_n ?_
          refine CW.ret ?_
          refine QW.block_r ?_
          refine QW.then_r ?_
          refine QW.then_r ?_
          refine QW.block_r ?_
          refine QW.then_r ?_
          have hc := Option.some.inj hl14
          subst hc
          try dsimp only at hf
          refine QW.then_r ?_
          have e0 := Option.some.inj hf
          subst e0
          refine QW.retG (rs := [.tmp 4]) ([.bool false]) ([]) rfl ?_ rfl ?_ ?_ _ (.inl rfl)
          · exact ⟨rfl, trivial⟩
          · exact rfl
          · exact (fun w m => m)
      · replace hl14 := if_f hl14 h20
        refine CW.is_f rfl (decide_eq_false h20) ?_
        refine CW.exit ?_
        refine QW.then_x ?_
        refine QW.then_x ?_
        refine QW.block_xe ?_
        exact QW.join ⟨(Option.some.inj hl14).symm, rfl, rfl⟩ trivial (fun w m => m.pick [] 0 rfl rfl)
  · replace hf := if_f hf h3
    refine CW.is_t rfl (congrArg (fun b => !b) (decide_eq_false h3)) ?_
    refine CW.seq ?_
    refine CW.region ?_
    refine OW.rv (RV.assign rfl) rfl ?_
    refine OW.nil ?_
    refine QW.then_n ?_
    refine CW.ret ?_
    refine QW.then_r ?_
    have e0 := Option.some.inj hf
    subst e0
    refine QW.retG (rs := [.tmp 4]) ([.bool false]) ([]) rfl ?_ rfl ?_ ?_ _ (.inl rfl)
    · exact ⟨rfl, trivial⟩
    · exact rfl
    · exact (fun w m => m)
end Go.Fw.Try
