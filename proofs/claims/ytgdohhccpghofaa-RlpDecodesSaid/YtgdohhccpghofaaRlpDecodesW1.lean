/- Part of a proof over Ytgdohhccpghofaa: rules and contracts that the law's text uses. No condition. -/
import Derived.Test.YtgdohhccpghofaaTy
import Derived.Test.YtgdohhccpghofaaExt
import Derived.Test.YtgdohhccpghofaaRlpRoom
import Derived.Test.YtgdohhccpghofaaRtL
import Derived.Test.YtgdohhccpghofaaFrmL
import Derived.Test.YtgdohhccpghofaaRlpD
import Derived.Test.YtgdohhccpghofaaRlpP1
import Derived.Test.YtgdohhccpghofaaRlpP2
import Derived.Test.YtgdohhccpghofaaRlpP4
import Derived.Test.YtgdohhccpghofaaRlpP6
namespace Go.Fw.Try
open Go Go.Proofs Go.Fw
set_option maxRecDepth 100000
set_option linter.unusedVariables false
set_option linter.unusedSimpArgs false
set_option maxHeartbeats 1000000

theorem u256_From_does (w0 : World) (Φ : Ctx) (N : List Ent) (hΦ : ∀ w, Mem w0 w N → Φ w) (a0 : BitVec 64) (res0 : Vector (BitVec 64) 4) (hf : u256_From a0 = some res0) : DoesG Try.prog 66 [U64 a0] w0 [] N (fun v G => v = .agg (u64s res0.toList).toArray) := by
  unfold u256_From at hf
  refine DoesG.enter Try.func66 rfl Try.ntmps66 rfl (M := (([] ++ N))) rfl ?_
  refine CW.seq ?_
  refine CW.region ?_
  refine OW.alloc (l := (u64s (Vector.replicate 4 0#64).toList)) rfl (by rw [Vector.toList_replicate, ← u64s_rep]; rfl) rfl (fun b1 => ?_)
  refine OW.nil ?_
  refine QW.then_n ?_
  refine CW.seq ?_
  refine CW.region ?_
  refine OW.rv (RV.move rfl) rfl ?_
  refine OW.rv (RV.buildA (l := (u64s (Vector.replicate 4 0#64).toList)) (cs := (u64s ((Vector.replicate 4 0#64).setIfInBounds 0 a0).toList)) rfl rfl rfl (by rw [Vector.toList_replicate, ← u64s_rep]; rfl) rfl rfl (by simp only [setL, List.foldl, ← vset, Vector.toList_replicate, ← u64s_set'] <;> rfl)) rfl ?_
  refine OW.sv (SV.storeW rfl rfl rfl (u64s_one _) rfl ((u64s_length _).trans Vector.length_toList) ((u64s_length _).trans Vector.length_toList)) ?_
  refine OW.nil ?_
  refine QW.then_n ?_
  refine CW.ret ?_
  have e0 := Option.some.inj hf
  subst e0
  refine QW.retG (rs := [.cell 2 25]) ([.agg (u64s ((Vector.replicate 4 0#64).setIfInBounds 0 a0).toList).toArray]) ((some b1, blk (u64s ((Vector.replicate 4 0#64).setIfInBounds 0 a0).toList) 25) :: []) rfl ?_ rfl ?_ ?_ _ (.inl rfl)
  · exact ⟨⟨_, _, _, _, rfl, (List.Mem.head _), rfl, rfl, (congrArg some ((u64s_length _).trans Vector.length_toList).symm), rfl⟩, trivial⟩
  · exact rfl
  · exact (fun w m => m)

theorem waybillref01_From_does (w0 : World) (Φ : Ctx) (N : List Ent) (hΦ : ∀ w, Mem w0 w N → Φ w) (a0 : BitVec 64) (res0 : Vector (BitVec 64) 4) (hf : waybillref01_From a0 = some res0) : DoesG Try.prog 67 [U64 a0] w0 [] N (fun v G => v = .agg (u64s res0.toList).toArray) := by
  unfold waybillref01_From at hf
  refine DoesG.enter Try.func67 rfl Try.ntmps67 rfl (M := (([] ++ N))) rfl ?_
  refine CW.seq ?_
  refine CW.region ?_
  refine OW.alloc (l := (u64s (Vector.replicate 4 0#64).toList)) rfl (by rw [Vector.toList_replicate, ← u64s_rep]; rfl) rfl (fun b1 => ?_)
  refine OW.nil ?_
  refine QW.then_n ?_
  refine CW.seq ?_
  refine CW.region ?_
  refine OW.rv (RV.move rfl) rfl ?_
  refine OW.rv (RV.buildA (l := (u64s (Vector.replicate 4 0#64).toList)) (cs := (u64s (((((Vector.replicate 4 0#64).setIfInBounds 0 a0).setIfInBounds 1 (0#64)).setIfInBounds 2 (0#64)).setIfInBounds 3 (0#64)).toList)) rfl rfl rfl (by rw [Vector.toList_replicate, ← u64s_rep]; rfl) rfl rfl (by simp only [setL, List.foldl, ← vset, Vector.toList_replicate, ← u64s_set'] <;> rfl)) rfl ?_
  refine OW.sv (SV.storeW rfl rfl rfl (u64s_one _) rfl ((u64s_length _).trans Vector.length_toList) ((u64s_length _).trans Vector.length_toList)) ?_
  refine OW.nil ?_
  refine QW.then_n ?_
  refine CW.ret ?_
  have e0 := Option.some.inj hf
  subst e0
  refine QW.retG (rs := [.cell 2 25]) ([.agg (u64s (((((Vector.replicate 4 0#64).setIfInBounds 0 a0).setIfInBounds 1 (0#64)).setIfInBounds 2 (0#64)).setIfInBounds 3 (0#64)).toList).toArray]) ((some b1, blk (u64s (((((Vector.replicate 4 0#64).setIfInBounds 0 a0).setIfInBounds 1 (0#64)).setIfInBounds 2 (0#64)).setIfInBounds 3 (0#64)).toList) 25) :: []) rfl ?_ rfl ?_ ?_ _ (.inl rfl)
  · exact ⟨⟨_, _, _, _, rfl, (List.Mem.head _), rfl, rfl, (congrArg some ((u64s_length _).trans Vector.length_toList).symm), rfl⟩, trivial⟩
  · exact rfl
  · exact (fun w m => m)

theorem rlp_clone_does (w0 : World) (Φ : Ctx) (N : List Ent) (hΦ : ∀ w, Mem w0 w N → Φ w) (A0_ : Option Addr) (c0_ : Nat) (a0 : List (BitVec 8)) (res0 : List (BitVec 8)) (va0 : View Φ A0_ a0.length c0_ 1 (u8s a0)) (hf : rlp_clone a0 = some res0) : DoesG Try.prog 63 [.slice A0_ a0.length c0_] w0 [] N (fun v G => ∃ B : List Ent, ∃ or0 : Option Nat, ∃ kr0 : Nat, ∃ rr0 : List Value, (OwnS or0 res0.length kr0 1 (u8s res0) rr0) ∧ v = sl or0 0 res0.length kr0 ∧ G = (or0, blk ((u8s res0) ++ rr0) 5) :: B) := by
  unfold rlp_clone at hf
  replace va0 := va0.mono (Ψ := More w0 Φ []) (fun w q => q.1)
  have m1 := va0.mx
  refine DoesG.enter Try.func63 rfl Try.ntmps63 rfl (M := (([] ++ N))) rfl ?_
  refine CW.seq ?_
  refine CW.region ?_
  refine OW.rv (RV.assign rfl) rfl ?_
  refine OW.nil ?_
  refine QW.then_n ?_
  refine CW.seq ?_
  refine CW.region ?_
  refine OW.rv (RV.move rfl) rfl ?_
  refine OW.mem (M' := ((none, blk ((u8s ([] : List (BitVec 8))) ++ []) 5) :: ([] ++ N))) (fun w m => m.nil_ent _) ?_
  refine OW.appendOwn (s := 1) rfl rfl rfl rfl rfl rfl OwnS.nil (fun w m => va0.rd w (More.of hΦ 1 m rfl)) va0.n (u8s_one _) (va0.zero (by decide)) (by decide) (by decide) (by first | omega | (simp only [i5, List.length_nil]; omega)) rfl rfl (a0.length) (u8s a0) (Nat.zero_add _) rfl (fun ob2 r3 c4 o5 => ?_)
  have m6 := o5.mx
  refine OW.rv (RV.assign rfl) rfl ?_
  refine OW.nil ?_
  refine QW.then_n ?_
  refine CW.ret ?_
  have e0 := Option.some.inj hf
  subst e0
  refine QW.retG (rs := [.tmp 2]) ([sl ob2 0 a0.length c4]) ((ob2, blk ((u8s a0) ++ r3) 5) :: []) rfl ?_ rfl ?_ ?_ _ (.inl rfl)
  · exact ⟨rfl, trivial⟩
  · exact ⟨[], ob2, c4, r3, o5, rfl, rfl⟩
  · exact (fun w m => m.pick [0] 1 rfl rfl)

theorem waybillref07_bytes_does (w0 : World) (Φ : Ctx) (N : List Ent) (hΦ : ∀ w, Mem w0 w N → Φ w) (A0_ : Option Addr) (c0_ : Nat) (a0 : List (BitVec 8)) (res0 : List (BitVec 8)) (va0 : View Φ A0_ a0.length c0_ 1 (u8s a0)) (hf : waybillref07_bytes a0 = some res0) : DoesG Try.prog 62 [.slice A0_ a0.length c0_] w0 [] N (fun v G => ∃ B : List Ent, ∃ or0 : Option Nat, ∃ kr0 : Nat, ∃ rr0 : List Value, (OwnS or0 res0.length kr0 1 (u8s res0) rr0) ∧ v = sl or0 0 res0.length kr0 ∧ G = (or0, blk ((u8s res0) ++ rr0) 5) :: B) := by
  unfold waybillref07_bytes at hf
  replace va0 := va0.mono (Ψ := More w0 Φ []) (fun w q => q.1)
  have m1 := va0.mx
  refine DoesG.enter Try.func62 rfl Try.ntmps62 rfl (M := (([] ++ N))) rfl ?_
  refine CW.seq ?_
  refine CW.region ?_
  refine OW.rv (RV.assign rfl) rfl ?_
  refine OW.nil ?_
  refine QW.then_n ?_
  refine CW.seq ?_
  refine CW.region ?_
  refine OW.rv (RV.assign rfl) rfl ?_
  refine OW.nil ?_
  refine QW.then_n ?_
  refine CW.seq ?_
  refine CW.region ?_
  refine OW.rv (RV.move rfl) rfl ?_
  refine OW.rv (RV.move rfl) rfl ?_
  refine OW.mem (M' := ((none, blk ((u8s ([] : List (BitVec 8))) ++ []) 5) :: ([] ++ N))) (fun w m => m.nil_ent _) ?_
  refine OW.appendOwn (s := 1) rfl rfl rfl rfl rfl rfl OwnS.nil (fun w m => va0.rd w (More.of hΦ 1 m rfl)) va0.n (u8s_one _) (va0.zero (by decide)) (by decide) (by decide) (by first | omega | (simp only [i5, List.length_nil]; omega)) rfl rfl (a0.length) (u8s a0) (Nat.zero_add _) rfl (fun ob2 r3 c4 o5 => ?_)
  have m6 := o5.mx
  refine OW.rv (RV.assign rfl) rfl ?_
  refine OW.nil ?_
  refine QW.then_n ?_
  refine CW.ret ?_
  have e0 := Option.some.inj hf
  subst e0
  refine QW.retG (rs := [.tmp 2]) ([sl ob2 0 a0.length c4]) ((ob2, blk ((u8s a0) ++ r3) 5) :: []) rfl ?_ rfl ?_ ?_ _ (.inl rfl)
  · exact ⟨rfl, trivial⟩
  · exact ⟨[], ob2, c4, r3, o5, rfl, rfl⟩
  · exact (fun w m => m.pick [0] 1 rfl rfl)

theorem rlp_Text_does (w0 : World) (Φ : Ctx) (N : List Ent) (hΦ : ∀ w, Mem w0 w N → Φ w) (A0_ : Option Addr) (c0_ : Nat) (a0 : List (BitVec 8)) (res0 : It) (va0 : View Φ A0_ a0.length c0_ 1 (u8s a0)) (hf : rlp_Text a0 = some res0) : DoesG Try.prog 18 [.slice A0_ a0.length c0_] w0 [] N (fun v G => ∃ B : List Ent, ∃ cr0 : List Value, (ItRd (More w0 Φ B) cr0 res0) ∧ v = .agg cr0.toArray ∧ G = B) := by
  unfold rlp_Text at hf
  replace va0 := va0.mono (Ψ := More w0 Φ []) (fun w q => q.1)
  have m1 := va0.mx
  refine DoesG.enter Try.func18 rfl Try.ntmps18 rfl (M := (([] ++ N))) rfl ?_
  refine CW.seq ?_
  refine CW.region ?_
  refine OW.alloc (l := [.bool false, .slice none 0 0, .slice none 0 0]) rfl rfl rfl (fun b2 => ?_)
  refine OW.nil ?_
  refine QW.then_n ?_
  refine CW.seq ?_
  refine CW.region ?_
  refine OW.rv (RV.move rfl) rfl ?_
  obtain ⟨x4, hx3, hf⟩ := some_bind hf
  refine OW.callG Try.call63 rfl (rlp_clone_does w0 (More w0 Φ []) ((some b2, blk [.bool false, .slice none 0 0, .slice none 0 0] 29) :: ([] ++ N)) (fun w m => More.of hΦ 1 m rfl) A0_ c0_ a0 x4 va0 hx3) rfl rfl ?_
  rintro L10 M11 ⟨B5, ob6, c7, r8, o9, e12, e13⟩
  rw [e12, e13]
  clear e12 e13 L10 M11
  refine OW.mem (M' := ((ob6, blk ((u8s x4) ++ r8) 5) :: (some b2, blk [.bool false, .slice none 0 0, .slice none 0 0] 29) :: ((B5 ++ []) ++ N))) (fun w m => by have h := Mem.sinkAt (A := B5) m 1 1 rfl rfl; exact h) ?_
  replace va0 := va0.mono (Ψ := More w0 Φ (B5 ++ [])) (fun w q => More.mono (fun w m => (m).appR) q)
  have m14 := o9.mx
  refine OW.rv (RV.buildSt (l := [.bool false, .slice none 0 0, .slice none 0 0]) (cs := [.bool false, sl ob6 0 x4.length c7, .slice none 0 0]) [(1, [sl ob6 0 x4.length c7])] rfl rfl rfl rfl rfl rfl rfl) rfl ?_
  refine OW.rot1 ?_
  refine OW.sv (SV.storeW rfl rfl rfl (by intro u hu; simp at hu; rcases hu with rfl | rfl | rfl <;> rfl) rfl rfl rfl) ?_
  refine OW.nil ?_
  refine QW.then_n ?_
  refine CW.ret ?_
  refine QW.mem (M' := (some b2, blk [.bool false, sl ob6 0 x4.length c7, .slice none 0 0] 29) :: (((ob6, blk ((u8s x4) ++ r8) 5) :: (B5 ++ [])) ++ N)) (fun w m => m.pick [0, 1] 2 rfl rfl) ?_
  replace va0 := va0.mono (Ψ := More w0 Φ ((ob6, blk ((u8s x4) ++ r8) 5) :: (B5 ++ []))) (fun w q => More.mono (fun w m => (m).tail) q)
  have v15 : View (More w0 Φ ((ob6, blk ((u8s x4) ++ r8) 5) :: (B5 ++ []))) ((ob6).map fun k => ⟨k, 0, none⟩) x4.length c7 1 (u8s x4) := o9.view (by decide) (fun w q => q.2.sublist (List.singleton_sublist.2 (List.mem_cons_self ..)))
  have e0 := Option.some.inj hf
  subst e0
  have v16 : View (More w0 Φ ((ob6, blk ((u8s x4) ++ r8) 5) :: (B5 ++ []))) none ([] : List (It)).length 0 3 [] := View.nil
  refine QW.retG (rs := [.cell 2 29]) ([.agg [.bool false, .slice ((ob6).map fun k => ⟨k, 0, none⟩) x4.length c7, .slice none 0 0].toArray]) (((ob6, blk ((u8s x4) ++ r8) 5) :: (B5 ++ []))) rfl ?_ rfl ?_ ?_ _ (.inl rfl)
  · exact ⟨⟨_, _, _, _, rfl, (List.Mem.head _), rfl, rfl, rfl, rfl⟩, trivial⟩
  · exact ⟨((ob6, blk ((u8s x4) ++ r8) 5) :: (B5 ++ [])), [.bool false, .slice ((ob6).map fun k => ⟨k, 0, none⟩) x4.length c7, .slice none 0 0], (ItRd.mk v15 v16 (Reps.nil)), rfl, rfl⟩
  · exact (fun w m => m.pick [] 1 rfl rfl)

theorem waybilllaw07_num_does (w0 : World) (Φ : Ctx) (N : List Ent) (hΦ : ∀ w, Mem w0 w N → Φ w) (a0 : Int) (res0 : Int) (ba0 : -9223372036854775808 ≤ a0 ∧ a0 ≤ 9223372036854775807) (hf : waybilllaw07_num a0 = some res0) : DoesG Try.prog 31 [.int .i64 a0] w0 [] N (fun v G => (-9223372036854775808 ≤ res0 ∧ res0 ≤ 9223372036854775807) ∧ v = .int .i64 res0) := by
  unfold waybilllaw07_num at hf
  refine DoesG.enter Try.func31 rfl Try.ntmps31 rfl (M := (([] ++ N))) rfl ?_
  refine CW.seq ?_
  refine CW.region ?_
  refine OW.rv (RV.assign rfl) rfl ?_
  refine OW.nil ?_
  refine QW.then_n ?_
  refine CW.seq ?_
  refine CW.region ?_
  refine OW.rv (RV.move rfl) rfl ?_
  refine OW.rv (RV.assign rfl) rfl ?_
  refine OW.nil ?_
  refine QW.then_n ?_
  refine CW.ret ?_
  have e0 := Option.some.inj hf
  subst e0
  refine QW.retG (rs := [.tmp 2]) ([.int .i64 a0]) ([]) rfl ?_ rfl ?_ ?_ _ (.inl rfl)
  · exact ⟨rfl, trivial⟩
  · exact ⟨(by omega), rfl⟩
  · exact (fun w m => m)

theorem u256_Sub_does (w0 : World) (Φ : Ctx) (N : List Ent) (hΦ : ∀ w, Mem w0 w N → Φ w) (a0 : Vector (BitVec 64) 4) (a1 : Vector (BitVec 64) 4) (res0 : Vector (BitVec 64) 4) (res1 : BitVec 64) (hf : u256_Sub a0 a1 = some (res0, res1)) : DoesG Try.prog 96 [.agg (u64s a0.toList).toArray, .agg (u64s a1.toList).toArray] w0 [] N (fun v G => v = .tuple #[.agg (u64s res0.toList).toArray, U64 res1]) := by
  unfold u256_Sub at hf
  refine DoesG.enter Try.func96 rfl Try.ntmps96 rfl (M := (([] ++ N))) rfl ?_
  refine CW.seq ?_
  refine CW.region ?_
  refine OW.boxA rfl rfl (fun b1 => ?_)
  refine OW.boxA rfl rfl (fun b2 => ?_)
  refine OW.alloc (l := (u64s (Vector.replicate 4 0#64).toList)) rfl (by rw [Vector.toList_replicate, ← u64s_rep]; rfl) rfl (fun b3 => ?_)
  refine OW.rv (RV.assign rfl) rfl ?_
  refine OW.nil ?_
  refine QW.then_n ?_
  refine CW.seq ?_
  refine CW.region ?_
  refine OW.alloc (l := (u64s (Vector.replicate 4 0#64).toList)) rfl (by rw [Vector.toList_replicate, ← u64s_rep]; rfl) rfl (fun b4 => ?_)
  refine OW.nil ?_
  refine QW.then_n ?_
  refine CW.seq ?_
  refine CW.region ?_
  refine OW.rv (RV.assign rfl) rfl ?_
  refine OW.nil ?_
  refine QW.then_n ?_
  refine CW.seq ?_
  refine CW.seq ?_
  refine CW.region ?_
  refine OW.rv (RV.move rfl) rfl ?_
  refine OW.nil ?_
  refine QW.then_n ?_
  obtain ⟨q5, hq6, hf⟩ := some_bind hf
  refine CW.cutJ (fun L' M' => ∃ w7 : BitVec 64, ∃ w8 : Vector (BitVec 64) 4, q5 = (w7, w8) ∧ L' = [(4, ptr (some b3) 0), (6, ptr (some b4) 0), (7, U64 w7)] ∧ M' = ((some b4, blk (u64s w8.toList) 25) :: (some b3, blk (u64s (Vector.replicate 4 0#64).toList) 25) :: ([] ++ N))) ?_ ?_
  · rintro L10 M11 ⟨w7, w8, e9, e12, e13⟩
    rw [e12, e13]
    clear e12 e13 L10 M11
    clear hq6
    rw [e9] at hf
    clear e9
    try dsimp only at hf
    refine QW.then_n ?_
    refine CW.seq ?_
    refine CW.region ?_
    refine OW.rv (RV.loadW rfl (List.Mem.head _) rfl rfl rfl rfl ((u64s_length _).trans Vector.length_toList)) rfl ?_
    refine OW.rv (RV.move rfl) rfl ?_
    refine OW.rot1 ?_
    refine OW.sv (SV.storeW rfl rfl rfl (u64s_one _) rfl ((u64s_length _).trans Vector.length_toList) ((u64s_length _).trans Vector.length_toList)) ?_
    refine OW.rv (RV.assign rfl) rfl ?_
    refine OW.nil ?_
    refine QW.then_n ?_
    refine CW.ret ?_
    have er0 := Option.some.inj hf
    obtain ⟨e0, er1⟩ := Prod.mk.inj er0
    clear er0
    subst e0
    subst er1
    refine QW.retG (rs := [.cell 4 25, .tmp 5]) ([.agg (u64s w8.toList).toArray, U64 w7]) ((some b3, blk (u64s w8.toList) 25) :: (some b4, blk (u64s w8.toList) 25) :: []) rfl ?_ rfl ?_ ?_ _ (.inl rfl)
    · exact ⟨⟨_, _, _, _, rfl, (List.Mem.head _), rfl, rfl, (congrArg some ((u64s_length _).trans Vector.length_toList).symm), rfl⟩, rfl, trivial⟩
    · exact rfl
    · exact (fun w m => m)
  · skip
    refine CW.block ?_
    refine CW.loopJ (fun k L' M' => ∃ w14 : BitVec 64, ∃ n15 : Nat, ∃ w17 : Vector (BitVec 64) 4, (u256_Sub.l1 a0 a1 k w14 n15 w17) = some q5 ∧ (n15 ≤ 9223372036854775807) ∧ L' = [(2, ptr (some b1) 0), (3, ptr (some b2) 0), (4, ptr (some b3) 0), (6, ptr (some b4) 0), (7, U64 w14), (9, .int .i64 ((n15 : Nat) : Int))] ∧ M' = ((some b4, blk (u64s w17.toList) 25) :: (some b3, blk (u64s (Vector.replicate 4 0#64).toList) 25) :: (some b2, blk (u64s a1.toList) 25) :: (some b1, blk (u64s a0.toList) 25) :: ([] ++ N))) (k0 := (4 - 0 + 2)) ⟨0#64, 0, (Vector.replicate 4 0#64), hq6, (by omega), rfl, rfl⟩ ⟨rfl, rfl, rfl, rfl, rfl, rfl, trivial⟩ (fun w m => m.pick [0, 1, 2, 3] 4 rfl rfl) ?_
    clear hq6
    rintro k18 L21 M22 ⟨w14, n15, w17, hl19, b16, e23, e24⟩
    rw [e23, e24]
    clear e23 e24 L21 M22
    rcases k18 with _ | k18
    · rw [u256_Sub.l1] at hl19; cases hl19
    rw [u256_Sub.l1] at hl19
    refine CW.seq ?_
    refine CW.region ?_
    refine OW.rv (RV.lss rfl rfl) rfl ?_
    refine OW.slot (.bool (decide (n15 < 4))) (congrArg Value.bool (decide_eq_decide.2 (by omega))) ?_
    refine OW.nil ?_
    refine QW.then_n ?_
    refine CW.seq ?_
    by_cases h25 : n15 < 4
    · replace hl19 := if_t hl19 h25
      refine CW.is_t rfl (decide_eq_true h25) ?_
      refine CW.skip ?_
      refine QW.then_n ?_
      refine CW.seq ?_
      refine CW.block ?_
      refine CW.seq ?_
      refine CW.region ?_
      refine OW.rv (RV.move rfl) rfl ?_
      refine OW.rv (RV.assign rfl) rfl ?_
      refine OW.nil ?_
      refine QW.then_n ?_
      refine CW.drawsX ((some b3, blk (u64s (Vector.replicate 4 0#64).toList) 25) :: (some b2, blk (u64s a1.toList) 25) :: (some b1, blk (u64s a0.toList) 25) :: ([] ++ N)) [13] (fun w m => m.pick [1, 2, 3] 4 rfl rfl) mixed (by kernel_rfl) ?_
      refine XW.rs 0 rfl (by kernel_rfl) rfl (RV.move rfl) rfl ?_
      refine XW.rs 1 rfl (by kernel_rfl) rfl (RV.move rfl) rfl ?_
      refine XW.rs 2 rfl (by kernel_rfl) rfl (RV.idx_a (n15) rfl rfl rfl rfl rfl (by omega)) rfl ?_
      obtain ⟨x26, hx27, hl19⟩ := some_bind hl19
      refine XW.rs 3 rfl (by kernel_rfl) rfl (RV.load rfl (List.Mem.tail _ (List.Mem.tail _ (List.Mem.head _))) rfl rfl rfl (by rw [Nat.zero_add]; exact u64s_at (vat hx27))) rfl ?_
      refine XW.rs 4 rfl (by kernel_rfl) rfl (RV.move rfl) rfl ?_
      refine XW.rs 5 rfl (by kernel_rfl) rfl (RV.idx_a (n15) rfl rfl rfl rfl rfl (by omega)) rfl ?_
      obtain ⟨x28, hx29, hl19⟩ := some_bind hl19
      refine XW.rs 6 rfl (by kernel_rfl) rfl (RV.load rfl (List.Mem.tail _ (List.Mem.head _)) rfl rfl rfl (by rw [Nat.zero_add]; exact u64s_at (vat hx29))) rfl ?_
      refine XW.rs 7 rfl (by kernel_rfl) rfl (RV.move rfl) rfl ?_
      obtain ⟨⟨w30, w31⟩, hx32, hl19⟩ := some_bind hl19
      try dsimp only at hl19
      refine XW.rs 8 rfl (by kernel_rfl) rfl (RV.sub64c Try.ext97 rfl hx32) rfl ?_
      refine XW.rs 9 rfl (by kernel_rfl) rfl (RV.move rfl) rfl ?_
      refine XW.rs 10 rfl (by kernel_rfl) rfl (RV.extract rfl rfl) rfl ?_
      refine XW.slot (U64 w30) (rfl) ?_
      refine XW.rs 11 rfl (by kernel_rfl) rfl (RV.extract rfl rfl) rfl ?_
      refine XW.slot (U64 w31) (rfl) ?_
      refine XW.rs 12 rfl (by kernel_rfl) rfl (RV.idx_a (n15) rfl rfl rfl rfl rfl (by omega)) rfl ?_
      refine XW.sv 13 rfl (by kernel_rfl) (SV.store rfl rfl rfl rfl rfl (by rw [u64s_length, Vector.length_toList]; omega)) (fun w m => m.pick [1, 2, 3] 4 rfl rfl) ?_
      refine XW.cells (u64s (w17.setIfInBounds n15 w30).toList) (by rw [Nat.zero_add, u64s_set', vset]) ?_
      refine XW.rs 14 rfl (by kernel_rfl) rfl (RV.assign rfl) rfl ?_
      refine XW.nil (by kernel_rfl) ?_
      refine QW.block_n ?_
      refine QW.then_n ?_
      refine CW.region ?_
      refine OW.rv (RV.add rfl rfl (by omega)) rfl ?_
      refine OW.slot (.int .i64 (((n15 + 1) : Nat) : Int)) (by first | rfl | (congr 1) | (congr 1; omega)) ?_
      refine OW.rv (RV.move rfl) rfl ?_
      refine OW.nil ?_
      exact QW.againJ (k' := k18) (Nat.lt_succ_self _) ⟨w31, (n15 + 1), (w17.setIfInBounds n15 w30), hl19, (by omega), rfl, rfl⟩ ⟨rfl, rfl, rfl, rfl, rfl, rfl, trivial⟩ (fun w m => m.pick [0, 1, 2, 3] 4 rfl rfl)
    · replace hl19 := if_f hl19 h25
      refine CW.is_f rfl (decide_eq_false h25) ?_
      refine CW.exit ?_
      refine QW.then_x ?_
      refine QW.then_x ?_
      refine QW.block_xe ?_
      exact QW.join ⟨w14, w17, (Option.some.inj hl19).symm, rfl, rfl⟩ ⟨rfl, rfl, rfl, trivial⟩ (fun w m => m.pick [0, 1] 4 rfl rfl)

theorem u256_Cmp_does (w0 : World) (Φ : Ctx) (N : List Ent) (hΦ : ∀ w, Mem w0 w N → Φ w) (a0 : Vector (BitVec 64) 4) (a1 : Vector (BitVec 64) 4) (res0 : Int) (hf : u256_Cmp a0 a1 = some res0) : DoesG Try.prog 93 [.agg (u64s a0.toList).toArray, .agg (u64s a1.toList).toArray] w0 [] N (fun v G => (-9223372036854775808 ≤ res0 ∧ res0 ≤ 9223372036854775807) ∧ v = .int .i64 res0) := by
  unfold u256_Cmp at hf
  refine DoesG.enter Try.func93 rfl Try.ntmps93 rfl (M := (([] ++ N))) rfl ?_
  refine CW.seq ?_
  refine CW.region ?_
  refine OW.boxA rfl rfl (fun b1 => ?_)
  refine OW.boxA rfl rfl (fun b2 => ?_)
  refine OW.rv (RV.assign rfl) rfl ?_
  refine OW.nil ?_
  refine QW.then_n ?_
  refine CW.seq ?_
  refine CW.seq ?_
  refine CW.region ?_
  refine OW.rv (RV.loadW rfl (List.Mem.tail _ (List.Mem.head _)) rfl rfl rfl rfl ((u64s_length _).trans Vector.length_toList)) rfl ?_
  refine OW.rv (RV.loadW rfl (List.Mem.head _) rfl rfl rfl rfl ((u64s_length _).trans Vector.length_toList)) rfl ?_
  refine OW.rv (RV.eqA64 rfl rfl rfl rfl rfl rfl (Vector.length_toList) (Vector.length_toList)) rfl ?_
  refine OW.slot (.bool (decide (a0 = a1))) (congrArg Value.bool (decide_eq_decide.2 Vector.toList_inj)) ?_
  refine OW.nil ?_
  refine QW.then_n ?_
  by_cases h3 : a0 = a1
  · replace hf := if_t hf h3
    refine CW.is_t rfl (decide_eq_true h3) ?_
    refine CW.seq ?_
    refine CW.region ?_
    refine OW.rv (RV.assign rfl) rfl ?_
    refine OW.nil ?_
    refine QW.then_n ?_
    refine CW.ret ?_
    refine QW.then_r ?_
    have e0 := Option.some.inj hf
    subst e0
    refine QW.retG (rs := [.tmp 4]) ([.int .i64 (0 : Int)]) ((some b2, blk (u64s a1.toList) 25) :: (some b1, blk (u64s a0.toList) 25) :: []) rfl ?_ rfl ?_ ?_ _ (.inl rfl)
    · exact ⟨rfl, trivial⟩
    · exact ⟨(by omega), rfl⟩
    · exact (fun w m => m)
  · replace hf := if_f hf h3
    refine CW.is_f rfl (decide_eq_false h3) ?_
    refine CW.skip ?_
    refine QW.then_n ?_
    refine CW.seq ?_
    refine CW.seq ?_
    refine CW.region ?_
    refine OW.rv (RV.loadW rfl (List.Mem.tail _ (List.Mem.head _)) rfl rfl rfl rfl ((u64s_length _).trans Vector.length_toList)) rfl ?_
    refine OW.rv (RV.loadW rfl (List.Mem.head _) rfl rfl rfl rfl ((u64s_length _).trans Vector.length_toList)) rfl ?_
    obtain ⟨⟨x5, x6⟩, hx4, hf⟩ := some_bind hf
    try dsimp only at hf
    refine OW.callG Try.call96 rfl (u256_Sub_does w0 (More w0 Φ []) ((some b2, blk (u64s a1.toList) 25) :: (some b1, blk (u64s a0.toList) 25) :: ([] ++ N)) (fun w m => More.of hΦ 2 m rfl) a0 a1 x5 x6 hx4) rfl rfl ?_
    rintro _ G7 rfl
    refine OW.mem (M' := ((some b2, blk (u64s a1.toList) 25) :: (some b1, blk (u64s a0.toList) 25) :: ([] ++ N))) (fun w m => m.appR) ?_
    refine OW.rv (RV.move rfl) rfl ?_
    refine OW.rv (RV.extract rfl rfl) rfl ?_
    refine OW.slot (.agg (u64s x5.toList).toArray) (rfl) ?_
    refine OW.rv (RV.extract rfl rfl) rfl ?_
    refine OW.slot (U64 x6) (rfl) ?_
    refine OW.alloc (l := (u64s (Vector.replicate 4 0#64).toList)) rfl (by rw [Vector.toList_replicate, ← u64s_rep]; rfl) rfl (fun b9 => ?_)
    refine OW.sv (SV.storeW rfl rfl rfl (u64s_one _) rfl ((u64s_length _).trans Vector.length_toList) ((u64s_length _).trans Vector.length_toList)) ?_
    refine OW.rv (RV.assign rfl) rfl ?_
    refine OW.nil ?_
    refine QW.then_n ?_
    refine CW.seq ?_
    refine CW.region ?_
    refine OW.rv (RV.move rfl) rfl ?_
    refine OW.rv (RV.eql64 rfl (by first | rfl | exact lit64 _ rfl) rfl (by first | rfl | exact lit64 _ rfl)) rfl ?_
    refine OW.nil ?_
    refine QW.then_n ?_
    by_cases h10 : x6 = 1#64
    · replace hf := if_t hf h10
      refine CW.is_t rfl (decide_eq_true h10) ?_
      refine CW.seq ?_
      refine CW.region ?_
      refine OW.rv (RV.assign rfl) rfl ?_
      refine OW.nil ?_
      refine QW.then_n ?_
      refine CW.ret ?_
      refine QW.then_r ?_
      have e0 := Option.some.inj hf
      subst e0
      refine QW.retG (rs := [.tmp 4]) ([.int .i64 (-1 : Int)]) ((some b9, blk (u64s x5.toList) 25) :: (some b2, blk (u64s a1.toList) 25) :: (some b1, blk (u64s a0.toList) 25) :: []) rfl ?_ rfl ?_ ?_ _ (.inl rfl)
      · exact ⟨rfl, trivial⟩
      · exact ⟨(by omega), rfl⟩
      · exact (fun w m => m)
    · replace hf := if_f hf h10
      refine CW.is_f rfl (decide_eq_false h10) ?_
      refine CW.skip ?_
      refine QW.then_n ?_
      refine CW.seq ?_
      refine CW.region ?_
      refine OW.rv (RV.assign rfl) rfl ?_
      refine OW.nil ?_
      refine QW.then_n ?_
      refine CW.ret ?_
      have e0 := Option.some.inj hf
      subst e0
      refine QW.retG (rs := [.tmp 4]) ([.int .i64 (1 : Int)]) ((some b9, blk (u64s x5.toList) 25) :: (some b2, blk (u64s a1.toList) 25) :: (some b1, blk (u64s a0.toList) 25) :: []) rfl ?_ rfl ?_ ?_ _ (.inl rfl)
      · exact ⟨rfl, trivial⟩
      · exact ⟨(by omega), rfl⟩
      · exact (fun w m => m)

theorem waybillref01_Cmp_does (w0 : World) (Φ : Ctx) (N : List Ent) (hΦ : ∀ w, Mem w0 w N → Φ w) (a0 : Vector (BitVec 64) 4) (a1 : Vector (BitVec 64) 4) (res0 : Int) (hf : waybillref01_Cmp a0 a1 = some res0) : DoesG Try.prog 94 [.agg (u64s a0.toList).toArray, .agg (u64s a1.toList).toArray] w0 [] N (fun v G => (-9223372036854775808 ≤ res0 ∧ res0 ≤ 9223372036854775807) ∧ v = .int .i64 res0) := by
  unfold waybillref01_Cmp at hf
  refine DoesG.enter Try.func94 rfl Try.ntmps94 rfl (M := (([] ++ N))) rfl ?_
  refine CW.seq ?_
  refine CW.region ?_
  refine OW.boxA rfl rfl (fun b1 => ?_)
  refine OW.boxA rfl rfl (fun b2 => ?_)
  refine OW.rv (RV.assign rfl) rfl ?_
  refine OW.nil ?_
  refine QW.then_n ?_
  refine CW.seq ?_
  refine CW.seq ?_
  refine CW.region ?_
  refine OW.rv (RV.assign rfl) rfl ?_
  refine OW.nil ?_
  refine QW.then_n ?_
  obtain ⟨q3, hq4, hf⟩ := some_bind hf
  refine CW.cutJ (fun L' M' => q3 = Lp.go () ∧ L' = [] ∧ M' = (([] ++ N))) ?_ ?_
  · rintro L6 M7 ⟨e5, e8, e9⟩
    rw [e8, e9]
    clear e8 e9 L6 M7
    clear hq4
    rw [e5] at hf
    clear e5
    try dsimp only at hf
    refine QW.then_n ?_
    refine CW.seq ?_
    refine CW.region ?_
    refine OW.rv (RV.assign rfl) rfl ?_
    refine OW.nil ?_
    refine QW.then_n ?_
    refine CW.ret ?_
    have e0 := Option.some.inj hf
    subst e0
    refine QW.retG (rs := [.tmp 4]) ([.int .i64 (0 : Int)]) ([]) rfl ?_ rfl ?_ ?_ _ (.inl rfl)
    · exact ⟨rfl, trivial⟩
    · exact ⟨(by omega), rfl⟩
    · exact (fun w m => m)
  · skip
    refine CW.block ?_
    refine CW.loopJ (fun k L' M' => ∃ z10 : Int, (waybillref01_Cmp.l1 a0 a1 k z10) = some q3 ∧ (-9223372036854775808 ≤ z10 ∧ z10 ≤ 9223372036854775807) ∧ L' = [(2, ptr (some b1) 0), (3, ptr (some b2) 0), (5, .int .i64 z10)] ∧ M' = ((some b2, blk (u64s a1.toList) 25) :: (some b1, blk (u64s a0.toList) 25) :: ([] ++ N))) (k0 := 5) ⟨(3 : Int), hq4, (by omega), rfl, rfl⟩ ⟨rfl, rfl, rfl, trivial⟩ (fun w m => m.pick [0, 1] 2 rfl rfl) ?_
    clear hq4
    rintro k12 L15 M16 ⟨z10, hl13, b11, e17, e18⟩
    rw [e17, e18]
    clear e17 e18 L15 M16
    rcases k12 with _ | k12
    · rw [waybillref01_Cmp.l1] at hl13; cases hl13
    rw [waybillref01_Cmp.l1] at hl13
    refine CW.seq ?_
    refine CW.seq ?_
    refine CW.region ?_
    refine OW.rv (RV.move rfl) rfl ?_
    refine OW.rv (RV.geq rfl rfl) rfl ?_
    refine OW.nil ?_
    refine QW.then_n ?_
    by_cases h19 : (0 : Int) ≤ z10
    · replace hl13 := if_t hl13 h19
      refine CW.is_t rfl (decide_eq_true h19) ?_
      refine CW.skip ?_
      refine QW.then_n ?_
      refine CW.seq ?_
      refine CW.block ?_
      refine CW.seq ?_
      refine CW.seq ?_
      refine CW.drawsU 7 mixed (by kernel_rfl) rfl ?_
      refine UW.rv 0 rfl (by kernel_rfl) rfl (RV.move rfl) rfl ?_
      obtain ⟨g20, hl13⟩ := some_if hl13
      refine UW.rv 1 rfl (by kernel_rfl) rfl (RV.idx_a ((z10).toNat) rfl rfl (by omega) rfl rfl (by omega)) rfl ?_
      obtain ⟨x21, hx22, hl13⟩ := some_bind hl13
      refine UW.rv 2 rfl (by kernel_rfl) rfl (RV.load rfl (List.Mem.tail _ (List.Mem.head _)) rfl rfl rfl (by rw [Nat.zero_add]; exact u64s_at (vat hx22))) rfl ?_
      refine UW.rv 3 rfl (by kernel_rfl) rfl (RV.move rfl) rfl ?_
      refine UW.rv 4 rfl (by kernel_rfl) rfl (RV.idx_a ((z10).toNat) rfl rfl (by omega) rfl rfl (by omega)) rfl ?_
      obtain ⟨x23, hx24, hl13⟩ := some_bind hl13
      refine UW.rv 5 rfl (by kernel_rfl) rfl (RV.load rfl (List.Mem.head _) rfl rfl rfl (by rw [Nat.zero_add]; exact u64s_at (vat hx24))) rfl ?_
      refine UW.rv 6 rfl (by kernel_rfl) rfl (RV.lss rfl rfl) rfl ?_
      refine UW.slot (.bool (decide (x21.toNat < x23.toNat))) (congrArg Value.bool (decide_eq_decide.2 (by first | omega | (simp; omega) | simp))) ?_
      refine UW.nil (by kernel_rfl) ?_
      refine OW.nil ?_
      refine QW.then_n ?_
      by_cases h25 : x21.toNat < x23.toNat
      · replace hl13 := if_t hl13 h25
        refine CW.is_t rfl (decide_eq_true h25) ?_
        refine CW.seq ?_
        refine CW.region ?_
        refine OW.rv (RV.assign rfl) rfl ?_
        refine OW.nil ?_
        refine QW.then_n ?_
        refine CW.ret ?_
        refine QW.then_r ?_
        refine QW.block_r ?_
        refine QW.then_r ?_
        refine QW.then_r ?_
        refine QW.block_r ?_
        refine QW.then_r ?_
        have hc := Option.some.inj hl13
        subst hc
        try dsimp only at hf
        refine QW.then_r ?_
        have e0 := Option.some.inj hf
        subst e0
        refine QW.retG (rs := [.tmp 4]) ([.int .i64 (-1 : Int)]) ((some b2, blk (u64s a1.toList) 25) :: (some b1, blk (u64s a0.toList) 25) :: []) rfl ?_ rfl ?_ ?_ _ (.inl rfl)
        · exact ⟨rfl, trivial⟩
        · exact ⟨(by omega), rfl⟩
        · exact (fun w m => m)
      · replace hl13 := if_f hl13 h25
        refine CW.is_f rfl (decide_eq_false h25) ?_
        refine CW.skip ?_
        refine QW.then_n ?_
        refine CW.seq ?_
        refine CW.drawsU 7 mixed (by kernel_rfl) rfl ?_
        refine UW.rv 0 rfl (by kernel_rfl) rfl (RV.move rfl) rfl ?_
        refine UW.rv 1 rfl (by kernel_rfl) rfl (RV.idx_a ((z10).toNat) rfl rfl (by omega) rfl rfl (by omega)) rfl ?_
        obtain ⟨x26, hx27, hl13⟩ := some_bind hl13
        refine UW.rv 2 rfl (by kernel_rfl) rfl (RV.load rfl (List.Mem.tail _ (List.Mem.head _)) rfl rfl rfl (by rw [Nat.zero_add]; exact u64s_at (vat hx27))) rfl ?_
        refine UW.rv 3 rfl (by kernel_rfl) rfl (RV.move rfl) rfl ?_
        refine UW.rv 4 rfl (by kernel_rfl) rfl (RV.idx_a ((z10).toNat) rfl rfl (by omega) rfl rfl (by omega)) rfl ?_
        obtain ⟨x28, hx29, hl13⟩ := some_bind hl13
        refine UW.rv 5 rfl (by kernel_rfl) rfl (RV.load rfl (List.Mem.head _) rfl rfl rfl (by rw [Nat.zero_add]; exact u64s_at (vat hx29))) rfl ?_
        refine UW.rv 6 rfl (by kernel_rfl) rfl (RV.gtr rfl rfl) rfl ?_
        refine UW.slot (.bool (decide (x28.toNat < x26.toNat))) (congrArg Value.bool (decide_eq_decide.2 (by first | omega | (simp; omega) | simp))) ?_
        refine UW.nil (by kernel_rfl) ?_
        refine OW.nil ?_
        refine QW.then_n ?_
        by_cases h30 : x28.toNat < x26.toNat
        · replace hl13 := if_t hl13 h30
          refine CW.is_t rfl (decide_eq_true h30) ?_
          refine CW.seq ?_
          refine CW.region ?_
          refine OW.rv (RV.assign rfl) rfl ?_
          refine OW.nil ?_
          refine QW.then_n ?_
          refine CW.ret ?_
          refine QW.block_r ?_
          refine QW.then_r ?_
          refine QW.then_r ?_
          refine QW.block_r ?_
          refine QW.then_r ?_
          have hc := Option.some.inj hl13
          subst hc
          try dsimp only at hf
          refine QW.then_r ?_
          have e0 := Option.some.inj hf
          subst e0
          refine QW.retG (rs := [.tmp 4]) ([.int .i64 (1 : Int)]) ((some b2, blk (u64s a1.toList) 25) :: (some b1, blk (u64s a0.toList) 25) :: []) rfl ?_ rfl ?_ ?_ _ (.inl rfl)
          · exact ⟨rfl, trivial⟩
          · exact ⟨(by omega), rfl⟩
          · exact (fun w m => m)
        · replace hl13 := if_f hl13 h30
          refine CW.is_f rfl (decide_eq_false h30) ?_
          refine CW.skip ?_
          refine QW.block_n ?_
          refine QW.then_n ?_
          refine CW.region ?_
          refine OW.rv (RV.move rfl) rfl ?_
          obtain ⟨g31, hl13⟩ := some_if hl13
          refine OW.rv (RV.sub rfl rfl (by omega)) rfl ?_
          refine OW.rv (RV.assign rfl) rfl ?_
          refine OW.nil ?_
          exact QW.againJ (k' := k12) (Nat.lt_succ_self _) ⟨(z10 - (1 : Int)), hl13, (by omega), rfl, rfl⟩ ⟨rfl, rfl, rfl, trivial⟩ (fun w m => m.pick [0, 1] 2 rfl rfl)
    · replace hl13 := if_f hl13 h19
      refine CW.is_f rfl (decide_eq_false h19) ?_
      refine CW.exit ?_
      refine QW.then_x ?_
      refine QW.then_x ?_
      refine QW.block_xe ?_
      exact QW.join ⟨(Option.some.inj hl13).symm, rfl, rfl⟩ trivial (fun w m => m.pick [] 2 rfl rfl)

theorem u256_Get_does (w0 : World) (Φ : Ctx) (N : List Ent) (hΦ : ∀ w, Mem w0 w N → Φ w) (A0_ : Option Addr) (c0_ : Nat) (a0 : List (BitVec 8)) (res0 : Vector (BitVec 64) 4) (res1 : Nat) (va0 : View Φ A0_ a0.length c0_ 1 (u8s a0)) (hf : u256_Get a0 = some (res0, res1)) : DoesG Try.prog 92 [.slice A0_ a0.length c0_] w0 [] N (fun v G => (res1 ≤ 9223372036854775807) ∧ v = .tuple #[.agg (u64s res0.toList).toArray, .int .i64 ((res1 : Nat) : Int)]) := by
  unfold u256_Get at hf
  replace va0 := va0.mono (Ψ := More w0 Φ []) (fun w q => q.1)
  have m1 := va0.mx
  refine DoesG.enter Try.func92 rfl Try.ntmps92 rfl (M := (([] ++ N))) rfl ?_
  refine CW.seq ?_
  refine CW.region ?_
  refine OW.alloc (l := (u64s (Vector.replicate 4 0#64).toList)) rfl (by rw [Vector.toList_replicate, ← u64s_rep]; rfl) rfl (fun b2 => ?_)
  refine OW.rv (RV.assign rfl) rfl ?_
  refine OW.nil ?_
  refine QW.then_n ?_
  refine CW.seq ?_
  refine CW.seq ?_
  refine CW.region ?_
  refine OW.rv (RV.move rfl) rfl ?_
  refine OW.rv (RV.len rfl rfl) rfl ?_
  refine OW.rv (RV.gtr rfl rfl) rfl ?_
  refine OW.slot (.bool (decide (32 < a0.length))) (congrArg Value.bool (decide_eq_decide.2 (by omega))) ?_
  refine OW.nil ?_
  refine QW.then_n ?_
  by_cases h3 : 32 < a0.length
  · replace hf := if_t hf h3
    refine CW.is_t rfl (decide_eq_true h3) ?_
    refine CW.seq ?_
    refine CW.region ?_
    refine OW.rv (RV.build0 (l := (u64s (Vector.replicate 4 0#64).toList)) rfl rfl rfl (by rw [Vector.toList_replicate, ← u64s_rep]; rfl)) rfl ?_
    refine OW.sv (SV.storeW rfl rfl rfl (u64s_one _) rfl ((u64s_length _).trans Vector.length_toList) ((u64s_length _).trans Vector.length_toList)) ?_
    refine OW.rv (RV.assign rfl) rfl ?_
    refine OW.nil ?_
    refine QW.then_n ?_
    refine CW.ret ?_
    refine QW.then_r ?_
    have er0 := Option.some.inj hf
    obtain ⟨e0, er1⟩ := Prod.mk.inj er0
    clear er0
    subst e0
    subst er1
    refine QW.retG (rs := [.cell 2 25, .tmp 3]) ([.agg (u64s (Vector.replicate 4 0#64).toList).toArray, .int .i64 (11 : Int)]) ((some b2, blk (u64s (Vector.replicate 4 0#64).toList) 25) :: []) rfl ?_ rfl ?_ ?_ _ (.inl rfl)
    · exact ⟨⟨_, _, _, _, rfl, (List.Mem.head _), rfl, rfl, (congrArg some ((u64s_length _).trans Vector.length_toList).symm), rfl⟩, rfl, trivial⟩
    · exact ⟨(by omega), rfl⟩
    · exact (fun w m => m)
  · replace hf := if_f hf h3
    refine CW.is_f rfl (decide_eq_false h3) ?_
    refine CW.skip ?_
    refine QW.then_n ?_
    refine CW.seq ?_
    refine CW.region ?_
    refine OW.alloc (l := (u64s (Vector.replicate 4 0#64).toList)) rfl (by rw [Vector.toList_replicate, ← u64s_rep]; rfl) rfl (fun b4 => ?_)
    refine OW.nil ?_
    refine QW.then_n ?_
    refine CW.seq ?_
    refine CW.seq ?_
    refine CW.region ?_
    refine OW.rv (RV.move rfl) rfl ?_
    refine OW.rv (RV.len rfl rfl) rfl ?_
    refine OW.rv (RV.move rfl) rfl ?_
    refine OW.nil ?_
    refine QW.then_n ?_
    obtain ⟨q5, hq6, hf⟩ := some_bind hf
    refine CW.cutJ (fun L' M' => ∃ w7 : Vector (BitVec 64) 4, q5 = w7 ∧ L' = [(2, ptr (some b2) 0), (4, ptr (some b4) 0)] ∧ M' = ((some b4, blk (u64s w7.toList) 25) :: (some b2, blk (u64s (Vector.replicate 4 0#64).toList) 25) :: ([] ++ N))) ?_ ?_
    · rintro L9 M10 ⟨w7, e8, e11, e12⟩
      rw [e11, e12]
      clear e11 e12 L9 M10
      clear hq6
      rw [e8] at hf
      clear e8
      try dsimp only at hf
      refine QW.then_n ?_
      refine CW.seq ?_
      refine CW.region ?_
      refine OW.rv (RV.loadW rfl (List.Mem.head _) rfl rfl rfl rfl ((u64s_length _).trans Vector.length_toList)) rfl ?_
      refine OW.rot1 ?_
      refine OW.sv (SV.storeW rfl rfl rfl (u64s_one _) rfl ((u64s_length _).trans Vector.length_toList) ((u64s_length _).trans Vector.length_toList)) ?_
      refine OW.rv (RV.assign rfl) rfl ?_
      refine OW.nil ?_
      refine QW.then_n ?_
      refine CW.ret ?_
      have er0 := Option.some.inj hf
      obtain ⟨e0, er1⟩ := Prod.mk.inj er0
      clear er0
      subst e0
      subst er1
      refine QW.retG (rs := [.cell 2 25, .tmp 3]) ([.agg (u64s w7.toList).toArray, .int .i64 (0 : Int)]) ((some b2, blk (u64s w7.toList) 25) :: (some b4, blk (u64s w7.toList) 25) :: []) rfl ?_ rfl ?_ ?_ _ (.inl rfl)
      · exact ⟨⟨_, _, _, _, rfl, (List.Mem.head _), rfl, rfl, (congrArg some ((u64s_length _).trans Vector.length_toList).symm), rfl⟩, rfl, trivial⟩
      · exact ⟨(by omega), rfl⟩
      · exact (fun w m => m)
    · skip
      refine CW.block ?_
      refine CW.loopJ (fun k L' M' => ∃ n13 : Nat, ∃ w15 : Vector (BitVec 64) 4, (u256_Get.l1 a0 k n13 w15) = some q5 ∧ (n13 ≤ 9223372036854775807) ∧ L' = [(0, .slice A0_ a0.length c0_), (2, ptr (some b2) 0), (4, ptr (some b4) 0), (12, .int .i64 ((a0.length : Nat) : Int)), (13, .int .i64 ((n13 : Nat) : Int))] ∧ M' = ((some b4, blk (u64s w15.toList) 25) :: (some b2, blk (u64s (Vector.replicate 4 0#64).toList) 25) :: ([] ++ N))) (k0 := (a0.length - 0 + 2)) ⟨0, (Vector.replicate 4 0#64), hq6, (by omega), rfl, rfl⟩ ⟨rfl, rfl, rfl, rfl, rfl, trivial⟩ (fun w m => m.pick [0, 1] 2 rfl rfl) ?_
      clear hq6
      rintro k16 L19 M20 ⟨n13, w15, hl17, b14, e21, e22⟩
      rw [e21, e22]
      clear e21 e22 L19 M20
      rcases k16 with _ | k16
      · rw [u256_Get.l1] at hl17; cases hl17
      rw [u256_Get.l1] at hl17
      refine CW.seq ?_
      refine CW.region ?_
      refine OW.rv (RV.lss rfl rfl) rfl ?_
      refine OW.slot (.bool (decide (n13 < a0.length))) (congrArg Value.bool (decide_eq_decide.2 (by omega))) ?_
      refine OW.nil ?_
      refine QW.then_n ?_
      refine CW.seq ?_
      by_cases h23 : n13 < a0.length
      · replace hl17 := if_t hl17 h23
        refine CW.is_t rfl (decide_eq_true h23) ?_
        refine CW.skip ?_
        refine QW.then_n ?_
        refine CW.seq ?_
        refine CW.block ?_
        refine CW.seq ?_
        refine CW.region ?_
        refine OW.rv (RV.move rfl) rfl ?_
        refine OW.rv (RV.assign rfl) rfl ?_
        refine OW.nil ?_
        refine QW.then_n ?_
        refine CW.seq ?_
        refine CW.region ?_
        refine OW.rv (RV.move rfl) rfl ?_
        refine OW.rv (RV.len rfl rfl) rfl ?_
        obtain ⟨g24, hl17⟩ := some_if hl17
        refine OW.rv (RV.sub rfl rfl (by omega)) rfl ?_
        refine OW.slot (.int .i64 ((a0.length - 1 : Nat) : Int)) (by congr 1; omega) ?_
        refine OW.rv (RV.move rfl) rfl ?_
        obtain ⟨g25, hl17⟩ := some_if hl17
        refine OW.rv (RV.sub rfl rfl (by omega)) rfl ?_
        refine OW.slot (.int .i64 (((a0.length - 1) - n13 : Nat) : Int)) (by congr 1; omega) ?_
        refine OW.rv (RV.assign rfl) rfl ?_
        refine OW.nil ?_
        refine QW.then_n ?_
        refine CW.drawsX ((some b2, blk (u64s (Vector.replicate 4 0#64).toList) 25) :: ([] ++ N)) [15] (fun w m => m.pick [1] 2 rfl rfl) mixed (by kernel_rfl) ?_
        refine XW.rs 0 rfl (by kernel_rfl) rfl (RV.move rfl) rfl ?_
        refine XW.rs 1 rfl (by kernel_rfl) rfl (RV.quo rfl rfl (by omega) (by omega) (by omega)) rfl ?_
        refine XW.slot (.int .i64 ((((a0.length - 1) - n13) / 8 : Nat) : Int)) (by first | rfl | (congr 1; omega)) ?_
        obtain ⟨g26, hl17⟩ := some_if hl17
        refine XW.rs 2 rfl (by kernel_rfl) rfl (RV.idx_a ((((a0.length - 1) - n13) / 8)) rfl rfl rfl rfl rfl (by omega)) rfl ?_
        obtain ⟨x27, hx28, hl17⟩ := some_bind hl17
        refine XW.rv 3 rfl (by kernel_rfl) rfl (by kernel_rfl) (RV.load rfl (List.Mem.head _) rfl rfl rfl (by rw [Nat.zero_add]; exact u64s_at (vat hx28))) rfl ?_
        refine XW.rs 4 rfl (by kernel_rfl) rfl (RV.move rfl) rfl ?_
        refine XW.rs 5 rfl (by kernel_rfl) rfl (RV.move rfl) rfl ?_
        obtain ⟨x29, hx30, hl17⟩ := some_bind hl17
        have hl31 := lt_of_at hx30
        refine XW.rs 6 rfl (by kernel_rfl) rfl (RV.idx_r (n13) rfl rfl rfl rfl rfl (va0.isSome (by decide) hl31) (by omega)) rfl ?_
        refine XW.rs 7 rfl (by kernel_rfl) rfl (RV.load_at rfl rfl rfl (fun w m => va0.cell (More.of hΦ 1 m rfl) (u8s_at hx30))) rfl ?_
        refine XW.rs 8 rfl (by kernel_rfl) rfl (RV.conv8_64 rfl (by first | rfl | exact lit8 _ rfl) rfl rfl) rfl ?_
        refine XW.rs 9 rfl (by kernel_rfl) rfl (RV.move rfl) rfl ?_
        refine XW.rs 10 rfl (by kernel_rfl) rfl (RV.rem rfl rfl (by omega) (by omega)) rfl ?_
        refine XW.slot (.int .i64 ((((a0.length - 1) - n13) % 8 : Nat) : Int)) (by first | rfl | (congr 1; omega)) ?_
        refine XW.rs 11 rfl (by kernel_rfl) rfl (RV.mul rfl rfl (by omega)) rfl ?_
        refine XW.slot (.int .i64 (((8 * (((a0.length - 1) - n13) % 8)) : Nat) : Int)) (by first | rfl | (congr 1) | (congr 1; omega)) ?_
        refine XW.rs 12 rfl (by kernel_rfl) rfl (RV.shl64 (s := (8 * (((a0.length - 1) - n13) % 8))) rfl (by first | rfl | exact lit64 _ rfl) rfl (by first | rfl | (congr 1))) rfl ?_
        refine XW.rs 13 rfl (by kernel_rfl) rfl (RV.or64 rfl (by first | rfl | exact lit64 _ rfl) rfl (by first | rfl | exact lit64 _ rfl)) rfl ?_
        refine XW.rs 14 rfl (by kernel_rfl) rfl (RV.idx_a ((((a0.length - 1) - n13) / 8)) rfl rfl rfl rfl rfl (by omega)) rfl ?_
        refine XW.sv 15 rfl (by kernel_rfl) (SV.store rfl rfl rfl rfl rfl (by rw [u64s_length, Vector.length_toList]; omega)) (fun w m => m.pick [1] 2 rfl rfl) ?_
        refine XW.cells (u64s (w15.setIfInBounds (((a0.length - 1) - n13) / 8) (x27 ||| ((x29.setWidth 64) <<< (8 * (((a0.length - 1) - n13) % 8))))).toList) (by rw [Nat.zero_add, u64s_set', vset]) ?_
        refine XW.nil (by kernel_rfl) ?_
        refine QW.block_n ?_
        refine QW.then_n ?_
        refine CW.region ?_
        refine OW.rv (RV.add rfl rfl (by omega)) rfl ?_
        refine OW.slot (.int .i64 (((n13 + 1) : Nat) : Int)) (by first | rfl | (congr 1) | (congr 1; omega)) ?_
        refine OW.rv (RV.move rfl) rfl ?_
        refine OW.nil ?_
        exact QW.againJ (k' := k16) (Nat.lt_succ_self _) ⟨(n13 + 1), (w15.setIfInBounds (((a0.length - 1) - n13) / 8) (x27 ||| ((x29.setWidth 64) <<< (8 * (((a0.length - 1) - n13) % 8))))), hl17, (by omega), rfl, rfl⟩ ⟨rfl, rfl, rfl, rfl, rfl, trivial⟩ (fun w m => m.pick [0, 1] 2 rfl rfl)
      · replace hl17 := if_f hl17 h23
        refine CW.is_f rfl (decide_eq_false h23) ?_
        refine CW.exit ?_
        refine QW.then_x ?_
        refine QW.then_x ?_
        refine QW.block_xe ?_
        exact QW.join ⟨w15, (Option.some.inj hl17).symm, rfl, rfl⟩ ⟨rfl, rfl, trivial⟩ (fun w m => m.pick [0, 1] 2 rfl rfl)

theorem waybillref01_Get_does (w0 : World) (Φ : Ctx) (N : List Ent) (hΦ : ∀ w, Mem w0 w N → Φ w) (A0_ : Option Addr) (c0_ : Nat) (a0 : List (BitVec 8)) (res0 : Vector (BitVec 64) 4) (res1 : Nat) (va0 : View Φ A0_ a0.length c0_ 1 (u8s a0)) (hf : waybillref01_Get a0 = some (res0, res1)) : DoesG Try.prog 91 [.slice A0_ a0.length c0_] w0 [] N (fun v G => (res1 ≤ 9223372036854775807) ∧ v = .tuple #[.agg (u64s res0.toList).toArray, .int .i64 ((res1 : Nat) : Int)]) := by
  unfold waybillref01_Get at hf
  replace va0 := va0.mono (Ψ := More w0 Φ []) (fun w q => q.1)
  have m1 := va0.mx
  refine DoesG.enter Try.func91 rfl Try.ntmps91 rfl (M := (([] ++ N))) rfl ?_
  refine CW.seq ?_
  refine CW.region ?_
  refine OW.alloc (l := (u64s (Vector.replicate 4 0#64).toList)) rfl (by rw [Vector.toList_replicate, ← u64s_rep]; rfl) rfl (fun b2 => ?_)
  refine OW.rv (RV.assign rfl) rfl ?_
  refine OW.nil ?_
  refine QW.then_n ?_
  refine CW.seq ?_
  refine CW.region ?_
  refine OW.alloc (l := (u64s (Vector.replicate 4 0#64).toList)) rfl (by rw [Vector.toList_replicate, ← u64s_rep]; rfl) rfl (fun b3 => ?_)
  refine OW.nil ?_
  refine QW.then_n ?_
  refine CW.seq ?_
  refine CW.seq ?_
  refine CW.region ?_
  refine OW.rv (RV.move rfl) rfl ?_
  refine OW.rv (RV.len rfl rfl) rfl ?_
  refine OW.rv (RV.gtr rfl rfl) rfl ?_
  refine OW.slot (.bool (decide (32 < a0.length))) (congrArg Value.bool (decide_eq_decide.2 (by omega))) ?_
  refine OW.nil ?_
  refine QW.then_n ?_
  by_cases h4 : 32 < a0.length
  · replace hf := if_t hf h4
    refine CW.is_t rfl (decide_eq_true h4) ?_
    refine CW.seq ?_
    refine CW.region ?_
    refine OW.rv (RV.loadW rfl (List.Mem.head _) rfl rfl rfl rfl ((u64s_length _).trans Vector.length_toList)) rfl ?_
    refine OW.rot1 ?_
    refine OW.sv (SV.storeW rfl rfl rfl (u64s_one _) rfl ((u64s_length _).trans Vector.length_toList) ((u64s_length _).trans Vector.length_toList)) ?_
    refine OW.rv (RV.assign rfl) rfl ?_
    refine OW.nil ?_
    refine QW.then_n ?_
    refine CW.ret ?_
    refine QW.then_r ?_
    have er0 := Option.some.inj hf
    obtain ⟨e0, er1⟩ := Prod.mk.inj er0
    clear er0
    subst e0
    subst er1
    refine QW.retG (rs := [.cell 2 25, .tmp 3]) ([.agg (u64s (Vector.replicate 4 0#64).toList).toArray, .int .i64 (11 : Int)]) ((some b2, blk (u64s (Vector.replicate 4 0#64).toList) 25) :: (some b3, blk (u64s (Vector.replicate 4 0#64).toList) 25) :: []) rfl ?_ rfl ?_ ?_ _ (.inl rfl)
    · exact ⟨⟨_, _, _, _, rfl, (List.Mem.head _), rfl, rfl, (congrArg some ((u64s_length _).trans Vector.length_toList).symm), rfl⟩, rfl, trivial⟩
    · exact ⟨(by omega), rfl⟩
    · exact (fun w m => m)
  · replace hf := if_f hf h4
    refine CW.is_f rfl (decide_eq_false h4) ?_
    refine CW.skip ?_
    refine QW.then_n ?_
    refine CW.seq ?_
    refine CW.seq ?_
    refine CW.region ?_
    refine OW.rv (RV.assign rfl) rfl ?_
    refine OW.nil ?_
    refine QW.then_n ?_
    obtain ⟨q5, hq6, hf⟩ := some_bind hf
    refine CW.cutJ (fun L' M' => ∃ w7 : Vector (BitVec 64) 4, q5 = w7 ∧ L' = [(2, ptr (some b2) 0), (4, ptr (some b3) 0)] ∧ M' = ((some b3, blk (u64s w7.toList) 25) :: (some b2, blk (u64s (Vector.replicate 4 0#64).toList) 25) :: ([] ++ N))) ?_ ?_
    · rintro L9 M10 ⟨w7, e8, e11, e12⟩
      rw [e11, e12]
      clear e11 e12 L9 M10
      clear hq6
      rw [e8] at hf
      clear e8
      try dsimp only at hf
      refine QW.then_n ?_
      refine CW.seq ?_
      refine CW.region ?_
      refine OW.rv (RV.loadW rfl (List.Mem.head _) rfl rfl rfl rfl ((u64s_length _).trans Vector.length_toList)) rfl ?_
      refine OW.rot1 ?_
      refine OW.sv (SV.storeW rfl rfl rfl (u64s_one _) rfl ((u64s_length _).trans Vector.length_toList) ((u64s_length _).trans Vector.length_toList)) ?_
      refine OW.rv (RV.assign rfl) rfl ?_
      refine OW.nil ?_
      refine QW.then_n ?_
      refine CW.ret ?_
      have er0 := Option.some.inj hf
      obtain ⟨e0, er1⟩ := Prod.mk.inj er0
      clear er0
      subst e0
      subst er1
      refine QW.retG (rs := [.cell 2 25, .tmp 3]) ([.agg (u64s w7.toList).toArray, .int .i64 (0 : Int)]) ((some b2, blk (u64s w7.toList) 25) :: (some b3, blk (u64s w7.toList) 25) :: []) rfl ?_ rfl ?_ ?_ _ (.inl rfl)
      · exact ⟨⟨_, _, _, _, rfl, (List.Mem.head _), rfl, rfl, (congrArg some ((u64s_length _).trans Vector.length_toList).symm), rfl⟩, rfl, trivial⟩
      · exact ⟨(by omega), rfl⟩
      · exact (fun w m => m)
    · skip
      refine CW.block ?_
      refine CW.loopJ (fun k L' M' => ∃ n13 : Nat, ∃ w15 : Vector (BitVec 64) 4, (waybillref01_Get.l1 a0 k n13 w15) = some q5 ∧ (n13 ≤ 9223372036854775807) ∧ L' = [(0, .slice A0_ a0.length c0_), (2, ptr (some b2) 0), (4, ptr (some b3) 0), (5, .int .i64 ((n13 : Nat) : Int))] ∧ M' = ((some b3, blk (u64s w15.toList) 25) :: (some b2, blk (u64s (Vector.replicate 4 0#64).toList) 25) :: ([] ++ N))) (k0 := (a0.length - 0 + 2)) ⟨0, (Vector.replicate 4 0#64), hq6, (by omega), rfl, rfl⟩ ⟨rfl, rfl, rfl, rfl, trivial⟩ (fun w m => m.pick [0, 1] 2 rfl rfl) ?_
      clear hq6
      rintro k16 L19 M20 ⟨n13, w15, hl17, b14, e21, e22⟩
      rw [e21, e22]
      clear e21 e22 L19 M20
      rcases k16 with _ | k16
      · rw [waybillref01_Get.l1] at hl17; cases hl17
      rw [waybillref01_Get.l1] at hl17
      refine CW.seq ?_
      refine CW.seq ?_
      refine CW.region ?_
      refine OW.rv (RV.move rfl) rfl ?_
      refine OW.rv (RV.move rfl) rfl ?_
      refine OW.rv (RV.len rfl rfl) rfl ?_
      refine OW.rv (RV.lss rfl rfl) rfl ?_
      refine OW.slot (.bool (decide (n13 < a0.length))) (congrArg Value.bool (decide_eq_decide.2 (by omega))) ?_
      refine OW.nil ?_
      refine QW.then_n ?_
      by_cases h23 : n13 < a0.length
      · replace hl17 := if_t hl17 h23
        refine CW.is_t rfl (decide_eq_true h23) ?_
        refine CW.skip ?_
        refine QW.then_n ?_
        refine CW.seq ?_
        refine CW.block ?_
        refine CW.seq ?_
        refine CW.region ?_
        refine OW.rv (RV.move rfl) rfl ?_
        refine OW.rv (RV.len rfl rfl) rfl ?_
        obtain ⟨g24, hl17⟩ := some_if hl17
        refine OW.rv (RV.sub rfl rfl (by omega)) rfl ?_
        refine OW.slot (.int .i64 ((a0.length - 1 : Nat) : Int)) (by congr 1; omega) ?_
        refine OW.rv (RV.move rfl) rfl ?_
        obtain ⟨g25, hl17⟩ := some_if hl17
        refine OW.rv (RV.sub rfl rfl (by omega)) rfl ?_
        refine OW.slot (.int .i64 (((a0.length - 1) - n13 : Nat) : Int)) (by congr 1; omega) ?_
        refine OW.rv (RV.assign rfl) rfl ?_
        refine OW.nil ?_
        refine QW.then_n ?_
        refine CW.drawsX ((some b2, blk (u64s (Vector.replicate 4 0#64).toList) 25) :: ([] ++ N)) [18] (fun w m => m.pick [1] 2 rfl rfl) mixed (by kernel_rfl) ?_
        refine XW.rs 0 rfl (by kernel_rfl) rfl (RV.move rfl) rfl ?_
        refine XW.rs 1 rfl (by kernel_rfl) rfl (RV.quo rfl rfl (by omega) (by omega) (by omega)) rfl ?_
        refine XW.slot (.int .i64 ((((a0.length - 1) - n13) / 8 : Nat) : Int)) (by first | rfl | (congr 1; omega)) ?_
        refine XW.rs 2 rfl (by kernel_rfl) rfl (RV.move rfl) rfl ?_
        refine XW.rs 3 rfl (by kernel_rfl) rfl (RV.quo rfl rfl (by omega) (by omega) (by omega)) rfl ?_
        refine XW.slot (.int .i64 ((((a0.length - 1) - n13) / 8 : Nat) : Int)) (by first | rfl | (congr 1; omega)) ?_
        obtain ⟨g26, hl17⟩ := some_if hl17
        refine XW.rs 4 rfl (by kernel_rfl) rfl (RV.idx_a ((((a0.length - 1) - n13) / 8)) rfl rfl rfl rfl rfl (by omega)) rfl ?_
        obtain ⟨x27, hx28, hl17⟩ := some_bind hl17
        refine XW.rv 5 rfl (by kernel_rfl) rfl (by kernel_rfl) (RV.load rfl (List.Mem.head _) rfl rfl rfl (by rw [Nat.zero_add]; exact u64s_at (vat hx28))) rfl ?_
        refine XW.rs 6 rfl (by kernel_rfl) rfl (RV.move rfl) rfl ?_
        refine XW.rs 7 rfl (by kernel_rfl) rfl (RV.move rfl) rfl ?_
        obtain ⟨x29, hx30, hl17⟩ := some_bind hl17
        have hl31 := lt_of_at hx30
        refine XW.rs 8 rfl (by kernel_rfl) rfl (RV.idx_r (n13) rfl rfl rfl rfl rfl (va0.isSome (by decide) hl31) (by omega)) rfl ?_
        refine XW.rs 9 rfl (by kernel_rfl) rfl (RV.load_at rfl rfl rfl (fun w m => va0.cell (More.of hΦ 1 m rfl) (u8s_at hx30))) rfl ?_
        refine XW.rs 10 rfl (by kernel_rfl) rfl (RV.conv8_64 rfl (by first | rfl | exact lit8 _ rfl) rfl rfl) rfl ?_
        refine XW.rs 11 rfl (by kernel_rfl) rfl (RV.move rfl) rfl ?_
        refine XW.rs 12 rfl (by kernel_rfl) rfl (RV.rem rfl rfl (by omega) (by omega)) rfl ?_
        refine XW.slot (.int .i64 ((((a0.length - 1) - n13) % 8 : Nat) : Int)) (by first | rfl | (congr 1; omega)) ?_
        refine XW.rs 13 rfl (by kernel_rfl) rfl (RV.mul rfl rfl (by omega)) rfl ?_
        refine XW.slot (.int .i64 (((8 * (((a0.length - 1) - n13) % 8)) : Nat) : Int)) (by first | rfl | (congr 1) | (congr 1; omega)) ?_
        refine XW.rs 14 rfl (by kernel_rfl) rfl (RV.conv_i64 rfl rfl rfl) rfl ?_
        refine XW.slot (U64 (BitVec.ofNat 64 (8 * (((a0.length - 1) - n13) % 8)))) (congrArg U64 (BitVec.ofInt_natCast ..)) ?_
        refine XW.rs 15 rfl (by kernel_rfl) rfl (RV.shl64 (s := (BitVec.ofNat 64 (8 * (((a0.length - 1) - n13) % 8))).toNat) rfl (by first | rfl | exact lit64 _ rfl) rfl (by first | rfl | (simp [U64]; done))) rfl ?_
        refine XW.rs 16 rfl (by kernel_rfl) rfl (RV.add64 rfl (by first | rfl | exact lit64 _ rfl) rfl (by first | rfl | exact lit64 _ rfl)) rfl ?_
        refine XW.rs 17 rfl (by kernel_rfl) rfl (RV.idx_a ((((a0.length - 1) - n13) / 8)) rfl rfl rfl rfl rfl (by omega)) rfl ?_
        refine XW.sv 18 rfl (by kernel_rfl) (SV.store rfl rfl rfl rfl rfl (by rw [u64s_length, Vector.length_toList]; omega)) (fun w m => m.pick [1] 2 rfl rfl) ?_
        refine XW.cells (u64s (w15.setIfInBounds (((a0.length - 1) - n13) / 8) (x27 + ((x29.setWidth 64) <<< (BitVec.ofNat 64 (8 * (((a0.length - 1) - n13) % 8))).toNat))).toList) (by rw [Nat.zero_add, u64s_set', vset]) ?_
        refine XW.nil (by kernel_rfl) ?_
        refine QW.block_n ?_
        refine QW.then_n ?_
        refine CW.region ?_
        refine OW.rv (RV.move rfl) rfl ?_
        refine OW.rv (RV.add rfl rfl (by omega)) rfl ?_
        refine OW.slot (.int .i64 (((n13 + 1) : Nat) : Int)) (by first | rfl | (congr 1) | (congr 1; omega)) ?_
        refine OW.rv (RV.assign rfl) rfl ?_
        refine OW.nil ?_
        exact QW.againJ (k' := k16) (Nat.lt_succ_self _) ⟨(n13 + 1), (w15.setIfInBounds (((a0.length - 1) - n13) / 8) (x27 + ((x29.setWidth 64) <<< (BitVec.ofNat 64 (8 * (((a0.length - 1) - n13) % 8))).toNat))), hl17, (by omega), rfl, rfl⟩ ⟨rfl, rfl, rfl, rfl, trivial⟩ (fun w m => m.pick [0, 1] 2 rfl rfl)
      · replace hl17 := if_f hl17 h23
        refine CW.is_f rfl (decide_eq_false h23) ?_
        refine CW.exit ?_
        refine QW.then_x ?_
        refine QW.then_x ?_
        refine QW.block_xe ?_
        exact QW.join ⟨w15, (Option.some.inj hl17).symm, rfl, rfl⟩ ⟨rfl, rfl, trivial⟩ (fun w m => m.pick [0, 1] 2 rfl rfl)

theorem waybillref07_Same_rec (w0 : World) : ∀ (kf : Nat) (Φ : Ctx) (N : List Ent) (hΦ : ∀ w, Mem w0 w N → Φ w) (cs0_ : List Value) (a0 : It) (cs1_ : List Value) (a1 : It) (res0 : Bool) (ha0 : ItRd Φ cs0_ a0) (ha1 : ItRd Φ cs1_ a1) (hf : waybillref07_Same.r kf a0 a1 = some res0), DoesG Try.prog 17 [.agg cs0_.toArray, .agg cs1_.toArray] w0 [] N (fun v G => v = .bool res0) := by
  intro kf
  induction kf with
  | zero => intro Φ N hΦ cs0_ a0 cs1_ a1 res0 ha0 ha1 hf; rw [waybillref07_Same.r] at hf; cases hf
  | succ kf ih =>
    intro Φ N hΦ cs0_ a0 cs1_ a1 res0 ha0 ha1 hf
    rw [waybillref07_Same.r] at hf
    replace ha0 := ItRd.mono (Ψ := More w0 Φ []) (fun w q => q.1) _ _ ha0
    have h10 := ha0
    obtain ⟨A1, c2, A4, c5, cs7, e9, v3, v6, h8⟩ := ItRd.opn ha0
    subst e9
    have m11 := v3.mx
    have m12 := v6.mx
    replace ha1 := ItRd.mono (Ψ := More w0 Φ []) (fun w q => q.1) _ _ ha1
    have h22 := ha1
    obtain ⟨A13, c14, A16, c17, cs19, e21, v15, v18, h20⟩ := ItRd.opn ha1
    subst e21
    have m23 := v15.mx
    have m24 := v18.mx
    refine DoesG.enter Try.func17 rfl Try.ntmps17 rfl (M := (([] ++ N))) rfl ?_
    refine CW.seq ?_
    refine CW.region ?_
    refine OW.boxA rfl rfl (fun b25 => ?_)
    refine OW.boxA rfl rfl (fun b26 => ?_)
    refine OW.rv (RV.assign rfl) rfl ?_
    refine OW.nil ?_
    refine QW.then_n ?_
    refine CW.seq ?_
    refine CW.seq ?_
    obtain ⟨q27, hq28, hf⟩ := some_bind hf
    refine CW.cutJ (fun L' M' => ∃ p29 : Bool, q27 = p29 ∧ L' = [(2, ptr (some b25) 0), (3, ptr (some b26) 0), (29, .bool (p29))] ∧ M' = ((some b26, blk [.bool (a1.list), .slice A13 a1.data.length c14, .slice A16 a1.items.length c17] 29) :: (some b25, blk [.bool (a0.list), .slice A1 a0.data.length c2, .slice A4 a0.items.length c5] 29) :: ([] ++ N))) ?_ ?_
    · rintro L31 M32 ⟨p29, e30, e33, e34⟩
      rw [e33, e34]
      clear e33 e34 L31 M32
      clear hq28
      rw [e30] at hf
      clear e30
      try dsimp only at hf
      refine QW.then_n ?_
      by_cases h35 : p29 = true
      · replace hf := if_t hf h35
        refine CW.is_t rfl (h35) ?_
        refine CW.seq ?_
        refine CW.region ?_
        refine OW.rv (RV.assign rfl) rfl ?_
        refine OW.nil ?_
        refine QW.then_n ?_
        refine CW.ret ?_
        refine QW.then_r ?_
        have e0 := Option.some.inj hf
        subst e0
        refine QW.retG (rs := [.tmp 4]) ([.bool false]) ((some b26, blk [.bool (a1.list), .slice A13 a1.data.length c14, .slice A16 a1.items.length c17] 29) :: (some b25, blk [.bool (a0.list), .slice A1 a0.data.length c2, .slice A4 a0.items.length c5] 29) :: []) rfl ?_ rfl ?_ ?_ _ (.inl rfl)
        · exact ⟨rfl, trivial⟩
        · exact rfl
        · exact (fun w m => m)
      · replace hf := if_f hf h35
        refine CW.is_f rfl (Bool.eq_false_iff.2 h35) ?_
        refine CW.skip ?_
        refine QW.then_n ?_
        refine CW.seq ?_
        refine CW.seq ?_
        refine CW.region ?_
        refine OW.rv (RV.assign rfl) rfl ?_
        refine OW.nil ?_
        refine QW.then_n ?_
        obtain ⟨q36, hq37, hf⟩ := some_bind hf
        refine CW.cutJ (fun L' M' => q36 = Lp.go () ∧ L' = [(2, ptr (some b25) 0), (3, ptr (some b26) 0)] ∧ M' = ((some b26, blk [.bool (a1.list), .slice A13 a1.data.length c14, .slice A16 a1.items.length c17] 29) :: (some b25, blk [.bool (a0.list), .slice A1 a0.data.length c2, .slice A4 a0.items.length c5] 29) :: ([] ++ N))) ?_ ?_
        · rintro L39 M40 ⟨e38, e41, e42⟩
          rw [e41, e42]
          clear e41 e42 L39 M40
          clear hq37
          rw [e38] at hf
          clear e38
          try dsimp only at hf
          refine QW.then_n ?_
          refine CW.seq ?_
          refine CW.seq ?_
          refine CW.region ?_
          refine OW.rv (RV.assign rfl) rfl ?_
          refine OW.nil ?_
          refine QW.then_n ?_
          obtain ⟨q43, hq44, hf⟩ := some_bind hf
          refine CW.cutJ (fun L' M' => q43 = Lp.go () ∧ L' = [] ∧ M' = (([] ++ N))) ?_ ?_
          · rintro L46 M47 ⟨e45, e48, e49⟩
            rw [e48, e49]
            clear e48 e49 L46 M47
            clear hq44
            rw [e45] at hf
            clear e45
            try dsimp only at hf
            refine QW.then_n ?_
            refine CW.seq ?_
            refine CW.region ?_
            refine OW.rv (RV.assign rfl) rfl ?_
            refine OW.nil ?_
            refine QW.then_n ?_
            refine CW.ret ?_
            have e0 := Option.some.inj hf
            subst e0
            refine QW.retG (rs := [.tmp 4]) ([.bool true]) ([]) rfl ?_ rfl ?_ ?_ _ (.inl rfl)
            · exact ⟨rfl, trivial⟩
            · exact rfl
            · exact (fun w m => m)
          · skip
            refine CW.block ?_
            refine CW.loopJ (fun k L' M' => ∃ n50 : Nat, (waybillref07_Same.l1 a0 a1 (waybillref07_Same.r kf) k n50) = some q43 ∧ (n50 ≤ 9223372036854775807) ∧ L' = [(2, ptr (some b25) 0), (3, ptr (some b26) 0), (6, .int .i64 ((n50 : Nat) : Int))] ∧ M' = ((some b26, blk [.bool (a1.list), .slice A13 a1.data.length c14, .slice A16 a1.items.length c17] 29) :: (some b25, blk [.bool (a0.list), .slice A1 a0.data.length c2, .slice A4 a0.items.length c5] 29) :: ([] ++ N))) (k0 := (a0.items.length - 0 + 2)) ⟨0, hq44, (by omega), rfl, rfl⟩ ⟨rfl, rfl, rfl, trivial⟩ (fun w m => m.pick [0, 1] 2 rfl rfl) ?_
            clear hq44
            rintro k52 L55 M56 ⟨n50, hl53, b51, e57, e58⟩
            rw [e57, e58]
            clear e57 e58 L55 M56
            rcases k52 with _ | k52
            · rw [waybillref07_Same.l1] at hl53; cases hl53
            rw [waybillref07_Same.l1] at hl53
            refine CW.seq ?_
            refine CW.seq ?_
            refine CW.region ?_
            refine OW.rv (RV.move rfl) rfl ?_
            refine OW.rv (RV.field rfl rfl rfl rfl) rfl ?_
            refine OW.rv (RV.load rfl (List.Mem.tail _ (List.Mem.head _)) rfl rfl rfl rfl) rfl ?_
            refine OW.rv (RV.len rfl rfl) rfl ?_
            refine OW.rv (RV.lss rfl rfl) rfl ?_
            refine OW.slot (.bool (decide (n50 < a0.items.length))) (congrArg Value.bool (decide_eq_decide.2 (by omega))) ?_
            refine OW.nil ?_
            refine QW.then_n ?_
            by_cases h59 : n50 < a0.items.length
            · replace hl53 := if_t hl53 h59
              refine CW.is_t rfl (decide_eq_true h59) ?_
              refine CW.skip ?_
              refine QW.then_n ?_
              refine CW.seq ?_
              refine CW.block ?_
              refine CW.seq ?_
              refine CW.drawsU 12 mixed (by kernel_rfl) rfl ?_
              refine UW.rv 0 rfl (by kernel_rfl) rfl (RV.field rfl rfl rfl rfl) rfl ?_
              refine UW.rv 1 rfl (by kernel_rfl) rfl (RV.load rfl (List.Mem.tail _ (List.Mem.head _)) rfl rfl rfl rfl) rfl ?_
              refine UW.rv 2 rfl (by kernel_rfl) rfl (RV.move rfl) rfl ?_
              obtain ⟨x60, hx61, hl53⟩ := some_bind hl53
              have hl62 := lt_of_at hx61
              refine UW.rv 3 rfl (by kernel_rfl) rfl (RV.idx_rs (n50) rfl rfl rfl rfl rfl (v6.isSome (by decide) hl62) (by omega)) rfl ?_
              obtain ⟨cs63, h64, h65⟩ := h8.get ItRd.len hx61
              have h75 := h64
              obtain ⟨A66, c67, A69, c70, cs72, e74, v68, v71, h73⟩ := ItRd.opn h64
              subst e74
              have m76 := v68.mx
              have m77 := v71.mx
              refine UW.rv 4 rfl (by kernel_rfl) rfl (RV.loadAs rfl rfl rfl rfl (fun w m => v6.load (More.of hΦ 2 m rfl) h65) rfl) rfl ?_
              refine UW.rv 5 rfl (by kernel_rfl) rfl (RV.field rfl rfl rfl rfl) rfl ?_
              refine UW.rv 6 rfl (by kernel_rfl) rfl (RV.load rfl (List.Mem.head _) rfl rfl rfl rfl) rfl ?_
              refine UW.rv 7 rfl (by kernel_rfl) rfl (RV.move rfl) rfl ?_
              obtain ⟨x78, hx79, hl53⟩ := some_bind hl53
              have hl80 := lt_of_at hx79
              refine UW.rv 8 rfl (by kernel_rfl) rfl (RV.idx_rs (n50) rfl rfl rfl rfl rfl (v18.isSome (by decide) hl80) (by omega)) rfl ?_
              obtain ⟨cs81, h82, h83⟩ := h20.get ItRd.len hx79
              have h93 := h82
              obtain ⟨A84, c85, A87, c88, cs90, e92, v86, v89, h91⟩ := ItRd.opn h82
              subst e92
              have m94 := v86.mx
              have m95 := v89.mx
              refine UW.rv 9 rfl (by kernel_rfl) rfl (RV.loadAs rfl rfl rfl rfl (fun w m => v18.load (More.of hΦ 2 m rfl) h83) rfl) rfl ?_
              obtain ⟨x97, hx96, hl53⟩ := some_bind hl53
              refine UW.callG 10 rfl (by kernel_rfl) rfl Try.call17 rfl (fun N' hN' => ih (More w0 Φ []) N' (fun w m => More.of hΦ 2 (hN' w m) rfl) [.bool (x60.list), .slice A66 x60.data.length c67, .slice A69 x60.items.length c70] x60 [.bool (x78.list), .slice A84 x78.data.length c85, .slice A87 x78.items.length c88] x78 x97 h75 h93 hx96) rfl ?_
              rintro _ G98 rfl
              refine UW.mem (M' := ((some b26, blk [.bool (a1.list), .slice A13 a1.data.length c14, .slice A16 a1.items.length c17] 29) :: (some b25, blk [.bool (a0.list), .slice A1 a0.data.length c2, .slice A4 a0.items.length c5] 29) :: ([] ++ N))) (fun w m => m.appR) ?_
              refine UW.rv 11 rfl (by kernel_rfl) rfl (RV.not rfl) rfl ?_
              refine UW.nil (by kernel_rfl) ?_
              refine OW.nil ?_
              refine QW.then_n ?_
              by_cases h100 : x97 = true
              · replace hl53 := if_t hl53 h100
                refine CW.is_f rfl (congrArg (fun b => !b) (h100)) ?_
                refine CW.skip ?_
                refine QW.block_n ?_
                refine QW.then_n ?_
                refine CW.region ?_
                refine OW.rv (RV.move rfl) rfl ?_
                refine OW.rv (RV.add rfl rfl (by omega)) rfl ?_
                refine OW.slot (.int .i64 (((n50 + 1) : Nat) : Int)) (by first | rfl | (congr 1) | (congr 1; omega)) ?_
                refine OW.rv (RV.assign rfl) rfl ?_
                refine OW.nil ?_
                exact QW.againJ (k' := k52) (Nat.lt_succ_self _) ⟨(n50 + 1), hl53, (by omega), rfl, rfl⟩ ⟨rfl, rfl, rfl, trivial⟩ (fun w m => m.pick [0, 1] 2 rfl rfl)
              · replace hl53 := if_f hl53 h100
                refine CW.is_t rfl (congrArg (fun b => !b) (Bool.eq_false_iff.2 h100)) ?_
                refine CW.seq ?_
                refine CW.region ?_
                refine OW.rv (RV.assign rfl) rfl ?_
                refine OW.nil ?_
                refine QW.then_n ?_
                refine CW.ret ?_
                refine QW.block_r ?_
                refine QW.then_r ?_
                refine QW.then_r ?_
                refine QW.block_r ?_
                refine QW.then_r ?_
                have hc := Option.some.inj hl53
                subst hc
                try dsimp only at hf
                refine QW.then_r ?_
                have e0 := Option.some.inj hf
                subst e0
                refine QW.retG (rs := [.tmp 4]) ([.bool false]) ((some b26, blk [.bool (a1.list), .slice A13 a1.data.length c14, .slice A16 a1.items.length c17] 29) :: (some b25, blk [.bool (a0.list), .slice A1 a0.data.length c2, .slice A4 a0.items.length c5] 29) :: []) rfl ?_ rfl ?_ ?_ _ (.inl rfl)
                · exact ⟨rfl, trivial⟩
                · exact rfl
                · exact (fun w m => m)
            · replace hl53 := if_f hl53 h59
              refine CW.is_f rfl (decide_eq_false h59) ?_
              refine CW.exit ?_
              refine QW.then_x ?_
              refine QW.then_x ?_
              refine QW.block_xe ?_
              exact QW.join ⟨(Option.some.inj hl53).symm, rfl, rfl⟩ trivial (fun w m => m.pick [] 2 rfl rfl)
        · skip
          refine CW.block ?_
          refine CW.loopJ (fun k L' M' => ∃ n101 : Nat, (waybillref07_Same.l2 a0 a1 k n101) = some q36 ∧ (n101 ≤ 9223372036854775807) ∧ L' = [(2, ptr (some b25) 0), (3, ptr (some b26) 0), (5, .int .i64 ((n101 : Nat) : Int))] ∧ M' = ((some b26, blk [.bool (a1.list), .slice A13 a1.data.length c14, .slice A16 a1.items.length c17] 29) :: (some b25, blk [.bool (a0.list), .slice A1 a0.data.length c2, .slice A4 a0.items.length c5] 29) :: ([] ++ N))) (k0 := (a0.data.length - 0 + 2)) ⟨0, hq37, (by omega), rfl, rfl⟩ ⟨rfl, rfl, rfl, trivial⟩ (fun w m => m.pick [0, 1] 2 rfl rfl) ?_
          clear hq37
          rintro k103 L106 M107 ⟨n101, hl104, b102, e108, e109⟩
          rw [e108, e109]
          clear e108 e109 L106 M107
          rcases k103 with _ | k103
          · rw [waybillref07_Same.l2] at hl104; cases hl104
          rw [waybillref07_Same.l2] at hl104
          refine CW.seq ?_
          refine CW.seq ?_
          refine CW.region ?_
          refine OW.rv (RV.move rfl) rfl ?_
          refine OW.rv (RV.field rfl rfl rfl rfl) rfl ?_
          refine OW.rv (RV.load rfl (List.Mem.tail _ (List.Mem.head _)) rfl rfl rfl rfl) rfl ?_
          refine OW.rv (RV.len rfl rfl) rfl ?_
          refine OW.rv (RV.lss rfl rfl) rfl ?_
          refine OW.slot (.bool (decide (n101 < a0.data.length))) (congrArg Value.bool (decide_eq_decide.2 (by omega))) ?_
          refine OW.nil ?_
          refine QW.then_n ?_
          by_cases h110 : n101 < a0.data.length
          · replace hl104 := if_t hl104 h110
            refine CW.is_t rfl (decide_eq_true h110) ?_
            refine CW.skip ?_
            refine QW.then_n ?_
            refine CW.seq ?_
            refine CW.block ?_
            refine CW.seq ?_
            refine CW.drawsU 11 mixed (by kernel_rfl) rfl ?_
            refine UW.rv 0 rfl (by kernel_rfl) rfl (RV.field rfl rfl rfl rfl) rfl ?_
            refine UW.rv 1 rfl (by kernel_rfl) rfl (RV.load rfl (List.Mem.tail _ (List.Mem.head _)) rfl rfl rfl rfl) rfl ?_
            refine UW.rv 2 rfl (by kernel_rfl) rfl (RV.move rfl) rfl ?_
            obtain ⟨x111, hx112, hl104⟩ := some_bind hl104
            have hl113 := lt_of_at hx112
            refine UW.rv 3 rfl (by kernel_rfl) rfl (RV.idx_r (n101) rfl rfl rfl rfl rfl (v3.isSome (by decide) hl113) (by omega)) rfl ?_
            refine UW.rv 4 rfl (by kernel_rfl) rfl (RV.load_at rfl rfl rfl (fun w m => v3.cell (More.of hΦ 2 m rfl) (u8s_at hx112))) rfl ?_
            refine UW.rv 5 rfl (by kernel_rfl) rfl (RV.field rfl rfl rfl rfl) rfl ?_
            refine UW.rv 6 rfl (by kernel_rfl) rfl (RV.load rfl (List.Mem.head _) rfl rfl rfl rfl) rfl ?_
            refine UW.rv 7 rfl (by kernel_rfl) rfl (RV.move rfl) rfl ?_
            obtain ⟨x114, hx115, hl104⟩ := some_bind hl104
            have hl116 := lt_of_at hx115
            refine UW.rv 8 rfl (by kernel_rfl) rfl (RV.idx_r (n101) rfl rfl rfl rfl rfl (v15.isSome (by decide) hl116) (by omega)) rfl ?_
            refine UW.rv 9 rfl (by kernel_rfl) rfl (RV.load_at rfl rfl rfl (fun w m => v15.cell (More.of hΦ 2 m rfl) (u8s_at hx115))) rfl ?_
            refine UW.rv 10 rfl (by kernel_rfl) rfl (RV.neq8 rfl (by first | rfl | exact lit8 _ rfl) rfl (by first | rfl | exact lit8 _ rfl)) rfl ?_
            refine UW.nil (by kernel_rfl) ?_
            refine OW.nil ?_
            refine QW.then_n ?_
            by_cases h117 : x111 = x114
            · replace hl104 := if_t hl104 h117
              refine CW.is_f rfl (congrArg (fun b => !b) (decide_eq_true h117)) ?_
              refine CW.skip ?_
              refine QW.block_n ?_
              refine QW.then_n ?_
              refine CW.region ?_
              refine OW.rv (RV.move rfl) rfl ?_
              refine OW.rv (RV.add rfl rfl (by omega)) rfl ?_
              refine OW.slot (.int .i64 (((n101 + 1) : Nat) : Int)) (by first | rfl | (congr 1) | (congr 1; omega)) ?_
              refine OW.rv (RV.assign rfl) rfl ?_
              refine OW.nil ?_
              exact QW.againJ (k' := k103) (Nat.lt_succ_self _) ⟨(n101 + 1), hl104, (by omega), rfl, rfl⟩ ⟨rfl, rfl, rfl, trivial⟩ (fun w m => m.pick [0, 1] 2 rfl rfl)
            · replace hl104 := if_f hl104 h117
              refine CW.is_t rfl (congrArg (fun b => !b) (decide_eq_false h117)) ?_
              refine CW.seq ?_
              refine CW.region ?_
              refine OW.rv (RV.assign rfl) rfl ?_
              refine OW.nil ?_
              refine QW.then_n ?_
              refine CW.ret ?_
              refine QW.block_r ?_
              refine QW.then_r ?_
              refine QW.then_r ?_
              refine QW.block_r ?_
              refine QW.then_r ?_
              have hc := Option.some.inj hl104
              subst hc
              try dsimp only at hf
              refine QW.then_r ?_
              have e0 := Option.some.inj hf
              subst e0
              refine QW.retG (rs := [.tmp 4]) ([.bool false]) ((some b26, blk [.bool (a1.list), .slice A13 a1.data.length c14, .slice A16 a1.items.length c17] 29) :: (some b25, blk [.bool (a0.list), .slice A1 a0.data.length c2, .slice A4 a0.items.length c5] 29) :: []) rfl ?_ rfl ?_ ?_ _ (.inl rfl)
              · exact ⟨rfl, trivial⟩
              · exact rfl
              · exact (fun w m => m)
          · replace hl104 := if_f hl104 h110
            refine CW.is_f rfl (decide_eq_false h110) ?_
            refine CW.exit ?_
            refine QW.then_x ?_
            refine QW.then_x ?_
            refine QW.block_xe ?_
            exact QW.join ⟨(Option.some.inj hl104).symm, rfl, rfl⟩ ⟨rfl, rfl, trivial⟩ (fun w m => m.pick [0, 1] 2 rfl rfl)
    · skip
      refine CW.region ?_
      refine OW.rv (RV.field rfl rfl rfl rfl) rfl ?_
      refine OW.rv (RV.load rfl (List.Mem.tail _ (List.Mem.head _)) rfl rfl rfl rfl) rfl ?_
      refine OW.rv (RV.field rfl rfl rfl rfl) rfl ?_
      refine OW.rv (RV.load rfl (List.Mem.head _) rfl rfl rfl rfl) rfl ?_
      refine OW.rv (RV.neqB rfl rfl rfl) rfl ?_
      refine OW.slot (.bool (!decide ((a0.list) = (a1.list)))) (by first | rfl | (congr 1) | simp) ?_
      refine OW.rv (RV.move rfl) rfl ?_
      by_cases h118 : (a0.list) = (a1.list)
      · replace hq28 := if_t hq28 h118
        refine OW.slot (.bool false) (congrArg Value.bool (congrArg (fun b => !b) (decide_eq_true h118))) ?_
        refine OW.want rfl ?_
        refine OW.rv (RV.field rfl rfl rfl rfl) rfl ?_
        refine OW.want rfl ?_
        refine OW.rv (RV.load rfl (List.Mem.tail _ (List.Mem.head _)) rfl rfl rfl rfl) rfl ?_
        refine OW.want rfl ?_
        refine OW.rv (RV.len rfl rfl) rfl ?_
        refine OW.want rfl ?_
        refine OW.rv (RV.field rfl rfl rfl rfl) rfl ?_
        refine OW.want rfl ?_
        refine OW.rv (RV.load rfl (List.Mem.head _) rfl rfl rfl rfl) rfl ?_
        refine OW.want rfl ?_
        refine OW.rv (RV.len rfl rfl) rfl ?_
        refine OW.want rfl ?_
        refine OW.rv (RV.neq rfl rfl) rfl ?_
        refine OW.slot (.bool (!decide (a0.data.length = a1.data.length))) (congrArg (fun b => Value.bool (!b)) (decide_eq_decide.2 (by omega))) ?_
        refine OW.rv (RV.pick_f rfl rfl rfl) rfl ?_
        refine OW.rv (RV.move rfl) rfl ?_
        by_cases h119 : a0.data.length = a1.data.length
        · replace hq28 := if_t hq28 h119
          refine OW.slot (.bool false) (congrArg Value.bool (congrArg (fun b => !b) (decide_eq_true h119))) ?_
          refine OW.want rfl ?_
          refine OW.rv (RV.field rfl rfl rfl rfl) rfl ?_
          refine OW.want rfl ?_
          refine OW.rv (RV.load rfl (List.Mem.tail _ (List.Mem.head _)) rfl rfl rfl rfl) rfl ?_
          refine OW.want rfl ?_
          refine OW.rv (RV.len rfl rfl) rfl ?_
          refine OW.want rfl ?_
          refine OW.rv (RV.field rfl rfl rfl rfl) rfl ?_
          refine OW.want rfl ?_
          refine OW.rv (RV.load rfl (List.Mem.head _) rfl rfl rfl rfl) rfl ?_
          refine OW.want rfl ?_
          refine OW.rv (RV.len rfl rfl) rfl ?_
          refine OW.want rfl ?_
          refine OW.rv (RV.neq rfl rfl) rfl ?_
          refine OW.slot (.bool (!decide (a0.items.length = a1.items.length))) (congrArg (fun b => Value.bool (!b)) (decide_eq_decide.2 (by omega))) ?_
          refine OW.rv (RV.pick_f rfl rfl rfl) rfl ?_
          refine OW.nil ?_
          exact QW.join ⟨(!decide (a0.items.length = a1.items.length)), (Option.some.inj hq28).symm, rfl, rfl⟩ ⟨rfl, rfl, rfl, trivial⟩ (fun w m => m.pick [0, 1] 2 rfl rfl)
        · replace hq28 := if_f hq28 h119
          refine OW.slot (.bool true) (congrArg Value.bool (congrArg (fun b => !b) (decide_eq_false h119))) ?_
          refine OW.skip rfl rfl rfl ?_
          refine OW.skip rfl rfl rfl ?_
          refine OW.skip rfl rfl rfl ?_
          refine OW.skip rfl rfl rfl ?_
          refine OW.skip rfl rfl rfl ?_
          refine OW.skip rfl rfl rfl ?_
          refine OW.skip rfl rfl rfl ?_
          refine OW.rv (RV.pick_t rfl rfl rfl) rfl ?_
          refine OW.nil ?_
          exact QW.join ⟨true, (Option.some.inj hq28).symm, rfl, rfl⟩ ⟨rfl, rfl, rfl, trivial⟩ (fun w m => m.pick [0, 1] 2 rfl rfl)
      · replace hq28 := if_f hq28 h118
        refine OW.slot (.bool true) (congrArg Value.bool (congrArg (fun b => !b) (decide_eq_false h118))) ?_
        refine OW.skip rfl rfl rfl ?_
        refine OW.skip rfl rfl rfl ?_
        refine OW.skip rfl rfl rfl ?_
        refine OW.skip rfl rfl rfl ?_
        refine OW.skip rfl rfl rfl ?_
        refine OW.skip rfl rfl rfl ?_
        refine OW.skip rfl rfl rfl ?_
        refine OW.rv (RV.pick_t rfl rfl rfl) rfl ?_
        refine OW.rv (RV.move rfl) rfl ?_
        refine OW.skip rfl rfl rfl ?_
        refine OW.skip rfl rfl rfl ?_
        refine OW.skip rfl rfl rfl ?_
        refine OW.skip rfl rfl rfl ?_
        refine OW.skip rfl rfl rfl ?_
        refine OW.skip rfl rfl rfl ?_
        refine OW.skip rfl rfl rfl ?_
        refine OW.rv (RV.pick_t rfl rfl rfl) rfl ?_
        refine OW.nil ?_
        exact QW.join ⟨true, (Option.some.inj hq28).symm, rfl, rfl⟩ ⟨rfl, rfl, rfl, trivial⟩ (fun w m => m.pick [0, 1] 2 rfl rfl)
theorem waybillref07_Same_does (w0 : World) (Φ : Ctx) (N : List Ent) (hΦ : ∀ w, Mem w0 w N → Φ w) (cs0_ : List Value) (a0 : It) (cs1_ : List Value) (a1 : It) (res0 : Bool) (ha0 : ItRd Φ cs0_ a0) (ha1 : ItRd Φ cs1_ a1) (hf : waybillref07_Same a0 a1 = some res0) : DoesG Try.prog 17 [.agg cs0_.toArray, .agg cs1_.toArray] w0 [] N (fun v G => v = .bool res0) := waybillref07_Same_rec w0 _ Φ N hΦ cs0_ a0 cs1_ a1 res0 ha0 ha1 hf

theorem rlp_cut_does (w0 : World) (Φ : Ctx) (N : List Ent) (hΦ : ∀ w, Mem w0 w N → Φ w) (A0_ : Option Addr) (c0_ : Nat) (a0 : List (BitVec 8)) (res0 : Bool) (res1 : List (BitVec 8)) (res2 : List (BitVec 8)) (res3 : Nat) (va0 : View Φ A0_ a0.length c0_ 1 (u8s a0)) (hf : rlp_cut a0 = some (res0, res1, res2, res3)) : DoesG Try.prog 75 [.slice A0_ a0.length c0_] w0 [] N (fun v G => ∃ B : List Ent, ∃ Ar1 : Option Addr, ∃ kr1 : Nat, ∃ Ar2 : Option Addr, ∃ kr2 : Nat, (View (More w0 Φ B) Ar1 res1.length kr1 1 (u8s res1)) ∧ (View (More w0 Φ B) Ar2 res2.length kr2 1 (u8s res2)) ∧ (res3 ≤ 9223372036854775807) ∧ v = .tuple #[.bool res0, .slice Ar1 res1.length kr1, .slice Ar2 res2.length kr2, .int .i64 ((res3 : Nat) : Int)] ∧ G = B) := by
  unfold rlp_cut at hf
  replace va0 := va0.mono (Ψ := More w0 Φ []) (fun w q => q.1)
  have m1 := va0.mx
  refine DoesG.enter Try.func75 rfl Try.ntmps75 rfl (M := (([] ++ N))) rfl ?_
  refine CW.seq ?_
  refine CW.region ?_
  refine OW.rv (RV.assign rfl) rfl ?_
  refine OW.rv (RV.assign rfl) rfl ?_
  refine OW.rv (RV.assign rfl) rfl ?_
  refine OW.rv (RV.assign rfl) rfl ?_
  refine OW.nil ?_
  refine QW.then_n ?_
  refine CW.seq ?_
  refine CW.seq ?_
  refine CW.region ?_
  refine OW.rv (RV.move rfl) rfl ?_
  refine OW.rv (RV.len rfl rfl) rfl ?_
  refine OW.rv (RV.eql rfl rfl) rfl ?_
  refine OW.slot (.bool (decide (a0.length = 0))) (congrArg Value.bool (decide_eq_decide.2 (by omega))) ?_
  refine OW.nil ?_
  refine QW.then_n ?_
  by_cases h2 : a0.length = 0
  · replace hf := if_t hf h2
    refine CW.is_t rfl (decide_eq_true h2) ?_
    refine CW.seq ?_
    refine CW.region ?_
    refine OW.rv (RV.assign rfl) rfl ?_
    refine OW.rv (RV.assign rfl) rfl ?_
    refine OW.rv (RV.assign rfl) rfl ?_
    refine OW.rv (RV.assign rfl) rfl ?_
    refine OW.nil ?_
    refine QW.then_n ?_
    refine CW.ret ?_
    refine QW.then_r ?_
    have er0 := Option.some.inj hf
    obtain ⟨e0, er1⟩ := Prod.mk.inj er0
    clear er0
    obtain ⟨e1, er2⟩ := Prod.mk.inj er1
    clear er1
    obtain ⟨e2, er3⟩ := Prod.mk.inj er2
    clear er2
    subst e0
    subst e1
    subst e2
    subst er3
    refine QW.retG (rs := [.tmp 2, .tmp 3, .tmp 4, .tmp 5]) ([.bool false, .slice none 0 0, .slice none 0 0, .int .i64 (70 : Int)]) ([]) rfl ?_ rfl ?_ ?_ _ (.inl rfl)
    · exact ⟨rfl, rfl, rfl, rfl, trivial⟩
    · exact ⟨[], none, 0, none, 0, View.nil, View.nil, (by omega), rfl, rfl⟩
    · exact (fun w m => m.pick [] 0 rfl rfl)
  · replace hf := if_f hf h2
    refine CW.is_f rfl (decide_eq_false h2) ?_
    refine CW.skip ?_
    refine QW.then_n ?_
    refine CW.seq ?_
    refine CW.region ?_
    refine OW.rv (RV.move rfl) rfl ?_
    obtain ⟨x3, hx4, hf⟩ := some_bind hf
    have hl5 := lt_of_at hx4
    refine OW.rv (RV.idx_r (0) rfl rfl rfl rfl rfl (va0.isSome (by decide) hl5) (by omega)) rfl ?_
    refine OW.rv (RV.load_at rfl rfl rfl (fun w m => va0.cell (More.of hΦ 0 m rfl) (u8s_at hx4))) rfl ?_
    refine OW.rv (RV.assign rfl) rfl ?_
    refine OW.nil ?_
    refine QW.then_n ?_
    refine CW.seq ?_
    refine CW.seq ?_
    refine CW.region ?_
    refine OW.rv (RV.move rfl) rfl ?_
    refine OW.rv (RV.lss rfl rfl) rfl ?_
    refine OW.slot (.bool (decide (x3.toNat < 128))) (congrArg Value.bool (decide_eq_decide.2 (by first | omega | (simp; omega) | simp))) ?_
    refine OW.nil ?_
    refine QW.then_n ?_
    by_cases h6 : x3.toNat < 128
    · replace hf := if_t hf h6
      refine CW.is_t rfl (decide_eq_true h6) ?_
      refine CW.seq ?_
      refine CW.drawsU 8 mixed (by kernel_rfl) rfl ?_
      refine UW.rv 0 rfl (by kernel_rfl) rfl (RV.move rfl) rfl ?_
      obtain ⟨g8, hf⟩ := some_if hf
      have hle := va0.le
      have hlen_ : a0.length = a0.length := rfl
      refine UW.rv 1 rfl (by kernel_rfl) rfl (RV.cut_hi (1) rfl rfl (by omega) rfl rfl (by omega)) rfl ?_
      refine UW.slot (.slice A0_ (a0.take 1).length c0_) (by rw [show ((a0.take 1)).length = 1 from List.length_take.trans (Nat.min_eq_left (by omega))]) ?_
      have v7 : View (More w0 Φ []) A0_ (a0.take 1).length c0_ 1 (u8s (a0.take 1)) := va0.hi8 (by omega)
      have m9 := v7.mx
      refine UW.rv 2 rfl (by kernel_rfl) rfl (RV.move rfl) rfl ?_
      refine UW.rv 3 rfl (by kernel_rfl) rfl (RV.cut_lo (s := 1) (1) rfl rfl (by omega) rfl rfl (by omega)) rfl ?_
      refine UW.slot (.slice (subA A0_ c0_ 1 1) (a0.drop 1).length (c0_ - 1)) (by rw [show ((a0.drop 1)).length = (a0).length - (1) from List.length_drop]) ?_
      have v10 : View (More w0 Φ []) (subA A0_ c0_ 1 1) (a0.drop 1).length (c0_ - 1) 1 (u8s (a0.drop 1)) := va0.lo8 (by omega)
      have m11 := v10.mx
      refine UW.rv 4 rfl (by kernel_rfl) rfl (RV.assign rfl) rfl ?_
      refine UW.rv 5 rfl (by kernel_rfl) rfl (RV.assign rfl) rfl ?_
      refine UW.rv 6 rfl (by kernel_rfl) rfl (RV.assign rfl) rfl ?_
      refine UW.rv 7 rfl (by kernel_rfl) rfl (RV.assign rfl) rfl ?_
      refine UW.nil (by kernel_rfl) ?_
      refine OW.nil ?_
      refine QW.then_n ?_
      refine CW.ret ?_
      refine QW.then_r ?_
      have er0 := Option.some.inj hf
      obtain ⟨e0, er1⟩ := Prod.mk.inj er0
      clear er0
      obtain ⟨e1, er2⟩ := Prod.mk.inj er1
      clear er1
      obtain ⟨e2, er3⟩ := Prod.mk.inj er2
      clear er2
      subst e0
      subst e1
      subst e2
      subst er3
      refine QW.retG (rs := [.tmp 2, .tmp 3, .tmp 4, .tmp 5]) ([.bool false, .slice A0_ (a0.take 1).length c0_, .slice (subA A0_ c0_ 1 1) (a0.drop 1).length (c0_ - 1), .int .i64 (0 : Int)]) ([]) rfl ?_ rfl ?_ ?_ _ (.inl rfl)
      · exact ⟨rfl, rfl, rfl, rfl, trivial⟩
      · exact ⟨[], A0_, c0_, (subA A0_ c0_ 1 1), (c0_ - 1), v7, v10, (by omega), rfl, rfl⟩
      · exact (fun w m => m.pick [] 0 rfl rfl)
    · replace hf := if_f hf h6
      refine CW.is_f rfl (decide_eq_false h6) ?_
      refine CW.skip ?_
      refine QW.then_n ?_
      refine CW.seq ?_
      refine CW.region ?_
      refine OW.rv (RV.move rfl) rfl ?_
      refine OW.rv (RV.geq rfl rfl) rfl ?_
      refine OW.slot (.bool (decide (192 ≤ x3.toNat))) (congrArg Value.bool (decide_eq_decide.2 (by first | omega | (simp; omega) | simp))) ?_
      refine OW.rv (RV.assign rfl) rfl ?_
      refine OW.nil ?_
      refine QW.then_n ?_
      refine CW.seq ?_
      refine CW.region ?_
      refine OW.rv (RV.move rfl) rfl ?_
      refine OW.rv (RV.sub8 rfl (by first | rfl | exact lit8 _ rfl) rfl (by first | rfl | exact lit8 _ rfl)) rfl ?_
      refine OW.rv (RV.conv8_i rfl (by first | rfl | exact lit8 _ rfl) rfl rfl) rfl ?_
      have m12 := ((x3 - 128#8)).isLt
      refine OW.rv (RV.assign rfl) rfl ?_
      refine OW.nil ?_
      refine QW.then_n ?_
      refine CW.seq ?_
      refine CW.seq ?_
      refine CW.region ?_
      refine OW.rv (RV.move rfl) rfl ?_
      refine OW.nil ?_
      refine QW.then_n ?_
      obtain ⟨q13, hq14, hf⟩ := some_bind hf
      refine CW.cutJ (fun L' M' => ∃ n15 : Nat, q13 = n15 ∧ (n15 ≤ 9223372036854775807) ∧ L' = [(0, .slice A0_ a0.length c0_), (2, .bool (decide (192 ≤ x3.toNat))), (7, .int .i64 ((n15 : Nat) : Int))] ∧ M' = (([] ++ N))) ?_ ?_
      · rintro L18 M19 ⟨n15, e17, b16, e20, e21⟩
        rw [e20, e21]
        clear e20 e21 L18 M19
        clear hq14
        rw [e17] at hf
        clear e17
        try dsimp only at hf
        refine QW.then_n ?_
        refine CW.seq ?_
        refine CW.region ?_
        refine OW.rv (RV.move rfl) rfl ?_
        obtain ⟨g23, hf⟩ := some_if hf
        refine OW.rv (RV.cut_lo (s := 1) (1) rfl rfl (by omega) rfl rfl (by omega)) rfl ?_
        refine OW.slot (.slice (subA A0_ c0_ 1 1) (a0.drop 1).length (c0_ - 1)) (by rw [show ((a0.drop 1)).length = (a0).length - (1) from List.length_drop]) ?_
        have v22 : View (More w0 Φ []) (subA A0_ c0_ 1 1) (a0.drop 1).length (c0_ - 1) 1 (u8s (a0.drop 1)) := va0.lo8 (by omega)
        have m24 := v22.mx
        refine OW.rv (RV.assign rfl) rfl ?_
        refine OW.nil ?_
        refine QW.then_n ?_
        refine CW.seq ?_
        refine CW.seq ?_
        refine CW.region ?_
        refine OW.rv (RV.move rfl) rfl ?_
        refine OW.rv (RV.gtr rfl rfl) rfl ?_
        refine OW.slot (.bool (decide (55 < n15))) (congrArg Value.bool (decide_eq_decide.2 (by omega))) ?_
        refine OW.nil ?_
        refine QW.then_n ?_
        obtain ⟨q25, hq26, hf⟩ := some_bind hf
        refine CW.cutJ (fun L' M' => ∃ l27 : List (BitVec 8), ∃ n31 : Nat, ∃ A28 : Option Addr, ∃ c29 : Nat, q25 = Lp.go (l27, n31) ∧ (View (More w0 Φ []) A28 l27.length c29 1 (u8s l27)) ∧ (n31 ≤ 9223372036854775807) ∧ L' = [(0, .slice A28 l27.length c29), (2, .bool (decide (192 ≤ x3.toNat))), (7, .int .i64 ((n31 : Nat) : Int))] ∧ M' = (([] ++ N))) ?_ ?_
        · rintro L34 M35 ⟨l27, n31, A28, c29, e33, v30, b32, e36, e37⟩
          rw [e36, e37]
          clear e36 e37 L34 M35
          clear hq26
          rw [e33] at hf
          clear e33
          try dsimp only at hf
          have m38 := v30.mx
          refine QW.then_n ?_
          refine CW.seq ?_
          refine CW.seq ?_
          refine CW.region ?_
          refine OW.rv (RV.move rfl) rfl ?_
          refine OW.rv (RV.len rfl rfl) rfl ?_
          refine OW.rv (RV.move rfl) rfl ?_
          refine OW.rv (RV.lss rfl rfl) rfl ?_
          refine OW.slot (.bool (decide (l27.length < n31))) (congrArg Value.bool (decide_eq_decide.2 (by omega))) ?_
          refine OW.nil ?_
          refine QW.then_n ?_
          by_cases h39 : l27.length < n31
          · replace hf := if_t hf h39
            refine CW.is_t rfl (decide_eq_true h39) ?_
            refine CW.seq ?_
            refine CW.region ?_
            refine OW.rv (RV.assign rfl) rfl ?_
            refine OW.rv (RV.assign rfl) rfl ?_
            refine OW.rv (RV.assign rfl) rfl ?_
            refine OW.rv (RV.assign rfl) rfl ?_
            refine OW.nil ?_
            refine QW.then_n ?_
            refine CW.ret ?_
            refine QW.then_r ?_
            have er0 := Option.some.inj hf
            obtain ⟨e0, er1⟩ := Prod.mk.inj er0
            clear er0
            obtain ⟨e1, er2⟩ := Prod.mk.inj er1
            clear er1
            obtain ⟨e2, er3⟩ := Prod.mk.inj er2
            clear er2
            subst e0
            subst e1
            subst e2
            subst er3
            refine QW.retG (rs := [.tmp 2, .tmp 3, .tmp 4, .tmp 5]) ([.bool false, .slice none 0 0, .slice none 0 0, .int .i64 (70 : Int)]) ([]) rfl ?_ rfl ?_ ?_ _ (.inl rfl)
            · exact ⟨rfl, rfl, rfl, rfl, trivial⟩
            · exact ⟨[], none, 0, none, 0, View.nil, View.nil, (by omega), rfl, rfl⟩
            · exact (fun w m => m.pick [] 0 rfl rfl)
          · replace hf := if_f hf h39
            refine CW.is_f rfl (decide_eq_false h39) ?_
            refine CW.skip ?_
            refine QW.then_n ?_
            refine CW.seq ?_
            refine CW.seq ?_
            obtain ⟨q40, hq41, hf⟩ := some_bind hf
            refine CW.cutJ (fun L' M' => ∃ p42 : Bool, q40 = p42 ∧ L' = [(0, .slice A28 l27.length c29), (2, .bool (decide (192 ≤ x3.toNat))), (7, .int .i64 ((n31 : Nat) : Int)), (87, .bool (p42))] ∧ M' = (([] ++ N))) ?_ ?_
            · rintro L44 M45 ⟨p42, e43, e46, e47⟩
              rw [e46, e47]
              clear e46 e47 L44 M45
              clear hq41
              rw [e43] at hf
              clear e43
              try dsimp only at hf
              refine QW.then_n ?_
              by_cases h48 : p42 = true
              · replace hf := if_t hf h48
                refine CW.is_t rfl (h48) ?_
                refine CW.seq ?_
                refine CW.region ?_
                refine OW.rv (RV.assign rfl) rfl ?_
                refine OW.rv (RV.assign rfl) rfl ?_
                refine OW.rv (RV.assign rfl) rfl ?_
                refine OW.rv (RV.assign rfl) rfl ?_
                refine OW.nil ?_
                refine QW.then_n ?_
                refine CW.ret ?_
                refine QW.then_r ?_
                have er0 := Option.some.inj hf
                obtain ⟨e0, er1⟩ := Prod.mk.inj er0
                clear er0
                obtain ⟨e1, er2⟩ := Prod.mk.inj er1
                clear er1
                obtain ⟨e2, er3⟩ := Prod.mk.inj er2
                clear er2
                subst e0
                subst e1
                subst e2
                subst er3
                refine QW.retG (rs := [.tmp 2, .tmp 3, .tmp 4, .tmp 5]) ([.bool false, .slice none 0 0, .slice none 0 0, .int .i64 (71 : Int)]) ([]) rfl ?_ rfl ?_ ?_ _ (.inl rfl)
                · exact ⟨rfl, rfl, rfl, rfl, trivial⟩
                · exact ⟨[], none, 0, none, 0, View.nil, View.nil, (by omega), rfl, rfl⟩
                · exact (fun w m => m.pick [] 0 rfl rfl)
              · replace hf := if_f hf h48
                refine CW.is_f rfl (Bool.eq_false_iff.2 h48) ?_
                refine CW.skip ?_
                refine QW.then_n ?_
                refine CW.seq ?_
                refine CW.drawsU 11 mixed (by kernel_rfl) rfl ?_
                refine UW.rv 0 rfl (by kernel_rfl) rfl (RV.move rfl) rfl ?_
                refine UW.rv 1 rfl (by kernel_rfl) rfl (RV.move rfl) rfl ?_
                refine UW.rv 2 rfl (by kernel_rfl) rfl (RV.move rfl) rfl ?_
                obtain ⟨g50, hf⟩ := some_if hf
                have hle := v30.le
                have hlen_ : l27.length = l27.length := rfl
                refine UW.rv 3 rfl (by kernel_rfl) rfl (RV.cut_hi (n31) rfl rfl (by omega) rfl rfl (by omega)) rfl ?_
                refine UW.slot (.slice A28 (l27.take n31).length c29) (by rw [show ((l27.take n31)).length = n31 from List.length_take.trans (Nat.min_eq_left (by omega))]) ?_
                have v49 : View (More w0 Φ []) A28 (l27.take n31).length c29 1 (u8s (l27.take n31)) := v30.hi8 (by omega)
                have m51 := v49.mx
                refine UW.rv 4 rfl (by kernel_rfl) rfl (RV.move rfl) rfl ?_
                refine UW.rv 5 rfl (by kernel_rfl) rfl (RV.move rfl) rfl ?_
                refine UW.rv 6 rfl (by kernel_rfl) rfl (RV.cut_lo (s := 1) (n31) rfl rfl (by omega) rfl rfl (by omega)) rfl ?_
                refine UW.slot (.slice (subA A28 c29 n31 1) (l27.drop n31).length (c29 - n31)) (by rw [show ((l27.drop n31)).length = (l27).length - (n31) from List.length_drop]) ?_
                have v52 : View (More w0 Φ []) (subA A28 c29 n31 1) (l27.drop n31).length (c29 - n31) 1 (u8s (l27.drop n31)) := v30.lo8 (by omega)
                have m53 := v52.mx
                refine UW.rv 7 rfl (by kernel_rfl) rfl (RV.assign rfl) rfl ?_
                refine UW.rv 8 rfl (by kernel_rfl) rfl (RV.assign rfl) rfl ?_
                refine UW.rv 9 rfl (by kernel_rfl) rfl (RV.assign rfl) rfl ?_
                refine UW.rv 10 rfl (by kernel_rfl) rfl (RV.assign rfl) rfl ?_
                refine UW.nil (by kernel_rfl) ?_
                refine OW.nil ?_
                refine QW.then_n ?_
                refine CW.ret ?_
                have er0 := Option.some.inj hf
                obtain ⟨e0, er1⟩ := Prod.mk.inj er0
                clear er0
                obtain ⟨e1, er2⟩ := Prod.mk.inj er1
                clear er1
                obtain ⟨e2, er3⟩ := Prod.mk.inj er2
                clear er2
                subst e0
                subst e1
                subst e2
                subst er3
                refine QW.retG (rs := [.tmp 2, .tmp 3, .tmp 4, .tmp 5]) ([.bool (decide (192 ≤ x3.toNat)), .slice A28 (l27.take n31).length c29, .slice (subA A28 c29 n31 1) (l27.drop n31).length (c29 - n31), .int .i64 (0 : Int)]) ([]) rfl ?_ rfl ?_ ?_ _ (.inl rfl)
                · exact ⟨rfl, rfl, rfl, rfl, trivial⟩
                · exact ⟨[], A28, c29, (subA A28 c29 n31 1), (c29 - n31), v49, v52, (by omega), rfl, rfl⟩
                · exact (fun w m => m.pick [] 0 rfl rfl)
            · skip
              refine CW.region ?_
              refine OW.rv (RV.move rfl) rfl ?_
              refine OW.rv (RV.not rfl) rfl ?_
              refine OW.rv (RV.move rfl) rfl ?_
              by_cases h54 : 192 ≤ x3.toNat
              · replace hq41 := if_t hq41 h54
                refine OW.slot (.bool false) (congrArg Value.bool (congrArg (fun b => !b) (decide_eq_true h54))) ?_
                refine OW.skip rfl rfl rfl ?_
                refine OW.skip rfl rfl rfl ?_
                refine OW.rv (RV.pick_f rfl rfl rfl) rfl ?_
                refine OW.rv (RV.move rfl) rfl ?_
                refine OW.skip rfl rfl rfl ?_
                refine OW.skip rfl rfl rfl ?_
                refine OW.skip rfl rfl rfl ?_
                refine OW.skip rfl rfl rfl ?_
                refine OW.rv (RV.pick_f rfl rfl rfl) rfl ?_
                refine OW.nil ?_
                exact QW.join ⟨false, (Option.some.inj hq41).symm, rfl, rfl⟩ ⟨rfl, rfl, rfl, rfl, trivial⟩ (fun w m => m.pick [] 0 rfl rfl)
              · replace hq41 := if_f hq41 h54
                refine OW.slot (.bool true) (congrArg Value.bool (congrArg (fun b => !b) (decide_eq_false h54))) ?_
                refine OW.want rfl ?_
                refine OW.rv (RV.move rfl) rfl ?_
                refine OW.want rfl ?_
                refine OW.rv (RV.eql rfl rfl) rfl ?_
                refine OW.slot (.bool (decide (n31 = 1))) (congrArg Value.bool (decide_eq_decide.2 (by omega))) ?_
                refine OW.rv (RV.pick_t rfl rfl rfl) rfl ?_
                refine OW.rv (RV.move rfl) rfl ?_
                by_cases h55 : n31 = 1
                · replace hq41 := if_t hq41 h55
                  refine OW.slot (.bool true) (congrArg Value.bool (decide_eq_true h55)) ?_
                  refine OW.want rfl ?_
                  refine OW.rv (RV.move rfl) rfl ?_
                  refine OW.want rfl ?_
                  obtain ⟨x56, hx57, hq41⟩ := some_bind hq41
                  have hl58 := lt_of_at hx57
                  refine OW.rv (RV.idx_r (0) rfl rfl rfl rfl rfl (v30.isSome (by decide) hl58) (by omega)) rfl ?_
                  refine OW.want rfl ?_
                  refine OW.rv (RV.load_at rfl rfl rfl (fun w m => v30.cell (More.of hΦ 0 m rfl) (u8s_at hx57))) rfl ?_
                  refine OW.want rfl ?_
                  refine OW.rv (RV.lss rfl rfl) rfl ?_
                  refine OW.slot (.bool (decide (x56.toNat < 128))) (congrArg Value.bool (decide_eq_decide.2 (by first | omega | (simp; omega) | simp))) ?_
                  refine OW.rv (RV.pick_t rfl rfl rfl) rfl ?_
                  refine OW.nil ?_
                  exact QW.join ⟨(decide (x56.toNat < 128)), (Option.some.inj hq41).symm, rfl, rfl⟩ ⟨rfl, rfl, rfl, rfl, trivial⟩ (fun w m => m.pick [] 0 rfl rfl)
                · replace hq41 := if_f hq41 h55
                  refine OW.slot (.bool false) (congrArg Value.bool (decide_eq_false h55)) ?_
                  refine OW.skip rfl rfl rfl ?_
                  refine OW.skip rfl rfl rfl ?_
                  refine OW.skip rfl rfl rfl ?_
                  refine OW.skip rfl rfl rfl ?_
                  refine OW.rv (RV.pick_f rfl rfl rfl) rfl ?_
                  refine OW.nil ?_
                  exact QW.join ⟨false, (Option.some.inj hq41).symm, rfl, rfl⟩ ⟨rfl, rfl, rfl, rfl, trivial⟩ (fun w m => m.pick [] 0 rfl rfl)
        · skip
          by_cases h59 : 55 < n15
          · replace hq26 := if_t hq26 h59
            refine CW.is_t rfl (decide_eq_true h59) ?_
            refine CW.seq ?_
            refine CW.region ?_
            refine OW.rv (RV.move rfl) rfl ?_
            refine OW.rv (RV.sub rfl rfl (by omega)) rfl ?_
            refine OW.slot (.int .i64 ((n15 - 55 : Nat) : Int)) (by congr 1; omega) ?_
            refine OW.rv (RV.assign rfl) rfl ?_
            refine OW.nil ?_
            refine QW.then_n ?_
            refine CW.seq ?_
            refine CW.seq ?_
            refine CW.region ?_
            refine OW.rv (RV.move rfl) rfl ?_
            refine OW.rv (RV.len rfl rfl) rfl ?_
            refine OW.rv (RV.move rfl) rfl ?_
            refine OW.rv (RV.lss rfl rfl) rfl ?_
            refine OW.slot (.bool (decide ((a0.drop 1).length < (n15 - 55)))) (congrArg Value.bool (decide_eq_decide.2 (by omega))) ?_
            refine OW.nil ?_
            refine QW.then_n ?_
            by_cases h60 : (a0.drop 1).length < (n15 - 55)
            · replace hq26 := if_t hq26 h60
              refine CW.is_t rfl (decide_eq_true h60) ?_
              refine CW.seq ?_
              refine CW.region ?_
              refine OW.rv (RV.assign rfl) rfl ?_
              refine OW.rv (RV.assign rfl) rfl ?_
              refine OW.rv (RV.assign rfl) rfl ?_
              refine OW.rv (RV.assign rfl) rfl ?_
              refine OW.nil ?_
              refine QW.then_n ?_
              refine CW.ret ?_
              refine QW.then_r ?_
              refine QW.then_r ?_
              have hc := Option.some.inj hq26
              subst hc
              try dsimp only at hf
              refine QW.then_r ?_
              have er0 := Option.some.inj hf
              obtain ⟨e0, er1⟩ := Prod.mk.inj er0
              clear er0
              obtain ⟨e1, er2⟩ := Prod.mk.inj er1
              clear er1
              obtain ⟨e2, er3⟩ := Prod.mk.inj er2
              clear er2
              subst e0
              subst e1
              subst e2
              subst er3
              refine QW.retG (rs := [.tmp 2, .tmp 3, .tmp 4, .tmp 5]) ([.bool false, .slice none 0 0, .slice none 0 0, .int .i64 (70 : Int)]) ([]) rfl ?_ rfl ?_ ?_ _ (.inl rfl)
              · exact ⟨rfl, rfl, rfl, rfl, trivial⟩
              · exact ⟨[], none, 0, none, 0, View.nil, View.nil, (by omega), rfl, rfl⟩
              · exact (fun w m => m.pick [] 0 rfl rfl)
            · replace hq26 := if_f hq26 h60
              refine CW.is_f rfl (decide_eq_false h60) ?_
              refine CW.skip ?_
              refine QW.then_n ?_
              refine CW.seq ?_
              refine CW.region ?_
              refine OW.rv (RV.move rfl) rfl ?_
              refine OW.rv (RV.move rfl) rfl ?_
              obtain ⟨g62, hq26⟩ := some_if hq26
              have hle := v22.le
              have hlen_ : (a0.drop 1).length = (a0.drop 1).length := rfl
              refine OW.rv (RV.cut_hi ((n15 - 55)) rfl rfl (by omega) rfl rfl (by omega)) rfl ?_
              refine OW.slot (.slice (subA A0_ c0_ 1 1) ((a0.drop 1).take (n15 - 55)).length (c0_ - 1)) (by rw [show (((a0.drop 1).take (n15 - 55))).length = (n15 - 55) from List.length_take.trans (Nat.min_eq_left (by omega))]) ?_
              have v61 : View (More w0 Φ []) (subA A0_ c0_ 1 1) ((a0.drop 1).take (n15 - 55)).length (c0_ - 1) 1 (u8s ((a0.drop 1).take (n15 - 55))) := v22.hi8 (by omega)
              have m63 := v61.mx
              obtain ⟨⟨x65, x66⟩, hx64, hq26⟩ := some_bind hq26
              try dsimp only at hq26
              refine OW.callG Try.call92 rfl (u256_Get_does w0 (More w0 Φ []) (([] ++ N)) (fun w m => More.of hΦ 0 m rfl) (subA A0_ c0_ 1 1) (c0_ - 1) ((a0.drop 1).take (n15 - 55)) x65 x66 v61 hx64) rfl rfl ?_
              rintro _ G68 ⟨b67, rfl⟩
              refine OW.mem (M' := (([] ++ N))) (fun w m => m.appR) ?_
              refine OW.rv (RV.move rfl) rfl ?_
              refine OW.rv (RV.extract rfl rfl) rfl ?_
              refine OW.slot (.agg (u64s x65.toList).toArray) (rfl) ?_
              refine OW.rv (RV.extract rfl rfl) rfl ?_
              refine OW.slot (.int .i64 ((x66 : Nat) : Int)) (rfl) ?_
              refine OW.alloc (l := (u64s (Vector.replicate 4 0#64).toList)) rfl (by rw [Vector.toList_replicate, ← u64s_rep]; rfl) rfl (fun b70 => ?_)
              refine OW.sv (SV.storeW rfl rfl rfl (u64s_one _) rfl ((u64s_length _).trans Vector.length_toList) ((u64s_length _).trans Vector.length_toList)) ?_
              refine OW.rv (RV.assign rfl) rfl ?_
              refine OW.nil ?_
              refine QW.then_n ?_
              refine CW.seq ?_
              refine CW.seq ?_
              obtain ⟨q71, hq72, hq26⟩ := some_bind hq26
              refine CW.cutJ (fun L' M' => ∃ p73 : Bool, q71 = p73 ∧ L' = [(0, .slice (subA A0_ c0_ 1 1) (a0.drop 1).length (c0_ - 1)), (2, .bool (decide (192 ≤ x3.toNat))), (8, .int .i64 ((n15 - 55 : Nat) : Int)), (9, ptr (some b70) 0), (58, .bool (p73))] ∧ M' = ((some b70, blk (u64s x65.toList) 25) :: ([] ++ N))) ?_ ?_
              · rintro L75 M76 ⟨p73, e74, e77, e78⟩
                rw [e77, e78]
                clear e77 e78 L75 M76
                clear hq72
                rw [e74] at hq26
                clear e74
                try dsimp only at hq26
                refine QW.then_n ?_
                by_cases h79 : p73 = true
                · replace hq26 := if_t hq26 h79
                  refine CW.is_t rfl (h79) ?_
                  refine CW.seq ?_
                  refine CW.region ?_
                  refine OW.rv (RV.assign rfl) rfl ?_
                  refine OW.rv (RV.assign rfl) rfl ?_
                  refine OW.rv (RV.assign rfl) rfl ?_
                  refine OW.rv (RV.assign rfl) rfl ?_
                  refine OW.nil ?_
                  refine QW.then_n ?_
                  refine CW.ret ?_
                  refine QW.then_r ?_
                  refine QW.then_r ?_
                  have hc := Option.some.inj hq26
                  subst hc
                  try dsimp only at hf
                  refine QW.then_r ?_
                  have er0 := Option.some.inj hf
                  obtain ⟨e0, er1⟩ := Prod.mk.inj er0
                  clear er0
                  obtain ⟨e1, er2⟩ := Prod.mk.inj er1
                  clear er1
                  obtain ⟨e2, er3⟩ := Prod.mk.inj er2
                  clear er2
                  subst e0
                  subst e1
                  subst e2
                  subst er3
                  refine QW.retG (rs := [.tmp 2, .tmp 3, .tmp 4, .tmp 5]) ([.bool false, .slice none 0 0, .slice none 0 0, .int .i64 (72 : Int)]) ([]) rfl ?_ rfl ?_ ?_ _ (.inl rfl)
                  · exact ⟨rfl, rfl, rfl, rfl, trivial⟩
                  · exact ⟨[], none, 0, none, 0, View.nil, View.nil, (by omega), rfl, rfl⟩
                  · exact (fun w m => m.pick [] 1 rfl rfl)
                · replace hq26 := if_f hq26 h79
                  refine CW.is_f rfl (Bool.eq_false_iff.2 h79) ?_
                  refine CW.skip ?_
                  refine QW.then_n ?_
                  refine CW.seq ?_
                  refine CW.region ?_
                  refine OW.rv (RV.move rfl) rfl ?_
                  refine OW.rv (RV.move rfl) rfl ?_
                  refine OW.rv (RV.cut_lo (s := 1) ((n15 - 55)) rfl rfl (by omega) rfl rfl (by omega)) rfl ?_
                  refine OW.slot (.slice (subA (subA A0_ c0_ 1 1) (c0_ - 1) (n15 - 55) 1) ((a0.drop 1).drop (n15 - 55)).length ((c0_ - 1) - (n15 - 55))) (by rw [show (((a0.drop 1).drop (n15 - 55))).length = ((a0.drop 1)).length - ((n15 - 55)) from List.length_drop]) ?_
                  have v80 : View (More w0 Φ []) (subA (subA A0_ c0_ 1 1) (c0_ - 1) (n15 - 55) 1) ((a0.drop 1).drop (n15 - 55)).length ((c0_ - 1) - (n15 - 55)) 1 (u8s ((a0.drop 1).drop (n15 - 55))) := v22.lo8 (by omega)
                  have m81 := v80.mx
                  refine OW.rv (RV.assign rfl) rfl ?_
                  refine OW.nil ?_
                  refine QW.then_n ?_
                  refine CW.seq ?_
                  refine CW.seq ?_
                  refine CW.drawsU 7 mixed (by kernel_rfl) rfl ?_
                  refine UW.rv 0 rfl (by kernel_rfl) rfl (RV.loadW rfl (List.Mem.head _) rfl rfl rfl rfl ((u64s_length _).trans Vector.length_toList)) rfl ?_
                  refine UW.rv 1 rfl (by kernel_rfl) rfl (RV.move rfl) rfl ?_
                  refine UW.rv 2 rfl (by kernel_rfl) rfl (RV.len rfl rfl) rfl ?_
                  refine UW.rv 3 rfl (by kernel_rfl) rfl (RV.conv_i64 rfl rfl rfl) rfl ?_
                  refine UW.slot (U64 (BitVec.ofNat 64 (((a0.drop 1).drop (n15 - 55)).length))) (congrArg U64 (BitVec.ofInt_natCast ..)) ?_
                  obtain ⟨x83, hx82, hq26⟩ := some_bind hq26
                  refine UW.callG 4 rfl (by kernel_rfl) rfl Try.call66 rfl (fun N' hN' => u256_From_does w0 (More w0 Φ []) N' (fun w m => More.of hΦ 1 (hN' w m) rfl) (BitVec.ofNat 64 (((a0.drop 1).drop (n15 - 55)).length)) x83 hx82) rfl ?_
                  rintro _ G84 rfl
                  refine UW.mem (M' := ((some b70, blk (u64s x65.toList) 25) :: ([] ++ N))) (fun w m => m.appR) ?_
                  obtain ⟨x87, hx86, hq26⟩ := some_bind hq26
                  refine UW.callG 5 rfl (by kernel_rfl) rfl Try.call93 rfl (fun N' hN' => u256_Cmp_does w0 (More w0 Φ []) N' (fun w m => More.of hΦ 1 (hN' w m) rfl) x65 x83 x87 hx86) rfl ?_
                  rintro _ G89 ⟨b88, rfl⟩
                  refine UW.mem (M' := ((some b70, blk (u64s x65.toList) 25) :: ([] ++ N))) (fun w m => m.appR) ?_
                  refine UW.rv 6 rfl (by kernel_rfl) rfl (RV.gtr rfl rfl) rfl ?_
                  refine UW.nil (by kernel_rfl) ?_
                  refine OW.nil ?_
                  refine QW.then_n ?_
                  by_cases h91 : (0 : Int) < x87
                  · replace hq26 := if_t hq26 h91
                    refine CW.is_t rfl (decide_eq_true h91) ?_
                    refine CW.seq ?_
                    refine CW.region ?_
                    refine OW.rv (RV.assign rfl) rfl ?_
                    refine OW.rv (RV.assign rfl) rfl ?_
                    refine OW.rv (RV.assign rfl) rfl ?_
                    refine OW.rv (RV.assign rfl) rfl ?_
                    refine OW.nil ?_
                    refine QW.then_n ?_
                    refine CW.ret ?_
                    refine QW.then_r ?_
                    refine QW.then_r ?_
                    have hc := Option.some.inj hq26
                    subst hc
                    try dsimp only at hf
                    refine QW.then_r ?_
                    have er0 := Option.some.inj hf
                    obtain ⟨e0, er1⟩ := Prod.mk.inj er0
                    clear er0
                    obtain ⟨e1, er2⟩ := Prod.mk.inj er1
                    clear er1
                    obtain ⟨e2, er3⟩ := Prod.mk.inj er2
                    clear er2
                    subst e0
                    subst e1
                    subst e2
                    subst er3
                    refine QW.retG (rs := [.tmp 2, .tmp 3, .tmp 4, .tmp 5]) ([.bool false, .slice none 0 0, .slice none 0 0, .int .i64 (70 : Int)]) ([]) rfl ?_ rfl ?_ ?_ _ (.inl rfl)
                    · exact ⟨rfl, rfl, rfl, rfl, trivial⟩
                    · exact ⟨[], none, 0, none, 0, View.nil, View.nil, (by omega), rfl, rfl⟩
                    · exact (fun w m => m.pick [] 1 rfl rfl)
                  · replace hq26 := if_f hq26 h91
                    refine CW.is_f rfl (decide_eq_false h91) ?_
                    refine CW.skip ?_
                    refine QW.then_n ?_
                    refine CW.region ?_
                    refine OW.rv (RV.idx_a (0) rfl rfl rfl rfl rfl (by omega)) rfl ?_
                    refine OW.rv (RV.load rfl (List.Mem.head _) rfl rfl rfl (u64s_at (vat' (by decide)))) rfl ?_
                    obtain ⟨g92, hq26⟩ := some_if hq26
                    refine OW.rv (RV.conv64_i rfl (by first | rfl | exact lit64 _ rfl) rfl rfl (by first | omega | (simp; omega))) rfl ?_
                    have m93 := (x65[0]).isLt
                    refine OW.rv (RV.assign rfl) rfl ?_
                    refine OW.nil ?_
                    exact QW.join ⟨((a0.drop 1).drop (n15 - 55)), (x65[0]).toNat, (subA (subA A0_ c0_ 1 1) (c0_ - 1) (n15 - 55) 1), ((c0_ - 1) - (n15 - 55)), (Option.some.inj hq26).symm, v80, (by omega), rfl, rfl⟩ ⟨rfl, rfl, rfl, trivial⟩ (fun w m => m.pick [] 1 rfl rfl)
              · skip
                refine CW.drawsU 10 mixed (by kernel_rfl) rfl ?_
                refine UW.rv 0 rfl (by kernel_rfl) rfl (RV.move rfl) rfl ?_
                obtain ⟨x94, hx95, hq72⟩ := some_bind hq72
                have hl96 := lt_of_at hx95
                refine UW.rv 1 rfl (by kernel_rfl) rfl (RV.idx_r (0) rfl rfl rfl rfl rfl (v22.isSome (by decide) hl96) (by omega)) rfl ?_
                refine UW.rv 2 rfl (by kernel_rfl) rfl (RV.load_at rfl rfl rfl (fun w m => v22.cell (More.of hΦ 1 m rfl) (u8s_at hx95))) rfl ?_
                refine UW.rv 3 rfl (by kernel_rfl) rfl (RV.eql8 rfl (by first | rfl | exact lit8 _ rfl) rfl (by first | rfl | exact lit8 _ rfl)) rfl ?_
                refine UW.rv 4 rfl (by kernel_rfl) rfl (RV.move rfl) rfl ?_
                by_cases h97 : x94 = 0#8
                · replace hq72 := if_t hq72 h97
                  refine UW.slot (.bool true) (congrArg Value.bool (decide_eq_true h97)) ?_
                  refine UW.skip 5 rfl (by kernel_rfl) rfl rfl ?_
                  refine UW.skip 6 rfl (by kernel_rfl) rfl rfl ?_
                  refine UW.skip 7 rfl (by kernel_rfl) rfl rfl ?_
                  refine UW.skip 8 rfl (by kernel_rfl) rfl rfl ?_
                  refine UW.rv 9 rfl (by kernel_rfl) rfl (RV.pick_t rfl rfl rfl) rfl ?_
                  refine UW.nil (by kernel_rfl) ?_
                  refine OW.nil ?_
                  exact QW.join ⟨true, (Option.some.inj hq72).symm, rfl, rfl⟩ ⟨rfl, rfl, rfl, rfl, rfl, trivial⟩ (fun w m => m.pick [0] 1 rfl rfl)
                · replace hq72 := if_f hq72 h97
                  refine UW.slot (.bool false) (congrArg Value.bool (decide_eq_false h97)) ?_
                  refine UW.rv 5 rfl (by kernel_rfl) rfl (RV.loadW rfl (List.Mem.head _) rfl rfl rfl rfl ((u64s_length _).trans Vector.length_toList)) rfl ?_
                  obtain ⟨x99, hx98, hq72⟩ := some_bind hq72
                  refine UW.callG 6 rfl (by kernel_rfl) rfl Try.call66 rfl (fun N' hN' => u256_From_does w0 (More w0 Φ []) N' (fun w m => More.of hΦ 1 (hN' w m) rfl) (55#64) x99 hx98) rfl ?_
                  rintro _ G100 rfl
                  refine UW.mem (M' := ((some b70, blk (u64s x65.toList) 25) :: ([] ++ N))) (fun w m => m.appR) ?_
                  obtain ⟨x103, hx102, hq72⟩ := some_bind hq72
                  refine UW.callG 7 rfl (by kernel_rfl) rfl Try.call93 rfl (fun N' hN' => u256_Cmp_does w0 (More w0 Φ []) N' (fun w m => More.of hΦ 1 (hN' w m) rfl) x65 x99 x103 hx102) rfl ?_
                  rintro _ G105 ⟨b104, rfl⟩
                  refine UW.mem (M' := ((some b70, blk (u64s x65.toList) 25) :: ([] ++ N))) (fun w m => m.appR) ?_
                  refine UW.rv 8 rfl (by kernel_rfl) rfl (RV.leq rfl rfl) rfl ?_
                  refine UW.rv 9 rfl (by kernel_rfl) rfl (RV.pick_f rfl rfl rfl) rfl ?_
                  refine UW.nil (by kernel_rfl) ?_
                  refine OW.nil ?_
                  exact QW.join ⟨(decide (x103 ≤ (0 : Int))), (Option.some.inj hq72).symm, rfl, rfl⟩ ⟨rfl, rfl, rfl, rfl, rfl, trivial⟩ (fun w m => m.pick [0] 1 rfl rfl)
          · replace hq26 := if_f hq26 h59
            refine CW.is_f rfl (decide_eq_false h59) ?_
            refine CW.skip ?_
            exact QW.join ⟨(a0.drop 1), n15, (subA A0_ c0_ 1 1), (c0_ - 1), (Option.some.inj hq26).symm, v22, (by omega), rfl, rfl⟩ ⟨rfl, rfl, rfl, trivial⟩ (fun w m => m.pick [] 0 rfl rfl)
      · skip
        by_cases h107 : 192 ≤ x3.toNat
        · replace hq14 := if_t hq14 h107
          refine CW.is_t rfl (decide_eq_true h107) ?_
          refine CW.region ?_
          refine OW.rv (RV.move rfl) rfl ?_
          refine OW.rv (RV.sub8 rfl (by first | rfl | exact lit8 _ rfl) rfl (by first | rfl | exact lit8 _ rfl)) rfl ?_
          refine OW.rv (RV.conv8_i rfl (by first | rfl | exact lit8 _ rfl) rfl rfl) rfl ?_
          have m108 := ((x3 - 192#8)).isLt
          refine OW.rv (RV.assign rfl) rfl ?_
          refine OW.nil ?_
          exact QW.join ⟨(x3 - 192#8).toNat, (Option.some.inj hq14).symm, (by omega), rfl, rfl⟩ ⟨rfl, rfl, rfl, trivial⟩ (fun w m => m.pick [] 0 rfl rfl)
        · replace hq14 := if_f hq14 h107
          refine CW.is_f rfl (decide_eq_false h107) ?_
          refine CW.skip ?_
          exact QW.join ⟨(x3 - 128#8).toNat, (Option.some.inj hq14).symm, (by omega), rfl, rfl⟩ ⟨rfl, rfl, rfl, trivial⟩ (fun w m => m.pick [] 0 rfl rfl)

theorem waybillref07_head_does (w0 : World) (Φ : Ctx) (N : List Ent) (hΦ : ∀ w, Mem w0 w N → Φ w) (A0_ : Option Addr) (c0_ : Nat) (a0 : List (BitVec 8)) (a1 : Nat) (a2 : Nat) (res0 : Hd) (res1 : Nat) (va0 : View Φ A0_ a0.length c0_ 1 (u8s a0)) (ba1 : a1 ≤ 9223372036854775807) (ba2 : a2 ≤ 9223372036854775807) (hf : waybillref07_head a0 a1 a2 = some (res0, res1)) : DoesG Try.prog 76 [.slice A0_ a0.length c0_, .int .i64 ((a1 : Nat) : Int), .int .i64 ((a2 : Nat) : Int)] w0 [] N (fun v G => ∃ B : List Ent, ∃ cr0 : List Value, (HdRd (More w0 Φ B) cr0 res0) ∧ (res1 ≤ 9223372036854775807) ∧ v = .tuple #[.agg cr0.toArray, .int .i64 ((res1 : Nat) : Int)] ∧ G = B) := by
  unfold waybillref07_head at hf
  replace va0 := va0.mono (Ψ := More w0 Φ []) (fun w q => q.1)
  have m1 := va0.mx
  refine DoesG.enter Try.func76 rfl Try.ntmps76 rfl (M := (([] ++ N))) rfl ?_
  refine CW.seq ?_
  refine CW.region ?_
  refine OW.alloc (l := [.bool false, .int .i64 (0 : Int), .int .i64 (0 : Int)]) rfl rfl rfl (fun b2 => ?_)
  refine OW.rv (RV.assign rfl) rfl ?_
  refine OW.nil ?_
  refine QW.then_n ?_
  refine CW.seq ?_
  refine CW.seq ?_
  refine CW.region ?_
  refine OW.rv (RV.move rfl) rfl ?_
  refine OW.rv (RV.move rfl) rfl ?_
  refine OW.rv (RV.geq rfl rfl) rfl ?_
  refine OW.slot (.bool (decide (a2 ≤ a1))) (congrArg Value.bool (decide_eq_decide.2 (by omega))) ?_
  refine OW.nil ?_
  refine QW.then_n ?_
  by_cases h3 : a2 ≤ a1
  · replace hf := if_t hf h3
    refine CW.is_t rfl (decide_eq_true h3) ?_
    refine CW.seq ?_
    refine CW.region ?_
    refine OW.rv (RV.buildSt (l := [.bool false, .int .i64 (0 : Int), .int .i64 (0 : Int)]) (cs := [.bool false, .int .i64 (0 : Int), .int .i64 (0 : Int)]) [] rfl rfl rfl rfl rfl rfl rfl) rfl ?_
    refine OW.sv (SV.storeW rfl rfl rfl (by intro u hu; simp at hu; rcases hu with rfl | rfl | rfl <;> rfl) rfl rfl rfl) ?_
    refine OW.rv (RV.assign rfl) rfl ?_
    refine OW.nil ?_
    refine QW.then_n ?_
    refine CW.ret ?_
    refine QW.then_r ?_
    have er0 := Option.some.inj hf
    obtain ⟨e0, er1⟩ := Prod.mk.inj er0
    clear er0
    subst e0
    subst er1
    have h4 : HdRd (More w0 Φ []) [.bool false, .int .i64 (0 : Int), .int .i64 (0 : Int)] (Hd.mk false 0 0) := by refine HdRd.mk ?_ ?_ <;> (first | omega | (dsimp only; omega)| (simp; done) | (show 0 ≤ 9223372036854775807; omega))
    refine QW.retG (rs := [.cell 6 105, .tmp 7]) ([.agg [.bool false, .int .i64 (0 : Int), .int .i64 (0 : Int)].toArray, .int .i64 (70 : Int)]) ([]) rfl ?_ rfl ?_ ?_ _ (.inl rfl)
    · exact ⟨⟨_, _, _, _, rfl, (List.Mem.head _), rfl, rfl, rfl, rfl⟩, rfl, trivial⟩
    · exact ⟨[], [.bool false, .int .i64 (0 : Int), .int .i64 (0 : Int)], h4, (by omega), rfl, rfl⟩
    · exact (fun w m => m.pick [] 1 rfl rfl)
  · replace hf := if_f hf h3
    refine CW.is_f rfl (decide_eq_false h3) ?_
    refine CW.skip ?_
    refine QW.then_n ?_
    refine CW.seq ?_
    refine CW.region ?_
    refine OW.rv (RV.move rfl) rfl ?_
    refine OW.rv (RV.move rfl) rfl ?_
    obtain ⟨x5, hx6, hf⟩ := some_bind hf
    have hl7 := lt_of_at hx6
    refine OW.rv (RV.idx_r (a1) rfl rfl rfl rfl rfl (va0.isSome (by decide) hl7) (by omega)) rfl ?_
    refine OW.rv (RV.load_at rfl rfl rfl (fun w m => va0.cell (More.of hΦ 1 m rfl) (u8s_at hx6))) rfl ?_
    refine OW.rv (RV.conv8_i rfl (by first | rfl | exact lit8 _ rfl) rfl rfl) rfl ?_
    have m8 := (x5).isLt
    refine OW.rv (RV.assign rfl) rfl ?_
    refine OW.nil ?_
    refine QW.then_n ?_
    refine CW.seq ?_
    refine CW.seq ?_
    refine CW.region ?_
    refine OW.rv (RV.move rfl) rfl ?_
    refine OW.rv (RV.lss rfl rfl) rfl ?_
    refine OW.slot (.bool (decide (x5.toNat < 128))) (congrArg Value.bool (decide_eq_decide.2 (by omega))) ?_
    refine OW.nil ?_
    refine QW.then_n ?_
    by_cases h9 : x5.toNat < 128
    · replace hf := if_t hf h9
      refine CW.is_t rfl (decide_eq_true h9) ?_
      refine CW.seq ?_
      refine CW.region ?_
      refine OW.rv (RV.move rfl) rfl ?_
      refine OW.rv (RV.move rfl) rfl ?_
      refine OW.rv (RV.add rfl rfl (by omega)) rfl ?_
      refine OW.slot (.int .i64 (((a1 + 1) : Nat) : Int)) (by first | rfl | (congr 1) | (congr 1; omega)) ?_
      refine OW.rv (RV.buildSt (l := [.bool false, .int .i64 (0 : Int), .int .i64 (0 : Int)]) (cs := [.bool false, .int .i64 ((a1 : Nat) : Int), .int .i64 (((a1 + 1) : Nat) : Int)]) [(1, [.int .i64 ((a1 : Nat) : Int)]), (2, [.int .i64 (((a1 + 1) : Nat) : Int)])] rfl rfl rfl rfl rfl rfl rfl) rfl ?_
      refine OW.sv (SV.storeW rfl rfl rfl (by intro u hu; simp at hu; rcases hu with rfl | rfl | rfl <;> rfl) rfl rfl rfl) ?_
      refine OW.rv (RV.assign rfl) rfl ?_
      refine OW.nil ?_
      refine QW.then_n ?_
      refine CW.ret ?_
      refine QW.then_r ?_
      have er0 := Option.some.inj hf
      obtain ⟨e0, er1⟩ := Prod.mk.inj er0
      clear er0
      subst e0
      subst er1
      have h10 : HdRd (More w0 Φ []) [.bool false, .int .i64 ((a1 : Nat) : Int), .int .i64 (((a1 + 1) : Nat) : Int)] (Hd.mk false a1 (a1 + 1)) := by refine HdRd.mk ?_ ?_ <;> (first | omega | (dsimp only; omega)| (simp; done) | (show 0 ≤ 9223372036854775807; omega))
      refine QW.retG (rs := [.cell 6 105, .tmp 7]) ([.agg [.bool false, .int .i64 ((a1 : Nat) : Int), .int .i64 (((a1 + 1) : Nat) : Int)].toArray, .int .i64 (0 : Int)]) ([]) rfl ?_ rfl ?_ ?_ _ (.inl rfl)
      · exact ⟨⟨_, _, _, _, rfl, (List.Mem.head _), rfl, rfl, rfl, rfl⟩, rfl, trivial⟩
      · exact ⟨[], [.bool false, .int .i64 ((a1 : Nat) : Int), .int .i64 (((a1 + 1) : Nat) : Int)], h10, (by omega), rfl, rfl⟩
      · exact (fun w m => m.pick [] 1 rfl rfl)
    · replace hf := if_f hf h9
      refine CW.is_f rfl (decide_eq_false h9) ?_
      refine CW.skip ?_
      refine QW.then_n ?_
      refine CW.seq ?_
      refine CW.region ?_
      refine OW.rv (RV.move rfl) rfl ?_
      refine OW.rv (RV.geq rfl rfl) rfl ?_
      refine OW.slot (.bool (decide (192 ≤ x5.toNat))) (congrArg Value.bool (decide_eq_decide.2 (by omega))) ?_
      refine OW.rv (RV.move rfl) rfl ?_
      refine OW.rv (RV.add rfl rfl (by omega)) rfl ?_
      refine OW.slot (.int .i64 (((a1 + 1) : Nat) : Int)) (by first | rfl | (congr 1) | (congr 1; omega)) ?_
      refine OW.rv (RV.buildSt (l := [.bool false, .int .i64 (0 : Int), .int .i64 (0 : Int)]) (cs := [.bool (decide (192 ≤ x5.toNat)), .int .i64 (((a1 + 1) : Nat) : Int), .int .i64 (0 : Int)]) [(0, [.bool (decide (192 ≤ x5.toNat))]), (1, [.int .i64 (((a1 + 1) : Nat) : Int)])] rfl rfl rfl rfl rfl rfl rfl) rfl ?_
      refine OW.alloc (l := [.bool false, .int .i64 (0 : Int), .int .i64 (0 : Int)]) rfl rfl rfl (fun b11 => ?_)
      refine OW.sv (SV.storeW rfl rfl rfl (by intro u hu; simp at hu; rcases hu with rfl | rfl | rfl <;> rfl) rfl rfl rfl) ?_
      refine OW.nil ?_
      refine QW.then_n ?_
      refine CW.seq ?_
      refine CW.region ?_
      refine OW.rv (RV.move rfl) rfl ?_
      refine OW.rv (RV.rem rfl rfl (by omega) (by omega)) rfl ?_
      refine OW.slot (.int .i64 ((x5.toNat % 64 : Nat) : Int)) (by first | rfl | (congr 1; omega)) ?_
      refine OW.rv (RV.assign rfl) rfl ?_
      refine OW.nil ?_
      refine QW.then_n ?_
      refine CW.seq ?_
      refine CW.seq ?_
      refine CW.region ?_
      refine OW.rv (RV.move rfl) rfl ?_
      refine OW.rv (RV.gtr rfl rfl) rfl ?_
      refine OW.slot (.bool (decide (55 < (x5.toNat % 64)))) (congrArg Value.bool (decide_eq_decide.2 (by omega))) ?_
      refine OW.nil ?_
      refine QW.then_n ?_
      obtain ⟨q12, hq13, hf⟩ := some_bind hf
      refine CW.cutJ (fun L' M' => ∃ n14 : Nat, ∃ p16 : Bool, ∃ n17 : Nat, ∃ n19 : Nat, q12 = Lp.go (n14, p16, n17, n19) ∧ (n14 ≤ 9223372036854775807) ∧ (n17 ≤ 9223372036854775807) ∧ (n19 ≤ 9223372036854775807) ∧ L' = [(0, .slice A0_ a0.length c0_), (2, .int .i64 ((a2 : Nat) : Int)), (6, ptr (some b2) 0), (9, ptr (some b11) 0), (10, .int .i64 ((n14 : Nat) : Int))] ∧ M' = ((some b11, blk [.bool (p16), .int .i64 ((n17 : Nat) : Int), .int .i64 ((n19 : Nat) : Int)] 105) :: (some b2, blk [.bool false, .int .i64 (0 : Int), .int .i64 (0 : Int)] 105) :: ([] ++ N))) ?_ ?_
      · rintro L22 M23 ⟨n14, p16, n17, n19, e21, b15, b18, b20, e24, e25⟩
        rw [e24, e25]
        clear e24 e25 L22 M23
        clear hq13
        rw [e21] at hf
        clear e21
        try dsimp only at hf
        refine QW.then_n ?_
        refine CW.seq ?_
        refine CW.seq ?_
        refine CW.region ?_
        refine OW.rv (RV.move rfl) rfl ?_
        refine OW.rv (RV.move rfl) rfl ?_
        refine OW.rv (RV.field rfl rfl rfl rfl) rfl ?_
        refine OW.rv (RV.load rfl (List.Mem.head _) rfl rfl rfl rfl) rfl ?_
        refine OW.rv (RV.sub rfl rfl (by omega)) rfl ?_
        refine OW.rv (RV.gtr rfl rfl) rfl ?_
        refine OW.nil ?_
        refine QW.then_n ?_
        by_cases h26 : (((a2 : Nat) : Int) - ((n17 : Nat) : Int)) < ((n14 : Nat) : Int)
        · replace hf := if_t hf h26
          refine CW.is_t rfl (decide_eq_true h26) ?_
          refine CW.seq ?_
          refine CW.region ?_
          refine OW.rv (RV.buildSt (l := [.bool false, .int .i64 (0 : Int), .int .i64 (0 : Int)]) (cs := [.bool false, .int .i64 (0 : Int), .int .i64 (0 : Int)]) [] rfl rfl rfl rfl rfl rfl rfl) rfl ?_
          refine OW.rot1 ?_
          refine OW.sv (SV.storeW rfl rfl rfl (by intro u hu; simp at hu; rcases hu with rfl | rfl | rfl <;> rfl) rfl rfl rfl) ?_
          refine OW.rv (RV.assign rfl) rfl ?_
          refine OW.nil ?_
          refine QW.then_n ?_
          refine CW.ret ?_
          refine QW.then_r ?_
          have er0 := Option.some.inj hf
          obtain ⟨e0, er1⟩ := Prod.mk.inj er0
          clear er0
          subst e0
          subst er1
          have h27 : HdRd (More w0 Φ []) [.bool false, .int .i64 (0 : Int), .int .i64 (0 : Int)] (Hd.mk false 0 0) := by refine HdRd.mk ?_ ?_ <;> (first | omega | (dsimp only; omega)| (simp; done) | (show 0 ≤ 9223372036854775807; omega))
          refine QW.retG (rs := [.cell 6 105, .tmp 7]) ([.agg [.bool false, .int .i64 (0 : Int), .int .i64 (0 : Int)].toArray, .int .i64 (70 : Int)]) ([]) rfl ?_ rfl ?_ ?_ _ (.inl rfl)
          · exact ⟨⟨_, _, _, _, rfl, (List.Mem.head _), rfl, rfl, rfl, rfl⟩, rfl, trivial⟩
          · exact ⟨[], [.bool false, .int .i64 (0 : Int), .int .i64 (0 : Int)], h27, (by omega), rfl, rfl⟩
          · exact (fun w m => m.pick [] 2 rfl rfl)
        · replace hf := if_f hf h26
          refine CW.is_f rfl (decide_eq_false h26) ?_
          refine CW.skip ?_
          refine QW.then_n ?_
          refine CW.seq ?_
          refine CW.region ?_
          refine OW.rv (RV.field rfl rfl rfl rfl) rfl ?_
          refine OW.rv (RV.load rfl (List.Mem.head _) rfl rfl rfl rfl) rfl ?_
          refine OW.rv (RV.move rfl) rfl ?_
          obtain ⟨g28, hf⟩ := some_if hf
          refine OW.rv (RV.add rfl rfl (by omega)) rfl ?_
          refine OW.slot (.int .i64 (((n17 + n14) : Nat) : Int)) (by first | rfl | (congr 1) | (congr 1; omega)) ?_
          refine OW.rv (RV.field rfl rfl rfl rfl) rfl ?_
          refine OW.sv (SV.store rfl rfl rfl rfl rfl (by simp)) ?_
          refine OW.cells [.bool (p16), .int .i64 ((n17 : Nat) : Int), .int .i64 (((n17 + n14) : Nat) : Int)] rfl ?_
          refine OW.nil ?_
          refine QW.then_n ?_
          refine CW.seq ?_
          refine CW.seq ?_
          obtain ⟨q29, hq30, hf⟩ := some_bind hf
          refine CW.cutJ (fun L' M' => ∃ p31 : Bool, q29 = p31 ∧ L' = [(6, ptr (some b2) 0), (9, ptr (some b11) 0), (116, .bool (p31))] ∧ M' = ((some b11, blk [.bool (p16), .int .i64 ((n17 : Nat) : Int), .int .i64 (((n17 + n14) : Nat) : Int)] 105) :: (some b2, blk [.bool false, .int .i64 (0 : Int), .int .i64 (0 : Int)] 105) :: ([] ++ N))) ?_ ?_
          · rintro L33 M34 ⟨p31, e32, e35, e36⟩
            rw [e35, e36]
            clear e35 e36 L33 M34
            clear hq30
            rw [e32] at hf
            clear e32
            try dsimp only at hf
            refine QW.then_n ?_
            by_cases h37 : p31 = true
            · replace hf := if_t hf h37
              refine CW.is_t rfl (h37) ?_
              refine CW.seq ?_
              refine CW.region ?_
              refine OW.rv (RV.buildSt (l := [.bool false, .int .i64 (0 : Int), .int .i64 (0 : Int)]) (cs := [.bool false, .int .i64 (0 : Int), .int .i64 (0 : Int)]) [] rfl rfl rfl rfl rfl rfl rfl) rfl ?_
              refine OW.rot1 ?_
              refine OW.sv (SV.storeW rfl rfl rfl (by intro u hu; simp at hu; rcases hu with rfl | rfl | rfl <;> rfl) rfl rfl rfl) ?_
              refine OW.rv (RV.assign rfl) rfl ?_
              refine OW.nil ?_
              refine QW.then_n ?_
              refine CW.ret ?_
              refine QW.then_r ?_
              have er0 := Option.some.inj hf
              obtain ⟨e0, er1⟩ := Prod.mk.inj er0
              clear er0
              subst e0
              subst er1
              have h38 : HdRd (More w0 Φ []) [.bool false, .int .i64 (0 : Int), .int .i64 (0 : Int)] (Hd.mk false 0 0) := by refine HdRd.mk ?_ ?_ <;> (first | omega | (dsimp only; omega)| (simp; done) | (show 0 ≤ 9223372036854775807; omega))
              refine QW.retG (rs := [.cell 6 105, .tmp 7]) ([.agg [.bool false, .int .i64 (0 : Int), .int .i64 (0 : Int)].toArray, .int .i64 (71 : Int)]) ([]) rfl ?_ rfl ?_ ?_ _ (.inl rfl)
              · exact ⟨⟨_, _, _, _, rfl, (List.Mem.head _), rfl, rfl, rfl, rfl⟩, rfl, trivial⟩
              · exact ⟨[], [.bool false, .int .i64 (0 : Int), .int .i64 (0 : Int)], h38, (by omega), rfl, rfl⟩
              · exact (fun w m => m.pick [] 2 rfl rfl)
            · replace hf := if_f hf h37
              refine CW.is_f rfl (Bool.eq_false_iff.2 h37) ?_
              refine CW.skip ?_
              refine QW.then_n ?_
              refine CW.seq ?_
              refine CW.region ?_
              refine OW.rv (RV.loadW rfl (List.Mem.head _) rfl rfl rfl rfl rfl) rfl ?_
              refine OW.rot1 ?_
              refine OW.sv (SV.storeW rfl rfl rfl (by intro u hu; simp at hu; rcases hu with rfl | rfl | rfl <;> rfl) rfl rfl rfl) ?_
              refine OW.rv (RV.assign rfl) rfl ?_
              refine OW.nil ?_
              refine QW.then_n ?_
              refine CW.ret ?_
              have er0 := Option.some.inj hf
              obtain ⟨e0, er1⟩ := Prod.mk.inj er0
              clear er0
              subst e0
              subst er1
              have h39 : HdRd (More w0 Φ []) [.bool (p16), .int .i64 ((n17 : Nat) : Int), .int .i64 (((n17 + n14) : Nat) : Int)] (Hd.mk (p16) n17 (n17 + n14)) := by refine HdRd.mk ?_ ?_ <;> (first | omega | (dsimp only; omega)| (simp; done) | (show 0 ≤ 9223372036854775807; omega))
              refine QW.retG (rs := [.cell 6 105, .tmp 7]) ([.agg [.bool (p16), .int .i64 ((n17 : Nat) : Int), .int .i64 (((n17 + n14) : Nat) : Int)].toArray, .int .i64 (0 : Int)]) ([]) rfl ?_ rfl ?_ ?_ _ (.inl rfl)
              · exact ⟨⟨_, _, _, _, rfl, (List.Mem.head _), rfl, rfl, rfl, rfl⟩, rfl, trivial⟩
              · exact ⟨[], [.bool (p16), .int .i64 ((n17 : Nat) : Int), .int .i64 (((n17 + n14) : Nat) : Int)], h39, (by omega), rfl, rfl⟩
              · exact (fun w m => m.pick [] 2 rfl rfl)
          · skip
            refine CW.region ?_
            refine OW.rv (RV.field rfl rfl rfl rfl) rfl ?_
            refine OW.rv (RV.load rfl (List.Mem.head _) rfl rfl rfl rfl) rfl ?_
            refine OW.rv (RV.not rfl) rfl ?_
            refine OW.rv (RV.move rfl) rfl ?_
            by_cases h40 : p16 = true
            · replace hq30 := if_t hq30 h40
              refine OW.slot (.bool false) (congrArg Value.bool (congrArg (fun b => !b) (h40))) ?_
              refine OW.skip rfl rfl rfl ?_
              refine OW.skip rfl rfl rfl ?_
              refine OW.rv (RV.pick_f rfl rfl rfl) rfl ?_
              refine OW.rv (RV.move rfl) rfl ?_
              refine OW.skip rfl rfl rfl ?_
              refine OW.skip rfl rfl rfl ?_
              refine OW.skip rfl rfl rfl ?_
              refine OW.skip rfl rfl rfl ?_
              refine OW.skip rfl rfl rfl ?_
              refine OW.skip rfl rfl rfl ?_
              refine OW.rv (RV.pick_f rfl rfl rfl) rfl ?_
              refine OW.nil ?_
              exact QW.join ⟨false, (Option.some.inj hq30).symm, rfl, rfl⟩ ⟨rfl, rfl, rfl, trivial⟩ (fun w m => m.pick [0, 1] 2 rfl rfl)
            · replace hq30 := if_f hq30 h40
              refine OW.slot (.bool true) (congrArg Value.bool (congrArg (fun b => !b) (Bool.eq_false_iff.2 h40))) ?_
              refine OW.want rfl ?_
              refine OW.rv (RV.move rfl) rfl ?_
              refine OW.want rfl ?_
              refine OW.rv (RV.eql rfl rfl) rfl ?_
              refine OW.slot (.bool (decide (n14 = 1))) (congrArg Value.bool (decide_eq_decide.2 (by omega))) ?_
              refine OW.rv (RV.pick_t rfl rfl rfl) rfl ?_
              refine OW.rv (RV.move rfl) rfl ?_
              by_cases h41 : n14 = 1
              · replace hq30 := if_t hq30 h41
                refine OW.slot (.bool true) (congrArg Value.bool (decide_eq_true h41)) ?_
                refine OW.want rfl ?_
                refine OW.rv (RV.move rfl) rfl ?_
                refine OW.want rfl ?_
                refine OW.rv (RV.field rfl rfl rfl rfl) rfl ?_
                refine OW.want rfl ?_
                refine OW.rv (RV.load rfl (List.Mem.head _) rfl rfl rfl rfl) rfl ?_
                refine OW.want rfl ?_
                obtain ⟨x42, hx43, hq30⟩ := some_bind hq30
                have hl44 := lt_of_at hx43
                refine OW.rv (RV.idx_r (n17) rfl rfl rfl rfl rfl (va0.isSome (by decide) hl44) (by omega)) rfl ?_
                refine OW.want rfl ?_
                refine OW.rv (RV.load_at rfl rfl rfl (fun w m => va0.cell (More.of hΦ 2 m rfl) (u8s_at hx43))) rfl ?_
                refine OW.want rfl ?_
                refine OW.rv (RV.lss rfl rfl) rfl ?_
                refine OW.slot (.bool (decide (x42.toNat < 128))) (congrArg Value.bool (decide_eq_decide.2 (by first | omega | (simp; omega) | simp))) ?_
                refine OW.rv (RV.pick_t rfl rfl rfl) rfl ?_
                refine OW.nil ?_
                exact QW.join ⟨(decide (x42.toNat < 128)), (Option.some.inj hq30).symm, rfl, rfl⟩ ⟨rfl, rfl, rfl, trivial⟩ (fun w m => m.pick [0, 1] 2 rfl rfl)
              · replace hq30 := if_f hq30 h41
                refine OW.slot (.bool false) (congrArg Value.bool (decide_eq_false h41)) ?_
                refine OW.skip rfl rfl rfl ?_
                refine OW.skip rfl rfl rfl ?_
                refine OW.skip rfl rfl rfl ?_
                refine OW.skip rfl rfl rfl ?_
                refine OW.skip rfl rfl rfl ?_
                refine OW.skip rfl rfl rfl ?_
                refine OW.rv (RV.pick_f rfl rfl rfl) rfl ?_
                refine OW.nil ?_
                exact QW.join ⟨false, (Option.some.inj hq30).symm, rfl, rfl⟩ ⟨rfl, rfl, rfl, trivial⟩ (fun w m => m.pick [0, 1] 2 rfl rfl)
      · skip
        by_cases h45 : 55 < (x5.toNat % 64)
        · replace hq13 := if_t hq13 h45
          refine CW.is_t rfl (decide_eq_true h45) ?_
          refine CW.seq ?_
          refine CW.region ?_
          refine OW.rv (RV.move rfl) rfl ?_
          refine OW.rv (RV.sub rfl rfl (by omega)) rfl ?_
          refine OW.slot (.int .i64 (((x5.toNat % 64) - 55 : Nat) : Int)) (by congr 1; omega) ?_
          refine OW.rv (RV.assign rfl) rfl ?_
          refine OW.nil ?_
          refine QW.then_n ?_
          refine CW.seq ?_
          refine CW.seq ?_
          refine CW.region ?_
          refine OW.rv (RV.move rfl) rfl ?_
          refine OW.rv (RV.field rfl rfl rfl rfl) rfl ?_
          refine OW.rv (RV.load rfl (List.Mem.head _) rfl rfl rfl rfl) rfl ?_
          refine OW.rv (RV.sub rfl rfl (by omega)) rfl ?_
          refine OW.rv (RV.move rfl) rfl ?_
          refine OW.rv (RV.lss rfl rfl) rfl ?_
          refine OW.nil ?_
          refine QW.then_n ?_
          by_cases h46 : (((a2 : Nat) : Int) - (((a1 + 1) : Nat) : Int)) < (((x5.toNat % 64) - 55 : Nat) : Int)
          · replace hq13 := if_t hq13 h46
            refine CW.is_t rfl (decide_eq_true h46) ?_
            refine CW.seq ?_
            refine CW.region ?_
            refine OW.rv (RV.buildSt (l := [.bool false, .int .i64 (0 : Int), .int .i64 (0 : Int)]) (cs := [.bool false, .int .i64 (0 : Int), .int .i64 (0 : Int)]) [] rfl rfl rfl rfl rfl rfl rfl) rfl ?_
            refine OW.rot1 ?_
            refine OW.sv (SV.storeW rfl rfl rfl (by intro u hu; simp at hu; rcases hu with rfl | rfl | rfl <;> rfl) rfl rfl rfl) ?_
            refine OW.rv (RV.assign rfl) rfl ?_
            refine OW.nil ?_
            refine QW.then_n ?_
            refine CW.ret ?_
            refine QW.then_r ?_
            refine QW.then_r ?_
            have hc := Option.some.inj hq13
            subst hc
            try dsimp only at hf
            refine QW.then_r ?_
            have er0 := Option.some.inj hf
            obtain ⟨e0, er1⟩ := Prod.mk.inj er0
            clear er0
            subst e0
            subst er1
            have h47 : HdRd (More w0 Φ []) [.bool false, .int .i64 (0 : Int), .int .i64 (0 : Int)] (Hd.mk false 0 0) := by refine HdRd.mk ?_ ?_ <;> (first | omega | (dsimp only; omega)| (simp; done) | (show 0 ≤ 9223372036854775807; omega))
            refine QW.retG (rs := [.cell 6 105, .tmp 7]) ([.agg [.bool false, .int .i64 (0 : Int), .int .i64 (0 : Int)].toArray, .int .i64 (70 : Int)]) ([]) rfl ?_ rfl ?_ ?_ _ (.inl rfl)
            · exact ⟨⟨_, _, _, _, rfl, (List.Mem.head _), rfl, rfl, rfl, rfl⟩, rfl, trivial⟩
            · exact ⟨[], [.bool false, .int .i64 (0 : Int), .int .i64 (0 : Int)], h47, (by omega), rfl, rfl⟩
            · exact (fun w m => m.pick [] 2 rfl rfl)
          · replace hq13 := if_f hq13 h46
            refine CW.is_f rfl (decide_eq_false h46) ?_
            refine CW.skip ?_
            refine QW.then_n ?_
            refine CW.seq ?_
            refine CW.region ?_
            refine OW.rv (RV.move rfl) rfl ?_
            refine OW.rv (RV.field rfl rfl rfl rfl) rfl ?_
            refine OW.rv (RV.load rfl (List.Mem.head _) rfl rfl rfl rfl) rfl ?_
            refine OW.rv (RV.field rfl rfl rfl rfl) rfl ?_
            refine OW.rv (RV.load rfl (List.Mem.head _) rfl rfl rfl rfl) rfl ?_
            refine OW.rv (RV.move rfl) rfl ?_
            obtain ⟨g48, hq13⟩ := some_if hq13
            refine OW.rv (RV.add rfl rfl (by omega)) rfl ?_
            refine OW.slot (.int .i64 ((((a1 + 1) + ((x5.toNat % 64) - 55)) : Nat) : Int)) (by first | rfl | (congr 1) | (congr 1; omega)) ?_
            obtain ⟨g50, hq13⟩ := some_if hq13
            obtain ⟨g51, hq13⟩ := some_if hq13
            have hle := va0.le
            refine OW.rv (RV.cut_both (s := 1) ((a1 + 1)) (((a1 + 1) + ((x5.toNat % 64) - 55))) rfl rfl rfl (by omega) (by omega) rfl rfl (by omega) (by omega)) rfl ?_
            refine OW.slot (.slice (subA A0_ c0_ (a1 + 1) 1) ((a0.take ((a1 + 1) + ((x5.toNat % 64) - 55))).drop (a1 + 1)).length (c0_ - (a1 + 1))) (by rw [show (((a0.take ((a1 + 1) + ((x5.toNat % 64) - 55))).drop (a1 + 1))).length = (((a1 + 1) + ((x5.toNat % 64) - 55))) - ((a1 + 1)) from List.length_drop.trans (by rw [List.length_take, Nat.min_eq_left (by omega)])]) ?_
            have v49 : View (More w0 Φ []) (subA A0_ c0_ (a1 + 1) 1) ((a0.take ((a1 + 1) + ((x5.toNat % 64) - 55))).drop (a1 + 1)).length (c0_ - (a1 + 1)) 1 (u8s ((a0.take ((a1 + 1) + ((x5.toNat % 64) - 55))).drop (a1 + 1))) := va0.mid8 (by omega) (by omega)
            have m52 := v49.mx
            obtain ⟨⟨x54, x55⟩, hx53, hq13⟩ := some_bind hq13
            try dsimp only at hq13
            refine OW.callG Try.call91 rfl (waybillref01_Get_does w0 (More w0 Φ []) ((some b11, blk [.bool (decide (192 ≤ x5.toNat)), .int .i64 (((a1 + 1) : Nat) : Int), .int .i64 (0 : Int)] 105) :: (some b2, blk [.bool false, .int .i64 (0 : Int), .int .i64 (0 : Int)] 105) :: ([] ++ N)) (fun w m => More.of hΦ 2 m rfl) (subA A0_ c0_ (a1 + 1) 1) (c0_ - (a1 + 1)) ((a0.take ((a1 + 1) + ((x5.toNat % 64) - 55))).drop (a1 + 1)) x54 x55 v49 hx53) rfl rfl ?_
            rintro _ G57 ⟨b56, rfl⟩
            refine OW.mem (M' := ((some b11, blk [.bool (decide (192 ≤ x5.toNat)), .int .i64 (((a1 + 1) : Nat) : Int), .int .i64 (0 : Int)] 105) :: (some b2, blk [.bool false, .int .i64 (0 : Int), .int .i64 (0 : Int)] 105) :: ([] ++ N))) (fun w m => m.appR) ?_
            refine OW.rv (RV.move rfl) rfl ?_
            refine OW.rv (RV.extract rfl rfl) rfl ?_
            refine OW.slot (.agg (u64s x54.toList).toArray) (rfl) ?_
            refine OW.rv (RV.extract rfl rfl) rfl ?_
            refine OW.slot (.int .i64 ((x55 : Nat) : Int)) (rfl) ?_
            refine OW.alloc (l := (u64s (Vector.replicate 4 0#64).toList)) rfl (by rw [Vector.toList_replicate, ← u64s_rep]; rfl) rfl (fun b59 => ?_)
            refine OW.sv (SV.storeW rfl rfl rfl (u64s_one _) rfl ((u64s_length _).trans Vector.length_toList) ((u64s_length _).trans Vector.length_toList)) ?_
            refine OW.rv (RV.assign rfl) rfl ?_
            refine OW.nil ?_
            refine QW.then_n ?_
            refine CW.seq ?_
            refine CW.seq ?_
            obtain ⟨q60, hq61, hq13⟩ := some_bind hq13
            refine CW.cutJ (fun L' M' => ∃ p62 : Bool, q60 = p62 ∧ L' = [(0, .slice A0_ a0.length c0_), (2, .int .i64 ((a2 : Nat) : Int)), (6, ptr (some b2) 0), (9, ptr (some b11) 0), (11, .int .i64 (((x5.toNat % 64) - 55 : Nat) : Int)), (12, ptr (some b59) 0), (70, .bool (p62))] ∧ M' = ((some b59, blk (u64s x54.toList) 25) :: (some b11, blk [.bool (decide (192 ≤ x5.toNat)), .int .i64 (((a1 + 1) : Nat) : Int), .int .i64 (0 : Int)] 105) :: (some b2, blk [.bool false, .int .i64 (0 : Int), .int .i64 (0 : Int)] 105) :: ([] ++ N))) ?_ ?_
            · rintro L64 M65 ⟨p62, e63, e66, e67⟩
              rw [e66, e67]
              clear e66 e67 L64 M65
              clear hq61
              rw [e63] at hq13
              clear e63
              try dsimp only at hq13
              refine QW.then_n ?_
              by_cases h68 : p62 = true
              · replace hq13 := if_t hq13 h68
                refine CW.is_t rfl (h68) ?_
                refine CW.seq ?_
                refine CW.region ?_
                refine OW.rv (RV.buildSt (l := [.bool false, .int .i64 (0 : Int), .int .i64 (0 : Int)]) (cs := [.bool false, .int .i64 (0 : Int), .int .i64 (0 : Int)]) [] rfl rfl rfl rfl rfl rfl rfl) rfl ?_
                refine OW.rot2 ?_
                refine OW.sv (SV.storeW rfl rfl rfl (by intro u hu; simp at hu; rcases hu with rfl | rfl | rfl <;> rfl) rfl rfl rfl) ?_
                refine OW.rv (RV.assign rfl) rfl ?_
                refine OW.nil ?_
                refine QW.then_n ?_
                refine CW.ret ?_
                refine QW.then_r ?_
                refine QW.then_r ?_
                have hc := Option.some.inj hq13
                subst hc
                try dsimp only at hf
                refine QW.then_r ?_
                have er0 := Option.some.inj hf
                obtain ⟨e0, er1⟩ := Prod.mk.inj er0
                clear er0
                subst e0
                subst er1
                have h69 : HdRd (More w0 Φ []) [.bool false, .int .i64 (0 : Int), .int .i64 (0 : Int)] (Hd.mk false 0 0) := by refine HdRd.mk ?_ ?_ <;> (first | omega | (dsimp only; omega)| (simp; done) | (show 0 ≤ 9223372036854775807; omega))
                refine QW.retG (rs := [.cell 6 105, .tmp 7]) ([.agg [.bool false, .int .i64 (0 : Int), .int .i64 (0 : Int)].toArray, .int .i64 (72 : Int)]) ([]) rfl ?_ rfl ?_ ?_ _ (.inl rfl)
                · exact ⟨⟨_, _, _, _, rfl, (List.Mem.head _), rfl, rfl, rfl, rfl⟩, rfl, trivial⟩
                · exact ⟨[], [.bool false, .int .i64 (0 : Int), .int .i64 (0 : Int)], h69, (by omega), rfl, rfl⟩
                · exact (fun w m => m.pick [] 3 rfl rfl)
              · replace hq13 := if_f hq13 h68
                refine CW.is_f rfl (Bool.eq_false_iff.2 h68) ?_
                refine CW.skip ?_
                refine QW.then_n ?_
                refine CW.seq ?_
                refine CW.region ?_
                refine OW.rv (RV.field rfl rfl rfl rfl) rfl ?_
                refine OW.rv (RV.load rfl (List.Mem.tail _ (List.Mem.head _)) rfl rfl rfl rfl) rfl ?_
                refine OW.rv (RV.move rfl) rfl ?_
                refine OW.rv (RV.add rfl rfl (by omega)) rfl ?_
                refine OW.slot (.int .i64 ((((a1 + 1) + ((x5.toNat % 64) - 55)) : Nat) : Int)) (by first | rfl | (congr 1) | (congr 1; omega)) ?_
                refine OW.rv (RV.field rfl rfl rfl rfl) rfl ?_
                refine OW.rot1 ?_
                refine OW.sv (SV.store rfl rfl rfl rfl rfl (by simp)) ?_
                refine OW.cells [.bool (decide (192 ≤ x5.toNat)), .int .i64 ((((a1 + 1) + ((x5.toNat % 64) - 55)) : Nat) : Int), .int .i64 (0 : Int)] rfl ?_
                refine OW.nil ?_
                refine QW.then_n ?_
                refine CW.seq ?_
                refine CW.seq ?_
                refine CW.drawsU 9 mixed (by kernel_rfl) rfl ?_
                refine UW.rv 0 rfl (by kernel_rfl) rfl (RV.loadW rfl (List.Mem.tail _ (List.Mem.head _)) rfl rfl rfl rfl ((u64s_length _).trans Vector.length_toList)) rfl ?_
                refine UW.rv 1 rfl (by kernel_rfl) rfl (RV.move rfl) rfl ?_
                refine UW.rv 2 rfl (by kernel_rfl) rfl (RV.field rfl rfl rfl rfl) rfl ?_
                refine UW.rv 3 rfl (by kernel_rfl) rfl (RV.load rfl (List.Mem.head _) rfl rfl rfl rfl) rfl ?_
                refine UW.rv 4 rfl (by kernel_rfl) rfl (RV.sub rfl rfl (by omega)) rfl ?_
                refine UW.rv 5 rfl (by kernel_rfl) rfl (RV.conv_i64 rfl rfl rfl) rfl ?_
                obtain ⟨x71, hx70, hq13⟩ := some_bind hq13
                refine UW.callG 6 rfl (by kernel_rfl) rfl Try.call67 rfl (fun N' hN' => waybillref01_From_does w0 (More w0 Φ []) N' (fun w m => More.of hΦ 3 (hN' w m) rfl) (BitVec.ofInt 64 (((a2 : Nat) : Int) - ((((a1 + 1) + ((x5.toNat % 64) - 55)) : Nat) : Int))) x71 hx70) rfl ?_
                rintro _ G72 rfl
                refine UW.mem (M' := ((some b11, blk [.bool (decide (192 ≤ x5.toNat)), .int .i64 ((((a1 + 1) + ((x5.toNat % 64) - 55)) : Nat) : Int), .int .i64 (0 : Int)] 105) :: (some b59, blk (u64s x54.toList) 25) :: (some b2, blk [.bool false, .int .i64 (0 : Int), .int .i64 (0 : Int)] 105) :: ([] ++ N))) (fun w m => m.appR) ?_
                obtain ⟨x75, hx74, hq13⟩ := some_bind hq13
                refine UW.callG 7 rfl (by kernel_rfl) rfl Try.call94 rfl (fun N' hN' => waybillref01_Cmp_does w0 (More w0 Φ []) N' (fun w m => More.of hΦ 3 (hN' w m) rfl) x54 x71 x75 hx74) rfl ?_
                rintro _ G77 ⟨b76, rfl⟩
                refine UW.mem (M' := ((some b11, blk [.bool (decide (192 ≤ x5.toNat)), .int .i64 ((((a1 + 1) + ((x5.toNat % 64) - 55)) : Nat) : Int), .int .i64 (0 : Int)] 105) :: (some b59, blk (u64s x54.toList) 25) :: (some b2, blk [.bool false, .int .i64 (0 : Int), .int .i64 (0 : Int)] 105) :: ([] ++ N))) (fun w m => m.appR) ?_
                refine UW.rv 8 rfl (by kernel_rfl) rfl (RV.gtr rfl rfl) rfl ?_
                refine UW.nil (by kernel_rfl) ?_
                refine OW.nil ?_
                refine QW.then_n ?_
                by_cases h79 : (0 : Int) < x75
                · replace hq13 := if_t hq13 h79
                  refine CW.is_t rfl (decide_eq_true h79) ?_
                  refine CW.seq ?_
                  refine CW.region ?_
                  refine OW.rv (RV.buildSt (l := [.bool false, .int .i64 (0 : Int), .int .i64 (0 : Int)]) (cs := [.bool false, .int .i64 (0 : Int), .int .i64 (0 : Int)]) [] rfl rfl rfl rfl rfl rfl rfl) rfl ?_
                  refine OW.rot2 ?_
                  refine OW.sv (SV.storeW rfl rfl rfl (by intro u hu; simp at hu; rcases hu with rfl | rfl | rfl <;> rfl) rfl rfl rfl) ?_
                  refine OW.rv (RV.assign rfl) rfl ?_
                  refine OW.nil ?_
                  refine QW.then_n ?_
                  refine CW.ret ?_
                  refine QW.then_r ?_
                  refine QW.then_r ?_
                  have hc := Option.some.inj hq13
                  subst hc
                  try dsimp only at hf
                  refine QW.then_r ?_
                  have er0 := Option.some.inj hf
                  obtain ⟨e0, er1⟩ := Prod.mk.inj er0
                  clear er0
                  subst e0
                  subst er1
                  have h80 : HdRd (More w0 Φ []) [.bool false, .int .i64 (0 : Int), .int .i64 (0 : Int)] (Hd.mk false 0 0) := by refine HdRd.mk ?_ ?_ <;> (first | omega | (dsimp only; omega)| (simp; done) | (show 0 ≤ 9223372036854775807; omega))
                  refine QW.retG (rs := [.cell 6 105, .tmp 7]) ([.agg [.bool false, .int .i64 (0 : Int), .int .i64 (0 : Int)].toArray, .int .i64 (70 : Int)]) ([]) rfl ?_ rfl ?_ ?_ _ (.inl rfl)
                  · exact ⟨⟨_, _, _, _, rfl, (List.Mem.head _), rfl, rfl, rfl, rfl⟩, rfl, trivial⟩
                  · exact ⟨[], [.bool false, .int .i64 (0 : Int), .int .i64 (0 : Int)], h80, (by omega), rfl, rfl⟩
                  · exact (fun w m => m.pick [] 3 rfl rfl)
                · replace hq13 := if_f hq13 h79
                  refine CW.is_f rfl (decide_eq_false h79) ?_
                  refine CW.skip ?_
                  refine QW.then_n ?_
                  refine CW.region ?_
                  refine OW.rv (RV.idx_a (0) rfl rfl rfl rfl rfl (by omega)) rfl ?_
                  refine OW.rv (RV.load rfl (List.Mem.tail _ (List.Mem.head _)) rfl rfl rfl (u64s_at (vat' (by decide)))) rfl ?_
                  obtain ⟨g81, hq13⟩ := some_if hq13
                  refine OW.rv (RV.conv64_i rfl (by first | rfl | exact lit64 _ rfl) rfl rfl (by first | omega | (simp; omega))) rfl ?_
                  have m82 := (x54[0]).isLt
                  refine OW.rv (RV.assign rfl) rfl ?_
                  refine OW.nil ?_
                  exact QW.join ⟨(x54[0]).toNat, (decide (192 ≤ x5.toNat)), ((a1 + 1) + ((x5.toNat % 64) - 55)), 0, (Option.some.inj hq13).symm, (by omega), (by omega), (by omega), rfl, rfl⟩ ⟨rfl, rfl, rfl, rfl, rfl, trivial⟩ (fun w m => m.pick [0, 2] 3 rfl rfl)
            · skip
              refine CW.drawsU 12 mixed (by kernel_rfl) rfl ?_
              refine UW.rv 0 rfl (by kernel_rfl) rfl (RV.move rfl) rfl ?_
              refine UW.rv 1 rfl (by kernel_rfl) rfl (RV.field rfl rfl rfl rfl) rfl ?_
              refine UW.rv 2 rfl (by kernel_rfl) rfl (RV.load rfl (List.Mem.tail _ (List.Mem.head _)) rfl rfl rfl rfl) rfl ?_
              obtain ⟨x83, hx84, hq61⟩ := some_bind hq61
              have hl85 := lt_of_at hx84
              refine UW.rv 3 rfl (by kernel_rfl) rfl (RV.idx_r ((a1 + 1)) rfl rfl rfl rfl rfl (va0.isSome (by decide) hl85) (by omega)) rfl ?_
              refine UW.rv 4 rfl (by kernel_rfl) rfl (RV.load_at rfl rfl rfl (fun w m => va0.cell (More.of hΦ 3 m rfl) (u8s_at hx84))) rfl ?_
              refine UW.rv 5 rfl (by kernel_rfl) rfl (RV.eql8 rfl (by first | rfl | exact lit8 _ rfl) rfl (by first | rfl | exact lit8 _ rfl)) rfl ?_
              refine UW.rv 6 rfl (by kernel_rfl) rfl (RV.move rfl) rfl ?_
              by_cases h86 : x83 = 0#8
              · replace hq61 := if_t hq61 h86
                refine UW.slot (.bool true) (congrArg Value.bool (decide_eq_true h86)) ?_
                refine UW.skip 7 rfl (by kernel_rfl) rfl rfl ?_
                refine UW.skip 8 rfl (by kernel_rfl) rfl rfl ?_
                refine UW.skip 9 rfl (by kernel_rfl) rfl rfl ?_
                refine UW.skip 10 rfl (by kernel_rfl) rfl rfl ?_
                refine UW.rv 11 rfl (by kernel_rfl) rfl (RV.pick_t rfl rfl rfl) rfl ?_
                refine UW.nil (by kernel_rfl) ?_
                refine OW.nil ?_
                exact QW.join ⟨true, (Option.some.inj hq61).symm, rfl, rfl⟩ ⟨rfl, rfl, rfl, rfl, rfl, rfl, rfl, trivial⟩ (fun w m => m.pick [0, 1, 2] 3 rfl rfl)
              · replace hq61 := if_f hq61 h86
                refine UW.slot (.bool false) (congrArg Value.bool (decide_eq_false h86)) ?_
                refine UW.rv 7 rfl (by kernel_rfl) rfl (RV.loadW rfl (List.Mem.head _) rfl rfl rfl rfl ((u64s_length _).trans Vector.length_toList)) rfl ?_
                obtain ⟨x88, hx87, hq61⟩ := some_bind hq61
                refine UW.callG 8 rfl (by kernel_rfl) rfl Try.call67 rfl (fun N' hN' => waybillref01_From_does w0 (More w0 Φ []) N' (fun w m => More.of hΦ 3 (hN' w m) rfl) (56#64) x88 hx87) rfl ?_
                rintro _ G89 rfl
                refine UW.mem (M' := ((some b59, blk (u64s x54.toList) 25) :: (some b11, blk [.bool (decide (192 ≤ x5.toNat)), .int .i64 (((a1 + 1) : Nat) : Int), .int .i64 (0 : Int)] 105) :: (some b2, blk [.bool false, .int .i64 (0 : Int), .int .i64 (0 : Int)] 105) :: ([] ++ N))) (fun w m => m.appR) ?_
                obtain ⟨x92, hx91, hq61⟩ := some_bind hq61
                refine UW.callG 9 rfl (by kernel_rfl) rfl Try.call94 rfl (fun N' hN' => waybillref01_Cmp_does w0 (More w0 Φ []) N' (fun w m => More.of hΦ 3 (hN' w m) rfl) x54 x88 x92 hx91) rfl ?_
                rintro _ G94 ⟨b93, rfl⟩
                refine UW.mem (M' := ((some b59, blk (u64s x54.toList) 25) :: (some b11, blk [.bool (decide (192 ≤ x5.toNat)), .int .i64 (((a1 + 1) : Nat) : Int), .int .i64 (0 : Int)] 105) :: (some b2, blk [.bool false, .int .i64 (0 : Int), .int .i64 (0 : Int)] 105) :: ([] ++ N))) (fun w m => m.appR) ?_
                refine UW.rv 10 rfl (by kernel_rfl) rfl (RV.lss rfl rfl) rfl ?_
                refine UW.rv 11 rfl (by kernel_rfl) rfl (RV.pick_f rfl rfl rfl) rfl ?_
                refine UW.nil (by kernel_rfl) ?_
                refine OW.nil ?_
                exact QW.join ⟨(decide (x92 < (0 : Int))), (Option.some.inj hq61).symm, rfl, rfl⟩ ⟨rfl, rfl, rfl, rfl, rfl, rfl, rfl, trivial⟩ (fun w m => m.pick [0, 1, 2] 3 rfl rfl)
        · replace hq13 := if_f hq13 h45
          refine CW.is_f rfl (decide_eq_false h45) ?_
          refine CW.skip ?_
          exact QW.join ⟨(x5.toNat % 64), (decide (192 ≤ x5.toNat)), (a1 + 1), 0, (Option.some.inj hq13).symm, (by omega), (by omega), (by omega), rfl, rfl⟩ ⟨rfl, rfl, rfl, rfl, rfl, trivial⟩ (fun w m => m.pick [0, 1] 2 rfl rfl)

theorem waybillref07_item_rec (w0 : World) : ∀ (kf : Nat) (Φ : Ctx) (N : List Ent) (hΦ : ∀ w, Mem w0 w N → Φ w) (A0_ : Option Addr) (c0_ : Nat) (a0 : List (BitVec 8)) (a1 : Nat) (a2 : Nat) (a3 : Nat) (res0 : It) (res1 : Nat) (res2 : Nat) (va0 : View Φ A0_ a0.length c0_ 1 (u8s a0)) (ba1 : a1 ≤ 9223372036854775807) (ba2 : a2 ≤ 9223372036854775807) (ba3 : a3 ≤ 9223372036854775807) (hf : waybillref07_item.r kf a0 a1 a2 a3 = some (res0, res1, res2)), DoesG Try.prog 84 [.slice A0_ a0.length c0_, .int .i64 ((a1 : Nat) : Int), .int .i64 ((a2 : Nat) : Int), .int .i64 ((a3 : Nat) : Int)] w0 [] N (fun v G => ∃ B : List Ent, ∃ cr0 : List Value, (ItRd (More w0 Φ B) cr0 res0) ∧ (res1 ≤ 9223372036854775807) ∧ (res2 ≤ 9223372036854775807) ∧ v = .tuple #[.agg cr0.toArray, .int .i64 ((res1 : Nat) : Int), .int .i64 ((res2 : Nat) : Int)] ∧ G = B) := by
  intro kf
  induction kf with
  | zero => intro Φ N hΦ A0_ c0_ a0 a1 a2 a3 res0 res1 res2 va0 ba1 ba2 ba3 hf; rw [waybillref07_item.r] at hf; cases hf
  | succ kf ih =>
    intro Φ N hΦ A0_ c0_ a0 a1 a2 a3 res0 res1 res2 va0 ba1 ba2 ba3 hf
    rw [waybillref07_item.r] at hf
    replace va0 := va0.mono (Ψ := More w0 Φ []) (fun w q => q.1)
    have m1 := va0.mx
    refine DoesG.enter Try.func84 rfl Try.ntmps84 rfl (M := (([] ++ N))) rfl ?_
    refine CW.seq ?_
    refine CW.region ?_
    refine OW.alloc (l := [.bool false, .slice none 0 0, .slice none 0 0]) rfl rfl rfl (fun b2 => ?_)
    refine OW.rv (RV.assign rfl) rfl ?_
    refine OW.rv (RV.assign rfl) rfl ?_
    refine OW.nil ?_
    refine QW.then_n ?_
    refine CW.seq ?_
    refine CW.region ?_
    refine OW.rv (RV.move rfl) rfl ?_
    refine OW.rv (RV.move rfl) rfl ?_
    refine OW.rv (RV.move rfl) rfl ?_
    obtain ⟨⟨x4, x5⟩, hx3, hf⟩ := some_bind hf
    try dsimp only at hf
    refine OW.callG Try.call76 rfl (waybillref07_head_does w0 (More w0 Φ []) ((some b2, blk [.bool false, .slice none 0 0, .slice none 0 0] 29) :: ([] ++ N)) (fun w m => More.of hΦ 1 m rfl) A0_ c0_ a0 a1 a2 x4 x5 va0 (by omega) (by omega) hx3) rfl rfl ?_
    rintro L10 M11 ⟨B6, cs7, h8, b9, e12, e13⟩
    rw [e12, e13]
    clear e12 e13 L10 M11
    refine OW.mem (M' := ((some b2, blk [.bool false, .slice none 0 0, .slice none 0 0] 29) :: ((B6 ++ []) ++ N))) (fun w m => by have h := Mem.sinkAt (A := B6) m 0 1 rfl rfl; exact h) ?_
    replace va0 := va0.mono (Ψ := More w0 Φ (B6 ++ [])) (fun w q => More.mono (fun w m => (m).appR) q)
    replace h8 := HdRd.mono (Ψ := (More w0 Φ (B6 ++ []))) (fun w q => More.flat q) _ _ h8
    have h17 := h8
    obtain ⟨e16, b14, b15⟩ := HdRd.opn h8
    subst e16
    refine OW.rv (RV.move rfl) rfl ?_
    refine OW.rv (RV.extract rfl rfl) rfl ?_
    refine OW.slot (.agg [.bool (x4.list), .int .i64 ((x4.fr : Nat) : Int), .int .i64 ((x4.to : Nat) : Int)].toArray) (rfl) ?_
    refine OW.rv (RV.extract rfl rfl) rfl ?_
    refine OW.slot (.int .i64 ((x5 : Nat) : Int)) (rfl) ?_
    refine OW.alloc (l := [.bool false, .int .i64 (0 : Int), .int .i64 (0 : Int)]) rfl rfl rfl (fun b18 => ?_)
    refine OW.sv (SV.storeW rfl rfl rfl (by intro u hu; simp at hu; rcases hu with rfl | rfl | rfl <;> rfl) rfl rfl rfl) ?_
    refine OW.rv (RV.assign rfl) rfl ?_
    refine OW.nil ?_
    refine QW.then_n ?_
    refine CW.seq ?_
    refine CW.seq ?_
    refine CW.region ?_
    refine OW.rv (RV.move rfl) rfl ?_
    refine OW.rv (RV.neq rfl rfl) rfl ?_
    refine OW.slot (.bool (!decide (x5 = 0))) (congrArg (fun b => Value.bool (!b)) (decide_eq_decide.2 (by omega))) ?_
    refine OW.nil ?_
    refine QW.then_n ?_
    by_cases h19 : x5 = 0
    · replace hf := if_t hf h19
      refine CW.is_f rfl (congrArg (fun b => !b) (decide_eq_true h19)) ?_
      refine CW.skip ?_
      refine QW.then_n ?_
      refine CW.seq ?_
      refine CW.seq ?_
      refine CW.region ?_
      refine OW.rv (RV.field rfl rfl rfl rfl) rfl ?_
      refine OW.rv (RV.load rfl (List.Mem.head _) rfl rfl rfl rfl) rfl ?_
      refine OW.rv (RV.not rfl) rfl ?_
      refine OW.nil ?_
      refine QW.then_n ?_
      by_cases h20 : x4.list = true
      · replace hf := if_t hf h20
        refine CW.is_f rfl (congrArg (fun b => !b) (h20)) ?_
        refine CW.skip ?_
        refine QW.then_n ?_
        refine CW.seq ?_
        refine CW.seq ?_
        refine CW.region ?_
        refine OW.rv (RV.move rfl) rfl ?_
        refine OW.rv (RV.geq rfl rfl) rfl ?_
        refine OW.slot (.bool (decide (1024 ≤ a3))) (congrArg Value.bool (decide_eq_decide.2 (by omega))) ?_
        refine OW.nil ?_
        refine QW.then_n ?_
        by_cases h21 : 1024 ≤ a3
        · replace hf := if_t hf h21
          refine CW.is_t rfl (decide_eq_true h21) ?_
          refine CW.seq ?_
          refine CW.region ?_
          refine OW.rv (RV.buildSt (l := [.bool false, .slice none 0 0, .slice none 0 0]) (cs := [.bool false, .slice none 0 0, .slice none 0 0]) [] rfl rfl rfl rfl rfl rfl rfl) rfl ?_
          refine OW.rot1 ?_
          refine OW.sv (SV.storeW rfl rfl rfl (by intro u hu; simp at hu; rcases hu with rfl | rfl | rfl <;> rfl) rfl rfl rfl) ?_
          refine OW.rv (RV.assign rfl) rfl ?_
          refine OW.rv (RV.assign rfl) rfl ?_
          refine OW.nil ?_
          refine QW.then_n ?_
          refine CW.ret ?_
          refine QW.then_r ?_
          have er0 := Option.some.inj hf
          obtain ⟨e0, er1⟩ := Prod.mk.inj er0
          clear er0
          obtain ⟨e1, er2⟩ := Prod.mk.inj er1
          clear er1
          subst e0
          subst e1
          subst er2
          have v22 : View (More w0 Φ (B6 ++ [])) none ([] : List (BitVec 8)).length 0 1 (u8s []) := View.nil
          have v23 : View (More w0 Φ (B6 ++ [])) none ([] : List (It)).length 0 3 [] := View.nil
          refine QW.retG (rs := [.cell 8 29, .tmp 9, .tmp 10]) ([.agg [.bool false, .slice none 0 0, .slice none 0 0].toArray, .int .i64 (0 : Int), .int .i64 (74 : Int)]) ((B6 ++ [])) rfl ?_ rfl ?_ ?_ _ (.inl rfl)
          · exact ⟨⟨_, _, _, _, rfl, (List.Mem.head _), rfl, rfl, rfl, rfl⟩, rfl, rfl, trivial⟩
          · exact ⟨(B6 ++ []), [.bool false, .slice none 0 0, .slice none 0 0], (ItRd.mk v22 v23 (Reps.nil)), (by omega), (by omega), rfl, rfl⟩
          · exact (fun w m => m.pick [] 2 rfl rfl)
        · replace hf := if_f hf h21
          refine CW.is_f rfl (decide_eq_false h21) ?_
          refine CW.skip ?_
          refine QW.then_n ?_
          refine CW.seq ?_
          refine CW.region ?_
          refine OW.rv (RV.buildSt (l := [.bool false, .slice none 0 0, .slice none 0 0]) (cs := [.bool true, .slice none 0 0, .slice none 0 0]) [(0, [.bool true])] rfl rfl rfl rfl rfl rfl rfl) rfl ?_
          refine OW.alloc (l := [.bool false, .slice none 0 0, .slice none 0 0]) rfl rfl rfl (fun b24 => ?_)
          refine OW.sv (SV.storeW rfl rfl rfl (by intro u hu; simp at hu; rcases hu with rfl | rfl | rfl <;> rfl) rfl rfl rfl) ?_
          refine OW.nil ?_
          refine QW.then_n ?_
          refine CW.seq ?_
          refine CW.seq ?_
          refine CW.region ?_
          refine OW.rv (RV.field rfl rfl rfl rfl) rfl ?_
          refine OW.rv (RV.load rfl (List.Mem.tail _ (List.Mem.head _)) rfl rfl rfl rfl) rfl ?_
          refine OW.rv (RV.assign rfl) rfl ?_
          refine OW.nil ?_
          refine QW.then_n ?_
          obtain ⟨q25, hq26, hf⟩ := some_bind hf
          refine CW.cutJ (fun L' M' => ∃ p29 : Bool, ∃ l30 : List (BitVec 8), ∃ l35 : List (It), ∃ B27 : List Ent, ∃ ob31 : Option Nat, ∃ c32 : Nat, ∃ r33 : List Value, ∃ cs36 : List Value, ∃ ob38 : Option Nat, ∃ c39 : Nat, ∃ r40 : List Value, q25 = Lp.go (p29, l30, l35) ∧ (∀ w, Mem w0 w B27 → Mem w0 w (B6 ++ [])) ∧ (OwnS ob31 l30.length c32 1 (u8s l30) r33) ∧ (Reps (ItRd (More w0 Φ B27)) cs36 l35) ∧ (OwnS ob38 l35.length c39 3 cs36 r40) ∧ L' = [(8, ptr (some b2) 0), (11, ptr (some b18) 0), (13, ptr (some b24) 0)] ∧ M' = ((ob31, blk ((u8s l30) ++ r33) 5) :: (ob38, blk (cs36 ++ r40) 29) :: (some b24, blk [.bool (p29), sl ob31 0 l30.length c32, sl ob38 0 l35.length c39] 29) :: (some b18, blk [.bool (x4.list), .int .i64 ((x4.fr : Nat) : Int), .int .i64 ((x4.to : Nat) : Int)] 105) :: (some b2, blk [.bool false, .slice none 0 0, .slice none 0 0] 29) :: (B27 ++ N))) ?_ ?_
          · rintro L43 M44 ⟨p29, l30, l35, B27, ob31, c32, r33, cs36, ob38, c39, r40, e42, hB28, o34, h37, o41, e45, e46⟩
            rw [e45, e46]
            clear e45 e46 L43 M44
            clear hq26
            rw [e42] at hf
            clear e42
            try dsimp only at hf
            replace h17 := HdRd.mono (Ψ := More w0 Φ B27) (fun w q => More.mono (fun w m => hB28 w (m)) q) _ _ h17
            have m47 := o34.mx
            have m48 := o41.mx
            refine QW.then_n ?_
            refine CW.seq ?_
            refine CW.drawsX ((ob31, blk ((u8s l30) ++ r33) 5) :: (ob38, blk (cs36 ++ r40) 29) :: (some b24, blk [.bool (p29), sl ob31 0 l30.length c32, sl ob38 0 l35.length c39] 29) :: (some b18, blk [.bool (x4.list), .int .i64 ((x4.fr : Nat) : Int), .int .i64 ((x4.to : Nat) : Int)] 105) :: (B27 ++ N)) [3] (fun w m => m.pick [0, 1, 2, 3] 5 rfl rfl) mixed (by kernel_rfl) ?_
            refine XW.rs 0 rfl (by kernel_rfl) rfl (RV.loadW rfl (List.Mem.tail _ (List.Mem.tail _ (List.Mem.head _))) rfl rfl rfl rfl rfl) rfl ?_
            refine XW.rs 1 rfl (by kernel_rfl) rfl (RV.field rfl rfl rfl rfl) rfl ?_
            refine XW.rs 2 rfl (by kernel_rfl) rfl (RV.load rfl (List.Mem.tail _ (List.Mem.tail _ (List.Mem.tail _ (List.Mem.head _)))) rfl rfl rfl rfl) rfl ?_
            refine XW.mem (M' := ((some b2, blk [.bool false, .slice none 0 0, .slice none 0 0] 29) :: (ob31, blk ((u8s l30) ++ r33) 5) :: (ob38, blk (cs36 ++ r40) 29) :: (some b24, blk [.bool (p29), sl ob31 0 l30.length c32, sl ob38 0 l35.length c39] 29) :: (some b18, blk [.bool (x4.list), .int .i64 ((x4.fr : Nat) : Int), .int .i64 ((x4.to : Nat) : Int)] 105) :: (B27 ++ N))) (fun w m => m.pick [4, 0, 1, 2, 3] 5 rfl rfl) (fun w m => m.pick [1, 2, 3, 4] 5 rfl rfl) ?_
            refine XW.sv 3 rfl (by kernel_rfl) (SV.storeW rfl rfl rfl (by intro u hu; simp at hu; rcases hu with rfl | rfl | rfl <;> rfl) rfl rfl rfl) (fun w m => m.pick [1, 2, 3, 4] 5 rfl rfl) ?_
            refine XW.rs 4 rfl (by kernel_rfl) rfl (RV.assign rfl) rfl ?_
            refine XW.rs 5 rfl (by kernel_rfl) rfl (RV.assign rfl) rfl ?_
            refine XW.nil (by kernel_rfl) ?_
            refine QW.then_n ?_
            refine CW.ret ?_
            refine QW.mem (M' := (some b2, blk [.bool (p29), sl ob31 0 l30.length c32, sl ob38 0 l35.length c39] 29) :: (ob38, blk (cs36 ++ r40) 29) :: (some b24, blk [.bool (p29), sl ob31 0 l30.length c32, sl ob38 0 l35.length c39] 29) :: (some b18, blk [.bool (x4.list), .int .i64 ((x4.fr : Nat) : Int), .int .i64 ((x4.to : Nat) : Int)] 105) :: (((ob31, blk ((u8s l30) ++ r33) 5) :: B27) ++ N)) (fun w m => m.pick [0, 2, 3, 4, 1] 5 rfl rfl) ?_
            replace h37 := h37.mono (ItRd.mono (Ψ := More w0 Φ ((ob31, blk ((u8s l30) ++ r33) 5) :: B27)) (fun w q => More.mono (fun w m => (m).tail) q))
            replace h17 := HdRd.mono (Ψ := More w0 Φ ((ob31, blk ((u8s l30) ++ r33) 5) :: B27)) (fun w q => More.mono (fun w m => (m).tail) q) _ _ h17
            have v49 : View (More w0 Φ ((ob31, blk ((u8s l30) ++ r33) 5) :: B27)) ((ob31).map fun k => ⟨k, 0, none⟩) l30.length c32 1 (u8s l30) := o34.view (by decide) (fun w q => q.2.sublist (List.singleton_sublist.2 (List.mem_cons_self ..)))
            refine QW.mem (M' := (some b2, blk [.bool (p29), .slice ((ob31).map fun k => ⟨k, 0, none⟩) l30.length c32, sl ob38 0 l35.length c39] 29) :: (some b24, blk [.bool (p29), .slice ((ob31).map fun k => ⟨k, 0, none⟩) l30.length c32, sl ob38 0 l35.length c39] 29) :: (some b18, blk [.bool (x4.list), .int .i64 ((x4.fr : Nat) : Int), .int .i64 ((x4.to : Nat) : Int)] 105) :: (((ob38, blk (cs36 ++ r40) 29) :: ((ob31, blk ((u8s l30) ++ r33) 5) :: B27)) ++ N)) (fun w m => m.pick [0, 2, 3, 1] 4 rfl rfl) ?_
            replace v49 := v49.mono (Ψ := More w0 Φ ((ob38, blk (cs36 ++ r40) 29) :: ((ob31, blk ((u8s l30) ++ r33) 5) :: B27))) (fun w q => More.mono (fun w m => (m).tail) q)
            replace h37 := h37.mono (ItRd.mono (Ψ := More w0 Φ ((ob38, blk (cs36 ++ r40) 29) :: ((ob31, blk ((u8s l30) ++ r33) 5) :: B27))) (fun w q => More.mono (fun w m => (m).tail) q))
            replace h17 := HdRd.mono (Ψ := More w0 Φ ((ob38, blk (cs36 ++ r40) 29) :: ((ob31, blk ((u8s l30) ++ r33) 5) :: B27))) (fun w q => More.mono (fun w m => (m).tail) q) _ _ h17
            have v50 : View (More w0 Φ ((ob38, blk (cs36 ++ r40) 29) :: ((ob31, blk ((u8s l30) ++ r33) 5) :: B27))) ((ob38).map fun k => ⟨k, 0, none⟩) l35.length c39 3 cs36 := o41.view (by decide) (fun w q => q.2.sublist (List.singleton_sublist.2 (List.mem_cons_self ..)))
            have er0 := Option.some.inj hf
            obtain ⟨e0, er1⟩ := Prod.mk.inj er0
            clear er0
            obtain ⟨e1, er2⟩ := Prod.mk.inj er1
            clear er1
            subst e0
            subst e1
            subst er2
            refine QW.retG (rs := [.cell 8 29, .tmp 9, .tmp 10]) ([.agg [.bool (p29), .slice ((ob31).map fun k => ⟨k, 0, none⟩) l30.length c32, .slice ((ob38).map fun k => ⟨k, 0, none⟩) l35.length c39].toArray, .int .i64 ((x4.to : Nat) : Int), .int .i64 (0 : Int)]) (((ob38, blk (cs36 ++ r40) 29) :: ((ob31, blk ((u8s l30) ++ r33) 5) :: B27))) rfl ?_ rfl ?_ ?_ _ (.inl rfl)
            · exact ⟨⟨_, _, _, _, rfl, (List.Mem.head _), rfl, rfl, rfl, rfl⟩, rfl, rfl, trivial⟩
            · exact ⟨((ob38, blk (cs36 ++ r40) 29) :: ((ob31, blk ((u8s l30) ++ r33) 5) :: B27)), [.bool (p29), .slice ((ob31).map fun k => ⟨k, 0, none⟩) l30.length c32, .slice ((ob38).map fun k => ⟨k, 0, none⟩) l35.length c39], (ItRd.mk v49 v50 h37), (by omega), (by omega), rfl, rfl⟩
            · exact (fun w m => m.pick [] 3 rfl rfl)
          · skip
            refine CW.block ?_
            refine CW.mem (M' := ((none, blk ((u8s ([] : List (BitVec 8))) ++ []) 5) :: (some b24, blk [.bool true, .slice none 0 0, .slice none 0 0] 29) :: (some b18, blk [.bool (x4.list), .int .i64 ((x4.fr : Nat) : Int), .int .i64 ((x4.to : Nat) : Int)] 105) :: (some b2, blk [.bool false, .slice none 0 0, .slice none 0 0] 29) :: ((B6 ++ []) ++ N))) (fun w m => m.nil_ent _) ?_
            refine CW.mem (M' := ((none, blk ([] ++ []) 29) :: (none, blk ((u8s ([] : List (BitVec 8))) ++ []) 5) :: (some b24, blk [.bool true, .slice none 0 0, .slice none 0 0] 29) :: (some b18, blk [.bool (x4.list), .int .i64 ((x4.fr : Nat) : Int), .int .i64 ((x4.to : Nat) : Int)] 105) :: (some b2, blk [.bool false, .slice none 0 0, .slice none 0 0] 29) :: ((B6 ++ []) ++ N))) (fun w m => m.nil_ent _) ?_
            refine CW.loopJ (fun k L' M' => ∃ n53 : Nat, ∃ p55 : Bool, ∃ l56 : List (BitVec 8), ∃ l61 : List (It), ∃ B51 : List Ent, ∃ ob57 : Option Nat, ∃ c58 : Nat, ∃ r59 : List Value, ∃ cs62 : List Value, ∃ ob64 : Option Nat, ∃ c65 : Nat, ∃ r66 : List Value, (waybillref07_item.l1 a0 a3 (waybillref07_item.r kf) x4 k n53 p55 l56 l61) = some q25 ∧ (∀ w, Mem w0 w B51 → Mem w0 w (B6 ++ [])) ∧ (n53 ≤ 9223372036854775807) ∧ (OwnS ob57 l56.length c58 1 (u8s l56) r59) ∧ (Reps (ItRd (More w0 Φ B51)) cs62 l61) ∧ (OwnS ob64 l61.length c65 3 cs62 r66) ∧ L' = [(0, .slice A0_ a0.length c0_), (3, .int .i64 ((a3 : Nat) : Int)), (8, ptr (some b2) 0), (11, ptr (some b18) 0), (13, ptr (some b24) 0), (14, .int .i64 ((n53 : Nat) : Int))] ∧ M' = ((ob57, blk ((u8s l56) ++ r59) 5) :: (ob64, blk (cs62 ++ r66) 29) :: (some b24, blk [.bool (p55), sl ob57 0 l56.length c58, sl ob64 0 l61.length c65] 29) :: (some b18, blk [.bool (x4.list), .int .i64 ((x4.fr : Nat) : Int), .int .i64 ((x4.to : Nat) : Int)] 105) :: (some b2, blk [.bool false, .slice none 0 0, .slice none 0 0] 29) :: (B51 ++ N))) (k0 := (x4.to - x4.fr + 2)) ⟨x4.fr, true, ([] : List (BitVec 8)), ([] : List (It)), (B6 ++ []), none, 0, [], [], none, 0, [], hq26, (fun w m => m), (by omega), OwnS.nil, Reps.nil, OwnS.nil, rfl, rfl⟩ ⟨rfl, rfl, rfl, rfl, rfl, rfl, trivial⟩ (fun w m => m.pick [1, 0, 2, 3, 4] 5 rfl rfl) ?_
            clear hq26
            rintro k68 L71 M72 ⟨n53, p55, l56, l61, B51, ob57, c58, r59, cs62, ob64, c65, r66, hl69, hB52, b54, o60, h63, o67, e73, e74⟩
            rw [e73, e74]
            clear e73 e74 L71 M72
            rcases k68 with _ | k68
            · rw [waybillref07_item.l1] at hl69; cases hl69
            rw [waybillref07_item.l1] at hl69
            replace va0 := va0.mono (Ψ := More w0 Φ B51) (fun w q => More.mono (fun w m => hB52 w (m)) q)
            replace h17 := HdRd.mono (Ψ := More w0 Φ B51) (fun w q => More.mono (fun w m => hB52 w (m)) q) _ _ h17
            have m75 := o60.mx
            have m76 := o67.mx
            refine CW.seq ?_
            refine CW.seq ?_
            refine CW.region ?_
            refine OW.rv (RV.move rfl) rfl ?_
            refine OW.rv (RV.field rfl rfl rfl rfl) rfl ?_
            refine OW.rv (RV.load rfl (List.Mem.tail _ (List.Mem.tail _ (List.Mem.tail _ (List.Mem.head _)))) rfl rfl rfl rfl) rfl ?_
            refine OW.rv (RV.lss rfl rfl) rfl ?_
            refine OW.slot (.bool (decide (n53 < x4.to))) (congrArg Value.bool (decide_eq_decide.2 (by omega))) ?_
            refine OW.nil ?_
            refine QW.then_n ?_
            by_cases h77 : n53 < x4.to
            · replace hl69 := if_t hl69 h77
              refine CW.is_t rfl (decide_eq_true h77) ?_
              refine CW.skip ?_
              refine QW.then_n ?_
              refine CW.block ?_
              refine CW.seq ?_
              refine CW.region ?_
              refine OW.rv (RV.move rfl) rfl ?_
              refine OW.rv (RV.move rfl) rfl ?_
              refine OW.rv (RV.field rfl rfl rfl rfl) rfl ?_
              refine OW.rv (RV.load rfl (List.Mem.tail _ (List.Mem.tail _ (List.Mem.tail _ (List.Mem.head _)))) rfl rfl rfl rfl) rfl ?_
              refine OW.rv (RV.move rfl) rfl ?_
              refine OW.rv (RV.add rfl rfl (by omega)) rfl ?_
              refine OW.slot (.int .i64 (((a3 + 1) : Nat) : Int)) (by first | rfl | (congr 1) | (congr 1; omega)) ?_
              obtain ⟨⟨x79, x80, x81⟩, hx78, hl69⟩ := some_bind hl69
              try dsimp only at hl69
              refine OW.callG Try.call84 rfl (ih (More w0 Φ B51) ((ob57, blk ((u8s l56) ++ r59) 5) :: (ob64, blk (cs62 ++ r66) 29) :: (some b24, blk [.bool (p55), sl ob57 0 l56.length c58, sl ob64 0 l61.length c65] 29) :: (some b18, blk [.bool (x4.list), .int .i64 ((x4.fr : Nat) : Int), .int .i64 ((x4.to : Nat) : Int)] 105) :: (some b2, blk [.bool false, .slice none 0 0, .slice none 0 0] 29) :: (B51 ++ N)) (fun w m => More.of hΦ 5 m rfl) A0_ c0_ a0 n53 x4.to (a3 + 1) x79 x80 x81 va0 (by omega) (by omega) (by omega) hx78) rfl rfl ?_
              rintro L87 M88 ⟨B82, cs83, h84, b85, b86, e89, e90⟩
              rw [e89, e90]
              clear e89 e90 L87 M88
              refine OW.mem (M' := ((ob57, blk ((u8s l56) ++ r59) 5) :: (ob64, blk (cs62 ++ r66) 29) :: (some b24, blk [.bool (p55), sl ob57 0 l56.length c58, sl ob64 0 l61.length c65] 29) :: (some b18, blk [.bool (x4.list), .int .i64 ((x4.fr : Nat) : Int), .int .i64 ((x4.to : Nat) : Int)] 105) :: (some b2, blk [.bool false, .slice none 0 0, .slice none 0 0] 29) :: ((B82 ++ B51) ++ N))) (fun w m => by have h := Mem.sinkAt (A := B82) m 0 5 rfl rfl; exact h) ?_
              replace va0 := va0.mono (Ψ := More w0 Φ (B82 ++ B51)) (fun w q => More.mono (fun w m => (m).appR) q)
              replace h63 := h63.mono (ItRd.mono (Ψ := More w0 Φ (B82 ++ B51)) (fun w q => More.mono (fun w m => (m).appR) q))
              replace h17 := HdRd.mono (Ψ := More w0 Φ (B82 ++ B51)) (fun w q => More.mono (fun w m => (m).appR) q) _ _ h17
              replace h84 := ItRd.mono (Ψ := (More w0 Φ (B82 ++ B51))) (fun w q => More.flat q) _ _ h84
              have h100 := h84
              obtain ⟨A91, c92, A94, c95, cs97, e99, v93, v96, h98⟩ := ItRd.opn h84
              subst e99
              have m101 := v93.mx
              have m102 := v96.mx
              have m103 := v93.mx
              have m104 := v96.mx
              refine OW.rv (RV.move rfl) rfl ?_
              refine OW.rv (RV.extract rfl rfl) rfl ?_
              refine OW.slot (.agg [.bool (x79.list), .slice A91 x79.data.length c92, .slice A94 x79.items.length c95].toArray) (rfl) ?_
              refine OW.rv (RV.extract rfl rfl) rfl ?_
              refine OW.slot (.int .i64 ((x80 : Nat) : Int)) (rfl) ?_
              refine OW.rv (RV.extract rfl rfl) rfl ?_
              refine OW.slot (.int .i64 ((x81 : Nat) : Int)) (rfl) ?_
              refine OW.alloc (l := [.bool false, .slice none 0 0, .slice none 0 0]) rfl rfl rfl (fun b105 => ?_)
              refine OW.sv (SV.storeW rfl rfl rfl (by intro u hu; simp at hu; rcases hu with rfl | rfl | rfl <;> rfl) rfl rfl rfl) ?_
              refine OW.rv (RV.assign rfl) rfl ?_
              refine OW.rv (RV.assign rfl) rfl ?_
              refine OW.nil ?_
              refine QW.then_n ?_
              refine CW.seq ?_
              refine CW.seq ?_
              refine CW.region ?_
              refine OW.rv (RV.move rfl) rfl ?_
              refine OW.rv (RV.neq rfl rfl) rfl ?_
              refine OW.slot (.bool (!decide (x81 = 0))) (congrArg (fun b => Value.bool (!b)) (decide_eq_decide.2 (by omega))) ?_
              refine OW.nil ?_
              refine QW.then_n ?_
              by_cases h106 : x81 = 0
              · replace hl69 := if_t hl69 h106
                refine CW.is_f rfl (congrArg (fun b => !b) (decide_eq_true h106)) ?_
                refine CW.skip ?_
                refine QW.then_n ?_
                refine CW.seq ?_
                refine CW.region ?_
                refine OW.rv (RV.field rfl rfl rfl rfl) rfl ?_
                refine OW.rv (RV.load rfl (List.Mem.tail _ (List.Mem.tail _ (List.Mem.tail _ (List.Mem.head _)))) rfl rfl rfl rfl) rfl ?_
                refine OW.rv (RV.loadW rfl (List.Mem.head _) rfl rfl rfl rfl rfl) rfl ?_
                refine OW.ofN (NV.bsA rfl rfl (by intro x hx; simp at hx; subst hx; rfl) rfl rfl rfl (by decide) (by decide) rfl) rfl (fun b107 => ?_)
                have h110 : Reps (ItRd (More w0 Φ (B82 ++ B51))) (([.bool (x79.list), .slice A91 x79.data.length c92, .slice A94 x79.items.length c95] : List Value)) [x79] := Reps.one h100
                refine OW.mem (M' := (((some b107), blk ((([.bool (x79.list), .slice A91 x79.data.length c92, .slice A94 x79.items.length c95] : List Value)) ++ []) 29) :: (some b105, blk [.bool (x79.list), .slice A91 x79.data.length c92, .slice A94 x79.items.length c95] 29) :: (ob57, blk ((u8s l56) ++ r59) 5) :: (ob64, blk (cs62 ++ r66) 29) :: (some b24, blk [.bool (p55), sl ob57 0 l56.length c58, sl ob64 0 l61.length c65] 29) :: (some b18, blk [.bool (x4.list), .int .i64 ((x4.fr : Nat) : Int), .int .i64 ((x4.to : Nat) : Int)] 105) :: (some b2, blk [.bool false, .slice none 0 0, .slice none 0 0] 29) :: ((B82 ++ B51) ++ N))) (fun w m => m) ?_
                have o108 : OwnS (some b107) ([x79] : List (It)).length 1 3 (([.bool (x79.list), .slice A91 x79.data.length c92, .slice A94 x79.items.length c95] : List Value)) [] := ⟨by simp [ItRd], by simp [ItRd], (fun h => nomatch h), by simp⟩
                refine OW.slot (sl (some b107) 0 ([x79] : List (It)).length 1) (rfl) ?_
                refine OW.rot3 ?_
                obtain ⟨g111, hl69⟩ := some_if hl69
                have h116 := h63.app h110
                refine OW.appendOwn (s := 3) rfl rfl rfl rfl rfl rfl o67 (fun w m => m.rd0 (List.Mem.tail _ (List.Mem.head _)) (fun e => o108.nilc (by decide) e)) o108.n (h110.cell1 ItRd.one) (o108.zeroO (by decide)) (by decide) (by decide) (by first | omega | (simp only [i29, List.length_nil]; omega)) rfl rfl ((l61 ++ ([x79] : List (It))).length) (cs62 ++ (([.bool (x79.list), .slice A91 x79.data.length c92, .slice A94 x79.items.length c95] : List Value))) (List.length_append ..).symm rfl (fun ob112 r113 c114 o115 => ?_)
                have m117 := o115.mx
                refine OW.rv (RV.field rfl rfl rfl rfl) rfl ?_
                refine OW.rot4 ?_
                refine OW.sv (SV.store rfl rfl rfl rfl rfl (by simp)) ?_
                refine OW.cells [.bool (p55), sl ob57 0 l56.length c58, sl ob112 0 (l61 ++ ([x79] : List (It))).length c114] rfl ?_
                refine OW.nil ?_
                refine QW.then_n ?_
                refine CW.region ?_
                refine OW.rv (RV.move rfl) rfl ?_
                refine OW.rv (RV.assign rfl) rfl ?_
                refine OW.nil ?_
                refine QW.block_n ?_
                exact QW.againJ (k' := k68) (Nat.lt_succ_self _) ⟨x80, (p55), l56, (l61 ++ ([x79] : List (It))), (B82 ++ B51), ob57, c58, r59, (cs62 ++ (([.bool (x79.list), .slice A91 x79.data.length c92, .slice A94 x79.items.length c95] : List Value))), ob112, c114, r113, hl69, (fun w m => hB52 w ((m).appR)), (by omega), o60, h116, o115, rfl, rfl⟩ ⟨rfl, rfl, rfl, rfl, rfl, rfl, trivial⟩ (fun w m => m.pick [4, 1, 0, 5, 6] 7 rfl rfl)
              · replace hl69 := if_f hl69 h106
                refine CW.is_t rfl (congrArg (fun b => !b) (decide_eq_false h106)) ?_
                refine CW.seq ?_
                refine CW.region ?_
                refine OW.rv (RV.buildSt (l := [.bool false, .slice none 0 0, .slice none 0 0]) (cs := [.bool false, .slice none 0 0, .slice none 0 0]) [] rfl rfl rfl rfl rfl rfl rfl) rfl ?_
                refine OW.rv (RV.move rfl) rfl ?_
                refine OW.rot5 ?_
                refine OW.sv (SV.storeW rfl rfl rfl (by intro u hu; simp at hu; rcases hu with rfl | rfl | rfl <;> rfl) rfl rfl rfl) ?_
                refine OW.rv (RV.assign rfl) rfl ?_
                refine OW.rv (RV.assign rfl) rfl ?_
                refine OW.nil ?_
                refine QW.then_n ?_
                refine CW.ret ?_
                refine QW.then_r ?_
                refine QW.block_r ?_
                refine QW.then_r ?_
                refine QW.block_r ?_
                refine QW.then_r ?_
                have hc := Option.some.inj hl69
                subst hc
                try dsimp only at hf
                refine QW.then_r ?_
                have er0 := Option.some.inj hf
                obtain ⟨e0, er1⟩ := Prod.mk.inj er0
                clear er0
                obtain ⟨e1, er2⟩ := Prod.mk.inj er1
                clear er1
                subst e0
                subst e1
                subst er2
                have v118 : View (More w0 Φ (B82 ++ B51)) none ([] : List (BitVec 8)).length 0 1 (u8s []) := View.nil
                have v119 : View (More w0 Φ (B82 ++ B51)) none ([] : List (It)).length 0 3 [] := View.nil
                refine QW.retG (rs := [.cell 8 29, .tmp 9, .tmp 10]) ([.agg [.bool false, .slice none 0 0, .slice none 0 0].toArray, .int .i64 (0 : Int), .int .i64 ((x81 : Nat) : Int)]) ((B82 ++ B51)) rfl ?_ rfl ?_ ?_ _ (.inl rfl)
                · exact ⟨⟨_, _, _, _, rfl, (List.Mem.head _), rfl, rfl, rfl, rfl⟩, rfl, rfl, trivial⟩
                · exact ⟨(B82 ++ B51), [.bool false, .slice none 0 0, .slice none 0 0], (ItRd.mk v118 v119 (Reps.nil)), (by omega), (by omega), rfl, rfl⟩
                · exact (fun w m => m.pick [] 6 rfl rfl)
            · replace hl69 := if_f hl69 h77
              refine CW.is_f rfl (decide_eq_false h77) ?_
              refine CW.exit ?_
              refine QW.then_x ?_
              refine QW.then_x ?_
              refine QW.block_xe ?_
              exact QW.join ⟨(p55), l56, l61, B51, ob57, c58, r59, cs62, ob64, c65, r66, (Option.some.inj hl69).symm, (fun w m => hB52 w (m)), o60, h63, o67, rfl, rfl⟩ ⟨rfl, rfl, rfl, trivial⟩ (fun w m => m.pick [0, 1, 2, 3, 4] 5 rfl rfl)
      · replace hf := if_f hf h20
        refine CW.is_t rfl (congrArg (fun b => !b) (Bool.eq_false_iff.2 h20)) ?_
        refine CW.seq ?_
        refine CW.drawsX ((some b18, blk [.bool (x4.list), .int .i64 ((x4.fr : Nat) : Int), .int .i64 ((x4.to : Nat) : Int)] 105) :: ((B6 ++ []) ++ N)) [10] (fun w m => m.pick [0] 2 rfl rfl) mixed (by kernel_rfl) ?_
        refine XW.rs 0 rfl (by kernel_rfl) rfl (RV.move rfl) rfl ?_
        refine XW.rs 1 rfl (by kernel_rfl) rfl (RV.field rfl rfl rfl rfl) rfl ?_
        refine XW.rs 2 rfl (by kernel_rfl) rfl (RV.load rfl (List.Mem.head _) rfl rfl rfl rfl) rfl ?_
        refine XW.rs 3 rfl (by kernel_rfl) rfl (RV.field rfl rfl rfl rfl) rfl ?_
        refine XW.rs 4 rfl (by kernel_rfl) rfl (RV.load rfl (List.Mem.head _) rfl rfl rfl rfl) rfl ?_
        obtain ⟨g121, hf⟩ := some_if hf
        obtain ⟨g122, hf⟩ := some_if hf
        have hle := va0.le
        refine XW.rs 5 rfl (by kernel_rfl) rfl (RV.cut_both (s := 1) (x4.fr) (x4.to) rfl rfl rfl (by omega) (by omega) rfl rfl (by omega) (by omega)) rfl ?_
        refine XW.slot (.slice (subA A0_ c0_ x4.fr 1) ((a0.take x4.to).drop x4.fr).length (c0_ - x4.fr)) (by rw [show (((a0.take x4.to).drop x4.fr)).length = (x4.to) - (x4.fr) from List.length_drop.trans (by rw [List.length_take, Nat.min_eq_left (by omega)])]) ?_
        have v120 : View (More w0 Φ (B6 ++ [])) (subA A0_ c0_ x4.fr 1) ((a0.take x4.to).drop x4.fr).length (c0_ - x4.fr) 1 (u8s ((a0.take x4.to).drop x4.fr)) := va0.mid8 (by omega) (by omega)
        have m123 := v120.mx
        refine XW.rs 8 rfl (by kernel_rfl) rfl (RV.field rfl rfl rfl rfl) rfl ?_
        refine XW.rs 9 rfl (by kernel_rfl) rfl (RV.load rfl (List.Mem.head _) rfl rfl rfl rfl) rfl ?_
        obtain ⟨x125, hx124, hf⟩ := some_bind hf
        refine XW.callG 6 rfl (by kernel_rfl) rfl Try.call62 rfl (fun N' hN' => waybillref07_bytes_does w0 (More w0 Φ (B6 ++ [])) N' (fun w m => More.of hΦ 2 (hN' w m) rfl) (subA A0_ c0_ x4.fr 1) (c0_ - x4.fr) ((a0.take x4.to).drop x4.fr) x125 v120 hx124) rfl ?_
        rintro L131 M132 ⟨B126, ob127, c128, r129, o130, e133, e134⟩
        rw [e133, e134]
        clear e133 e134 L131 M132
        refine XW.mem (M' := ((ob127, blk ((u8s x125) ++ r129) 5) :: (some b18, blk [.bool (x4.list), .int .i64 ((x4.fr : Nat) : Int), .int .i64 ((x4.to : Nat) : Int)] 105) :: (some b2, blk [.bool false, .slice none 0 0, .slice none 0 0] 29) :: ((B126 ++ (B6 ++ [])) ++ N))) (fun w m => by have h := Mem.sinkAt (A := B126) m 1 2 rfl rfl; exact h) (fun w m => by have h := Mem.shrink (B := (B6 ++ [])) (B' := (B126 ++ (B6 ++ []))) (List.sublist_append_right _ _) (m.pick [1] 3 rfl rfl) 1 rfl; exact h) ?_
        replace va0 := va0.mono (Ψ := More w0 Φ (B126 ++ (B6 ++ []))) (fun w q => More.mono (fun w m => (m).appR) q)
        replace h17 := HdRd.mono (Ψ := More w0 Φ (B126 ++ (B6 ++ []))) (fun w q => More.mono (fun w m => (m).appR) q) _ _ h17
        replace v120 := v120.mono (Ψ := More w0 Φ (B126 ++ (B6 ++ []))) (fun w q => More.mono (fun w m => (m).appR) q)
        have m135 := o130.mx
        refine XW.rs 7 rfl (by kernel_rfl) rfl (RV.buildSt (l := [.bool false, .slice none 0 0, .slice none 0 0]) (cs := [.bool false, sl ob127 0 x125.length c128, .slice none 0 0]) [(1, [sl ob127 0 x125.length c128])] rfl rfl rfl rfl rfl rfl rfl) rfl ?_
        refine XW.mem (M' := ((some b2, blk [.bool false, .slice none 0 0, .slice none 0 0] 29) :: (ob127, blk ((u8s x125) ++ r129) 5) :: (some b18, blk [.bool (x4.list), .int .i64 ((x4.fr : Nat) : Int), .int .i64 ((x4.to : Nat) : Int)] 105) :: ((B126 ++ (B6 ++ [])) ++ N))) (fun w m => m.pick [2, 0, 1] 3 rfl rfl) (fun w m => by have h := Mem.shrink (B := (B6 ++ [])) (B' := (B126 ++ (B6 ++ []))) (List.sublist_append_right _ _) (m.pick [2] 3 rfl rfl) 1 rfl; exact h) ?_
        refine XW.sv 10 rfl (by kernel_rfl) (SV.storeW rfl rfl rfl (by intro u hu; simp at hu; rcases hu with rfl | rfl | rfl <;> rfl) rfl rfl rfl) (fun w m => by have h := Mem.shrink (B := (B6 ++ [])) (B' := (B126 ++ (B6 ++ []))) (List.sublist_append_right _ _) (m.pick [2] 3 rfl rfl) 1 rfl; exact h) ?_
        refine XW.rs 11 rfl (by kernel_rfl) rfl (RV.assign rfl) rfl ?_
        refine XW.rs 12 rfl (by kernel_rfl) rfl (RV.assign rfl) rfl ?_
        refine XW.nil (by kernel_rfl) ?_
        refine QW.then_n ?_
        refine CW.ret ?_
        refine QW.then_r ?_
        refine QW.mem (M' := (some b2, blk [.bool false, sl ob127 0 x125.length c128, .slice none 0 0] 29) :: (some b18, blk [.bool (x4.list), .int .i64 ((x4.fr : Nat) : Int), .int .i64 ((x4.to : Nat) : Int)] 105) :: (((ob127, blk ((u8s x125) ++ r129) 5) :: (B126 ++ (B6 ++ []))) ++ N)) (fun w m => m.pick [0, 2, 1] 3 rfl rfl) ?_
        replace va0 := va0.mono (Ψ := More w0 Φ ((ob127, blk ((u8s x125) ++ r129) 5) :: (B126 ++ (B6 ++ [])))) (fun w q => More.mono (fun w m => (m).tail) q)
        replace h17 := HdRd.mono (Ψ := More w0 Φ ((ob127, blk ((u8s x125) ++ r129) 5) :: (B126 ++ (B6 ++ [])))) (fun w q => More.mono (fun w m => (m).tail) q) _ _ h17
        replace v120 := v120.mono (Ψ := More w0 Φ ((ob127, blk ((u8s x125) ++ r129) 5) :: (B126 ++ (B6 ++ [])))) (fun w q => More.mono (fun w m => (m).tail) q)
        have v136 : View (More w0 Φ ((ob127, blk ((u8s x125) ++ r129) 5) :: (B126 ++ (B6 ++ [])))) ((ob127).map fun k => ⟨k, 0, none⟩) x125.length c128 1 (u8s x125) := o130.view (by decide) (fun w q => q.2.sublist (List.singleton_sublist.2 (List.mem_cons_self ..)))
        have er0 := Option.some.inj hf
        obtain ⟨e0, er1⟩ := Prod.mk.inj er0
        clear er0
        obtain ⟨e1, er2⟩ := Prod.mk.inj er1
        clear er1
        subst e0
        subst e1
        subst er2
        have v137 : View (More w0 Φ ((ob127, blk ((u8s x125) ++ r129) 5) :: (B126 ++ (B6 ++ [])))) none ([] : List (It)).length 0 3 [] := View.nil
        refine QW.retG (rs := [.cell 8 29, .tmp 9, .tmp 10]) ([.agg [.bool false, .slice ((ob127).map fun k => ⟨k, 0, none⟩) x125.length c128, .slice none 0 0].toArray, .int .i64 ((x4.to : Nat) : Int), .int .i64 (0 : Int)]) (((ob127, blk ((u8s x125) ++ r129) 5) :: (B126 ++ (B6 ++ [])))) rfl ?_ rfl ?_ ?_ _ (.inl rfl)
        · exact ⟨⟨_, _, _, _, rfl, (List.Mem.head _), rfl, rfl, rfl, rfl⟩, rfl, rfl, trivial⟩
        · exact ⟨((ob127, blk ((u8s x125) ++ r129) 5) :: (B126 ++ (B6 ++ []))), [.bool false, .slice ((ob127).map fun k => ⟨k, 0, none⟩) x125.length c128, .slice none 0 0], (ItRd.mk v136 v137 (Reps.nil)), (by omega), (by omega), rfl, rfl⟩
        · exact (fun w m => m.pick [] 2 rfl rfl)
    · replace hf := if_f hf h19
      refine CW.is_t rfl (congrArg (fun b => !b) (decide_eq_false h19)) ?_
      refine CW.seq ?_
      refine CW.region ?_
      refine OW.rv (RV.buildSt (l := [.bool false, .slice none 0 0, .slice none 0 0]) (cs := [.bool false, .slice none 0 0, .slice none 0 0]) [] rfl rfl rfl rfl rfl rfl rfl) rfl ?_
      refine OW.rv (RV.move rfl) rfl ?_
      refine OW.rot1 ?_
      refine OW.sv (SV.storeW rfl rfl rfl (by intro u hu; simp at hu; rcases hu with rfl | rfl | rfl <;> rfl) rfl rfl rfl) ?_
      refine OW.rv (RV.assign rfl) rfl ?_
      refine OW.rv (RV.assign rfl) rfl ?_
      refine OW.nil ?_
      refine QW.then_n ?_
      refine CW.ret ?_
      refine QW.then_r ?_
      have er0 := Option.some.inj hf
      obtain ⟨e0, er1⟩ := Prod.mk.inj er0
      clear er0
      obtain ⟨e1, er2⟩ := Prod.mk.inj er1
      clear er1
      subst e0
      subst e1
      subst er2
      have v138 : View (More w0 Φ (B6 ++ [])) none ([] : List (BitVec 8)).length 0 1 (u8s []) := View.nil
      have v139 : View (More w0 Φ (B6 ++ [])) none ([] : List (It)).length 0 3 [] := View.nil
      refine QW.retG (rs := [.cell 8 29, .tmp 9, .tmp 10]) ([.agg [.bool false, .slice none 0 0, .slice none 0 0].toArray, .int .i64 (0 : Int), .int .i64 ((x5 : Nat) : Int)]) ((B6 ++ [])) rfl ?_ rfl ?_ ?_ _ (.inl rfl)
      · exact ⟨⟨_, _, _, _, rfl, (List.Mem.head _), rfl, rfl, rfl, rfl⟩, rfl, rfl, trivial⟩
      · exact ⟨(B6 ++ []), [.bool false, .slice none 0 0, .slice none 0 0], (ItRd.mk v138 v139 (Reps.nil)), (by omega), (by omega), rfl, rfl⟩
      · exact (fun w m => m.pick [] 2 rfl rfl)
theorem waybillref07_item_does (w0 : World) (Φ : Ctx) (N : List Ent) (hΦ : ∀ w, Mem w0 w N → Φ w) (A0_ : Option Addr) (c0_ : Nat) (a0 : List (BitVec 8)) (a1 : Nat) (a2 : Nat) (a3 : Nat) (res0 : It) (res1 : Nat) (res2 : Nat) (va0 : View Φ A0_ a0.length c0_ 1 (u8s a0)) (ba1 : a1 ≤ 9223372036854775807) (ba2 : a2 ≤ 9223372036854775807) (ba3 : a3 ≤ 9223372036854775807) (hf : waybillref07_item a0 a1 a2 a3 = some (res0, res1, res2)) : DoesG Try.prog 84 [.slice A0_ a0.length c0_, .int .i64 ((a1 : Nat) : Int), .int .i64 ((a2 : Nat) : Int), .int .i64 ((a3 : Nat) : Int)] w0 [] N (fun v G => ∃ B : List Ent, ∃ cr0 : List Value, (ItRd (More w0 Φ B) cr0 res0) ∧ (res1 ≤ 9223372036854775807) ∧ (res2 ≤ 9223372036854775807) ∧ v = .tuple #[.agg cr0.toArray, .int .i64 ((res1 : Nat) : Int), .int .i64 ((res2 : Nat) : Int)] ∧ G = B) := waybillref07_item_rec w0 _ Φ N hΦ A0_ c0_ a0 a1 a2 a3 res0 res1 res2 va0 ba1 ba2 ba3 hf

theorem waybillref07_Decode_does (w0 : World) (Φ : Ctx) (N : List Ent) (hΦ : ∀ w, Mem w0 w N → Φ w) (A0_ : Option Addr) (c0_ : Nat) (a0 : List (BitVec 8)) (res0 : It) (res1 : Nat) (va0 : View Φ A0_ a0.length c0_ 1 (u8s a0)) (hf : waybillref07_Decode a0 = some (res0, res1)) : DoesG Try.prog 56 [.slice A0_ a0.length c0_] w0 [] N (fun v G => ∃ B : List Ent, ∃ cr0 : List Value, (ItRd (More w0 Φ B) cr0 res0) ∧ (res1 ≤ 9223372036854775807) ∧ v = .tuple #[.agg cr0.toArray, .int .i64 ((res1 : Nat) : Int)] ∧ G = B) := by
  unfold waybillref07_Decode at hf
  replace va0 := va0.mono (Ψ := More w0 Φ []) (fun w q => q.1)
  have m1 := va0.mx
  refine DoesG.enter Try.func56 rfl Try.ntmps56 rfl (M := (([] ++ N))) rfl ?_
  refine CW.seq ?_
  refine CW.region ?_
  refine OW.alloc (l := [.bool false, .slice none 0 0, .slice none 0 0]) rfl rfl rfl (fun b2 => ?_)
  refine OW.rv (RV.assign rfl) rfl ?_
  refine OW.nil ?_
  refine QW.then_n ?_
  refine CW.seq ?_
  refine CW.seq ?_
  refine CW.region ?_
  refine OW.rv (RV.move rfl) rfl ?_
  refine OW.rv (RV.len rfl rfl) rfl ?_
  refine OW.rv (RV.gtr rfl rfl) rfl ?_
  refine OW.slot (.bool (decide (16777216 < a0.length))) (congrArg Value.bool (decide_eq_decide.2 (by omega))) ?_
  refine OW.nil ?_
  refine QW.then_n ?_
  by_cases h3 : 16777216 < a0.length
  · replace hf := if_t hf h3
    refine CW.is_t rfl (decide_eq_true h3) ?_
    refine CW.seq ?_
    refine CW.region ?_
    refine OW.rv (RV.buildSt (l := [.bool false, .slice none 0 0, .slice none 0 0]) (cs := [.bool false, .slice none 0 0, .slice none 0 0]) [] rfl rfl rfl rfl rfl rfl rfl) rfl ?_
    refine OW.sv (SV.storeW rfl rfl rfl (by intro u hu; simp at hu; rcases hu with rfl | rfl | rfl <;> rfl) rfl rfl rfl) ?_
    refine OW.rv (RV.assign rfl) rfl ?_
    refine OW.nil ?_
    refine QW.then_n ?_
    refine CW.ret ?_
    refine QW.then_r ?_
    have er0 := Option.some.inj hf
    obtain ⟨e0, er1⟩ := Prod.mk.inj er0
    clear er0
    subst e0
    subst er1
    have v4 : View (More w0 Φ []) none ([] : List (BitVec 8)).length 0 1 (u8s []) := View.nil
    have v5 : View (More w0 Φ []) none ([] : List (It)).length 0 3 [] := View.nil
    refine QW.retG (rs := [.cell 2 29, .tmp 3]) ([.agg [.bool false, .slice none 0 0, .slice none 0 0].toArray, .int .i64 (2 : Int)]) ([]) rfl ?_ rfl ?_ ?_ _ (.inl rfl)
    · exact ⟨⟨_, _, _, _, rfl, (List.Mem.head _), rfl, rfl, rfl, rfl⟩, rfl, trivial⟩
    · exact ⟨[], [.bool false, .slice none 0 0, .slice none 0 0], (ItRd.mk v4 v5 (Reps.nil)), (by omega), rfl, rfl⟩
    · exact (fun w m => m.pick [] 1 rfl rfl)
  · replace hf := if_f hf h3
    refine CW.is_f rfl (decide_eq_false h3) ?_
    refine CW.skip ?_
    refine QW.then_n ?_
    refine CW.seq ?_
    refine CW.region ?_
    refine OW.rv (RV.move rfl) rfl ?_
    refine OW.rv (RV.move rfl) rfl ?_
    refine OW.rv (RV.len rfl rfl) rfl ?_
    obtain ⟨⟨x7, x8, x9⟩, hx6, hf⟩ := some_bind hf
    try dsimp only at hf
    refine OW.callG Try.call84 rfl (waybillref07_item_does w0 (More w0 Φ []) ((some b2, blk [.bool false, .slice none 0 0, .slice none 0 0] 29) :: ([] ++ N)) (fun w m => More.of hΦ 1 m rfl) A0_ c0_ a0 0 a0.length 0 x7 x8 x9 va0 (by omega) (by omega) (by omega) hx6) rfl rfl ?_
    rintro L15 M16 ⟨B10, cs11, h12, b13, b14, e17, e18⟩
    rw [e17, e18]
    clear e17 e18 L15 M16
    refine OW.mem (M' := ((some b2, blk [.bool false, .slice none 0 0, .slice none 0 0] 29) :: ((B10 ++ []) ++ N))) (fun w m => by have h := Mem.sinkAt (A := B10) m 0 1 rfl rfl; exact h) ?_
    replace va0 := va0.mono (Ψ := More w0 Φ (B10 ++ [])) (fun w q => More.mono (fun w m => (m).appR) q)
    replace h12 := ItRd.mono (Ψ := (More w0 Φ (B10 ++ []))) (fun w q => More.flat q) _ _ h12
    have h28 := h12
    obtain ⟨A19, c20, A22, c23, cs25, e27, v21, v24, h26⟩ := ItRd.opn h12
    subst e27
    have m29 := v21.mx
    have m30 := v24.mx
    have m31 := v21.mx
    have m32 := v24.mx
    refine OW.rv (RV.move rfl) rfl ?_
    refine OW.rv (RV.extract rfl rfl) rfl ?_
    refine OW.slot (.agg [.bool (x7.list), .slice A19 x7.data.length c20, .slice A22 x7.items.length c23].toArray) (rfl) ?_
    refine OW.rv (RV.extract rfl rfl) rfl ?_
    refine OW.slot (.int .i64 ((x8 : Nat) : Int)) (rfl) ?_
    refine OW.rv (RV.extract rfl rfl) rfl ?_
    refine OW.slot (.int .i64 ((x9 : Nat) : Int)) (rfl) ?_
    refine OW.alloc (l := [.bool false, .slice none 0 0, .slice none 0 0]) rfl rfl rfl (fun b33 => ?_)
    refine OW.sv (SV.storeW rfl rfl rfl (by intro u hu; simp at hu; rcases hu with rfl | rfl | rfl <;> rfl) rfl rfl rfl) ?_
    refine OW.rv (RV.assign rfl) rfl ?_
    refine OW.rv (RV.assign rfl) rfl ?_
    refine OW.nil ?_
    refine QW.then_n ?_
    refine CW.seq ?_
    refine CW.seq ?_
    refine CW.region ?_
    refine OW.rv (RV.move rfl) rfl ?_
    refine OW.rv (RV.neq rfl rfl) rfl ?_
    refine OW.slot (.bool (!decide (x9 = 0))) (congrArg (fun b => Value.bool (!b)) (decide_eq_decide.2 (by omega))) ?_
    refine OW.nil ?_
    refine QW.then_n ?_
    by_cases h34 : x9 = 0
    · replace hf := if_t hf h34
      refine CW.is_f rfl (congrArg (fun b => !b) (decide_eq_true h34)) ?_
      refine CW.skip ?_
      refine QW.then_n ?_
      refine CW.seq ?_
      refine CW.seq ?_
      refine CW.region ?_
      refine OW.rv (RV.move rfl) rfl ?_
      refine OW.rv (RV.move rfl) rfl ?_
      refine OW.rv (RV.len rfl rfl) rfl ?_
      refine OW.rv (RV.lss rfl rfl) rfl ?_
      refine OW.slot (.bool (decide (x8 < a0.length))) (congrArg Value.bool (decide_eq_decide.2 (by omega))) ?_
      refine OW.nil ?_
      refine QW.then_n ?_
      by_cases h35 : x8 < a0.length
      · replace hf := if_t hf h35
        refine CW.is_t rfl (decide_eq_true h35) ?_
        refine CW.seq ?_
        refine CW.region ?_
        refine OW.rv (RV.buildSt (l := [.bool false, .slice none 0 0, .slice none 0 0]) (cs := [.bool false, .slice none 0 0, .slice none 0 0]) [] rfl rfl rfl rfl rfl rfl rfl) rfl ?_
        refine OW.rot1 ?_
        refine OW.sv (SV.storeW rfl rfl rfl (by intro u hu; simp at hu; rcases hu with rfl | rfl | rfl <;> rfl) rfl rfl rfl) ?_
        refine OW.rv (RV.assign rfl) rfl ?_
        refine OW.nil ?_
        refine QW.then_n ?_
        refine CW.ret ?_
        refine QW.then_r ?_
        have er0 := Option.some.inj hf
        obtain ⟨e0, er1⟩ := Prod.mk.inj er0
        clear er0
        subst e0
        subst er1
        have v36 : View (More w0 Φ (B10 ++ [])) none ([] : List (BitVec 8)).length 0 1 (u8s []) := View.nil
        have v37 : View (More w0 Φ (B10 ++ [])) none ([] : List (It)).length 0 3 [] := View.nil
        refine QW.retG (rs := [.cell 2 29, .tmp 3]) ([.agg [.bool false, .slice none 0 0, .slice none 0 0].toArray, .int .i64 (73 : Int)]) ((B10 ++ [])) rfl ?_ rfl ?_ ?_ _ (.inl rfl)
        · exact ⟨⟨_, _, _, _, rfl, (List.Mem.head _), rfl, rfl, rfl, rfl⟩, rfl, trivial⟩
        · exact ⟨(B10 ++ []), [.bool false, .slice none 0 0, .slice none 0 0], (ItRd.mk v36 v37 (Reps.nil)), (by omega), rfl, rfl⟩
        · exact (fun w m => m.pick [] 2 rfl rfl)
      · replace hf := if_f hf h35
        refine CW.is_f rfl (decide_eq_false h35) ?_
        refine CW.skip ?_
        refine QW.then_n ?_
        refine CW.seq ?_
        refine CW.region ?_
        refine OW.rv (RV.loadW rfl (List.Mem.head _) rfl rfl rfl rfl rfl) rfl ?_
        refine OW.rot1 ?_
        refine OW.sv (SV.storeW rfl rfl rfl (by intro u hu; simp at hu; rcases hu with rfl | rfl | rfl <;> rfl) rfl rfl rfl) ?_
        refine OW.rv (RV.assign rfl) rfl ?_
        refine OW.nil ?_
        refine QW.then_n ?_
        refine CW.ret ?_
        have er0 := Option.some.inj hf
        obtain ⟨e0, er1⟩ := Prod.mk.inj er0
        clear er0
        subst e0
        subst er1
        refine QW.retG (rs := [.cell 2 29, .tmp 3]) ([.agg [.bool (x7.list), .slice A19 x7.data.length c20, .slice A22 x7.items.length c23].toArray, .int .i64 (0 : Int)]) ((B10 ++ [])) rfl ?_ rfl ?_ ?_ _ (.inl rfl)
        · exact ⟨⟨_, _, _, _, rfl, (List.Mem.head _), rfl, rfl, rfl, rfl⟩, rfl, trivial⟩
        · exact ⟨(B10 ++ []), [.bool (x7.list), .slice A19 x7.data.length c20, .slice A22 x7.items.length c23], h28, (by omega), rfl, rfl⟩
        · exact (fun w m => m.pick [] 2 rfl rfl)
    · replace hf := if_f hf h34
      refine CW.is_t rfl (congrArg (fun b => !b) (decide_eq_false h34)) ?_
      refine CW.seq ?_
      refine CW.region ?_
      refine OW.rv (RV.buildSt (l := [.bool false, .slice none 0 0, .slice none 0 0]) (cs := [.bool false, .slice none 0 0, .slice none 0 0]) [] rfl rfl rfl rfl rfl rfl rfl) rfl ?_
      refine OW.rv (RV.move rfl) rfl ?_
      refine OW.rot1 ?_
      refine OW.sv (SV.storeW rfl rfl rfl (by intro u hu; simp at hu; rcases hu with rfl | rfl | rfl <;> rfl) rfl rfl rfl) ?_
      refine OW.rv (RV.assign rfl) rfl ?_
      refine OW.nil ?_
      refine QW.then_n ?_
      refine CW.ret ?_
      refine QW.then_r ?_
      have er0 := Option.some.inj hf
      obtain ⟨e0, er1⟩ := Prod.mk.inj er0
      clear er0
      subst e0
      subst er1
      have v38 : View (More w0 Φ (B10 ++ [])) none ([] : List (BitVec 8)).length 0 1 (u8s []) := View.nil
      have v39 : View (More w0 Φ (B10 ++ [])) none ([] : List (It)).length 0 3 [] := View.nil
      refine QW.retG (rs := [.cell 2 29, .tmp 3]) ([.agg [.bool false, .slice none 0 0, .slice none 0 0].toArray, .int .i64 ((x9 : Nat) : Int)]) ((B10 ++ [])) rfl ?_ rfl ?_ ?_ _ (.inl rfl)
      · exact ⟨⟨_, _, _, _, rfl, (List.Mem.head _), rfl, rfl, rfl, rfl⟩, rfl, trivial⟩
      · exact ⟨(B10 ++ []), [.bool false, .slice none 0 0, .slice none 0 0], (ItRd.mk v38 v39 (Reps.nil)), (by omega), rfl, rfl⟩
      · exact (fun w m => m.pick [] 2 rfl rfl)

theorem waybilllaw07_same_does (w0 : World) (Φ : Ctx) (N : List Ent) (hΦ : ∀ w, Mem w0 w N → Φ w) (A0_ : Option Addr) (c0_ : Nat) (a0 : List (BitVec 8)) (A1_ : Option Addr) (c1_ : Nat) (a1 : List (BitVec 8)) (res0 : Bool) (va0 : View Φ A0_ a0.length c0_ 1 (u8s a0)) (va1 : View Φ A1_ a1.length c1_ 1 (u8s a1)) (hf : waybilllaw07_same a0 a1 = some res0) : DoesG Try.prog 26 [.slice A0_ a0.length c0_, .slice A1_ a1.length c1_] w0 [] N (fun v G => v = .bool res0) := by
  unfold waybilllaw07_same at hf
  replace va0 := va0.mono (Ψ := More w0 Φ []) (fun w q => q.1)
  replace va1 := va1.mono (Ψ := More w0 Φ []) (fun w q => q.1)
  have m1 := va0.mx
  have m2 := va1.mx
  refine DoesG.enter Try.func26 rfl Try.ntmps26 rfl (M := (([] ++ N))) rfl ?_
  refine CW.seq ?_
  refine CW.region ?_
  refine OW.rv (RV.assign rfl) rfl ?_
  refine OW.nil ?_
  refine QW.then_n ?_
  refine CW.seq ?_
  refine CW.seq ?_
  refine CW.region ?_
  refine OW.rv (RV.move rfl) rfl ?_
  refine OW.rv (RV.len rfl rfl) rfl ?_
  refine OW.rv (RV.move rfl) rfl ?_
  refine OW.rv (RV.len rfl rfl) rfl ?_
  refine OW.rv (RV.neq rfl rfl) rfl ?_
  refine OW.slot (.bool (!decide (a0.length = a1.length))) (congrArg (fun b => Value.bool (!b)) (decide_eq_decide.2 (by omega))) ?_
  refine OW.nil ?_
  refine QW.then_n ?_
  by_cases h3 : a0.length = a1.length
  · replace hf := if_t hf h3
    refine CW.is_f rfl (congrArg (fun b => !b) (decide_eq_true h3)) ?_
    refine CW.skip ?_
    refine QW.then_n ?_
    refine CW.seq ?_
    refine CW.seq ?_
    refine CW.region ?_
    refine OW.rv (RV.assign rfl) rfl ?_
    refine OW.nil ?_
    refine QW.then_n ?_
    obtain ⟨q4, hq5, hf⟩ := some_bind hf
    refine CW.cutJ (fun L' M' => q4 = Lp.go () ∧ L' = [] ∧ M' = (([] ++ N))) ?_ ?_
    · rintro L7 M8 ⟨e6, e9, e10⟩
      rw [e9, e10]
      clear e9 e10 L7 M8
      clear hq5
      rw [e6] at hf
      clear e6
      try dsimp only at hf
      refine QW.then_n ?_
      refine CW.seq ?_
      refine CW.region ?_
      refine OW.rv (RV.assign rfl) rfl ?_
      refine OW.nil ?_
      refine QW.then_n ?_
      refine CW.ret ?_
      have e0 := Option.some.inj hf
      subst e0
      refine QW.retG (rs := [.tmp 4]) ([.bool true]) ([]) rfl ?_ rfl ?_ ?_ _ (.inl rfl)
      · exact ⟨rfl, trivial⟩
      · exact rfl
      · exact (fun w m => m)
    · skip
      refine CW.block ?_
      refine CW.loopJ (fun k L' M' => ∃ n11 : Nat, (waybilllaw07_same.l1 a0 a1 k n11) = some q4 ∧ (n11 ≤ 9223372036854775807) ∧ L' = [(0, .slice A0_ a0.length c0_), (1, .slice A1_ a1.length c1_), (5, .int .i64 ((n11 : Nat) : Int))] ∧ M' = (([] ++ N))) (k0 := (a0.length - 0 + 2)) ⟨0, hq5, (by omega), rfl, rfl⟩ ⟨rfl, rfl, rfl, trivial⟩ (fun w m => m.pick [] 0 rfl rfl) ?_
      clear hq5
      rintro k13 L16 M17 ⟨n11, hl14, b12, e18, e19⟩
      rw [e18, e19]
      clear e18 e19 L16 M17
      rcases k13 with _ | k13
      · rw [waybilllaw07_same.l1] at hl14; cases hl14
      rw [waybilllaw07_same.l1] at hl14
      refine CW.seq ?_
      refine CW.seq ?_
      refine CW.region ?_
      refine OW.rv (RV.move rfl) rfl ?_
      refine OW.rv (RV.move rfl) rfl ?_
      refine OW.rv (RV.len rfl rfl) rfl ?_
      refine OW.rv (RV.lss rfl rfl) rfl ?_
      refine OW.slot (.bool (decide (n11 < a0.length))) (congrArg Value.bool (decide_eq_decide.2 (by omega))) ?_
      refine OW.nil ?_
      refine QW.then_n ?_
      by_cases h20 : n11 < a0.length
      · replace hl14 := if_t hl14 h20
        refine CW.is_t rfl (decide_eq_true h20) ?_
        refine CW.skip ?_
        refine QW.then_n ?_
        refine CW.seq ?_
        refine CW.block ?_
        refine CW.seq ?_
        refine CW.drawsU 9 mixed (by kernel_rfl) rfl ?_
        refine UW.rv 0 rfl (by kernel_rfl) rfl (RV.move rfl) rfl ?_
        refine UW.rv 1 rfl (by kernel_rfl) rfl (RV.move rfl) rfl ?_
        obtain ⟨x21, hx22, hl14⟩ := some_bind hl14
        have hl23 := lt_of_at hx22
        refine UW.rv 2 rfl (by kernel_rfl) rfl (RV.idx_r (n11) rfl rfl rfl rfl rfl (va0.isSome (by decide) hl23) (by omega)) rfl ?_
        refine UW.rv 3 rfl (by kernel_rfl) rfl (RV.load_at rfl rfl rfl (fun w m => va0.cell (More.of hΦ 0 m rfl) (u8s_at hx22))) rfl ?_
        refine UW.rv 4 rfl (by kernel_rfl) rfl (RV.move rfl) rfl ?_
        refine UW.rv 5 rfl (by kernel_rfl) rfl (RV.move rfl) rfl ?_
        obtain ⟨x24, hx25, hl14⟩ := some_bind hl14
        have hl26 := lt_of_at hx25
        refine UW.rv 6 rfl (by kernel_rfl) rfl (RV.idx_r (n11) rfl rfl rfl rfl rfl (va1.isSome (by decide) hl26) (by omega)) rfl ?_
        refine UW.rv 7 rfl (by kernel_rfl) rfl (RV.load_at rfl rfl rfl (fun w m => va1.cell (More.of hΦ 0 m rfl) (u8s_at hx25))) rfl ?_
        refine UW.rv 8 rfl (by kernel_rfl) rfl (RV.neq8 rfl (by first | rfl | exact lit8 _ rfl) rfl (by first | rfl | exact lit8 _ rfl)) rfl ?_
        refine UW.nil (by kernel_rfl) ?_
        refine OW.nil ?_
        refine QW.then_n ?_
        by_cases h27 : x21 = x24
        · replace hl14 := if_t hl14 h27
          refine CW.is_f rfl (congrArg (fun b => !b) (decide_eq_true h27)) ?_
          refine CW.skip ?_
          refine QW.block_n ?_
          refine QW.then_n ?_
          refine CW.region ?_
          refine OW.rv (RV.move rfl) rfl ?_
          refine OW.rv (RV.add rfl rfl (by omega)) rfl ?_
          refine OW.slot (.int .i64 (((n11 + 1) : Nat) : Int)) (by first | rfl | (congr 1) | (congr 1; omega)) ?_
          refine OW.rv (RV.assign rfl) rfl ?_
          refine OW.nil ?_
          exact QW.againJ (k' := k13) (Nat.lt_succ_self _) ⟨(n11 + 1), hl14, (by omega), rfl, rfl⟩ ⟨rfl, rfl, rfl, trivial⟩ (fun w m => m.pick [] 0 rfl rfl)
        · replace hl14 := if_f hl14 h27
          refine CW.is_t rfl (congrArg (fun b => !b) (decide_eq_false h27)) ?_
          refine CW.seq ?_
          refine CW.region ?_
          refine OW.rv (RV.assign rfl) rfl ?_
          refine OW.nil ?_
          refine QW.then_n ?_
          refine CW.ret ?_
          refine QW.block_r ?_
          refine QW.then_r ?_
          refine QW.then_r ?_
          refine QW.block_r ?_
          refine QW.then_r ?_
          have hc := Option.some.inj hl14
          subst hc
          try dsimp only at hf
          refine QW.then_r ?_
          have e0 := Option.some.inj hf
          subst e0
          refine QW.retG (rs := [.tmp 4]) ([.bool false]) ([]) rfl ?_ rfl ?_ ?_ _ (.inl rfl)
          · exact ⟨rfl, trivial⟩
          · exact rfl
          · exact (fun w m => m)
      · replace hl14 := if_f hl14 h20
        refine CW.is_f rfl (decide_eq_false h20) ?_
        refine CW.exit ?_
        refine QW.then_x ?_
        refine QW.then_x ?_
        refine QW.block_xe ?_
        exact QW.join ⟨(Option.some.inj hl14).symm, rfl, rfl⟩ trivial (fun w m => m.pick [] 0 rfl rfl)
  · replace hf := if_f hf h3
    refine CW.is_t rfl (congrArg (fun b => !b) (decide_eq_false h3)) ?_
    refine CW.seq ?_
    refine CW.region ?_
    refine OW.rv (RV.assign rfl) rfl ?_
    refine OW.nil ?_
    refine QW.then_n ?_
    refine CW.ret ?_
    refine QW.then_r ?_
    have e0 := Option.some.inj hf
    subst e0
    refine QW.retG (rs := [.tmp 4]) ([.bool false]) ([]) rfl ?_ rfl ?_ ?_ _ (.inl rfl)
    · exact ⟨rfl, trivial⟩
    · exact rfl
    · exact (fun w m => m)

abbrev Zc : List Value := [.bool false, .slice none 0 0, .slice none 0 0]
abbrev DecR (w0 : World) (Φ : Ctx) (res0 : It) (res1 : Nat) : Value → List Ent → Prop := fun v G => ∃ B : List Ent, ∃ cr0 : List Value, (ItRd (More w0 Φ B) cr0 res0) ∧ (res1 ≤ 9223372036854775807) ∧ v = .tuple #[.agg cr0.toArray, .int .i64 ((res1 : Nat) : Int)] ∧ G = B
abbrev DecQ (w0 : World) (Φ : Ctx) (N : List Ent) (res0 : It) (res1 : Nat) := bodyPost Try.prog Try.f55 (EndsJ w0 (fun v M' => ∃ G, DecR w0 Φ res0 res1 v G ∧ M' = G ++ N))
def JD (w0 : World) (Φ : Ctx) (N : List Ent) (res0 : It) (res1 : Nat) : Nat → Nat → Slots → List Ent → Prop
  | 0, _, L, M => ∃ b2 : Nat, res0 = It.zero ∧ res1 ≤ 9223372036854775807 ∧ L = [(2, ptr (some b2) 0), (9, .int .i64 ((res1 : Nat) : Int))] ∧ M = (some b2, blk Zc 29) :: N
  | l + 1, k, L, M => ∃ (b : List (BitVec 8)) (A : Option Addr) (c : Nat) (F : List Frm) (B : List Ent) (ob4 : Option Nat) (c4 : Nat) (r4 : List Value) (b5 : Nat) (cs5 : List Value) (b2 : Nat) (it : It),
      dec k (l + 1) b it (F.map Frm.pure) = some (res0, res1) ∧ (l = 1 → ItRd (More w0 Φ B) cs5 it) ∧ View (More w0 Φ B) A b.length c 1 (u8s b) ∧ (∀ f ∈ F, f.Ok (More w0 Φ B)) ∧ OwnS ob4 F.length c4 2 (stC F) r4 ∧ cs5.length = 3 ∧
      L = [(0, .slice A b.length c), (2, ptr (some b2) 0), (4, sl ob4 0 F.length c4), (5, ptr (some b5) 0)] ∧
      M = (ob4, blk (stC F ++ r4) 112) :: (some b5, blk cs5 29) :: (some b2, blk Zc 29) :: (F.map (Frm.ent 29) ++ (B ++ N))
theorem toBroken {w0 w : World} {s c5 c2 : Ent} {X B N : List Ent} (m : Mem w0 w (s :: c5 :: c2 :: (X ++ (B ++ N)))) : Mem w0 w (c2 :: N) :=
  m.tail.tail.sublist (List.Sublist.cons_cons _ ((List.sublist_append_right _ _).trans (List.sublist_append_right _ _)))
theorem dec_w3 (w0 : World) (Φ : Ctx) (N : List Ent) (hΦ : ∀ w, Mem w0 w N → Φ w) (res0 : It) (res1 : Nat) (k m : Nat) (hkm : k ≤ m) (L : Slots) (M : List Ent) (h : JD w0 Φ N res0 res1 3 k L M) :
    CW Try.prog 105 (JumpJ 105 w0 (JD w0 Φ N res0 res1) m (DecQ w0 Φ N res0 res1)) w0 (afterL (scopeOf Try.f55.body) 3) L M := by
  obtain ⟨b, A, c, F, B, ob4, c4, r4, b5, cs5, b2, it, hf, -, vb, hF, o4, h5, rfl, rfl⟩ := h
  rcases k with _ | k
  · rw [dec] at hf; cases hf
  replace hf : dec (k + 1) 3 b it _ = _ := hf
  rw [dec_3] at hf
  have m1 := vb.mx
  have m2 := o4.mx
  refine CW.seq ?_
  refine CW.seq ?_
  refine CW.region ?_
  refine OW.rv (RV.move rfl) rfl ?_
  refine OW.rv (RV.len rfl rfl) rfl ?_
  refine OW.rv (RV.gtr rfl rfl) rfl ?_
  refine OW.slot (.bool (decide (0 < b.length))) (congrArg Value.bool (decide_eq_decide.2 (by omega))) ?_
  refine OW.nil ?_
  refine QW.then_n ?_
  by_cases h1 : 0 < b.length
  · replace hf := if_t hf h1
    refine CW.is_t rfl (decide_eq_true h1) ?_
    refine CW.goto ?_
    refine QW.then_g ?_
    exact QW.jump (k := k) (by omega) ⟨b, A, c, F, B, ob4, c4, r4, b5, cs5, b2, It.zero, hf, (fun e => absurd e (by decide)), vb, hF, o4, h5, rfl, rfl⟩ ⟨rfl, rfl, rfl, rfl, trivial⟩ (fun w m => m)
  · replace hf := if_f hf h1
    refine CW.is_f rfl (decide_eq_false h1) ?_
    refine CW.skip ?_
    refine QW.then_n ?_
    rcases F with _ | ⟨f, F⟩
    · cases hf
    replace hf : dec k 2 f.behind (It.mk true [] f.items) (F.map Frm.pure) = some (res0, res1) := hf
    have o4' : OwnS ob4 (F.length + 1) c4 2 (stC (f :: F)) r4 := o4
    have h0 : ob4.isSome = true := o4'.isSome (i := F.length) (by decide) (by omega)
    have hf0 := hF f (List.mem_cons_self ..)
    refine CW.seq ?_
    refine CW.region ?_
    refine OW.rv (RV.move rfl) rfl ?_
    refine OW.rv (RV.move rfl) rfl ?_
    refine OW.rv (RV.len rfl rfl) rfl ?_
    refine OW.rv (RV.sub rfl rfl (by simp only [List.length_cons] at *; omega)) rfl ?_
    refine OW.rv (RV.idx_os (F.length) rfl rfl (by simp) rfl rfl h0 (by simp only [List.length_cons]; omega)) rfl ?_
    refine OW.rv (RV.field rfl rfl rfl rfl) rfl ?_
    refine OW.rv (RV.load rfl (List.Mem.head _) h0 rfl rfl (stC_at0 F f r4)) rfl ?_
    refine OW.rv (RV.buildSt (l := Zc) (cs := [.bool true, .slice none 0 0, sl f.ob 0 f.items.length f.c]) [(0, [.bool true]), (2, [sl f.ob 0 f.items.length f.c])] rfl rfl rfl rfl rfl rfl rfl) rfl ?_
    refine OW.rot1 ?_
    refine OW.sv (SV.storeW rfl rfl rfl (by intro u hu; simp at hu; rcases hu with rfl | rfl | rfl <;> rfl) rfl h5 rfl) ?_
    refine OW.nil ?_
    refine QW.then_n ?_
    refine CW.seq ?_
    refine CW.region ?_
    refine OW.rv (RV.move rfl) rfl ?_
    refine OW.rv (RV.move rfl) rfl ?_
    refine OW.rv (RV.len rfl rfl) rfl ?_
    refine OW.rv (RV.sub rfl rfl (by simp only [List.length_cons] at *; omega)) rfl ?_
    refine OW.rv (RV.idx_os (F.length) rfl rfl (by simp) rfl rfl h0 (by simp only [List.length_cons]; omega)) rfl ?_
    refine OW.rv (RV.field rfl rfl rfl rfl) rfl ?_
    refine OW.rv (RV.load rfl (List.Mem.tail _ (List.Mem.head _)) h0 rfl rfl (stC_at1 F f r4)) rfl ?_
    refine OW.rv (RV.assign rfl) rfl ?_
    refine OW.nil ?_
    refine QW.then_n ?_
    refine CW.seq ?_
    refine CW.region ?_
    refine OW.rv (RV.move rfl) rfl ?_
    refine OW.rv (RV.move rfl) rfl ?_
    refine OW.rv (RV.len rfl rfl) rfl ?_
    refine OW.rv (RV.sub rfl rfl (by simp only [List.length_cons] at *; omega)) rfl ?_
    refine OW.rv (RV.cut_o (F.length) rfl rfl (by simp) rfl rfl (by have := o4'.le (by decide); simp only [List.length_cons]; omega)) rfl ?_
    refine OW.rv (RV.assign rfl) rfl ?_
    refine OW.nil ?_
    refine QW.then_n ?_
    refine CW.seq ?_
    refine CW.goto ?_
    refine QW.then_g ?_
    have hm : ∀ w, More w0 Φ (f.ent 29 :: B) w → More w0 Φ B w := fun w q => More.mono (fun w m => m.tail) q
    have v1 : View (More w0 Φ (f.ent 29 :: B)) ((f.ob).map fun k => ⟨k, 0, none⟩) f.items.length f.c 3 f.cells := hf0.o.view (by decide) (fun w q => q.2.sublist (List.singleton_sublist.2 (List.mem_cons_self ..)))
    have hit : ItRd (More w0 Φ (f.ent 29 :: B)) [.bool true, .slice none 0 0, sl f.ob 0 f.items.length f.c] (It.mk true [] f.items) := by
      have v0 : View (More w0 Φ (f.ent 29 :: B)) none ([] : List (BitVec 8)).length 0 1 (u8s []) := View.nil
      exact ItRd.mk v0 v1 (hf0.h.mono (ItRd.mono hm))
    refine QW.jump (k := k) (by omega) (l := 2) ⟨f.behind, f.A, f.cb, F, f.ent 29 :: B, ob4, c4, f.cs ++ r4, b5, _, b2, It.mk true [] f.items, hf, (fun _ => hit), hf0.v.mono hm, (fun g hg => (hF g (List.mem_cons_of_mem _ hg)).mono hm), o4'.pop rfl, rfl, rfl, rfl⟩ ⟨rfl, rfl, rfl, rfl, trivial⟩ (fun w m => ?_)
    have m := m.pick [1, 0] 2 rfl rfl
    rw [stC_pop] at m
    exact m.under [_, _, _] _
theorem dec_w2 (w0 : World) (Φ : Ctx) (N : List Ent) (hΦ : ∀ w, Mem w0 w N → Φ w) (res0 : It) (res1 : Nat) (k m : Nat) (hkm : k ≤ m) (L : Slots) (M : List Ent) (h : JD w0 Φ N res0 res1 2 k L M) :
    CW Try.prog 105 (JumpJ 105 w0 (JD w0 Φ N res0 res1) m (DecQ w0 Φ N res0 res1)) w0 (afterL (scopeOf Try.f55.body) 2) L M := by
  obtain ⟨b, A, c, F, B, ob4, c4, r4, b5, cs5, b2, it, hf, hit, vb, hF, o4, h5, rfl, rfl⟩ := h
  replace hit := hit rfl
  rcases k with _ | k
  · rw [dec] at hf; cases hf
  replace hf : dec (k + 1) 2 b it _ = _ := hf
  have m1 := vb.mx
  have m2 := o4.mx
  obtain ⟨Ai, ci, Bi, ei, cells, hcs, vi, wi, ri⟩ := ItRd.opn hit
  subst hcs
  refine CW.seq ?_
  refine CW.seq ?_
  refine CW.region ?_
  refine OW.rv (RV.move rfl) rfl ?_
  refine OW.rv (RV.len rfl rfl) rfl ?_
  refine OW.rv (RV.eql rfl rfl) rfl ?_
  refine OW.slot (.bool (decide (F.length = 0))) (congrArg Value.bool (decide_eq_decide.2 (by omega))) ?_
  refine OW.nil ?_
  refine QW.then_n ?_
  rcases F with _ | ⟨f, F⟩
  · rw [List.map_nil, dec_2n] at hf
    refine CW.is_t rfl rfl ?_
    refine CW.seq ?_
    refine CW.seq ?_
    refine CW.region ?_
    refine OW.rv (RV.move rfl) rfl ?_
    refine OW.rv (RV.len rfl rfl) rfl ?_
    refine OW.rv (RV.gtr rfl rfl) rfl ?_
    refine OW.slot (.bool (decide (0 < b.length))) (congrArg Value.bool (decide_eq_decide.2 (by omega))) ?_
    refine OW.nil ?_
    refine QW.then_n ?_
    by_cases h1 : 0 < b.length
    · replace hf := if_t hf h1
      refine CW.is_t rfl (decide_eq_true h1) ?_
      refine CW.seq ?_
      refine CW.region ?_
      refine OW.rv (RV.assign rfl) rfl ?_
      refine OW.nil ?_
      refine QW.then_n ?_
      refine CW.goto ?_
      refine QW.then_g ?_
      refine QW.then_g ?_
      obtain ⟨e0, e1⟩ := Prod.mk.inj (Option.some.inj hf)
      subst e1
      exact QW.jump (k := 0) (l := 0) (by omega) ⟨b2, e0.symm, (by omega), rfl, rfl⟩ ⟨rfl, rfl, trivial⟩ (fun w m => toBroken m)
    · replace hf := if_f hf h1
      refine CW.is_f rfl (decide_eq_false h1) ?_
      refine CW.skip ?_
      refine QW.then_n ?_
      refine CW.seq ?_
      refine CW.region ?_
      refine OW.rv (RV.loadW rfl (List.Mem.tail _ (List.Mem.head _)) rfl rfl rfl rfl rfl) rfl ?_
      refine OW.rot2 ?_
      refine OW.sv (SV.storeW rfl rfl rfl (by intro u hu; simp at hu; rcases hu with rfl | rfl | rfl <;> rfl) rfl rfl rfl) ?_
      refine OW.rv (RV.assign rfl) rfl ?_
      refine OW.nil ?_
      refine QW.then_n ?_
      refine CW.ret ?_
      refine QW.then_r ?_
      obtain ⟨e0, e1⟩ := Prod.mk.inj (Option.some.inj hf)
      subst e0
      subst e1
      refine QW.jump_r ?_
      refine QW.retG (rs := [.cell 2 29, .tmp 3]) ([.agg [.bool it.list, .slice Ai it.data.length ci, .slice Bi it.items.length ei].toArray, .int .i64 (0 : Int)]) B rfl ?_ rfl ?_ ?_ _ (.inl rfl)
      · exact ⟨⟨_, _, _, _, rfl, (List.Mem.head _), rfl, rfl, rfl, rfl⟩, rfl, trivial⟩
      · exact ⟨B, _, hit, (by omega), rfl, rfl⟩
      · exact (fun w m => m.drop 3)
  · replace hf : dec (k + 1) 2 b it ((f.items, f.behind) :: F.map Frm.pure) = some (res0, res1) := hf
    rw [dec_2c] at hf
    obtain ⟨hg, hf⟩ := some_if hf
    refine CW.is_f rfl rfl ?_
    refine CW.skip ?_
    refine QW.then_n ?_
    have o4' : OwnS ob4 (F.length + 1) c4 2 (stC (f :: F)) r4 := o4
    have h0 : ob4.isSome = true := o4'.isSome (i := F.length) (by decide) (by omega)
    have hf0 := hF f (List.mem_cons_self ..)
    have hl4 : 0 + F.length * 2 + 0 < (stC (f :: F) ++ r4).length := by rw [List.length_append, stC_len, List.length_cons]; omega
    have m3 : F.length + 1 ≤ 140737488355328 := m2
    refine CW.seq ?_
    refine CW.cutJ (fun L' M' => ∃ g : Frm, g.items = f.items ++ [it] ∧ g.behind = f.behind ∧ g.Ok (More w0 Φ B) ∧ L' = [(0, .slice A b.length c), (2, ptr (some b2) 0), (4, sl ob4 0 (F.length + 1) c4), (5, ptr (some b5) 0)] ∧
      M' = (ob4, blk (stC (g :: F) ++ r4) 112) :: (some b5, blk [.bool it.list, .slice Ai it.data.length ci, .slice Bi it.items.length ei] 29) :: (some b2, blk Zc 29) :: ((g :: F).map (Frm.ent 29) ++ (B ++ N))) ?_ ?_
    · rintro L' M' ⟨g, gi, gb, gok, e1, e2⟩
      refine QW.then_n ?_
      refine CW.seq ?_
      refine CW.label ?_
      refine QW.then_n ?_
      refine dec_w3 w0 Φ N hΦ res0 res1 k m (by omega) L' M' ⟨b, A, c, g :: F, B, ob4, c4, r4, b5, _, b2, It.zero, ?_, (fun e => absurd e (by decide)), vb, ?_, o4.swap, rfl, e1, e2⟩
      · show dec k 3 b It.zero ((g.items, g.behind) :: F.map Frm.pure) = some (res0, res1)
        rw [gi, gb]; exact hf
      · intro x hx
        rcases List.mem_cons.1 hx with rfl | hx
        · exact gok
        · exact hF x (List.mem_cons_of_mem _ hx)
    · refine CW.seqJ (fun L' M' => ∃ v : Bool, L' = [(45, .bool v), (0, .slice A b.length c), (2, ptr (some b2) 0), (4, sl ob4 0 (F.length + 1) c4), (5, ptr (some b5) 0)] ∧ M' = (ob4, blk (stC (f :: F) ++ r4) 112) :: (some b5, blk [.bool it.list, .slice Ai it.data.length ci, .slice Bi it.items.length ei] 29) :: (some b2, blk Zc 29) :: (f.ent 29 :: (F.map (Frm.ent 29) ++ (B ++ N)))) ?_ ?_
      · rintro L' M' ⟨v, rfl, rfl⟩
        cases v
        · refine CW.is_f rfl rfl ?_
          refine CW.drawsX ((some b5, blk [.bool it.list, .slice Ai it.data.length ci, .slice Bi it.items.length ei] 29) :: (some b2, blk Zc 29) :: (F.map (Frm.ent 29) ++ (B ++ N))) [13, 16] (fun w m => m.pick [1, 2] 4 rfl rfl) mixed (by kernel_rfl) ?_
          refine XW.rs 0 rfl (by kernel_rfl) rfl (RV.move rfl) rfl ?_
          refine XW.rs 1 rfl (by kernel_rfl) rfl (RV.move rfl) rfl ?_
          refine XW.rs 2 rfl (by kernel_rfl) rfl (RV.len rfl rfl) rfl ?_
          refine XW.rs 3 rfl (by kernel_rfl) rfl (RV.sub rfl rfl (by omega)) rfl ?_
          refine XW.rs 4 rfl (by kernel_rfl) rfl (RV.move rfl) rfl ?_
          refine XW.rs 5 rfl (by kernel_rfl) rfl (RV.move rfl) rfl ?_
          refine XW.rs 6 rfl (by kernel_rfl) rfl (RV.len rfl rfl) rfl ?_
          refine XW.rs 7 rfl (by kernel_rfl) rfl (RV.sub rfl rfl (by omega)) rfl ?_
          refine XW.rs 8 rfl (by kernel_rfl) rfl (RV.idx_os (F.length) rfl rfl (by omega) rfl rfl h0 (by omega)) rfl ?_
          refine XW.rs 9 rfl (by kernel_rfl) rfl (RV.field rfl rfl rfl rfl) rfl ?_
          refine XW.rv 10 rfl (by kernel_rfl) rfl (by kernel_rfl) (RV.load rfl (List.Mem.head _) h0 rfl rfl (stC_at0 F f r4)) rfl ?_
          refine XW.rs 11 rfl (by kernel_rfl) rfl (RV.loadW rfl (List.Mem.head _) rfl rfl rfl rfl rfl) rfl ?_
          refine XW.new 12 rfl (by kernel_rfl) rfl (NV.bsA rfl rfl (by intro x hx; simp at hx; subst hx; rfl) rfl rfl rfl (by decide) (by decide) rfl) rfl (fun b76 => ?_)
          refine XW.mem (M' := ((f.ob, blk (f.cells ++ f.r) 29) :: (some b76, blk ([.bool it.list, .slice Ai it.data.length ci, .slice Bi it.items.length ei] ++ []) 29) :: (ob4, blk (stC (f :: F) ++ r4) 112) :: (some b5, blk [.bool it.list, .slice Ai it.data.length ci, .slice Bi it.items.length ei] 29) :: (some b2, blk Zc 29) :: (F.map (Frm.ent 29) ++ (B ++ N)))) (fun w m => m.pick [4, 0, 1, 2, 3] 5 rfl rfl) (fun w m => m.pick [3, 4] 5 rfl rfl) ?_
          refine XW.appendOwn 13 (s := 3) rfl (by kernel_rfl) rfl rfl rfl rfl rfl rfl hf0.o (fun w m => m.rd0 (List.Mem.tail _ (List.Mem.head _)) (fun e => nomatch e)) rfl (by intro u hu; simp at hu; rcases hu with rfl | rfl | rfl <;> rfl) (fun e => nomatch e) (by decide) (by decide) hg rfl ((f.items ++ [it]).length) (f.cells ++ [.bool it.list, .slice Ai it.data.length ci, .slice Bi it.items.length ei]) (by simp) rfl (fun w m => m.pick [2, 3] 4 rfl rfl) rfl (fun ob77 r77 c77 o77 => ?_)
          refine XW.rs 14 rfl (by kernel_rfl) rfl (RV.idx_os (F.length) rfl rfl (by omega) rfl rfl h0 (by omega)) rfl ?_
          refine XW.rs 15 rfl (by kernel_rfl) rfl (RV.field rfl rfl rfl rfl) rfl ?_
          refine XW.mem (M' := ((ob4, blk (stC (f :: F) ++ r4) 112) :: (ob77, blk ((f.cells ++ [.bool it.list, .slice Ai it.data.length ci, .slice Bi it.items.length ei]) ++ r77) 29) :: (some b5, blk [.bool it.list, .slice Ai it.data.length ci, .slice Bi it.items.length ei] 29) :: (some b2, blk Zc 29) :: (F.map (Frm.ent 29) ++ (B ++ N)))) (fun w m => m.pick [2, 0, 3, 4] 5 rfl rfl) (fun w m => m.pick [2, 3] 4 rfl rfl) ?_
          refine XW.sv 16 rfl (by kernel_rfl) (SV.store rfl h0 rfl rfl rfl hl4) (fun w m => m.pick [2, 3] 4 rfl rfl) ?_
          refine XW.cells (stC ((⟨ob77, c77, f.cells ++ [.bool it.list, .slice Ai it.data.length ci, .slice Bi it.items.length ei], r77, f.A, f.cb, f.items ++ [it], f.behind⟩ : Frm) :: F) ++ r4) (show (stC (f :: F) ++ r4).set (0 + F.length * 2 + 0) (sl ob77 0 (f.items ++ [it]).length c77) = stC ((⟨ob77, c77, f.cells ++ [.bool it.list, .slice Ai it.data.length ci, .slice Bi it.items.length ei], r77, f.A, f.cb, f.items ++ [it], f.behind⟩ : Frm) :: F) ++ r4 from stC_set0 F f ⟨ob77, c77, f.cells ++ [.bool it.list, .slice Ai it.data.length ci, .slice Bi it.items.length ei], r77, f.A, f.cb, f.items ++ [it], f.behind⟩ r4 rfl rfl rfl) ?_
          refine XW.nil (by kernel_rfl) ?_
          refine QW.join ⟨⟨ob77, c77, f.cells ++ [.bool it.list, .slice Ai it.data.length ci, .slice Bi it.items.length ei], r77, f.A, f.cb, f.items ++ [it], f.behind⟩, rfl, rfl, ⟨o77, hf0.h.app (Reps.one hit), hf0.v⟩, rfl, rfl⟩ ⟨rfl, rfl, rfl, rfl, trivial⟩ (fun w m => ?_)
          exact m.pick [0, 2, 3, 1] 4 rfl rfl
        · refine CW.is_t rfl rfl ?_
          refine CW.seq ?_
          refine CW.drawsU 14 mixed (by kernel_rfl) rfl ?_
          refine UW.rv 0 rfl (by kernel_rfl) rfl (RV.move rfl) rfl ?_
          refine UW.rv 1 rfl (by kernel_rfl) rfl (RV.move rfl) rfl ?_
          refine UW.rv 2 rfl (by kernel_rfl) rfl (RV.len rfl rfl) rfl ?_
          refine UW.rv 3 rfl (by kernel_rfl) rfl (RV.sub rfl rfl (by omega)) rfl ?_
          refine UW.rv 4 rfl (by kernel_rfl) rfl (RV.move rfl) rfl ?_
          refine UW.rv 5 rfl (by kernel_rfl) rfl (RV.move rfl) rfl ?_
          refine UW.rv 6 rfl (by kernel_rfl) rfl (RV.len rfl rfl) rfl ?_
          refine UW.rv 7 rfl (by kernel_rfl) rfl (RV.sub rfl rfl (by omega)) rfl ?_
          refine UW.rv 8 rfl (by kernel_rfl) rfl (RV.idx_os (F.length) rfl rfl (by omega) rfl rfl h0 (by omega)) rfl ?_
          refine UW.rv 9 rfl (by kernel_rfl) rfl (RV.field rfl rfl rfl rfl) rfl ?_
          refine UW.rv 10 rfl (by kernel_rfl) rfl (RV.load rfl (List.Mem.head _) h0 rfl rfl (stC_at0 F f r4)) rfl ?_
          refine UW.rv 11 rfl (by kernel_rfl) rfl (RV.loadW rfl (List.Mem.tail _ (List.Mem.head _)) rfl rfl rfl rfl rfl) rfl ?_
          refine UW.rv 12 rfl (by kernel_rfl) rfl (RV.len rfl rfl) rfl ?_
          refine UW.new 13 rfl (by kernel_rfl) rfl (NV.bsA (cs := Zc) rfl rfl (by intro x hx; simp at hx; subst hx; rfl) rfl rfl rfl (by decide) (by decide) rfl) rfl (fun b59 => ?_)
          refine UW.nil (by kernel_rfl) ?_
          refine OW.mem (M' := ((f.ob, blk (f.cells ++ f.r) 29) :: (some b59, blk (Zc ++ []) 29) :: (ob4, blk (stC (f :: F) ++ r4) 112) :: (some b5, blk [.bool it.list, .slice Ai it.data.length ci, .slice Bi it.items.length ei] 29) :: (some b2, blk Zc 29) :: (F.map (Frm.ent 29) ++ (B ++ N)))) (fun w m => m.pick [4, 0, 1, 2, 3] 5 rfl rfl) ?_
          refine OW.appendOwn (s := 3) rfl rfl rfl rfl rfl rfl hf0.o (fun w m => m.rd0 (List.Mem.tail _ (List.Mem.head _)) (fun e => nomatch e)) rfl (by intro u hu; simp at hu; rcases hu with rfl | rfl | rfl <;> rfl) (fun e => nomatch e) (by decide) (by decide) hg rfl rfl ((f.items ++ [it]).length) (f.cells ++ Zc) (by simp) rfl (fun ob60 r60 c60 o60 => ?_)
          refine OW.rv (RV.idx_os (F.length) rfl rfl (by omega) rfl rfl h0 (by omega)) rfl ?_
          refine OW.rv (RV.field rfl rfl rfl rfl) rfl ?_
          refine OW.rot2 ?_
          refine OW.sv (SV.store rfl h0 rfl rfl rfl hl4) ?_
          refine OW.cells (stC ((⟨ob60, c60, f.cells ++ [.bool it.list, .slice Ai it.data.length ci, .slice Bi it.items.length ei], r60, f.A, f.cb, f.items ++ [it], f.behind⟩ : Frm) :: F) ++ r4) (show (stC (f :: F) ++ r4).set (0 + F.length * 2 + 0) (sl ob60 0 (f.items ++ [it]).length c60) = stC ((⟨ob60, c60, f.cells ++ [.bool it.list, .slice Ai it.data.length ci, .slice Bi it.items.length ei], r60, f.A, f.cb, f.items ++ [it], f.behind⟩ : Frm) :: F) ++ r4 from stC_set0 F f ⟨ob60, c60, f.cells ++ [.bool it.list, .slice Ai it.data.length ci, .slice Bi it.items.length ei], r60, f.A, f.cb, f.items ++ [it], f.behind⟩ r4 rfl rfl rfl) ?_
          refine OW.nil ?_
          refine QW.then_n ?_
          refine CW.region ?_
          have hlen : (f.items ++ [it]).length = f.items.length + 1 := by simp
          have h60 : ob60.isSome = true := o60.isSome (i := f.items.length) (by decide) (by omega)
          refine OW.rv (RV.idx_os (f.items.length) rfl rfl rfl rfl rfl h60 (by omega)) rfl ?_
          refine OW.rot1 ?_
          have hc3 := hf0.o.n
          refine OW.sv (SV.storeAs rfl h60 rfl (by intro u hu; simp at hu; rcases hu with rfl | rfl | rfl <;> rfl) rfl rfl (show 0 + f.items.length * 3 + 3 ≤ _ by simp only [List.length_append, List.length_cons, List.length_nil]; omega)) ?_
          have esp : spl ((f.cells ++ Zc) ++ r60) (0 + f.items.length * 3) [.bool it.list, .slice Ai it.data.length ci, .slice Bi it.items.length ei] = (f.cells ++ [.bool it.list, .slice Ai it.data.length ci, .slice Bi it.items.length ei]) ++ r60 := spl_last f.cells Zc [.bool it.list, .slice Ai it.data.length ci, .slice Bi it.items.length ei] r60 (f.items.length * 3) (by omega) rfl
          refine OW.cells _ esp ?_
          refine OW.nil ?_
          refine QW.join ⟨⟨ob60, c60, f.cells ++ [.bool it.list, .slice Ai it.data.length ci, .slice Bi it.items.length ei], r60, f.A, f.cb, f.items ++ [it], f.behind⟩, rfl, rfl, ⟨o60.same (by simp) rfl, hf0.h.app (Reps.one hit), hf0.v⟩, rfl, rfl⟩ ⟨rfl, rfl, rfl, rfl, trivial⟩ (fun w m => ?_)
          exact m.pick [1, 3, 4, 0] 5 rfl rfl
      · refine CW.drawsA mixed ?_
        refine AW.one 0 (by kernel_rfl) (AO.alloc (l := [.bool false]) rfl rfl rfl rfl (fun b44 => ?_))
        refine AW.two 1 2 (by kernel_rfl) ?_ ?_
        · refine AO.sv rfl (SV.store rfl rfl rfl rfl rfl (by simp)) ?_
          refine AW.one 2 (by kernel_rfl) (AO.sv rfl (SV.store rfl rfl rfl rfl rfl (by simp)) ?_)
          refine AW.one 3 (by kernel_rfl) (AO.rv rfl (RV.load (v := .bool false) rfl (List.Mem.head _) rfl rfl rfl rfl) rfl ?_)
          refine AW.nil (by kernel_rfl) ?_
          exact QW.join ⟨false, rfl, rfl⟩ ⟨rfl, rfl, rfl, rfl, rfl, trivial⟩ (fun w m => m.tail)
        · refine AO.sv rfl (SV.store rfl rfl rfl rfl rfl (by simp)) ?_
          refine AW.one 1 (by kernel_rfl) (AO.sv rfl (SV.store rfl rfl rfl rfl rfl (by simp)) ?_)
          refine AW.one 3 (by kernel_rfl) (AO.rv rfl (RV.load (v := .bool true) rfl (List.Mem.head _) rfl rfl rfl rfl) rfl ?_)
          refine AW.nil (by kernel_rfl) ?_
          exact QW.join ⟨true, rfl, rfl⟩ ⟨rfl, rfl, rfl, rfl, rfl, trivial⟩ (fun w m => m.tail)
theorem dec_w1 (w0 : World) (Φ : Ctx) (N : List Ent) (hΦ : ∀ w, Mem w0 w N → Φ w) (res0 : It) (res1 : Nat) (k m : Nat) (hkm : k ≤ m) (L : Slots) (M : List Ent) (h : JD w0 Φ N res0 res1 1 k L M) :
    CW Try.prog 105 (JumpJ 105 w0 (JD w0 Φ N res0 res1) m (DecQ w0 Φ N res0 res1)) w0 (afterL (scopeOf Try.f55.body) 1) L M := by
  obtain ⟨b, A, c, F, B, ob4, c4, r4, b5, cs5, b2, it, hf, -, vb, hF, o4, h5, rfl, rfl⟩ := h
  rcases k with _ | k
  · rw [dec] at hf; cases hf
  replace hf : dec (k + 1) 1 b it _ = _ := hf
  rw [dec_1] at hf
  have m1 := vb.mx
  have m2 := o4.mx
  obtain ⟨⟨x1, x2, x3, x4⟩, hx, hf⟩ := some_bind hf
  dsimp only at hf
  refine CW.seq ?_
  refine CW.seq ?_
  refine CW.region ?_
  refine OW.rv (RV.move rfl) rfl ?_
  refine OW.callG Try.call75 rfl (rlp_cut_does w0 (More w0 Φ B) _ (fun w m => More.low hΦ [_, _, _] _ m) A c b x1 x2 x3 x4 vb hx) rfl rfl ?_
  rintro L3 M3 ⟨B3, Ar1, kr1, Ar2, kr2, v1, v2, bx, e1, e2⟩
  rw [e1, e2]
  clear e1 e2 L3 M3
  refine OW.mem (M' := ((ob4, blk (stC F ++ r4) 112) :: (some b5, blk cs5 29) :: (some b2, blk Zc 29) :: (F.map (Frm.ent 29) ++ ((B3 ++ B) ++ N)))) (fun w m => Mem.deep [_, _, _] _ m) ?_
  replace v1 := v1.mono (Ψ := More w0 Φ (B3 ++ B)) (fun w q => More.flat q)
  replace v2 := v2.mono (Ψ := More w0 Φ (B3 ++ B)) (fun w q => More.flat q)
  replace hF : ∀ f ∈ F, f.Ok (More w0 Φ (B3 ++ B)) := fun f hf => (hF f hf).mono (fun w q => More.mono (fun w m => m.appR) q)
  have m3 := v1.mx
  have m4 := v2.mx
  refine OW.rv (RV.move rfl) rfl ?_
  refine OW.rv (RV.extract rfl rfl) rfl ?_
  refine OW.rv (RV.extract rfl rfl) rfl ?_
  refine OW.rv (RV.extract rfl rfl) rfl ?_
  refine OW.rv (RV.extract rfl rfl) rfl ?_
  refine OW.rv (RV.assign rfl) rfl ?_
  refine OW.rv (RV.assign rfl) rfl ?_
  refine OW.rv (RV.assign rfl) rfl ?_
  refine OW.rv (RV.assign rfl) rfl ?_
  refine OW.nil ?_
  refine QW.then_n ?_
  refine CW.seq ?_
  refine CW.region ?_
  refine OW.rv (RV.move rfl) rfl ?_
  refine OW.rv (RV.neq rfl rfl) rfl ?_
  refine OW.slot (.bool (!decide (x4 = 0))) (congrArg (fun b => Value.bool (!b)) (decide_eq_decide.2 (by omega))) ?_
  refine OW.nil ?_
  refine QW.then_n ?_
  by_cases h4 : x4 = 0
  · replace hf := if_t hf h4
    refine CW.is_f rfl (congrArg (fun b => !b) (decide_eq_true h4)) ?_
    refine CW.skip ?_
    refine QW.then_n ?_
    refine CW.seq ?_
    refine CW.seq ?_
    refine CW.region ?_
    refine OW.rv (RV.move rfl) rfl ?_
    refine OW.rv (RV.not rfl) rfl ?_
    refine OW.nil ?_
    refine QW.then_n ?_
    by_cases h1 : x1 = true
    · replace hf := if_t hf h1
      refine CW.is_f rfl (congrArg (fun b => !b) h1) ?_
      refine CW.skip ?_
      refine QW.then_n ?_
      refine CW.seq ?_
      refine CW.seq ?_
      refine CW.region ?_
      refine OW.rv (RV.move rfl) rfl ?_
      refine OW.rv (RV.len rfl rfl) rfl ?_
      refine OW.rv (RV.eql rfl rfl) rfl ?_
      refine OW.slot (.bool (decide ((F.map Frm.pure).length = 1024))) (congrArg Value.bool (decide_eq_decide.2 (by rw [List.length_map]; omega))) ?_
      refine OW.nil ?_
      refine QW.then_n ?_
      by_cases h2 : (F.map Frm.pure).length = 1024
      · replace hf := if_t hf h2
        refine CW.is_t rfl (decide_eq_true h2) ?_
        refine CW.seq ?_
        refine CW.region ?_
        refine OW.rv (RV.assign rfl) rfl ?_
        refine OW.nil ?_
        refine QW.then_n ?_
        refine CW.goto ?_
        refine QW.then_g ?_
        obtain ⟨e0, e1⟩ := Prod.mk.inj (Option.some.inj hf)
        subst e1
        exact QW.jump (k := 0) (l := 0) (by omega) ⟨b2, e0.symm, (by omega), rfl, rfl⟩ ⟨rfl, rfl, trivial⟩ (fun w m => toBroken m)
      · replace hf := if_f hf h2
        refine CW.is_f rfl (decide_eq_false h2) ?_
        refine CW.skip ?_
        refine QW.then_n ?_
        obtain ⟨hg, hf⟩ := some_if hf
        rw [List.length_map] at hg
        refine CW.seq ?_
        refine CW.region ?_
        refine OW.rv (RV.move rfl) rfl ?_
        refine OW.rv (RV.move rfl) rfl ?_
        refine OW.rv (RV.buildSt (l := [.slice none 0 0, .slice none 0 0]) (cs := [.slice none 0 0, .slice Ar2 x3.length kr2]) [(1, [.slice Ar2 x3.length kr2])] rfl rfl rfl rfl rfl rfl rfl) rfl ?_
        refine OW.ofN (NV.bsA rfl rfl (by intro x hx; simp at hx; subst hx; rfl) rfl rfl rfl (by decide) (by decide) rfl) rfl (fun b33 => ?_)
        refine OW.mem (M' := ((ob4, blk (stC F ++ r4) 112) :: (some b33, blk ([.slice none 0 0, .slice Ar2 x3.length kr2] ++ []) 112) :: (some b5, blk cs5 29) :: (some b2, blk Zc 29) :: (F.map (Frm.ent 29) ++ ((B3 ++ B) ++ N)))) (fun w m => m.pick [1, 0, 2, 3] 4 rfl rfl) ?_
        refine OW.appendOwn (s := 2) rfl rfl rfl rfl rfl rfl o4 (fun w m => m.rd0 (List.Mem.tail _ (List.Mem.head _)) (fun e => nomatch e)) rfl (by intro u hu; simp at hu; rcases hu with rfl | rfl <;> rfl) (fun e => nomatch e) (by decide) (by decide) hg rfl rfl (((⟨none, 0, [], [], Ar2, kr2, [], x3⟩ : Frm) :: F).length) (stC ((⟨none, 0, [], [], Ar2, kr2, [], x3⟩ : Frm) :: F)) (by simp) rfl (fun ob34 r34 c34 o34 => ?_)
        refine OW.rv (RV.assign rfl) rfl ?_
        refine OW.nil ?_
        refine QW.then_n ?_
        refine CW.seq ?_
        refine CW.region ?_
        refine OW.rv (RV.move rfl) rfl ?_
        refine OW.rv (RV.assign rfl) rfl ?_
        refine OW.nil ?_
        refine QW.then_n ?_
        refine CW.seq ?_
        refine CW.region ?_
        refine OW.rv (RV.buildSt (l := Zc) (cs := [.bool true, .slice none 0 0, .slice none 0 0]) [(0, [.bool true])] rfl rfl rfl rfl rfl rfl rfl) rfl ?_
        refine OW.rot2 ?_
        refine OW.sv (SV.storeW rfl rfl rfl (by intro u hu; simp at hu; rcases hu with rfl | rfl | rfl <;> rfl) rfl h5 rfl) ?_
        refine OW.nil ?_
        refine QW.then_n ?_
        refine CW.seq ?_
        refine CW.goto ?_
        refine QW.then_g ?_
        refine QW.jump (k := k) (l := 3) (by omega) ⟨x2, Ar1, kr1, ⟨none, 0, [], [], Ar2, kr2, [], x3⟩ :: F, B3 ++ B, ob34, c34, r34, b5, [.bool true, .slice none 0 0, .slice none 0 0], b2, It.zero, hf, (fun e => absurd e (by decide)), v1, ?_, o34, rfl, rfl, rfl⟩ ⟨rfl, rfl, rfl, rfl, trivial⟩ (fun w m => ?_)
        · intro x hx
          rcases List.mem_cons.1 hx with rfl | hx
          · exact ⟨OwnS.nil, Reps.nil, v2⟩
          · exact hF x hx
        · have m := m.nil_ent (blk ([] ++ []) 29)
          exact m.pick [2, 1, 4, 0] 5 rfl rfl
    · replace hf := if_f hf h1
      refine CW.is_t rfl (congrArg (fun b => !b) (Bool.eq_false_iff.2 h1)) ?_
      obtain ⟨x, hx5, hf⟩ := some_bind hf
      refine CW.seq ?_
      refine CW.region ?_
      refine OW.rv (RV.move rfl) rfl ?_
      refine OW.callG Try.call18 rfl (rlp_Text_does w0 (More w0 Φ (B3 ++ B)) _ (fun w m => More.low hΦ [_, _, _] _ m) Ar1 kr1 x2 x v1 hx5) rfl rfl ?_
      rintro L3 M3 ⟨B4, cr, hr, e1, e2⟩
      rw [e1, e2]
      clear e1 e2 L3 M3
      refine OW.mem (M' := ((ob4, blk (stC F ++ r4) 112) :: (some b5, blk cs5 29) :: (some b2, blk Zc 29) :: (F.map (Frm.ent 29) ++ ((B4 ++ (B3 ++ B)) ++ N)))) (fun w m => Mem.deep [_, _, _] _ m) ?_
      replace hr := ItRd.mono (Ψ := More w0 Φ (B4 ++ (B3 ++ B))) (fun w q => More.flat q) _ _ hr
      replace v2 := v2.mono (Ψ := More w0 Φ (B4 ++ (B3 ++ B))) (fun w q => More.mono (fun w m => m.appR) q)
      replace hF : ∀ f ∈ F, f.Ok (More w0 Φ (B4 ++ (B3 ++ B))) := fun f hf => (hF f hf).mono (fun w q => More.mono (fun w m => m.appR) q)
      have hl := ItRd.len _ _ hr
      have h1c := ItRd.one _ _ hr
      refine OW.rot1 ?_
      refine OW.sv (SV.storeW rfl rfl rfl h1c rfl h5 hl) ?_
      refine OW.nil ?_
      refine QW.then_n ?_
      refine CW.seq ?_
      refine CW.region ?_
      refine OW.rv (RV.move rfl) rfl ?_
      refine OW.rv (RV.assign rfl) rfl ?_
      refine OW.nil ?_
      refine QW.then_n ?_
      refine CW.goto ?_
      refine QW.then_g ?_
      exact QW.jump (k := k) (l := 2) (by omega) ⟨x3, Ar2, kr2, F, B4 ++ (B3 ++ B), ob4, c4, r4, b5, cr, b2, x, hf, (fun _ => hr), v2, hF, o4, hl, rfl, rfl⟩ ⟨rfl, rfl, rfl, rfl, trivial⟩ (fun w m => m.pick [1, 0] 2 rfl rfl)
  · replace hf := if_f hf h4
    refine CW.is_t rfl (congrArg (fun b => !b) (decide_eq_false h4)) ?_
    refine CW.goto ?_
    refine QW.then_g ?_
    obtain ⟨e0, e1⟩ := Prod.mk.inj (Option.some.inj hf)
    subst e1
    exact QW.jump (k := 0) (l := 0) (by omega) ⟨b2, e0.symm, bx, rfl, rfl⟩ ⟨rfl, rfl, trivial⟩ (fun w m => toBroken m)
theorem rlp_Decode_does (w0 : World) (Φ : Ctx) (N : List Ent) (hΦ : ∀ w, Mem w0 w N → Φ w) (A0_ : Option Addr) (c0_ : Nat) (a0 : List (BitVec 8)) (res0 : It) (res1 : Nat) (va0 : View Φ A0_ a0.length c0_ 1 (u8s a0)) (hf : rlp_Decode a0 = some (res0, res1)) : DoesG Try.prog 55 [.slice A0_ a0.length c0_] w0 [] N (fun v G => ∃ B : List Ent, ∃ cr0 : List Value, (ItRd (More w0 Φ B) cr0 res0) ∧ (res1 ≤ 9223372036854775807) ∧ v = .tuple #[.agg cr0.toArray, .int .i64 ((res1 : Nat) : Int)] ∧ G = B) := by
  unfold rlp_Decode at hf
  have m1 := va0.mx
  refine DoesG.enter Try.func55 rfl Try.ntmps55 rfl (M := N) rfl ?_
  refine CW.seq ?_
  refine CW.region ?_
  refine OW.alloc (l := Zc) rfl rfl rfl (fun b2 => ?_)
  refine OW.rv (RV.assign rfl) rfl ?_
  refine OW.nil ?_
  refine QW.then_n ?_
  refine CW.scopeJ (JD w0 Φ N res0 res1) (4 * a0.length + 9) ?_ ?_
  · refine CW.seq ?_
    refine CW.region ?_
    refine OW.rv (RV.assign rfl) rfl ?_
    refine OW.nil ?_
    refine QW.then_n ?_
    refine CW.seq ?_
    refine CW.region ?_
    refine OW.alloc (l := Zc) rfl rfl rfl (fun b5 => ?_)
    refine OW.nil ?_
    refine QW.then_n ?_
    refine CW.seq ?_
    refine CW.region ?_
    refine OW.rv (RV.assign rfl) rfl ?_
    refine OW.nil ?_
    refine QW.then_n ?_
    refine CW.seq ?_
    refine CW.region ?_
    refine OW.rv (RV.assign rfl) rfl ?_
    refine OW.rv (RV.assign rfl) rfl ?_
    refine OW.nil ?_
    refine QW.then_n ?_
    refine CW.seq ?_
    refine CW.region ?_
    refine OW.rv (RV.assign rfl) rfl ?_
    refine OW.nil ?_
    refine QW.then_n ?_
    refine CW.seq ?_
    refine CW.seq ?_
    refine CW.region ?_
    refine OW.rv (RV.move rfl) rfl ?_
    refine OW.rv (RV.len rfl rfl) rfl ?_
    refine OW.rv (RV.gtr rfl rfl) rfl ?_
    refine OW.slot (.bool (decide (16777216 < a0.length))) (congrArg Value.bool (decide_eq_decide.2 (by omega))) ?_
    refine OW.nil ?_
    refine QW.then_n ?_
    by_cases h1 : 16777216 < a0.length
    · replace hf := if_t hf h1
      refine CW.is_t rfl (decide_eq_true h1) ?_
      refine CW.goto ?_
      refine QW.then_g ?_
      obtain ⟨e0, e1⟩ := Prod.mk.inj (Option.some.inj hf)
      subst e1
      exact QW.jump (k := 0) (l := 0) (by omega) ⟨b2, e0.symm, (by omega), rfl, rfl⟩ ⟨rfl, rfl, trivial⟩ (fun w m => m.tail)
    · replace hf := if_f hf h1
      refine CW.is_f rfl (decide_eq_false h1) ?_
      refine CW.skip ?_
      refine QW.then_n ?_
      refine CW.seq ?_
      refine CW.label ?_
      refine QW.then_n ?_
      refine CW.mem (M' := ((none, blk ([] ++ []) 112) :: (some b5, blk Zc 29) :: (some b2, blk Zc 29) :: N)) (fun w m => m.nil_ent _) ?_
      refine CW.sub (L' := [(0, .slice A0_ a0.length c0_), (2, ptr (some b2) 0), (4, sl none 0 0 0), (5, ptr (some b5) 0)]) ⟨rfl, rfl, rfl, rfl, trivial⟩ ?_
      exact dec_w1 w0 Φ N hΦ res0 res1 (4 * a0.length + 8) _ (by omega) _ _ ⟨a0, A0_, c0_, [], [], none, 0, [], b5, Zc, b2, It.zero, hf, (fun e => absurd e (by decide)), va0.mono (fun w q => q.1), (fun f hf => nomatch hf), OwnS.nil, rfl, rfl, rfl⟩
  · intro l k L M h
    match l, h with
    | 0, ⟨b2, e0, hb, e1, e2⟩ =>
      subst e0
      subst e1
      subst e2
      refine ⟨_, rfl, ?_⟩
      refine CW.seq ?_
      refine CW.skip ?_
      refine QW.then_n ?_
      refine CW.seq ?_
      refine CW.region ?_
      refine OW.rv (RV.buildSt (l := Zc) (cs := Zc) [] rfl rfl rfl rfl rfl rfl rfl) rfl ?_
      refine OW.rv (RV.move rfl) rfl ?_
      refine OW.sv (SV.storeW rfl rfl rfl (by intro u hu; simp at hu; rcases hu with rfl | rfl | rfl <;> rfl) rfl rfl rfl) ?_
      refine OW.rv (RV.assign rfl) rfl ?_
      refine OW.nil ?_
      refine QW.then_n ?_
      refine CW.ret ?_
      refine QW.jump_r ?_
      have v0 : View (More w0 Φ []) none ([] : List (BitVec 8)).length 0 1 (u8s []) := View.nil
      have v1 : View (More w0 Φ []) none ([] : List (It)).length 0 3 [] := View.nil
      refine QW.retG (rs := [.cell 2 29, .tmp 3]) ([.agg Zc.toArray, .int .i64 ((res1 : Nat) : Int)]) [] rfl ?_ rfl ?_ ?_ _ (.inl rfl)
      · exact ⟨⟨_, _, _, _, rfl, (List.Mem.head _), rfl, rfl, rfl, rfl⟩, rfl, trivial⟩
      · exact ⟨[], Zc, (ItRd.mk v0 v1 (Reps.nil)), hb, rfl, rfl⟩
      · exact (fun w m => m.tail)
    | 1, h =>
      refine ⟨_, rfl, ?_⟩
      refine CW.seq ?_
      refine CW.skip ?_
      refine QW.then_n ?_
      exact dec_w1 w0 Φ N hΦ res0 res1 k k (Nat.le_refl _) L M h
    | 2, h =>
      refine ⟨_, rfl, ?_⟩
      refine CW.seq ?_
      refine CW.skip ?_
      refine QW.then_n ?_
      exact dec_w2 w0 Φ N hΦ res0 res1 k k (Nat.le_refl _) L M h
    | 3, h =>
      refine ⟨_, rfl, ?_⟩
      refine CW.seq ?_
      refine CW.skip ?_
      refine QW.then_n ?_
      exact dec_w3 w0 Φ N hΦ res0 res1 k k (Nat.le_refl _) L M h
    | l + 4, ⟨b, A, c, F, B, ob4, c4, r4, b5, cs5, b2, it, hf, _⟩ =>
      rcases k with _ | k
      · rw [dec] at hf; cases hf
      · exact absurd hf (by simp [dec])
end Go.Fw.Try
