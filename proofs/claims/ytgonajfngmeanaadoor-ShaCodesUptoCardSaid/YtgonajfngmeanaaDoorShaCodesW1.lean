/- Part of a proof: rules that its law uses. -/
import Derived.Test.YtgonajfngmeanaaDoorTy
import Derived.Test.YtgonajfngmeanaaDoorExt
import Derived.Test.YtgonajfngmeanaaDoorShaK5
import Derived.Test.YtgonajfngmeanaaDoorShaK6
import Derived.Test.YtgonajfngmeanaaDoorShaH
import Derived.Test.YtgonajfngmeanaaDoorFwE
import Derived.Test.YtgonajfngmeanaaDoorShaP1
import Derived.Test.YtgonajfngmeanaaDoorShaP2
import Derived.Test.YtgonajfngmeanaaDoorShaP3
import Derived.Test.YtgonajfngmeanaaDoorShaQ
import Derived.Test.YtgonajfngmeanaaDoorShaQ2
namespace Go.Fw.Tryd
open Go Go.Proofs Go.Fw
set_option maxRecDepth 100000
set_option linter.unusedVariables false
set_option linter.unusedSimpArgs false
set_option maxHeartbeats 1000000
theorem waybilllaw03_same_does (w0 : World) (Φ : Ctx) (N : List Ent) (hΦ : ∀ w, Mem w0 w N → Φ w) (A0_ : Option Addr) (c0_ : Nat) (a0 : List (BitVec 8)) (A1_ : Option Addr) (c1_ : Nat) (a1 : List (BitVec 8)) (res0 : Bool) (va0 : View Φ A0_ a0.length c0_ 1 (u8s a0)) (va1 : View Φ A1_ a1.length c1_ 1 (u8s a1)) (hf : waybilllaw03_same a0 a1 = some res0) : DoesG Tryd.prog 44 [.slice A0_ a0.length c0_, .slice A1_ a1.length c1_] w0 [] N (fun v G => v = .bool res0) := by
 unfold waybilllaw03_same at hf
 replace va0 := va0.mono (Ψ := More w0 Φ []) (fun w q => q.1)
 replace va1 := va1.mono (Ψ := More w0 Φ []) (fun w q => q.1)
 have m1 := va0.mx
 have m2 := va1.mx
 refine DoesG.enter Tryd.func44 rfl Tryd.ntmps44 rfl (M := (([] ++ N))) rfl ?_
 refine CW.seq (CW.region ?_)
 refine OW.rv (RV.assign rfl) rfl ?_
 refine OW.nil (QW.then_n (CW.seq (CW.seq (CW.region ?_))))
 refine OW.rv (RV.move rfl) rfl ?_
 refine OW.rv (RV.len rfl rfl) rfl ?_
 refine OW.rv (RV.move rfl) rfl ?_
 refine OW.rv (RV.len rfl rfl) rfl ?_
 refine OW.rv (RV.neq rfl rfl) rfl ?_
 refine OW.slot (.bool (!decide (a0.length = a1.length))) (congrArg (fun b => Value.bool (!b)) (decide_eq_decide.2 (by omega))) ?_
 refine OW.nil (QW.then_n ?_)
 by_cases h3 : a0.length = a1.length
 ·replace hf := if_t hf h3
  refine CW.is_f rfl (congrArg (fun b => !b) (decide_eq_true h3)) ?_
  refine CW.skip (QW.then_n (CW.seq (CW.seq (CW.region ?_))))
  refine OW.rv (RV.assign rfl) rfl ?_
  refine OW.nil (QW.then_n ?_)
  obtain ⟨q4, hq5, hf⟩ := some_bind hf
  refine CW.cutJ (fun L' M' => q4 = Lp.go () ∧ L' = [] ∧ M' = (([] ++ N))) ?_ ?_
  ·rintro L7 M8 ⟨e6, e9, e10⟩
   rw [e9, e10]
   clear e9 e10 L7 M8
   clear hq5
   rw [e6] at hf
   clear e6
   try dsimp only at hf
   refine QW.then_n (CW.seq (CW.region ?_))
   refine OW.rv (RV.assign rfl) rfl ?_
   refine OW.nil (QW.then_n (CW.ret ?_))
   have e0 := Option.some.inj hf
   subst e0
   refine QW.retG (rs := [.tmp 4]) ([.bool true]) ([]) rfl ?_ rfl ?_ ?_ _ (.inl rfl)
   ·exact ⟨rfl, trivial⟩
   ·exact rfl
   ·exact (fun w m => m)
  ·skip
   refine CW.block ?_
   refine CW.loopJ (fun k L' M' => ∃ n11 : Nat, (waybilllaw03_same.l1 a0 a1 k n11) = some q4 ∧ (n11 ≤ 9223372036854775807) ∧ L' = [(0, .slice A0_ a0.length c0_), (1, .slice A1_ a1.length c1_), (5, .int .i64 ((n11 : Nat) : Int))] ∧ M' = (([] ++ N))) (k0 := (a0.length - 0 + 2)) ⟨0, hq5, (by omega), rfl, rfl⟩ ⟨rfl, rfl, rfl, trivial⟩ (fun w m => m.pick [] 0 rfl rfl) ?_
   clear hq5
   rintro k13 L16 M17 ⟨n11, hl14, b12, e18, e19⟩
   rw [e18, e19]
   clear e18 e19 L16 M17
   rcases k13 with _ | k13
   ·rw [waybilllaw03_same.l1] at hl14; cases hl14
   rw [waybilllaw03_same.l1] at hl14
   refine CW.seq (CW.seq (CW.region ?_))
   refine OW.rv (RV.move rfl) rfl ?_
   refine OW.rv (RV.move rfl) rfl ?_
   refine OW.rv (RV.len rfl rfl) rfl ?_
   refine OW.rv (RV.lss rfl rfl) rfl ?_
   refine OW.slot (.bool (decide (n11 < a0.length))) (congrArg Value.bool (decide_eq_decide.2 (by omega))) ?_
   refine OW.nil (QW.then_n ?_)
   by_cases h20 : n11 < a0.length
   ·replace hl14 := if_t hl14 h20
    refine CW.is_t rfl (decide_eq_true h20) ?_
    refine CW.skip (QW.then_n (CW.seq (CW.block (CW.seq ?_))))
    refine CW.drawsU 9 mixed (by kernel_rfl) rfl ?_
    refine UW.rv 0 rfl (by kernel_rfl) rfl (RV.move rfl) rfl ?_
    refine UW.rv 1 rfl (by kernel_rfl) rfl (RV.move rfl) rfl ?_
    obtain ⟨x21, hx22, hl14⟩ := some_bind hl14
    have hl23 := lt_of_at hx22
    refine UW.rv 2 rfl (by kernel_rfl) rfl (RV.idx_r (n11) rfl rfl rfl rfl rfl (va0.isSome (by decide) hl23) (by omega)) rfl ?_
    refine UW.rv 3 rfl (by kernel_rfl) rfl (RV.load_at rfl rfl rfl (fun w m => va0.cell (More.of hΦ 0 m rfl) (u8s_at hx22))) rfl ?_
    refine UW.rv 4 rfl (by kernel_rfl) rfl (RV.move rfl) rfl ?_
    refine UW.rv 5 rfl (by kernel_rfl) rfl (RV.move rfl) rfl ?_
    obtain ⟨x24, hx25, hl14⟩ := some_bind hl14
    have hl26 := lt_of_at hx25
    refine UW.rv 6 rfl (by kernel_rfl) rfl (RV.idx_r (n11) rfl rfl rfl rfl rfl (va1.isSome (by decide) hl26) (by omega)) rfl ?_
    refine UW.rv 7 rfl (by kernel_rfl) rfl (RV.load_at rfl rfl rfl (fun w m => va1.cell (More.of hΦ 0 m rfl) (u8s_at hx25))) rfl ?_
    refine UW.rv 8 rfl (by kernel_rfl) rfl (RV.neq8 rfl (by first | rfl | exact lit8 _ rfl) rfl (by first | rfl | exact lit8 _ rfl)) rfl ?_
    refine UW.nil (by kernel_rfl) ?_
    refine OW.nil (QW.then_n ?_)
    by_cases h27 : x21 = x24
    ·replace hl14 := if_t hl14 h27
     refine CW.is_f rfl (congrArg (fun b => !b) (decide_eq_true h27)) ?_
     refine CW.skip (QW.block_n (QW.then_n (CW.region ?_)))
     refine OW.rv (RV.move rfl) rfl ?_
     refine OW.rv (RV.add rfl rfl (by omega)) rfl ?_
     refine OW.slot (.int .i64 (((n11 + 1) : Nat) : Int)) (by first | rfl | (congr 1) | (congr 1; omega)) ?_
     refine OW.rv (RV.assign rfl) rfl ?_
     refine OW.nil ?_
     exact QW.againJ (k' := k13) (Nat.lt_succ_self _) ⟨(n11 + 1), hl14, (by omega), rfl, rfl⟩ ⟨rfl, rfl, rfl, trivial⟩ (fun w m => m.pick [] 0 rfl rfl)
    ·replace hl14 := if_f hl14 h27
     refine CW.is_t rfl (congrArg (fun b => !b) (decide_eq_false h27)) ?_
     refine CW.seq (CW.region ?_)
     refine OW.rv (RV.assign rfl) rfl ?_
     refine OW.nil (QW.then_n (CW.ret (QW.block_r (QW.then_r (QW.then_r (QW.block_r (QW.then_r ?_)))))))
     have hc := Option.some.inj hl14
     subst hc
     try dsimp only at hf
     refine QW.then_r ?_
     have e0 := Option.some.inj hf
     subst e0
     refine QW.retG (rs := [.tmp 4]) ([.bool false]) ([]) rfl ?_ rfl ?_ ?_ _ (.inl rfl)
     ·exact ⟨rfl, trivial⟩
     ·exact rfl
     ·exact (fun w m => m)
   ·replace hl14 := if_f hl14 h20
    refine CW.is_f rfl (decide_eq_false h20) ?_
    refine CW.exit (QW.then_x (QW.then_x (QW.block_xe ?_)))
    exact QW.join ⟨(Option.some.inj hl14).symm, rfl, rfl⟩ trivial (fun w m => m.pick [] 0 rfl rfl)
 ·replace hf := if_f hf h3
  refine CW.is_t rfl (congrArg (fun b => !b) (decide_eq_false h3)) ?_
  refine CW.seq (CW.region ?_)
  refine OW.rv (RV.assign rfl) rfl ?_
  refine OW.nil (QW.then_n (CW.ret (QW.then_r ?_)))
  have e0 := Option.some.inj hf
  subst e0
  refine QW.retG (rs := [.tmp 4]) ([.bool false]) ([]) rfl ?_ rfl ?_ ?_ _ (.inl rfl)
  ·exact ⟨rfl, trivial⟩
  ·exact rfl
  ·exact (fun w m => m)
theorem waybilllaw03_copied_does (w0 : World) (Φ : Ctx) (N : List Ent) (hΦ : ∀ w, Mem w0 w N → Φ w) (A0_ : Option Addr) (c0_ : Nat) (a0 : List (BitVec 8)) (res0 : List (BitVec 8)) (va0 : View Φ A0_ a0.length c0_ 1 (u8s a0)) (hf : waybilllaw03_copied a0 = some res0) : DoesG Tryd.prog 23 [.slice A0_ a0.length c0_] w0 [] N (fun v G => ∃ B : List Ent, ∃ or0 : Option Nat, ∃ kr0 : Nat, ∃ rr0 : List Value, (OwnS or0 res0.length kr0 1 (u8s res0) rr0) ∧ v = sl or0 0 res0.length kr0 ∧ G = (or0, blk ((u8s res0) ++ rr0) 5) :: B) := by
 unfold waybilllaw03_copied at hf
 replace va0 := va0.mono (Ψ := More w0 Φ []) (fun w q => q.1)
 have m1 := va0.mx
 refine DoesG.enter Tryd.func23 rfl Tryd.ntmps23 rfl (M := (([] ++ N))) rfl ?_
 refine CW.seq (CW.region ?_)
 refine OW.rv (RV.assign rfl) rfl ?_
 refine OW.nil (QW.then_n (CW.seq (CW.region ?_)))
 refine OW.rv (RV.assign rfl) rfl ?_
 refine OW.nil (QW.then_n (CW.seq (CW.seq (CW.region ?_))))
 refine OW.rv (RV.assign rfl) rfl ?_
 refine OW.nil (QW.then_n ?_)
 obtain ⟨q2, hq3, hf⟩ := some_bind hf
 refine CW.cutJ (fun L' M' => ∃ l4 : List (BitVec 8), ∃ ob5 : Option Nat, ∃ c6 : Nat, ∃ r7 : List Value, q2 = l4 ∧ (OwnS ob5 l4.length c6 1 (u8s l4) r7) ∧ L' = [(3, sl ob5 0 l4.length c6)] ∧ M' = ((ob5, blk ((u8s l4) ++ r7) 5) :: ([] ++ N))) ?_ ?_
 ·rintro L10 M11 ⟨l4, ob5, c6, r7, e9, o8, e12, e13⟩
  rw [e12, e13]
  clear e12 e13 L10 M11
  clear hq3
  rw [e9] at hf
  clear e9
  try dsimp only at hf
  have m14 := o8.mx
  refine QW.then_n (CW.seq (CW.region ?_))
  refine OW.rv (RV.move rfl) rfl ?_
  refine OW.rv (RV.assign rfl) rfl ?_
  refine OW.nil (QW.then_n (CW.ret ?_))
  have e0 := Option.some.inj hf
  subst e0
  refine QW.retG (rs := [.tmp 2]) ([sl ob5 0 l4.length c6]) ((ob5, blk ((u8s l4) ++ r7) 5) :: []) rfl ?_ rfl ?_ ?_ _ (.inl rfl)
  ·exact ⟨rfl, trivial⟩
  ·exact ⟨[], ob5, c6, r7, o8, rfl, rfl⟩
  ·exact (fun w m => m.pick [0] 1 rfl rfl)
 ·skip
  refine CW.block ?_
  refine CW.mem (M' := ((none, blk ((u8s ([] : List (BitVec 8))) ++ []) 5) :: ([] ++ N))) (fun w m => m.nil_ent _) ?_
  refine CW.loopJ (fun k L' M' => ∃ l15 : List (BitVec 8), ∃ n20 : Nat, ∃ ob16 : Option Nat, ∃ c17 : Nat, ∃ r18 : List Value, (waybilllaw03_copied.l1 a0 k l15 n20) = some q2 ∧ (OwnS ob16 l15.length c17 1 (u8s l15) r18) ∧ (n20 ≤ 9223372036854775807) ∧ L' = [(0, .slice A0_ a0.length c0_), (3, sl ob16 0 l15.length c17), (4, .int .i64 ((n20 : Nat) : Int))] ∧ M' = ((ob16, blk ((u8s l15) ++ r18) 5) :: ([] ++ N))) (k0 := (a0.length - 0 + 2)) ⟨([] : List (BitVec 8)), 0, none, 0, [], hq3, OwnS.nil, (by omega), rfl, rfl⟩ ⟨rfl, rfl, rfl, trivial⟩ (fun w m => m.pick [0] 1 rfl rfl) ?_
  clear hq3
  rintro k22 L25 M26 ⟨l15, n20, ob16, c17, r18, hl23, o19, b21, e27, e28⟩
  rw [e27, e28]
  clear e27 e28 L25 M26
  rcases k22 with _ | k22
  ·rw [waybilllaw03_copied.l1] at hl23; cases hl23
  rw [waybilllaw03_copied.l1] at hl23
  have m29 := o19.mx
  refine CW.seq (CW.seq (CW.region ?_))
  refine OW.rv (RV.move rfl) rfl ?_
  refine OW.rv (RV.move rfl) rfl ?_
  refine OW.rv (RV.len rfl rfl) rfl ?_
  refine OW.rv (RV.lss rfl rfl) rfl ?_
  refine OW.slot (.bool (decide (n20 < a0.length))) (congrArg Value.bool (decide_eq_decide.2 (by omega))) ?_
  refine OW.nil (QW.then_n ?_)
  by_cases h30 : n20 < a0.length
  ·replace hl23 := if_t hl23 h30
   refine CW.is_t rfl (decide_eq_true h30) ?_
   refine CW.skip (QW.then_n (CW.seq (CW.block (CW.region ?_))))
   refine OW.rv (RV.move rfl) rfl ?_
   refine OW.rv (RV.move rfl) rfl ?_
   refine OW.rv (RV.move rfl) rfl ?_
   obtain ⟨x31, hx32, hl23⟩ := some_bind hl23
   have hl33 := lt_of_at hx32
   refine OW.rv (RV.idx_r (n20) rfl rfl rfl rfl rfl (va0.isSome (by decide) hl33) (by omega)) rfl ?_
   refine OW.rv (RV.load_at rfl rfl rfl (fun w m => va0.cell (More.of hΦ 1 m rfl) (u8s_at hx32))) rfl ?_
   refine OW.ofN (NV.bs1 rfl rfl rfl rfl rfl rfl) rfl (fun b34 => ?_)
   refine OW.mem (M' := (((some b34), blk ((u8s ([x31] : List (BitVec 8))) ++ []) 5) :: (ob16, blk ((u8s l15) ++ r18) 5) :: ([] ++ N))) (fun w m => by first | exact m | simpa [u8s] using m) ?_
   have o35 : OwnS (some b34) ([x31] : List (BitVec 8)).length 1 1 (u8s ([x31] : List (BitVec 8))) [] := ⟨by simp [u8s], by simp [u8s], (fun h => nomatch h), by simp⟩
   refine OW.slot (sl (some b34) 0 ([x31] : List (BitVec 8)).length 1) (rfl) ?_
   refine OW.rot1 ?_
   obtain ⟨g36, hl23⟩ := some_if hl23
   refine OW.appendOwn (s := 1) rfl rfl rfl rfl rfl rfl o19 (fun w m => m.rd0 (List.Mem.tail _ (List.Mem.head _)) (fun e => o35.nilc (by decide) e)) o35.n (u8s_one _) (o35.zeroO (by decide)) (by decide) (by decide) (by first | omega | (simp only [i5, List.length_nil]; omega)) rfl rfl ((l15 ++ ([x31] : List (BitVec 8))).length) (u8s (l15 ++ ([x31] : List (BitVec 8)))) (List.length_append ..).symm (u8s_app _ _) (fun ob37 r38 c39 o40 => ?_)
   have m41 := o40.mx
   refine OW.rv (RV.assign rfl) rfl ?_
   refine OW.nil (QW.block_n (QW.then_n (CW.region ?_)))
   refine OW.rv (RV.move rfl) rfl ?_
   refine OW.rv (RV.add rfl rfl (by omega)) rfl ?_
   refine OW.slot (.int .i64 (((n20 + 1) : Nat) : Int)) (by first | rfl | (congr 1) | (congr 1; omega)) ?_
   refine OW.rv (RV.assign rfl) rfl ?_
   refine OW.nil ?_
   exact QW.againJ (k' := k22) (Nat.lt_succ_self _) ⟨(l15 ++ ([x31] : List (BitVec 8))), (n20 + 1), ob37, c39, r38, hl23, o40, (by omega), rfl, rfl⟩ ⟨rfl, rfl, rfl, trivial⟩ (fun w m => m.pick [0] 2 rfl rfl)
  ·replace hl23 := if_f hl23 h30
   refine CW.is_f rfl (decide_eq_false h30) ?_
   refine CW.exit (QW.then_x (QW.then_x (QW.block_xe ?_)))
   exact QW.join ⟨l15, ob16, c17, r18, (Option.some.inj hl23).symm, o19, rfl, rfl⟩ ⟨rfl, trivial⟩ (fun w m => m.pick [0] 1 rfl rfl)
theorem waybillref03_Pad_does (w0 : World) (Φ : Ctx) (N : List Ent) (hΦ : ∀ w, Mem w0 w N → Φ w) (a0 : Int) (res0 : List (BitVec 8)) (res1 : Nat) (ba0 : -9223372036854775808 ≤ a0 ∧ a0 ≤ 9223372036854775807) (hf : waybillref03_Pad a0 = some (res0, res1)) : DoesG Tryd.prog 56 [.int .i64 a0] w0 [] N (fun v G => ∃ B : List Ent, ∃ or0 : Option Nat, ∃ kr0 : Nat, ∃ rr0 : List Value, (OwnS or0 res0.length kr0 1 (u8s res0) rr0) ∧ (res1 ≤ 9223372036854775807) ∧ v = .tuple #[sl or0 0 res0.length kr0, .int .i64 ((res1 : Nat) : Int)] ∧ G = (or0, blk ((u8s res0) ++ rr0) 5) :: B) := by
 unfold waybillref03_Pad at hf
 refine DoesG.enter Tryd.func56 rfl Tryd.ntmps56 rfl (M := (([] ++ N))) rfl ?_
 refine CW.seq (CW.region ?_)
 refine OW.rv (RV.assign rfl) rfl ?_
 refine OW.rv (RV.assign rfl) rfl ?_
 refine OW.nil (QW.then_n (CW.seq (CW.seq (CW.region ?_))))
 refine OW.rv (RV.move rfl) rfl ?_
 refine OW.rv (RV.lss rfl rfl) rfl ?_
 refine OW.nil (QW.then_n ?_)
 by_cases h1 : a0 < (0 : Int)
 ·replace hf := if_t hf h1
  refine CW.is_t rfl (decide_eq_true h1) ?_
  refine CW.seq (CW.region ?_)
  refine OW.rv (RV.assign rfl) rfl ?_
  refine OW.rv (RV.assign rfl) rfl ?_
  refine OW.nil (QW.then_n (CW.ret (QW.then_r ?_)))
  refine QW.mem (M' := ((none, blk ((u8s ([] : List (BitVec 8))) ++ []) 5) :: ([] ++ N))) (fun w m => m.nil_ent _) ?_
  have er0 := Option.some.inj hf
  obtain ⟨e0, er1⟩ := Prod.mk.inj er0
  clear er0
  subst e0
  subst er1
  refine QW.retG (rs := [.tmp 2, .tmp 3]) ([sl none 0 ([] : List (BitVec 8)).length 0, .int .i64 (1 : Int)]) ((none, blk ((u8s ([] : List (BitVec 8))) ++ []) 5) :: []) rfl ?_ rfl ?_ ?_ _ (.inl rfl)
  ·exact ⟨rfl, rfl, trivial⟩
  ·exact ⟨[], none, 0, [], OwnS.nil, (by omega), rfl, rfl⟩
  ·exact (fun w m => m.pick [0] 1 rfl rfl)
 ·replace hf := if_f hf h1
  refine CW.is_f rfl (decide_eq_false h1) ?_
  refine CW.skip (QW.then_n (CW.seq (CW.region ?_)))
  refine OW.ofN (NV.bs1 rfl rfl rfl rfl rfl rfl) rfl (fun b2 => ?_)
  refine OW.mem (M' := (((some b2), blk ((u8s ([128#8] : List (BitVec 8))) ++ []) 5) :: ([] ++ N))) (fun w m => by first | exact m | simpa [u8s] using m) ?_
  have o3 : OwnS (some b2) ([128#8] : List (BitVec 8)).length 1 1 (u8s ([128#8] : List (BitVec 8))) [] := ⟨by simp [u8s], by simp [u8s], (fun h => nomatch h), by simp⟩
  refine OW.slot (sl (some b2) 0 ([128#8] : List (BitVec 8)).length 1) (rfl) ?_
  refine OW.rv (RV.assign rfl) rfl ?_
  refine OW.nil (QW.then_n (CW.seq ?_))
  obtain ⟨q4, hq5, hf⟩ := some_bind hf
  refine CW.cutJ (fun L' M' => ∃ l6 : List (BitVec 8), ∃ ob7 : Option Nat, ∃ c8 : Nat, ∃ r9 : List Value, q4 = l6 ∧ (OwnS ob7 l6.length c8 1 (u8s l6) r9) ∧ L' = [(0, .int .i64 a0), (4, sl ob7 0 l6.length c8)] ∧ M' = ((ob7, blk ((u8s l6) ++ r9) 5) :: ([] ++ N))) ?_ ?_
  ·rintro L12 M13 ⟨l6, ob7, c8, r9, e11, o10, e14, e15⟩
   rw [e14, e15]
   clear e14 e15 L12 M13
   clear hq5
   rw [e11] at hf
   clear e11
   try dsimp only at hf
   have m16 := o10.mx
   refine QW.then_n (CW.seq (CW.region ?_))
   refine OW.rv (RV.move rfl) rfl ?_
   refine OW.rv (RV.conv_i64 rfl rfl rfl) rfl ?_
   refine OW.rv (RV.mul64 rfl (by first | rfl | exact lit64 _ rfl) rfl (by first | rfl | exact lit64 _ rfl)) rfl ?_
   refine OW.rv (RV.assign rfl) rfl ?_
   refine OW.nil (QW.then_n (CW.seq (CW.seq (CW.region ?_))))
   refine OW.rv (RV.assign rfl) rfl ?_
   refine OW.nil (QW.then_n ?_)
   obtain ⟨q17, hq18, hf⟩ := some_bind hf
   refine CW.cutJ (fun L' M' => ∃ l19 : List (BitVec 8), ∃ ob20 : Option Nat, ∃ c21 : Nat, ∃ r22 : List Value, q17 = l19 ∧ (OwnS ob20 l19.length c21 1 (u8s l19) r22) ∧ L' = [(4, sl ob20 0 l19.length c21)] ∧ M' = ((ob20, blk ((u8s l19) ++ r22) 5) :: ([] ++ N))) ?_ ?_
   ·rintro L25 M26 ⟨l19, ob20, c21, r22, e24, o23, e27, e28⟩
    rw [e27, e28]
    clear e27 e28 L25 M26
    clear hq18
    rw [e24] at hf
    clear e24
    try dsimp only at hf
    have m29 := o23.mx
    refine QW.then_n (CW.seq (CW.region ?_))
    refine OW.rv (RV.move rfl) rfl ?_
    refine OW.rv (RV.assign rfl) rfl ?_
    refine OW.rv (RV.assign rfl) rfl ?_
    refine OW.nil (QW.then_n (CW.ret ?_))
    have er0 := Option.some.inj hf
    obtain ⟨e0, er1⟩ := Prod.mk.inj er0
    clear er0
    subst e0
    subst er1
    refine QW.retG (rs := [.tmp 2, .tmp 3]) ([sl ob20 0 l19.length c21, .int .i64 (0 : Int)]) ((ob20, blk ((u8s l19) ++ r22) 5) :: []) rfl ?_ rfl ?_ ?_ _ (.inl rfl)
    ·exact ⟨rfl, rfl, trivial⟩
    ·exact ⟨[], ob20, c21, r22, o23, (by omega), rfl, rfl⟩
    ·exact (fun w m => m.pick [0] 1 rfl rfl)
   ·skip
    refine CW.block ?_
    refine CW.loopJ (fun k L' M' => ∃ l30 : List (BitVec 8), ∃ z35 : Int, ∃ ob31 : Option Nat, ∃ c32 : Nat, ∃ r33 : List Value, (waybillref03_Pad.l1 a0 k l30 z35) = some q17 ∧ (OwnS ob31 l30.length c32 1 (u8s l30) r33) ∧ (-9223372036854775808 ≤ z35 ∧ z35 ≤ 9223372036854775807) ∧ L' = [(4, sl ob31 0 l30.length c32), (5, U64 ((BitVec.ofInt 64 a0) * 8#64)), (6, .int .i64 z35)] ∧ M' = ((ob31, blk ((u8s l30) ++ r33) 5) :: ([] ++ N))) (k0 := 80) ⟨l6, (7 : Int), ob7, c8, r9, hq18, o10, (by omega), rfl, rfl⟩ ⟨rfl, rfl, rfl, trivial⟩ (fun w m => m.pick [0] 1 rfl rfl) ?_
    clear hq18
    rintro k37 L40 M41 ⟨l30, z35, ob31, c32, r33, hl38, o34, b36, e42, e43⟩
    rw [e42, e43]
    clear e42 e43 L40 M41
    rcases k37 with _ | k37
    ·rw [waybillref03_Pad.l1] at hl38; cases hl38
    rw [waybillref03_Pad.l1] at hl38
    have m44 := o34.mx
    refine CW.seq (CW.seq (CW.region ?_))
    refine OW.rv (RV.move rfl) rfl ?_
    refine OW.rv (RV.geq rfl rfl) rfl ?_
    refine OW.nil (QW.then_n ?_)
    by_cases h45 : (0 : Int) ≤ z35
    ·replace hl38 := if_t hl38 h45
     refine CW.is_t rfl (decide_eq_true h45) ?_
     refine CW.skip (QW.then_n (CW.seq (CW.block (CW.region ?_))))
     refine OW.rv (RV.move rfl) rfl ?_
     refine OW.rv (RV.move rfl) rfl ?_
     refine OW.rv (RV.move rfl) rfl ?_
     obtain ⟨g46, hl38⟩ := some_if hl38
     refine OW.rv (RV.mul rfl rfl (by omega)) rfl ?_
     refine OW.rv (RV.conv_i64 rfl rfl rfl) rfl ?_
     refine OW.rv (RV.shr64 (s := (BitVec.ofInt 64 ((8 : Int) * z35)).toNat) rfl (by first | rfl | exact lit64 _ rfl) rfl (by first | rfl | (simp [U64]; done))) rfl ?_
     refine OW.rv (RV.conv64_8 rfl (by first | rfl | exact lit64 _ rfl) rfl rfl) rfl ?_
     refine OW.ofN (NV.bs1 rfl rfl rfl rfl rfl rfl) rfl (fun b47 => ?_)
     refine OW.mem (M' := (((some b47), blk ((u8s ([((((BitVec.ofInt 64 a0) * 8#64) >>> (BitVec.ofInt 64 ((8 : Int) * z35)).toNat).setWidth 8)] : List (BitVec 8))) ++ []) 5) :: (ob31, blk ((u8s l30) ++ r33) 5) :: ([] ++ N))) (fun w m => by first | exact m | simpa [u8s] using m) ?_
     have o48 : OwnS (some b47) ([((((BitVec.ofInt 64 a0) * 8#64) >>> (BitVec.ofInt 64 ((8 : Int) * z35)).toNat).setWidth 8)] : List (BitVec 8)).length 1 1 (u8s ([((((BitVec.ofInt 64 a0) * 8#64) >>> (BitVec.ofInt 64 ((8 : Int) * z35)).toNat).setWidth 8)] : List (BitVec 8))) [] := ⟨by simp [u8s], by simp [u8s], (fun h => nomatch h), by simp⟩
     refine OW.slot (sl (some b47) 0 ([((((BitVec.ofInt 64 a0) * 8#64) >>> (BitVec.ofInt 64 ((8 : Int) * z35)).toNat).setWidth 8)] : List (BitVec 8)).length 1) (rfl) ?_
     refine OW.rot1 ?_
     obtain ⟨g49, hl38⟩ := some_if hl38
     refine OW.appendOwn (s := 1) rfl rfl rfl rfl rfl rfl o34 (fun w m => m.rd0 (List.Mem.tail _ (List.Mem.head _)) (fun e => o48.nilc (by decide) e)) o48.n (u8s_one _) (o48.zeroO (by decide)) (by decide) (by decide) (by first | omega | (simp only [i5, List.length_nil]; omega)) rfl rfl ((l30 ++ ([((((BitVec.ofInt 64 a0) * 8#64) >>> (BitVec.ofInt 64 ((8 : Int) * z35)).toNat).setWidth 8)] : List (BitVec 8))).length) (u8s (l30 ++ ([((((BitVec.ofInt 64 a0) * 8#64) >>> (BitVec.ofInt 64 ((8 : Int) * z35)).toNat).setWidth 8)] : List (BitVec 8)))) (List.length_append ..).symm (u8s_app _ _) (fun ob50 r51 c52 o53 => ?_)
     have m54 := o53.mx
     refine OW.rv (RV.assign rfl) rfl ?_
     refine OW.nil (QW.block_n (QW.then_n (CW.region ?_)))
     refine OW.rv (RV.move rfl) rfl ?_
     obtain ⟨g55, hl38⟩ := some_if hl38
     refine OW.rv (RV.sub rfl rfl (by omega)) rfl ?_
     refine OW.rv (RV.assign rfl) rfl ?_
     refine OW.nil ?_
     exact QW.againJ (k' := k37) (Nat.lt_succ_self _) ⟨(l30 ++ ([((((BitVec.ofInt 64 a0) * 8#64) >>> (BitVec.ofInt 64 ((8 : Int) * z35)).toNat).setWidth 8)] : List (BitVec 8))), (z35 - (1 : Int)), ob50, c52, r51, hl38, o53, (by omega), rfl, rfl⟩ ⟨rfl, rfl, rfl, trivial⟩ (fun w m => m.pick [0] 2 rfl rfl)
    ·replace hl38 := if_f hl38 h45
     refine CW.is_f rfl (decide_eq_false h45) ?_
     refine CW.exit (QW.then_x (QW.then_x (QW.block_xe ?_)))
     exact QW.join ⟨l30, ob31, c32, r33, (Option.some.inj hl38).symm, o34, rfl, rfl⟩ ⟨rfl, trivial⟩ (fun w m => m.pick [0] 1 rfl rfl)
  ·skip
   refine CW.block ?_
   refine CW.loopJ (fun k L' M' => ∃ l56 : List (BitVec 8), ∃ ob57 : Option Nat, ∃ c58 : Nat, ∃ r59 : List Value, (waybillref03_Pad.l2 a0 k l56) = some q4 ∧ (OwnS ob57 l56.length c58 1 (u8s l56) r59) ∧ L' = [(0, .int .i64 a0), (4, sl ob57 0 l56.length c58)] ∧ M' = ((ob57, blk ((u8s l56) ++ r59) 5) :: ([] ++ N))) (k0 := 80) ⟨([128#8] : List (BitVec 8)), (some b2), 1, [], hq5, o3, rfl, rfl⟩ ⟨rfl, rfl, trivial⟩ (fun w m => m.pick [0] 1 rfl rfl) ?_
   clear hq5
   rintro k61 L64 M65 ⟨l56, ob57, c58, r59, hl62, o60, e66, e67⟩
   rw [e66, e67]
   clear e66 e67 L64 M65
   rcases k61 with _ | k61
   ·rw [waybillref03_Pad.l2] at hl62; cases hl62
   rw [waybillref03_Pad.l2] at hl62
   have m68 := o60.mx
   refine CW.seq (CW.seq (CW.region ?_))
   refine OW.rv (RV.move rfl) rfl ?_
   refine OW.rv (RV.rem rfl rfl (by omega) (by omega)) rfl ?_
   refine OW.slot (.int .i64 (((a0).toNat % 64 : Nat) : Int)) (by first | rfl | (congr 1; omega)) ?_
   refine OW.rv (RV.move rfl) rfl ?_
   refine OW.rv (RV.len rfl rfl) rfl ?_
   refine OW.rv (RV.add rfl rfl (by omega)) rfl ?_
   refine OW.slot (.int .i64 (((((a0).toNat % 64) + l56.length) : Nat) : Int)) (by first | rfl | (congr 1) | (congr 1; omega)) ?_
   refine OW.rv (RV.add rfl rfl (by omega)) rfl ?_
   refine OW.slot (.int .i64 ((((((a0).toNat % 64) + l56.length) + 8) : Nat) : Int)) (by first | rfl | (congr 1) | (congr 1; omega)) ?_
   refine OW.rv (RV.rem rfl rfl (by omega) (by omega)) rfl ?_
   refine OW.slot (.int .i64 ((((((a0).toNat % 64) + l56.length) + 8) % 64 : Nat) : Int)) (by first | rfl | (congr 1; omega)) ?_
   refine OW.rv (RV.neq rfl rfl) rfl ?_
   refine OW.slot (.bool (!decide ((((((a0).toNat % 64) + l56.length) + 8) % 64) = 0))) (congrArg (fun b => Value.bool (!b)) (decide_eq_decide.2 (by omega))) ?_
   refine OW.nil (QW.then_n ?_)
   by_cases h69 : (((((a0).toNat % 64) + l56.length) + 8) % 64) = 0
   ·replace hl62 := if_t hl62 h69
    refine CW.is_f rfl (congrArg (fun b => !b) (decide_eq_true h69)) ?_
    refine CW.exit (QW.then_x (QW.then_x (QW.block_xe ?_)))
    exact QW.join ⟨l56, ob57, c58, r59, (Option.some.inj hl62).symm, o60, rfl, rfl⟩ ⟨rfl, rfl, trivial⟩ (fun w m => m.pick [0] 1 rfl rfl)
   ·replace hl62 := if_f hl62 h69
    refine CW.is_t rfl (congrArg (fun b => !b) (decide_eq_false h69)) ?_
    refine CW.skip (QW.then_n (CW.block (CW.region ?_)))
    refine OW.rv (RV.move rfl) rfl ?_
    refine OW.ofN (NV.bs1 rfl rfl rfl rfl rfl rfl) rfl (fun b70 => ?_)
    refine OW.mem (M' := (((some b70), blk ((u8s ([0#8] : List (BitVec 8))) ++ []) 5) :: (ob57, blk ((u8s l56) ++ r59) 5) :: ([] ++ N))) (fun w m => by first | exact m | simpa [u8s] using m) ?_
    have o71 : OwnS (some b70) ([0#8] : List (BitVec 8)).length 1 1 (u8s ([0#8] : List (BitVec 8))) [] := ⟨by simp [u8s], by simp [u8s], (fun h => nomatch h), by simp⟩
    refine OW.slot (sl (some b70) 0 ([0#8] : List (BitVec 8)).length 1) (rfl) ?_
    refine OW.rot1 ?_
    obtain ⟨g72, hl62⟩ := some_if hl62
    refine OW.appendOwn (s := 1) rfl rfl rfl rfl rfl rfl o60 (fun w m => m.rd0 (List.Mem.tail _ (List.Mem.head _)) (fun e => o71.nilc (by decide) e)) o71.n (u8s_one _) (o71.zeroO (by decide)) (by decide) (by decide) (by first | omega | (simp only [i5, List.length_nil]; omega)) rfl rfl ((l56 ++ ([0#8] : List (BitVec 8))).length) (u8s (l56 ++ ([0#8] : List (BitVec 8)))) (List.length_append ..).symm (u8s_app _ _) (fun ob73 r74 c75 o76 => ?_)
    have m77 := o76.mx
    refine OW.rv (RV.assign rfl) rfl ?_
    refine OW.nil (QW.block_n ?_)
    exact QW.againJ (k' := k61) (Nat.lt_succ_self _) ⟨(l56 ++ ([0#8] : List (BitVec 8))), ob73, c75, r74, hl62, o76, rfl, rfl⟩ ⟨rfl, rfl, trivial⟩ (fun w m => m.pick [0] 2 rfl rfl)
theorem waybillref03_joined_does (w0 : World) (Φ : Ctx) (N : List Ent) (hΦ : ∀ w, Mem w0 w N → Φ w) (A0_ : Option Addr) (c0_ : Nat) (cs0_ : List Value) (a0 : List (List (BitVec 8))) (res0 : List (BitVec 8)) (va0 : View Φ A0_ a0.length c0_ 1 cs0_) (ha0 : Reps (BsRd Φ) cs0_ a0) (hf : waybillref03_joined a0 = some res0) : DoesG Tryd.prog 42 [.slice A0_ a0.length c0_] w0 [] N (fun v G => ∃ B : List Ent, ∃ or0 : Option Nat, ∃ kr0 : Nat, ∃ rr0 : List Value, (OwnS or0 res0.length kr0 1 (u8s res0) rr0) ∧ v = sl or0 0 res0.length kr0 ∧ G = (or0, blk ((u8s res0) ++ rr0) 5) :: B) := by
 unfold waybillref03_joined at hf
 replace va0 := va0.mono (Ψ := More w0 Φ []) (fun w q => q.1)
 replace ha0 := ha0.mono (BsRd.mono (Ψ := More w0 Φ []) (fun w q => q.1))
 have m1 := va0.mx
 refine DoesG.enter Tryd.func42 rfl Tryd.ntmps42 rfl (M := (([] ++ N))) rfl ?_
 refine CW.seq (CW.region ?_)
 refine OW.rv (RV.assign rfl) rfl ?_
 refine OW.nil (QW.then_n (CW.seq (CW.region ?_)))
 refine OW.rv (RV.assign rfl) rfl ?_
 refine OW.nil (QW.then_n (CW.seq (CW.seq (CW.region ?_))))
 refine OW.rv (RV.assign rfl) rfl ?_
 refine OW.nil (QW.then_n ?_)
 obtain ⟨q2, hq3, hf⟩ := some_bind hf
 refine CW.cutJ (fun L' M' => ∃ l4 : List (BitVec 8), ∃ ob5 : Option Nat, ∃ c6 : Nat, ∃ r7 : List Value, q2 = l4 ∧ (OwnS ob5 l4.length c6 1 (u8s l4) r7) ∧ L' = [(3, sl ob5 0 l4.length c6)] ∧ M' = ((ob5, blk ((u8s l4) ++ r7) 5) :: ([] ++ N))) ?_ ?_
 ·rintro L10 M11 ⟨l4, ob5, c6, r7, e9, o8, e12, e13⟩
  rw [e12, e13]
  clear e12 e13 L10 M11
  clear hq3
  rw [e9] at hf
  clear e9
  try dsimp only at hf
  have m14 := o8.mx
  refine QW.then_n (CW.seq (CW.region ?_))
  refine OW.rv (RV.move rfl) rfl ?_
  refine OW.rv (RV.assign rfl) rfl ?_
  refine OW.nil (QW.then_n (CW.ret ?_))
  have e0 := Option.some.inj hf
  subst e0
  refine QW.retG (rs := [.tmp 2]) ([sl ob5 0 l4.length c6]) ((ob5, blk ((u8s l4) ++ r7) 5) :: []) rfl ?_ rfl ?_ ?_ _ (.inl rfl)
  ·exact ⟨rfl, trivial⟩
  ·exact ⟨[], ob5, c6, r7, o8, rfl, rfl⟩
  ·exact (fun w m => m.pick [0] 1 rfl rfl)
 ·skip
  refine CW.block ?_
  refine CW.mem (M' := ((none, blk ((u8s ([] : List (BitVec 8))) ++ []) 5) :: ([] ++ N))) (fun w m => m.nil_ent _) ?_
  refine CW.loopJ (fun k L' M' => ∃ l15 : List (BitVec 8), ∃ n20 : Nat, ∃ ob16 : Option Nat, ∃ c17 : Nat, ∃ r18 : List Value, (waybillref03_joined.l1 a0 k l15 n20) = some q2 ∧ (OwnS ob16 l15.length c17 1 (u8s l15) r18) ∧ (n20 ≤ 9223372036854775807) ∧ L' = [(0, .slice A0_ a0.length c0_), (3, sl ob16 0 l15.length c17), (4, .int .i64 ((n20 : Nat) : Int))] ∧ M' = ((ob16, blk ((u8s l15) ++ r18) 5) :: ([] ++ N))) (k0 := (a0.length - 0 + 2)) ⟨([] : List (BitVec 8)), 0, none, 0, [], hq3, OwnS.nil, (by omega), rfl, rfl⟩ ⟨rfl, rfl, rfl, trivial⟩ (fun w m => m.pick [0] 1 rfl rfl) ?_
  clear hq3
  rintro k22 L25 M26 ⟨l15, n20, ob16, c17, r18, hl23, o19, b21, e27, e28⟩
  rw [e27, e28]
  clear e27 e28 L25 M26
  rcases k22 with _ | k22
  ·rw [waybillref03_joined.l1] at hl23; cases hl23
  rw [waybillref03_joined.l1] at hl23
  have m29 := o19.mx
  refine CW.seq (CW.seq (CW.region ?_))
  refine OW.rv (RV.move rfl) rfl ?_
  refine OW.rv (RV.move rfl) rfl ?_
  refine OW.rv (RV.len rfl rfl) rfl ?_
  refine OW.rv (RV.lss rfl rfl) rfl ?_
  refine OW.slot (.bool (decide (n20 < a0.length))) (congrArg Value.bool (decide_eq_decide.2 (by omega))) ?_
  refine OW.nil (QW.then_n ?_)
  by_cases h30 : n20 < a0.length
  ·replace hl23 := if_t hl23 h30
   refine CW.is_t rfl (decide_eq_true h30) ?_
   refine CW.skip (QW.then_n (CW.seq (CW.block (CW.seq (CW.region ?_)))))
   refine OW.rv (RV.assign rfl) rfl ?_
   refine OW.nil (QW.then_n ?_)
   obtain ⟨q31, hq32, hl23⟩ := some_bind hl23
   refine CW.cutJ (fun L' M' => ∃ l33 : List (BitVec 8), ∃ ob34 : Option Nat, ∃ c35 : Nat, ∃ r36 : List Value, q31 = l33 ∧ (OwnS ob34 l33.length c35 1 (u8s l33) r36) ∧ L' = [(0, .slice A0_ a0.length c0_), (3, sl ob34 0 l33.length c35), (4, .int .i64 ((n20 : Nat) : Int))] ∧ M' = ((ob34, blk ((u8s l33) ++ r36) 5) :: ([] ++ N))) ?_ ?_
   ·rintro L39 M40 ⟨l33, ob34, c35, r36, e38, o37, e41, e42⟩
    rw [e41, e42]
    clear e41 e42 L39 M40
    clear hq32
    rw [e38] at hl23
    clear e38
    try dsimp only at hl23
    have m43 := o37.mx
    refine QW.block_n (QW.then_n (CW.region ?_))
    refine OW.rv (RV.move rfl) rfl ?_
    refine OW.rv (RV.add rfl rfl (by omega)) rfl ?_
    refine OW.slot (.int .i64 (((n20 + 1) : Nat) : Int)) (by first | rfl | (congr 1) | (congr 1; omega)) ?_
    refine OW.rv (RV.assign rfl) rfl ?_
    refine OW.nil ?_
    exact QW.againJ (k' := k22) (Nat.lt_succ_self _) ⟨l33, (n20 + 1), ob34, c35, r36, hl23, o37, (by omega), rfl, rfl⟩ ⟨rfl, rfl, rfl, trivial⟩ (fun w m => m.pick [0] 1 rfl rfl)
   ·skip
    refine CW.block ?_
    refine CW.loopJ (fun k L' M' => ∃ l44 : List (BitVec 8), ∃ n49 : Nat, ∃ ob45 : Option Nat, ∃ c46 : Nat, ∃ r47 : List Value, (waybillref03_joined.l2 a0 n20 k l44 n49) = some q31 ∧ (OwnS ob45 l44.length c46 1 (u8s l44) r47) ∧ (n49 ≤ 9223372036854775807) ∧ L' = [(0, .slice A0_ a0.length c0_), (3, sl ob45 0 l44.length c46), (4, .int .i64 ((n20 : Nat) : Int)), (5, .int .i64 ((n49 : Nat) : Int))] ∧ M' = ((ob45, blk ((u8s l44) ++ r47) 5) :: ([] ++ N))) (k0 := ((a0).flatten.length + 2)) ⟨l15, 0, ob16, c17, r18, hq32, o19, (by omega), rfl, rfl⟩ ⟨rfl, rfl, rfl, rfl, trivial⟩ (fun w m => m.pick [0] 1 rfl rfl) ?_
    clear hq32
    rintro k51 L54 M55 ⟨l44, n49, ob45, c46, r47, hl52, o48, b50, e56, e57⟩
    rw [e56, e57]
    clear e56 e57 L54 M55
    rcases k51 with _ | k51
    ·rw [waybillref03_joined.l2] at hl52; cases hl52
    rw [waybillref03_joined.l2] at hl52
    have m58 := o48.mx
    refine CW.seq (CW.seq (CW.region ?_))
    refine OW.rv (RV.move rfl) rfl ?_
    refine OW.rv (RV.move rfl) rfl ?_
    refine OW.rv (RV.move rfl) rfl ?_
    obtain ⟨x59, hx60, hl52⟩ := some_bind hl52
    have hl61 := lt_of_at hx60
    refine OW.rv (RV.idx_r (n20) rfl rfl rfl rfl rfl (va0.isSome (by decide) hl61) (by omega)) rfl ?_
    obtain ⟨cs62, h63, h64⟩ := ha0.get BsRd.len hx60
    obtain ⟨A65, c66, e68, v67⟩ := h63
    subst e68
    have m69 := v67.mx
    refine OW.rv (RV.load_at rfl rfl rfl (fun w m => by have := va0.load (More.of hΦ 1 m rfl) h64 0 _ rfl; simpa [Addr.add] using this)) rfl ?_
    refine OW.rv (RV.len rfl rfl) rfl ?_
    refine OW.rv (RV.lss rfl rfl) rfl ?_
    refine OW.slot (.bool (decide (n49 < x59.length))) (congrArg Value.bool (decide_eq_decide.2 (by omega))) ?_
    refine OW.nil (QW.then_n ?_)
    by_cases h70 : n49 < x59.length
    ·replace hl52 := if_t hl52 h70
     refine CW.is_t rfl (decide_eq_true h70) ?_
     refine CW.skip (QW.then_n (CW.seq (CW.block (CW.region ?_))))
     refine OW.rv (RV.move rfl) rfl ?_
     refine OW.rv (RV.move rfl) rfl ?_
     refine OW.rv (RV.move rfl) rfl ?_
     obtain ⟨x71, hx72, hl52⟩ := some_bind hl52
     have hl73 := lt_of_at hx72
     refine OW.rv (RV.idx_r (n20) rfl rfl rfl rfl rfl (va0.isSome (by decide) hl73) (by omega)) rfl ?_
     obtain ⟨cs74, h75, h76⟩ := ha0.get BsRd.len hx72
     obtain ⟨A77, c78, e80, v79⟩ := h75
     subst e80
     have m81 := v79.mx
     refine OW.rv (RV.load_at rfl rfl rfl (fun w m => by have := va0.load (More.of hΦ 1 m rfl) h76 0 _ rfl; simpa [Addr.add] using this)) rfl ?_
     refine OW.rv (RV.move rfl) rfl ?_
     obtain ⟨x82, hx83, hl52⟩ := some_bind hl52
     have hl84 := lt_of_at hx83
     refine OW.rv (RV.idx_r (n49) rfl rfl rfl rfl rfl (v79.isSome (by decide) hl84) (by omega)) rfl ?_
     refine OW.rv (RV.load_at rfl rfl rfl (fun w m => v79.cell (More.of hΦ 1 m rfl) (u8s_at hx83))) rfl ?_
     refine OW.ofN (NV.bs1 rfl rfl rfl rfl rfl rfl) rfl (fun b85 => ?_)
     refine OW.mem (M' := (((some b85), blk ((u8s ([x82] : List (BitVec 8))) ++ []) 5) :: (ob45, blk ((u8s l44) ++ r47) 5) :: ([] ++ N))) (fun w m => by first | exact m | simpa [u8s] using m) ?_
     have o86 : OwnS (some b85) ([x82] : List (BitVec 8)).length 1 1 (u8s ([x82] : List (BitVec 8))) [] := ⟨by simp [u8s], by simp [u8s], (fun h => nomatch h), by simp⟩
     refine OW.slot (sl (some b85) 0 ([x82] : List (BitVec 8)).length 1) (rfl) ?_
     refine OW.rot1 ?_
     obtain ⟨g87, hl52⟩ := some_if hl52
     refine OW.appendOwn (s := 1) rfl rfl rfl rfl rfl rfl o48 (fun w m => m.rd0 (List.Mem.tail _ (List.Mem.head _)) (fun e => o86.nilc (by decide) e)) o86.n (u8s_one _) (o86.zeroO (by decide)) (by decide) (by decide) (by first | omega | (simp only [i5, List.length_nil]; omega)) rfl rfl ((l44 ++ ([x82] : List (BitVec 8))).length) (u8s (l44 ++ ([x82] : List (BitVec 8)))) (List.length_append ..).symm (u8s_app _ _) (fun ob88 r89 c90 o91 => ?_)
     have m92 := o91.mx
     refine OW.rv (RV.assign rfl) rfl ?_
     refine OW.nil (QW.block_n (QW.then_n (CW.region ?_)))
     refine OW.rv (RV.move rfl) rfl ?_
     refine OW.rv (RV.add rfl rfl (by omega)) rfl ?_
     refine OW.slot (.int .i64 (((n49 + 1) : Nat) : Int)) (by first | rfl | (congr 1) | (congr 1; omega)) ?_
     refine OW.rv (RV.assign rfl) rfl ?_
     refine OW.nil ?_
     exact QW.againJ (k' := k51) (Nat.lt_succ_self _) ⟨(l44 ++ ([x82] : List (BitVec 8))), (n49 + 1), ob88, c90, r89, hl52, o91, (by omega), rfl, rfl⟩ ⟨rfl, rfl, rfl, rfl, trivial⟩ (fun w m => m.pick [0] 2 rfl rfl)
    ·replace hl52 := if_f hl52 h70
     refine CW.is_f rfl (decide_eq_false h70) ?_
     refine CW.exit (QW.then_x (QW.then_x (QW.block_xe ?_)))
     exact QW.join ⟨l44, ob45, c46, r47, (Option.some.inj hl52).symm, o48, rfl, rfl⟩ ⟨rfl, rfl, rfl, trivial⟩ (fun w m => m.pick [0] 1 rfl rfl)
  ·replace hl23 := if_f hl23 h30
   refine CW.is_f rfl (decide_eq_false h30) ?_
   refine CW.exit (QW.then_x (QW.then_x (QW.block_xe ?_)))
   exact QW.join ⟨l15, ob16, c17, r18, (Option.some.inj hl23).symm, o19, rfl, rfl⟩ ⟨rfl, trivial⟩ (fun w m => m.pick [0] 1 rfl rfl)
theorem waybillref03_digest_does (w0 : World) (Φ : Ctx) (N : List Ent) (hΦ : ∀ w, Mem w0 w N → Φ w) (A0_ : Option Addr) (c0_ : Nat) (a0 : List (BitVec 8)) (res0 : Vector (BitVec 8) 32) (va0 : View Φ A0_ a0.length c0_ 1 (u8s a0)) (hf : waybillref03_digest a0 = some res0) : DoesG Tryd.prog 43 [.slice A0_ a0.length c0_] w0 [] N (fun v G => v = .agg (u8s res0.toList).toArray) := by
 unfold waybillref03_digest at hf
 replace va0 := va0.mono (Ψ := More w0 Φ []) (fun w q => q.1)
 have m1 := va0.mx
 refine DoesG.enter Tryd.func43 rfl Tryd.ntmps43 rfl (M := (([] ++ N))) rfl ?_
 refine CW.seq (CW.region ?_)
 refine OW.alloc (l := (u8s (Vector.replicate 32 0#8).toList)) rfl (by rw [Vector.toList_replicate, ← u8s_rep']; rfl) rfl (fun b2 => ?_)
 refine OW.nil (QW.then_n (CW.seq (CW.region ?_)))
 refine OW.rv (RV.move rfl) rfl ?_
 refine OW.rv (RV.len rfl rfl) rfl ?_
 obtain ⟨⟨x4, x5⟩, hx3, hf⟩ := some_bind hf
 try dsimp only at hf
 refine OW.callG Tryd.call56 rfl (waybillref03_Pad_does w0 (More w0 Φ []) ((some b2, blk (u8s (Vector.replicate 32 0#8).toList) 39) :: ([] ++ N)) (fun w m => More.of hΦ 1 m rfl) ((a0.length : Nat) : Int) x4 x5 (by omega) hx3) rfl rfl ?_
 rintro L12 M13 ⟨B6, ob7, c8, r9, o10, b11, e14, e15⟩
 rw [e14, e15]
 clear e14 e15 L12 M13
 refine OW.mem (M' := ((ob7, blk ((u8s x4) ++ r9) 5) :: (some b2, blk (u8s (Vector.replicate 32 0#8).toList) 39) :: ((B6 ++ []) ++ N))) (fun w m => by have h := Mem.sinkAt (A := B6) m 1 1 rfl rfl; exact h) ?_
 have gq1 : ∀ w, More w0 Φ (B6 ++ []) w → More w0 Φ [] w := fun w q => More.mono (fun w m => (m).appR) q
 replace va0 := va0.mono gq1
 have m16 := o10.mx
 refine OW.rv (RV.move rfl) rfl ?_
 refine OW.rv (RV.extract rfl rfl) rfl ?_
 refine OW.slot (sl ob7 0 x4.length c8) (rfl) ?_
 refine OW.rv (RV.extract rfl rfl) rfl ?_
 refine OW.slot (.int .i64 ((x5 : Nat) : Int)) (rfl) ?_
 refine OW.rv (RV.assign rfl) rfl ?_
 refine OW.rv (RV.assign rfl) rfl ?_
 refine OW.nil (QW.then_n (CW.seq (CW.region ?_)))
 refine OW.rv (RV.move rfl) rfl ?_
 refine OW.rv (RV.move rfl) rfl ?_
 refine OW.mem (M' := (some b2, blk (u8s (Vector.replicate 32 0#8).toList) 39) :: (((ob7, blk ((u8s x4) ++ r9) 5) :: (B6 ++ [])) ++ N)) (fun w m => m.pick [1, 0] 2 rfl rfl) ?_
 have gq2 : ∀ w, More w0 Φ ((ob7, blk ((u8s x4) ++ r9) 5) :: (B6 ++ [])) w → More w0 Φ (B6 ++ []) w := fun w q => More.mono (fun w m => (m).tail) q
 replace va0 := va0.mono gq2
 have v19 : View (More w0 Φ ((ob7, blk ((u8s x4) ++ r9) 5) :: (B6 ++ []))) ((ob7).map fun k => ⟨k, 0, none⟩) x4.length c8 1 (u8s x4) := o10.view (by decide) (fun w q => q.2.sublist (List.singleton_sublist.2 (List.mem_cons_self ..)))
 refine OW.ofN (NV.bsN rfl rfl rfl (by decide) (by decide) rfl rfl rfl rfl) rfl (fun b17 => ?_)
 have h21 : Reps (BsRd (More w0 Φ ((ob7, blk ((u8s x4) ++ r9) 5) :: (B6 ++ [])))) (([.slice A0_ a0.length c0_] : List Value) ++ ([.slice ((ob7).map fun k => ⟨k, 0, none⟩) x4.length c8] : List Value)) [a0, x4] := by simpa using (show Reps (BsRd (More w0 Φ ((ob7, blk ((u8s x4) ++ r9) 5) :: (B6 ++ [])))) _ [a0, x4] from (.cons (BsRd.mk va0) (.cons (BsRd.mk v19) .nil)))
 refine OW.mem (M' := (((some b17), blk ((([.slice A0_ a0.length c0_] : List Value) ++ ([.slice ((ob7).map fun k => ⟨k, 0, none⟩) x4.length c8] : List Value)) ++ []) 24) :: (some b2, blk (u8s (Vector.replicate 32 0#8).toList) 39) :: (((ob7, blk ((u8s x4) ++ r9) 5) :: (B6 ++ [])) ++ N))) (fun w m => m) ?_
 have o18 : OwnS (some b17) ([a0, x4] : List (List (BitVec 8))).length 2 1 (([.slice A0_ a0.length c0_] : List Value) ++ ([.slice ((ob7).map fun k => ⟨k, 0, none⟩) x4.length c8] : List Value)) [] := ⟨by simp [BsRd], by simp [BsRd], (fun h => nomatch h), by simp⟩
 refine OW.slot (sl (some b17) 0 ([a0, x4] : List (List (BitVec 8))).length 2) (rfl) ?_
 refine OW.mem (M' := (some b2, blk (u8s (Vector.replicate 32 0#8).toList) 39) :: ((((some b17), blk ((([.slice A0_ a0.length c0_] : List Value) ++ ([.slice ((ob7).map fun k => ⟨k, 0, none⟩) x4.length c8] : List Value)) ++ []) 24) :: ((ob7, blk ((u8s x4) ++ r9) 5) :: (B6 ++ []))) ++ N)) (fun w m => m.pick [1, 0] 2 rfl rfl) ?_
 have gq3 : ∀ w, More w0 Φ (((some b17), blk ((([.slice A0_ a0.length c0_] : List Value) ++ ([.slice ((ob7).map fun k => ⟨k, 0, none⟩) x4.length c8] : List Value)) ++ []) 24) :: ((ob7, blk ((u8s x4) ++ r9) 5) :: (B6 ++ []))) w → More w0 Φ ((ob7, blk ((u8s x4) ++ r9) 5) :: (B6 ++ [])) w := fun w q => More.mono (fun w m => (m).tail) q
 replace va0 := va0.mono gq3
 replace v19 := v19.mono gq3
 replace h21 := h21.mono (BsRd.mono gq3)
 have v22 : View (More w0 Φ (((some b17), blk ((([.slice A0_ a0.length c0_] : List Value) ++ ([.slice ((ob7).map fun k => ⟨k, 0, none⟩) x4.length c8] : List Value)) ++ []) 24) :: ((ob7, blk ((u8s x4) ++ r9) 5) :: (B6 ++ [])))) (((some b17)).map fun k => ⟨k, 0, none⟩) ([a0, x4] : List (List (BitVec 8))).length 2 1 (([.slice A0_ a0.length c0_] : List Value) ++ ([.slice ((ob7).map fun k => ⟨k, 0, none⟩) x4.length c8] : List Value)) := o18.view (by decide) (fun w q => q.2.sublist (List.singleton_sublist.2 (List.mem_cons_self ..)))
 obtain ⟨x24, hx23, hf⟩ := some_bind hf
 refine OW.callG Tryd.call42 rfl (waybillref03_joined_does w0 (More w0 Φ (((some b17), blk ((([.slice A0_ a0.length c0_] : List Value) ++ ([.slice ((ob7).map fun k => ⟨k, 0, none⟩) x4.length c8] : List Value)) ++ []) 24) :: ((ob7, blk ((u8s x4) ++ r9) 5) :: (B6 ++ [])))) ((some b2, blk (u8s (Vector.replicate 32 0#8).toList) 39) :: ((((some b17), blk ((([.slice A0_ a0.length c0_] : List Value) ++ ([.slice ((ob7).map fun k => ⟨k, 0, none⟩) x4.length c8] : List Value)) ++ []) 24) :: ((ob7, blk ((u8s x4) ++ r9) 5) :: (B6 ++ []))) ++ N)) (fun w m => More.of hΦ 1 m rfl) (((some b17)).map fun k => ⟨k, 0, none⟩) 2 (([.slice A0_ a0.length c0_] : List Value) ++ ([.slice ((ob7).map fun k => ⟨k, 0, none⟩) x4.length c8] : List Value)) ([a0, x4] : List (List (BitVec 8))) x24 v22 h21 hx23) rfl rfl ?_
 rintro L30 M31 ⟨B25, ob26, c27, r28, o29, e32, e33⟩
 rw [e32, e33]
 clear e32 e33 L30 M31
 refine OW.mem (M' := ((ob26, blk ((u8s x24) ++ r28) 5) :: (some b2, blk (u8s (Vector.replicate 32 0#8).toList) 39) :: ((B25 ++ (((some b17), blk ((([.slice A0_ a0.length c0_] : List Value) ++ ([.slice ((ob7).map fun k => ⟨k, 0, none⟩) x4.length c8] : List Value)) ++ []) 24) :: ((ob7, blk ((u8s x4) ++ r9) 5) :: (B6 ++ [])))) ++ N))) (fun w m => by have h := Mem.sinkAt (A := B25) m 1 1 rfl rfl; exact h) ?_
 have gq4 : ∀ w, More w0 Φ (B25 ++ (((some b17), blk ((([.slice A0_ a0.length c0_] : List Value) ++ ([.slice ((ob7).map fun k => ⟨k, 0, none⟩) x4.length c8] : List Value)) ++ []) 24) :: ((ob7, blk ((u8s x4) ++ r9) 5) :: (B6 ++ [])))) w → More w0 Φ (((some b17), blk ((([.slice A0_ a0.length c0_] : List Value) ++ ([.slice ((ob7).map fun k => ⟨k, 0, none⟩) x4.length c8] : List Value)) ++ []) 24) :: ((ob7, blk ((u8s x4) ++ r9) 5) :: (B6 ++ []))) w := fun w q => More.mono (fun w m => (m).appR) q
 replace va0 := va0.mono gq4
 replace v19 := v19.mono gq4
 replace v22 := v22.mono gq4
 replace h21 := h21.mono (BsRd.mono gq4)
 have m34 := o29.mx
 refine OW.rv (RV.assign rfl) rfl ?_
 refine OW.nil (QW.then_n (CW.seq (CW.region ?_)))
 obtain ⟨x36, hx35, hf⟩ := some_bind hf
 refine OW.callG Tryd.call40 rfl (waybillref03_Roots_does w0 (More w0 Φ (B25 ++ (((some b17), blk ((([.slice A0_ a0.length c0_] : List Value) ++ ([.slice ((ob7).map fun k => ⟨k, 0, none⟩) x4.length c8] : List Value)) ++ []) 24) :: ((ob7, blk ((u8s x4) ++ r9) 5) :: (B6 ++ []))))) ((ob26, blk ((u8s x24) ++ r28) 5) :: (some b2, blk (u8s (Vector.replicate 32 0#8).toList) 39) :: ((B25 ++ (((some b17), blk ((([.slice A0_ a0.length c0_] : List Value) ++ ([.slice ((ob7).map fun k => ⟨k, 0, none⟩) x4.length c8] : List Value)) ++ []) 24) :: ((ob7, blk ((u8s x4) ++ r9) 5) :: (B6 ++ [])))) ++ N)) (fun w m => More.of hΦ 2 m rfl) (64 : Int) (3 : Int) x36 (by omega) (by omega) hx35) rfl rfl ?_
 rintro L42 M43 ⟨B37, ob38, c39, r40, o41, e44, e45⟩
 rw [e44, e45]
 clear e44 e45 L42 M43
 refine OW.mem (M' := ((ob38, blk ((u32s x36) ++ r40) 22) :: (ob26, blk ((u8s x24) ++ r28) 5) :: (some b2, blk (u8s (Vector.replicate 32 0#8).toList) 39) :: ((B37 ++ (B25 ++ (((some b17), blk ((([.slice A0_ a0.length c0_] : List Value) ++ ([.slice ((ob7).map fun k => ⟨k, 0, none⟩) x4.length c8] : List Value)) ++ []) 24) :: ((ob7, blk ((u8s x4) ++ r9) 5) :: (B6 ++ []))))) ++ N))) (fun w m => by have h := Mem.sinkAt (A := B37) m 1 2 rfl rfl; exact h) ?_
 have gq5 : ∀ w, More w0 Φ (B37 ++ (B25 ++ (((some b17), blk ((([.slice A0_ a0.length c0_] : List Value) ++ ([.slice ((ob7).map fun k => ⟨k, 0, none⟩) x4.length c8] : List Value)) ++ []) 24) :: ((ob7, blk ((u8s x4) ++ r9) 5) :: (B6 ++ []))))) w → More w0 Φ (B25 ++ (((some b17), blk ((([.slice A0_ a0.length c0_] : List Value) ++ ([.slice ((ob7).map fun k => ⟨k, 0, none⟩) x4.length c8] : List Value)) ++ []) 24) :: ((ob7, blk ((u8s x4) ++ r9) 5) :: (B6 ++ [])))) w := fun w q => More.mono (fun w m => (m).appR) q
 replace va0 := va0.mono gq5
 replace v19 := v19.mono gq5
 replace v22 := v22.mono gq5
 replace h21 := h21.mono (BsRd.mono gq5)
 have m46 := o41.mx
 refine OW.rv (RV.assign rfl) rfl ?_
 refine OW.nil (QW.then_n (CW.seq (CW.region ?_)))
 obtain ⟨x48, hx47, hf⟩ := some_bind hf
 refine OW.callG Tryd.call16 rfl (waybillref03_Start_does w0 (More w0 Φ (B37 ++ (B25 ++ (((some b17), blk ((([.slice A0_ a0.length c0_] : List Value) ++ ([.slice ((ob7).map fun k => ⟨k, 0, none⟩) x4.length c8] : List Value)) ++ []) 24) :: ((ob7, blk ((u8s x4) ++ r9) 5) :: (B6 ++ [])))))) ((ob38, blk ((u32s x36) ++ r40) 22) :: (ob26, blk ((u8s x24) ++ r28) 5) :: (some b2, blk (u8s (Vector.replicate 32 0#8).toList) 39) :: ((B37 ++ (B25 ++ (((some b17), blk ((([.slice A0_ a0.length c0_] : List Value) ++ ([.slice ((ob7).map fun k => ⟨k, 0, none⟩) x4.length c8] : List Value)) ++ []) 24) :: ((ob7, blk ((u8s x4) ++ r9) 5) :: (B6 ++ []))))) ++ N)) (fun w m => More.of hΦ 3 m rfl) x48 hx47) rfl rfl ?_
 rintro _ G49 rfl
 refine OW.mem (M' := ((ob38, blk ((u32s x36) ++ r40) 22) :: (ob26, blk ((u8s x24) ++ r28) 5) :: (some b2, blk (u8s (Vector.replicate 32 0#8).toList) 39) :: ((B37 ++ (B25 ++ (((some b17), blk ((([.slice A0_ a0.length c0_] : List Value) ++ ([.slice ((ob7).map fun k => ⟨k, 0, none⟩) x4.length c8] : List Value)) ++ []) 24) :: ((ob7, blk ((u8s x4) ++ r9) 5) :: (B6 ++ []))))) ++ N))) (fun w m => m.appR) ?_
 refine OW.alloc (l := (u32s (Vector.replicate 8 0#32).toList)) rfl (by rw [Vector.toList_replicate, ← u32s_rep]; rfl) rfl (fun b51 => ?_)
 refine OW.sv (SV.storeW rfl rfl rfl (u32s_one _) rfl ((u32s_length _).trans Vector.length_toList) ((u32s_length _).trans Vector.length_toList)) ?_
 refine OW.nil (QW.then_n (CW.seq (CW.seq (CW.region ?_))))
 refine OW.rv (RV.assign rfl) rfl ?_
 refine OW.nil (QW.then_n ?_)
 obtain ⟨q52, hq53, hf⟩ := some_bind hf
 refine CW.cutJ (fun L' M' => ∃ w56 : Vector (BitVec 32) 8, ∃ B54 : List Ent, q52 = w56 ∧ (∀ w, Mem w0 w B54 → Mem w0 w (B37 ++ (B25 ++ (((some b17), blk ((([.slice A0_ a0.length c0_] : List Value) ++ ([.slice ((ob7).map fun k => ⟨k, 0, none⟩) x4.length c8] : List Value)) ++ []) 24) :: ((ob7, blk ((u8s x4) ++ r9) 5) :: (B6 ++ [])))))) ∧ L' = [(2, ptr (some b2) 0), (7, ptr (some b51) 0)] ∧ M' = ((some b51, blk (u32s w56.toList) 23) :: (some b2, blk (u8s (Vector.replicate 32 0#8).toList) 39) :: (B54 ++ N))) ?_ ?_
 ·rintro L58 M59 ⟨w56, B54, e57, hB55, e60, e61⟩
  rw [e60, e61]
  clear e60 e61 L58 M59
  clear hq53
  rw [e57] at hf
  clear e57
  try dsimp only at hf
  refine QW.then_n (CW.seq (CW.region ?_))
  refine OW.alloc (l := (u8s (Vector.replicate 32 0#8).toList)) rfl (by rw [Vector.toList_replicate, ← u8s_rep']; rfl) rfl (fun b62 => ?_)
  refine OW.nil (QW.then_n (CW.seq (CW.seq (CW.region ?_))))
  refine OW.rv (RV.assign rfl) rfl ?_
  refine OW.nil (QW.then_n ?_)
  obtain ⟨q63, hq64, hf⟩ := some_bind hf
  refine CW.cutJ (fun L' M' => ∃ w65 : Vector (BitVec 8) 32, q63 = w65 ∧ L' = [(2, ptr (some b2) 0), (9, ptr (some b62) 0)] ∧ M' = ((some b62, blk (u8s w65.toList) 39) :: (some b2, blk (u8s (Vector.replicate 32 0#8).toList) 39) :: (B54 ++ N))) ?_ ?_
  ·rintro L67 M68 ⟨w65, e66, e69, e70⟩
   rw [e69, e70]
   clear e69 e70 L67 M68
   clear hq64
   rw [e66] at hf
   clear e66
   try dsimp only at hf
   refine QW.then_n (CW.seq (CW.region ?_))
   refine OW.rv (RV.loadW rfl (List.Mem.head _) rfl rfl rfl rfl ((u8s_length _).trans Vector.length_toList)) rfl ?_
   refine OW.rot1 ?_
   refine OW.sv (SV.storeW rfl rfl rfl (u8s_one _) rfl ((u8s_length _).trans Vector.length_toList) ((u8s_length _).trans Vector.length_toList)) ?_
   refine OW.nil (QW.then_n (CW.ret ?_))
   have e0 := Option.some.inj hf
   subst e0
   refine QW.retG (rs := [.cell 2 39]) ([.agg (u8s w65.toList).toArray]) ((some b2, blk (u8s w65.toList) 39) :: (some b62, blk (u8s w65.toList) 39) :: B54) rfl ?_ rfl ?_ ?_ _ (.inl rfl)
   ·exact ⟨⟨_, _, _, _, rfl, (List.Mem.head _), rfl, rfl, (congrArg some ((u8s_length _).trans Vector.length_toList).symm), rfl⟩, trivial⟩
   ·exact rfl
   ·exact (fun w m => m)
  ·skip
   refine CW.block ?_
   refine CW.loopJ (fun k L' M' => ∃ n71 : Nat, ∃ w73 : Vector (BitVec 8) 32, (waybillref03_digest.l1 w56 k n71 w73) = some q63 ∧ (n71 ≤ 9223372036854775807) ∧ L' = [(2, ptr (some b2) 0), (7, ptr (some b51) 0), (9, ptr (some b62) 0), (10, .int .i64 ((n71 : Nat) : Int))] ∧ M' = ((some b62, blk (u8s w73.toList) 39) :: (some b51, blk (u32s w56.toList) 23) :: (some b2, blk (u8s (Vector.replicate 32 0#8).toList) 39) :: (B54 ++ N))) (k0 := (32 - 0 + 2)) ⟨0, (Vector.replicate 32 0#8), hq64, (by omega), rfl, rfl⟩ ⟨rfl, rfl, rfl, rfl, trivial⟩ (fun w m => m.pick [0, 1, 2] 3 rfl rfl) ?_
   clear hq64
   rintro k74 L77 M78 ⟨n71, w73, hl75, b72, e79, e80⟩
   rw [e79, e80]
   clear e79 e80 L77 M78
   rcases k74 with _ | k74
   ·rw [waybillref03_digest.l1] at hl75; cases hl75
   rw [waybillref03_digest.l1] at hl75
   refine CW.seq (CW.seq (CW.region ?_))
   refine OW.rv (RV.move rfl) rfl ?_
   refine OW.rv (RV.lss rfl rfl) rfl ?_
   refine OW.slot (.bool (decide (n71 < 32))) (congrArg Value.bool (decide_eq_decide.2 (by omega))) ?_
   refine OW.nil (QW.then_n ?_)
   by_cases h81 : n71 < 32
   ·replace hl75 := if_t hl75 h81
    refine CW.is_t rfl (decide_eq_true h81) ?_
    refine CW.skip (QW.then_n (CW.seq (CW.block (CW.region ?_))))
    refine OW.rv (RV.move rfl) rfl ?_
    refine OW.rv (RV.move rfl) rfl ?_
    refine OW.rv (RV.quo rfl rfl (by omega) (by omega) (by omega)) rfl ?_
    refine OW.slot (.int .i64 ((n71 / 4 : Nat) : Int)) (by first | rfl | (congr 1; omega)) ?_
    obtain ⟨g82, hl75⟩ := some_if hl75
    refine OW.rv (RV.idx_a ((n71 / 4)) rfl rfl rfl rfl rfl (by omega)) rfl ?_
    obtain ⟨x83, hx84, hl75⟩ := some_bind hl75
    refine OW.rv (RV.load rfl (List.Mem.tail _ (List.Mem.head _)) rfl rfl rfl (by rw [Nat.zero_add]; exact u32s_at (vat hx84))) rfl ?_
    refine OW.rv (RV.move rfl) rfl ?_
    refine OW.rv (RV.rem rfl rfl (by omega) (by omega)) rfl ?_
    refine OW.slot (.int .i64 ((n71 % 4 : Nat) : Int)) (by first | rfl | (congr 1; omega)) ?_
    refine OW.rv (RV.mul rfl rfl (by omega)) rfl ?_
    refine OW.slot (.int .i64 (((8 * (n71 % 4)) : Nat) : Int)) (by first | rfl | (congr 1) | (congr 1; omega)) ?_
    refine OW.rv (RV.sub rfl rfl (by omega)) rfl ?_
    refine OW.rv (RV.conv_i64 rfl rfl rfl) rfl ?_
    refine OW.rv (RV.shr32 (s := (BitVec.ofInt 64 ((24 : Int) - (((8 * (n71 % 4)) : Nat) : Int))).toNat) rfl (by first | rfl | exact lit32 _ rfl) rfl (by first | rfl | (simp [U64]; done))) rfl ?_
    refine OW.rv (RV.conv32_8 rfl (by first | rfl | exact lit32 _ rfl) rfl rfl) rfl ?_
    refine OW.rv (RV.idx_a (n71) rfl rfl rfl rfl rfl (by omega)) rfl ?_
    refine OW.sv (SV.store rfl rfl rfl rfl rfl (by rw [u8s_length, Vector.length_toList]; omega)) ?_
    refine OW.cells (u8s (w73.setIfInBounds n71 ((x83 >>> (BitVec.ofInt 64 ((24 : Int) - (((8 * (n71 % 4)) : Nat) : Int))).toNat).setWidth 8)).toList) (by rw [Nat.zero_add, u8s_set', vset]) ?_
    refine OW.nil (QW.block_n (QW.then_n (CW.region ?_)))
    refine OW.rv (RV.move rfl) rfl ?_
    refine OW.rv (RV.add rfl rfl (by omega)) rfl ?_
    refine OW.slot (.int .i64 (((n71 + 1) : Nat) : Int)) (by first | rfl | (congr 1) | (congr 1; omega)) ?_
    refine OW.rv (RV.assign rfl) rfl ?_
    refine OW.nil ?_
    exact QW.againJ (k' := k74) (Nat.lt_succ_self _) ⟨(n71 + 1), (w73.setIfInBounds n71 ((x83 >>> (BitVec.ofInt 64 ((24 : Int) - (((8 * (n71 % 4)) : Nat) : Int))).toNat).setWidth 8)), hl75, (by omega), rfl, rfl⟩ ⟨rfl, rfl, rfl, rfl, trivial⟩ (fun w m => m.pick [0, 1, 2] 3 rfl rfl)
   ·replace hl75 := if_f hl75 h81
    refine CW.is_f rfl (decide_eq_false h81) ?_
    refine CW.exit (QW.then_x (QW.then_x (QW.block_xe ?_)))
    exact QW.join ⟨w73, (Option.some.inj hl75).symm, rfl, rfl⟩ ⟨rfl, rfl, trivial⟩ (fun w m => m.pick [0, 2] 3 rfl rfl)
 ·skip
  refine CW.block ?_
  refine CW.mem (M' := (some b51, blk (u32s x48.toList) 23) :: (ob38, blk ((u32s x36) ++ r40) 22) :: (some b2, blk (u8s (Vector.replicate 32 0#8).toList) 39) :: (((ob26, blk ((u8s x24) ++ r28) 5) :: (B37 ++ (B25 ++ (((some b17), blk ((([.slice A0_ a0.length c0_] : List Value) ++ ([.slice ((ob7).map fun k => ⟨k, 0, none⟩) x4.length c8] : List Value)) ++ []) 24) :: ((ob7, blk ((u8s x4) ++ r9) 5) :: (B6 ++ [])))))) ++ N)) (fun w m => m.pick [0, 1, 3, 2] 4 rfl rfl) ?_
  have gq6 : ∀ w, More w0 Φ ((ob26, blk ((u8s x24) ++ r28) 5) :: (B37 ++ (B25 ++ (((some b17), blk ((([.slice A0_ a0.length c0_] : List Value) ++ ([.slice ((ob7).map fun k => ⟨k, 0, none⟩) x4.length c8] : List Value)) ++ []) 24) :: ((ob7, blk ((u8s x4) ++ r9) 5) :: (B6 ++ [])))))) w → More w0 Φ (B37 ++ (B25 ++ (((some b17), blk ((([.slice A0_ a0.length c0_] : List Value) ++ ([.slice ((ob7).map fun k => ⟨k, 0, none⟩) x4.length c8] : List Value)) ++ []) 24) :: ((ob7, blk ((u8s x4) ++ r9) 5) :: (B6 ++ []))))) w := fun w q => More.mono (fun w m => (m).tail) q
  replace va0 := va0.mono gq6
  replace v19 := v19.mono gq6
  replace v22 := v22.mono gq6
  replace h21 := h21.mono (BsRd.mono gq6)
  have v100 : View (More w0 Φ ((ob26, blk ((u8s x24) ++ r28) 5) :: (B37 ++ (B25 ++ (((some b17), blk ((([.slice A0_ a0.length c0_] : List Value) ++ ([.slice ((ob7).map fun k => ⟨k, 0, none⟩) x4.length c8] : List Value)) ++ []) 24) :: ((ob7, blk ((u8s x4) ++ r9) 5) :: (B6 ++ []))))))) ((ob26).map fun k => ⟨k, 0, none⟩) x24.length c27 1 (u8s x24) := o29.view (by decide) (fun w q => q.2.sublist (List.singleton_sublist.2 (List.mem_cons_self ..)))
  refine CW.mem (M' := (some b51, blk (u32s x48.toList) 23) :: (some b2, blk (u8s (Vector.replicate 32 0#8).toList) 39) :: (((ob38, blk ((u32s x36) ++ r40) 22) :: ((ob26, blk ((u8s x24) ++ r28) 5) :: (B37 ++ (B25 ++ (((some b17), blk ((([.slice A0_ a0.length c0_] : List Value) ++ ([.slice ((ob7).map fun k => ⟨k, 0, none⟩) x4.length c8] : List Value)) ++ []) 24) :: ((ob7, blk ((u8s x4) ++ r9) 5) :: (B6 ++ []))))))) ++ N)) (fun w m => m.pick [0, 2, 1] 3 rfl rfl) ?_
  have gq7 : ∀ w, More w0 Φ ((ob38, blk ((u32s x36) ++ r40) 22) :: ((ob26, blk ((u8s x24) ++ r28) 5) :: (B37 ++ (B25 ++ (((some b17), blk ((([.slice A0_ a0.length c0_] : List Value) ++ ([.slice ((ob7).map fun k => ⟨k, 0, none⟩) x4.length c8] : List Value)) ++ []) 24) :: ((ob7, blk ((u8s x4) ++ r9) 5) :: (B6 ++ []))))))) w → More w0 Φ ((ob26, blk ((u8s x24) ++ r28) 5) :: (B37 ++ (B25 ++ (((some b17), blk ((([.slice A0_ a0.length c0_] : List Value) ++ ([.slice ((ob7).map fun k => ⟨k, 0, none⟩) x4.length c8] : List Value)) ++ []) 24) :: ((ob7, blk ((u8s x4) ++ r9) 5) :: (B6 ++ [])))))) w := fun w q => More.mono (fun w m => (m).tail) q
  replace va0 := va0.mono gq7
  replace v19 := v19.mono gq7
  replace v22 := v22.mono gq7
  replace h21 := h21.mono (BsRd.mono gq7)
  replace v100 := v100.mono gq7
  have v101 : View (More w0 Φ ((ob38, blk ((u32s x36) ++ r40) 22) :: ((ob26, blk ((u8s x24) ++ r28) 5) :: (B37 ++ (B25 ++ (((some b17), blk ((([.slice A0_ a0.length c0_] : List Value) ++ ([.slice ((ob7).map fun k => ⟨k, 0, none⟩) x4.length c8] : List Value)) ++ []) 24) :: ((ob7, blk ((u8s x4) ++ r9) 5) :: (B6 ++ [])))))))) ((ob38).map fun k => ⟨k, 0, none⟩) x36.length c39 1 (u32s x36) := o41.view (by decide) (fun w q => q.2.sublist (List.singleton_sublist.2 (List.mem_cons_self ..)))
  refine CW.loopJ (fun k L' M' => ∃ l104 : List (BitVec 8), ∃ l108 : List (BitVec 32), ∃ n112 : Nat, ∃ w114 : Vector (BitVec 32) 8, ∃ B102 : List Ent, ∃ A105 : Option Addr, ∃ c106 : Nat, ∃ A109 : Option Addr, ∃ c110 : Nat, (waybillref03_digest.l2 k l104 l108 n112 w114) = some q52 ∧ (∀ w, Mem w0 w B102 → Mem w0 w ((ob38, blk ((u32s x36) ++ r40) 22) :: ((ob26, blk ((u8s x24) ++ r28) 5) :: (B37 ++ (B25 ++ (((some b17), blk ((([.slice A0_ a0.length c0_] : List Value) ++ ([.slice ((ob7).map fun k => ⟨k, 0, none⟩) x4.length c8] : List Value)) ++ []) 24) :: ((ob7, blk ((u8s x4) ++ r9) 5) :: (B6 ++ [])))))))) ∧ (View (More w0 Φ B102) A105 l104.length c106 1 (u8s l104)) ∧ (View (More w0 Φ B102) A109 l108.length c110 1 (u32s l108)) ∧ (n112 ≤ 9223372036854775807) ∧ L' = [(2, ptr (some b2) 0), (5, .slice A105 l104.length c106), (6, .slice A109 l108.length c110), (7, ptr (some b51) 0), (8, .int .i64 ((n112 : Nat) : Int))] ∧ M' = ((some b51, blk (u32s w114.toList) 23) :: (some b2, blk (u8s (Vector.replicate 32 0#8).toList) 39) :: (B102 ++ N))) (k0 := (x24.length - 0 + 2)) ⟨x24, x36, 0, x48, ((ob38, blk ((u32s x36) ++ r40) 22) :: ((ob26, blk ((u8s x24) ++ r28) 5) :: (B37 ++ (B25 ++ (((some b17), blk ((([.slice A0_ a0.length c0_] : List Value) ++ ([.slice ((ob7).map fun k => ⟨k, 0, none⟩) x4.length c8] : List Value)) ++ []) 24) :: ((ob7, blk ((u8s x4) ++ r9) 5) :: (B6 ++ []))))))), ((ob26).map fun k => ⟨k, 0, none⟩), c27, ((ob38).map fun k => ⟨k, 0, none⟩), c39, hq53, (fun w m => m), v100, v101, (by omega), rfl, rfl⟩ ⟨rfl, rfl, rfl, rfl, rfl, trivial⟩ (fun w m => m.pick [0, 1] 2 rfl rfl) ?_
  clear hq53
  rintro k98 L116 M117 ⟨l104, l108, n112, w114, B102, A105, c106, A109, c110, hl99, hB103, v107, v111, b113, e118, e119⟩
  rw [e118, e119]
  clear e118 e119 L116 M117
  rcases k98 with _ | k98
  ·rw [waybillref03_digest.l2] at hl99; cases hl99
  rw [waybillref03_digest.l2] at hl99
  have m120 := v107.mx
  have m121 := v111.mx
  refine CW.seq (CW.seq (CW.region ?_))
  refine OW.rv (RV.move rfl) rfl ?_
  refine OW.rv (RV.move rfl) rfl ?_
  refine OW.rv (RV.len rfl rfl) rfl ?_
  refine OW.rv (RV.lss rfl rfl) rfl ?_
  refine OW.slot (.bool (decide (n112 < l104.length))) (congrArg Value.bool (decide_eq_decide.2 (by omega))) ?_
  refine OW.nil (QW.then_n ?_)
  by_cases h122 : n112 < l104.length
  ·replace hl99 := if_t hl99 h122
   refine CW.is_t rfl (decide_eq_true h122) ?_
   refine CW.skip (QW.then_n (CW.seq (CW.block ?_)))
   refine CW.drawsX ((some b2, blk (u8s (Vector.replicate 32 0#8).toList) 39) :: (B102 ++ N)) [8] (fun w m => m.pick [1] 2 rfl rfl) mixed (by kernel_rfl) ?_
   refine XW.rv 0 rfl (by kernel_rfl) rfl (by kernel_rfl) (RV.loadW rfl (List.Mem.head _) rfl rfl rfl rfl ((u32s_length _).trans Vector.length_toList)) rfl ?_
   refine XW.rs 1 rfl (by kernel_rfl) rfl (RV.move rfl) rfl ?_
   refine XW.rs 2 rfl (by kernel_rfl) rfl (RV.move rfl) rfl ?_
   refine XW.rs 3 rfl (by kernel_rfl) rfl (RV.move rfl) rfl ?_
   refine XW.rs 4 rfl (by kernel_rfl) rfl (RV.add rfl rfl (by omega)) rfl ?_
   refine XW.slot (.int .i64 (((n112 + 64) : Nat) : Int)) (by first | rfl | (congr 1) | (congr 1; omega)) ?_
   obtain ⟨g124, hl99⟩ := some_if hl99
   obtain ⟨g125, hl99⟩ := some_if hl99
   have hle := v107.le
   refine XW.rs 5 rfl (by kernel_rfl) rfl (RV.cut_both (s := 1) (n112) ((n112 + 64)) rfl rfl rfl (by omega) (by omega) rfl rfl (by omega) (by omega)) rfl ?_
   refine XW.slot (.slice (subA A105 c106 n112 1) ((l104.take (n112 + 64)).drop n112).length (c106 - n112)) (by rw [show (((l104.take (n112 + 64)).drop n112)).length = ((n112 + 64)) - (n112) from List.length_drop.trans (by rw [List.length_take, Nat.min_eq_left (by omega)])]) ?_
   have v123 : View (More w0 Φ B102) (subA A105 c106 n112 1) ((l104.take (n112 + 64)).drop n112).length (c106 - n112) 1 (u8s ((l104.take (n112 + 64)).drop n112)) := v107.mid8 (by omega) (by omega)
   have m126 := v123.mx
   refine XW.rs 6 rfl (by kernel_rfl) rfl (RV.move rfl) rfl ?_
   obtain ⟨x128, hx127, hl99⟩ := some_bind hl99
   refine XW.callG 7 rfl (by kernel_rfl) rfl Tryd.call41 rfl (fun N' hN' => waybillref03_rounds_does w0 (More w0 Φ B102) N' (fun w m => More.of hΦ 2 (hN' w m) rfl) w114 (subA A105 c106 n112 1) (c106 - n112) ((l104.take (n112 + 64)).drop n112) A109 c110 l108 x128 v123 v111 hx127) rfl ?_
   rintro _ G129 rfl
   refine XW.mem (M' := ((some b51, blk (u32s w114.toList) 23) :: (some b2, blk (u8s (Vector.replicate 32 0#8).toList) 39) :: (B102 ++ N))) (fun w m => m.appR) (fun w m => m.pick [1] 2 rfl rfl) ?_
   refine XW.sv 8 rfl (by kernel_rfl) (SV.storeW rfl rfl rfl (u32s_one _) rfl ((u32s_length _).trans Vector.length_toList) ((u32s_length _).trans Vector.length_toList)) (fun w m => m.pick [1] 2 rfl rfl) ?_
   refine XW.nil (by kernel_rfl) ?_
   refine QW.block_n (QW.then_n (CW.region ?_))
   refine OW.rv (RV.move rfl) rfl ?_
   refine OW.rv (RV.add rfl rfl (by omega)) rfl ?_
   refine OW.slot (.int .i64 (((n112 + 64) : Nat) : Int)) (by first | rfl | (congr 1) | (congr 1; omega)) ?_
   refine OW.rv (RV.assign rfl) rfl ?_
   refine OW.nil ?_
   exact QW.againJ (k' := k98) (Nat.lt_succ_self _) ⟨l104, l108, (n112 + 64), x128, B102, A105, c106, A109, c110, hl99, (fun w m => hB103 w (m)), v107, v111, (by omega), rfl, rfl⟩ ⟨rfl, rfl, rfl, rfl, rfl, trivial⟩ (fun w m => m.pick [0, 1] 2 rfl rfl)
  ·replace hl99 := if_f hl99 h122
   refine CW.is_f rfl (decide_eq_false h122) ?_
   refine CW.exit (QW.then_x (QW.then_x (QW.block_xe ?_)))
   exact QW.join ⟨w114, B102, (Option.some.inj hl99).symm, (fun w m => ((hB103 w (m)).tail).tail), rfl, rfl⟩ ⟨rfl, rfl, trivial⟩ (fun w m => m.pick [0, 1] 2 rfl rfl)
theorem waybilllaw03_lent_does (w0 : World) (Φ : Ctx) (N : List Ent) (hΦ : ∀ w, Mem w0 w N → Φ w) (A0_ : Option Addr) (c0_ : Nat) (a0 : List (BitVec 8)) (res0 : List (BitVec 8)) (va0 : View Φ A0_ a0.length c0_ 1 (u8s a0)) (hf : waybilllaw03_lent a0 = some res0) : DoesG Tryd.prog 10 [.slice A0_ a0.length c0_] w0 [] N (fun v G => ∃ B : List Ent, ∃ or0 : Option Nat, ∃ kr0 : Nat, ∃ rr0 : List Value, (OwnS or0 res0.length kr0 1 (u8s res0) (u8s (List.replicate 70 165#8) ++ rr0)) ∧ (res0.length + 70 ≤ 140737488355328) ∧ v = sl or0 0 res0.length kr0 ∧ G = (or0, blk ((u8s res0) ++ (u8s (List.replicate 70 165#8) ++ rr0)) 5) :: B) := by
 unfold waybilllaw03_lent at hf
 replace va0 := va0.mono (Ψ := More w0 Φ []) (fun w q => q.1)
 have m1 := va0.mx
 refine DoesG.enter Tryd.func10 rfl Tryd.ntmps10 rfl (M := (([] ++ N))) rfl ?_
 refine CW.seq (CW.region ?_)
 refine OW.rv (RV.assign rfl) rfl ?_
 refine OW.nil (QW.then_n (CW.seq (CW.region ?_)))
 refine OW.rv (RV.move rfl) rfl ?_
 obtain ⟨x3, hx2, hf⟩ := some_bind hf
 refine OW.callG Tryd.call23 rfl (waybilllaw03_copied_does w0 (More w0 Φ []) (([] ++ N)) (fun w m => More.of hΦ 0 m rfl) A0_ c0_ a0 x3 va0 hx2) rfl rfl ?_
 rintro L9 M10 ⟨B4, ob5, c6, r7, o8, e11, e12⟩
 rw [e11, e12]
 clear e11 e12 L9 M10
 refine OW.mem (M' := ((ob5, blk ((u8s x3) ++ r7) 5) :: ((B4 ++ []) ++ N))) (fun w m => by have h := Mem.sinkAt (A := B4) m 1 0 rfl rfl; exact h) ?_
 have gq1 : ∀ w, More w0 Φ (B4 ++ []) w → More w0 Φ [] w := fun w q => More.mono (fun w m => (m).appR) q
 replace va0 := va0.mono gq1
 have m13 := o8.mx
 refine OW.rv (RV.assign rfl) rfl ?_
 refine OW.nil (QW.then_n (CW.seq (CW.seq (CW.region ?_))))
 refine OW.rv (RV.assign rfl) rfl ?_
 refine OW.nil (QW.then_n ?_)
 obtain ⟨q14, hq15, hf⟩ := some_bind hf
 refine CW.cutJ (fun L' M' => ∃ l16 : List (BitVec 8), ∃ ob17 : Option Nat, ∃ c18 : Nat, ∃ r19 : List Value, q14 = l16 ∧ (OwnS ob17 l16.length c18 1 (u8s l16) r19) ∧ L' = [(0, .slice A0_ a0.length c0_), (3, sl ob17 0 l16.length c18)] ∧ M' = ((ob17, blk ((u8s l16) ++ r19) 5) :: ((B4 ++ []) ++ N))) ?_ ?_
 ·rintro L22 M23 ⟨l16, ob17, c18, r19, e21, o20, e24, e25⟩
  rw [e24, e25]
  clear e24 e25 L22 M23
  clear hq15
  rw [e21] at hf
  clear e21
  try dsimp only at hf
  have m26 := o20.mx
  refine QW.then_n (CW.seq (CW.region ?_))
  refine OW.rv (RV.move rfl) rfl ?_
  refine OW.rv (RV.move rfl) rfl ?_
  refine OW.rv (RV.len rfl rfl) rfl ?_
  obtain ⟨g27, hf⟩ := some_if hf
  obtain ⟨g28, hf⟩ := some_if hf
  have hle := o20.le (by decide)
  refine OW.rv (RV.cut_o (a0.length) rfl rfl (by omega) rfl rfl (by omega)) rfl ?_
  have o29 : OwnS ob17 (l16.take a0.length).length c18 1 (u8s (l16.take a0.length)) (u8s (List.replicate 70 165#8) ++ r19) := OwnS.shrink8 o20 (by omega) g28
  refine OW.cells (u8s (l16.take a0.length) ++ (u8s (List.replicate 70 165#8) ++ r19)) (shrink8 g28) ?_
  refine OW.slot (sl ob17 0 (l16.take a0.length).length c18) (by rw [show ((l16.take a0.length)).length = a0.length from List.length_take.trans (Nat.min_eq_left (by omega))]) ?_
  refine OW.rv (RV.assign rfl) rfl ?_
  refine OW.nil (QW.then_n (CW.ret ?_))
  have e0 := Option.some.inj hf
  subst e0
  refine QW.retG (rs := [.tmp 2]) ([sl ob17 0 (l16.take a0.length).length c18]) ((ob17, blk ((u8s (l16.take a0.length)) ++ (u8s (List.replicate 70 165#8) ++ r19)) 5) :: (B4 ++ [])) rfl ?_ rfl ?_ ?_ _ (.inl rfl)
  ·exact ⟨rfl, trivial⟩
  ·exact ⟨(B4 ++ []), ob17, c18, r19, o29, (shrink_mx g28 o20.mx (by omega)), rfl, rfl⟩
  ·exact (fun w m => m.pick [0] 1 rfl rfl)
 ·skip
  refine CW.block ?_
  refine CW.loopJ (fun k L' M' => ∃ l30 : List (BitVec 8), ∃ n35 : Nat, ∃ ob31 : Option Nat, ∃ c32 : Nat, ∃ r33 : List Value, (waybilllaw03_lent.l1 k l30 n35) = some q14 ∧ (OwnS ob31 l30.length c32 1 (u8s l30) r33) ∧ (n35 ≤ 9223372036854775807) ∧ L' = [(0, .slice A0_ a0.length c0_), (3, sl ob31 0 l30.length c32), (4, .int .i64 ((n35 : Nat) : Int))] ∧ M' = ((ob31, blk ((u8s l30) ++ r33) 5) :: ((B4 ++ []) ++ N))) (k0 := (70 - 0 + 2)) ⟨x3, 0, ob5, c6, r7, hq15, o8, (by omega), rfl, rfl⟩ ⟨rfl, rfl, rfl, trivial⟩ (fun w m => m.pick [0] 1 rfl rfl) ?_
  clear hq15
  rintro k37 L40 M41 ⟨l30, n35, ob31, c32, r33, hl38, o34, b36, e42, e43⟩
  rw [e42, e43]
  clear e42 e43 L40 M41
  rcases k37 with _ | k37
  ·rw [waybilllaw03_lent.l1] at hl38; cases hl38
  rw [waybilllaw03_lent.l1] at hl38
  have m44 := o34.mx
  refine CW.seq (CW.seq (CW.region ?_))
  refine OW.rv (RV.move rfl) rfl ?_
  refine OW.rv (RV.lss rfl rfl) rfl ?_
  refine OW.slot (.bool (decide (n35 < 70))) (congrArg Value.bool (decide_eq_decide.2 (by omega))) ?_
  refine OW.nil (QW.then_n ?_)
  by_cases h45 : n35 < 70
  ·replace hl38 := if_t hl38 h45
   refine CW.is_t rfl (decide_eq_true h45) ?_
   refine CW.skip (QW.then_n (CW.seq (CW.block (CW.region ?_))))
   refine OW.rv (RV.move rfl) rfl ?_
   refine OW.ofN (NV.bs1 rfl rfl rfl rfl rfl rfl) rfl (fun b46 => ?_)
   refine OW.mem (M' := (((some b46), blk ((u8s ([165#8] : List (BitVec 8))) ++ []) 5) :: (ob31, blk ((u8s l30) ++ r33) 5) :: ((B4 ++ []) ++ N))) (fun w m => by first | exact m | simpa [u8s] using m) ?_
   have o47 : OwnS (some b46) ([165#8] : List (BitVec 8)).length 1 1 (u8s ([165#8] : List (BitVec 8))) [] := ⟨by simp [u8s], by simp [u8s], (fun h => nomatch h), by simp⟩
   refine OW.slot (sl (some b46) 0 ([165#8] : List (BitVec 8)).length 1) (rfl) ?_
   refine OW.rot1 ?_
   obtain ⟨g48, hl38⟩ := some_if hl38
   refine OW.appendOwn (s := 1) rfl rfl rfl rfl rfl rfl o34 (fun w m => m.rd0 (List.Mem.tail _ (List.Mem.head _)) (fun e => o47.nilc (by decide) e)) o47.n (u8s_one _) (o47.zeroO (by decide)) (by decide) (by decide) (by first | omega | (simp only [i5, List.length_nil]; omega)) rfl rfl ((l30 ++ ([165#8] : List (BitVec 8))).length) (u8s (l30 ++ ([165#8] : List (BitVec 8)))) (List.length_append ..).symm (u8s_app _ _) (fun ob49 r50 c51 o52 => ?_)
   have m53 := o52.mx
   refine OW.rv (RV.assign rfl) rfl ?_
   refine OW.nil (QW.block_n (QW.then_n (CW.region ?_)))
   refine OW.rv (RV.move rfl) rfl ?_
   refine OW.rv (RV.add rfl rfl (by omega)) rfl ?_
   refine OW.slot (.int .i64 (((n35 + 1) : Nat) : Int)) (by first | rfl | (congr 1) | (congr 1; omega)) ?_
   refine OW.rv (RV.assign rfl) rfl ?_
   refine OW.nil ?_
   exact QW.againJ (k' := k37) (Nat.lt_succ_self _) ⟨(l30 ++ ([165#8] : List (BitVec 8))), (n35 + 1), ob49, c51, r50, hl38, o52, (by omega), rfl, rfl⟩ ⟨rfl, rfl, rfl, trivial⟩ (fun w m => m.pick [0] 2 rfl rfl)
  ·replace hl38 := if_f hl38 h45
   refine CW.is_f rfl (decide_eq_false h45) ?_
   refine CW.exit (QW.then_x (QW.then_x (QW.block_xe ?_)))
   exact QW.join ⟨l30, ob31, c32, r33, (Option.some.inj hl38).symm, o34, rfl, rfl⟩ ⟨rfl, rfl, trivial⟩ (fun w m => m.pick [0] 1 rfl rfl)
theorem waybilllaw03_still_does (w0 : World) (Φ : Ctx) (N : List Ent) (hΦ : ∀ w, Mem w0 w N → Φ w) (A0_ : Option Addr) (c0_ : Nat) (a0 : List (BitVec 8)) (A1_ : Option Addr) (c1_ : Nat) (a1 : List (BitVec 8)) (res0 : Bool) (va0 : View Φ A0_ (a0 ++ List.replicate 70 165#8).length c0_ 1 (u8s (a0 ++ List.replicate 70 165#8))) (va1 : View Φ A1_ a1.length c1_ 1 (u8s a1)) (hf : waybilllaw03_still a0 a1 = some res0) : DoesG Tryd.prog 14 [.slice A0_ a0.length c0_, .slice A1_ a1.length c1_] w0 [] N (fun v G => v = .bool res0) := by
 unfold waybilllaw03_still at hf
 replace va0 := va0.mono (Ψ := More w0 Φ []) (fun w q => q.1)
 replace va1 := va1.mono (Ψ := More w0 Φ []) (fun w q => q.1)
 have hle := va0.mx
 have hle2 : (a0 ++ List.replicate 70 165#8).length = a0.length + 70 := by rw [List.length_append, List.length_replicate]
 have v1 : View (More w0 Φ []) A0_ a0.length c0_ 1 (u8s a0) := MRoom.view va0
 have m2 := v1.mx
 have m3 := va1.mx
 refine DoesG.enter Tryd.func14 rfl Tryd.ntmps14 rfl (M := (([] ++ N))) rfl ?_
 refine CW.seq (CW.region ?_)
 refine OW.rv (RV.assign rfl) rfl ?_
 refine OW.nil (QW.then_n (CW.seq (CW.seq (CW.region ?_))))
 refine OW.rv (RV.move rfl) rfl ?_
 refine OW.rv (RV.len rfl rfl) rfl ?_
 refine OW.rv (RV.move rfl) rfl ?_
 refine OW.rv (RV.len rfl rfl) rfl ?_
 refine OW.rv (RV.neq rfl rfl) rfl ?_
 refine OW.slot (.bool (!decide (a0.length = a1.length))) (congrArg (fun b => Value.bool (!b)) (decide_eq_decide.2 (by omega))) ?_
 refine OW.nil (QW.then_n ?_)
 by_cases h4 : a0.length = a1.length
 ·replace hf := if_t hf h4
  refine CW.is_f rfl (congrArg (fun b => !b) (decide_eq_true h4)) ?_
  refine CW.skip (QW.then_n (CW.seq (CW.region ?_)))
  refine OW.rv (RV.move rfl) rfl ?_
  refine OW.rv (RV.move rfl) rfl ?_
  refine OW.rv (RV.len rfl rfl) rfl ?_
  refine OW.rv (RV.add rfl rfl (by omega)) rfl ?_
  refine OW.slot (.int .i64 (((a1.length + 70) : Nat) : Int)) (by first | rfl | (congr 1) | (congr 1; omega)) ?_
  obtain ⟨g6, hf⟩ := some_if hf
  have hle := va0.le
  have hlen_ : (a0 ++ List.replicate 70 165#8).length = (a0 ++ List.replicate 70 165#8).length := rfl
  refine OW.rv (RV.cut_hi ((a1.length + 70)) rfl rfl (by omega) rfl rfl (by omega)) rfl ?_
  refine OW.slot (.slice A0_ ((a0 ++ List.replicate 70 165#8).take (a1.length + 70)).length c0_) (by rw [show (((a0 ++ List.replicate 70 165#8).take (a1.length + 70))).length = (a1.length + 70) from List.length_take.trans (Nat.min_eq_left (by omega))]) ?_
  have v5 : View (More w0 Φ []) A0_ ((a0 ++ List.replicate 70 165#8).take (a1.length + 70)).length c0_ 1 (u8s ((a0 ++ List.replicate 70 165#8).take (a1.length + 70))) := va0.hi8 (by omega)
  have m7 := v5.mx
  refine OW.rv (RV.assign rfl) rfl ?_
  refine OW.nil (QW.then_n (CW.seq (CW.seq (CW.region ?_))))
  refine OW.rv (RV.assign rfl) rfl ?_
  refine OW.nil (QW.then_n ?_)
  obtain ⟨q8, hq9, hf⟩ := some_bind hf
  refine CW.cutJ (fun L' M' => q8 = Lp.go () ∧ L' = [] ∧ M' = (([] ++ N))) ?_ ?_
  ·rintro L11 M12 ⟨e10, e13, e14⟩
   rw [e13, e14]
   clear e13 e14 L11 M12
   clear hq9
   rw [e10] at hf
   clear e10
   try dsimp only at hf
   refine QW.then_n (CW.seq (CW.region ?_))
   refine OW.rv (RV.assign rfl) rfl ?_
   refine OW.nil (QW.then_n (CW.ret ?_))
   have e0 := Option.some.inj hf
   subst e0
   refine QW.retG (rs := [.tmp 4]) ([.bool true]) ([]) rfl ?_ rfl ?_ ?_ _ (.inl rfl)
   ·exact ⟨rfl, trivial⟩
   ·exact rfl
   ·exact (fun w m => m)
  ·skip
   refine CW.block ?_
   refine CW.loopJ (fun k L' M' => ∃ n15 : Nat, (waybilllaw03_still.l1 a0 a1 k n15) = some q8 ∧ (n15 ≤ 9223372036854775807) ∧ L' = [(1, .slice A1_ a1.length c1_), (5, .slice A0_ ((a0 ++ List.replicate 70 165#8).take (a1.length + 70)).length c0_), (6, .int .i64 ((n15 : Nat) : Int))] ∧ M' = (([] ++ N))) (k0 := ((((a0 ++ List.replicate 70 165#8).take (a1.length + 70)).length) - 0 + 2)) ⟨0, hq9, (by omega), rfl, rfl⟩ ⟨rfl, rfl, rfl, trivial⟩ (fun w m => m.pick [] 0 rfl rfl) ?_
   clear hq9
   rintro k17 L20 M21 ⟨n15, hl18, b16, e22, e23⟩
   rw [e22, e23]
   clear e22 e23 L20 M21
   rcases k17 with _ | k17
   ·rw [waybilllaw03_still.l1] at hl18; cases hl18
   rw [waybilllaw03_still.l1] at hl18
   refine CW.seq (CW.seq (CW.region ?_))
   refine OW.rv (RV.move rfl) rfl ?_
   refine OW.rv (RV.move rfl) rfl ?_
   refine OW.rv (RV.len rfl rfl) rfl ?_
   refine OW.rv (RV.lss rfl rfl) rfl ?_
   refine OW.slot (.bool (decide (n15 < ((a0 ++ List.replicate 70 165#8).take (a1.length + 70)).length))) (congrArg Value.bool (decide_eq_decide.2 (by omega))) ?_
   refine OW.nil (QW.then_n ?_)
   by_cases h24 : n15 < ((a0 ++ List.replicate 70 165#8).take (a1.length + 70)).length
   ·replace hl18 := if_t hl18 h24
    refine CW.is_t rfl (decide_eq_true h24) ?_
    refine CW.skip (QW.then_n (CW.seq (CW.block (CW.seq ?_))))
    obtain ⟨q25, hq26, hl18⟩ := some_bind hl18
    refine CW.cutJ (fun L' M' => ∃ p27 : Bool, q25 = p27 ∧ L' = [(1, .slice A1_ a1.length c1_), (5, .slice A0_ ((a0 ++ List.replicate 70 165#8).take (a1.length + 70)).length c0_), (6, .int .i64 ((n15 : Nat) : Int)), (50, .bool (p27))] ∧ M' = (([] ++ N))) ?_ ?_
    ·rintro L29 M30 ⟨p27, e28, e31, e32⟩
     rw [e31, e32]
     clear e31 e32 L29 M30
     clear hq26
     rw [e28] at hl18
     clear e28
     try dsimp only at hl18
     refine QW.then_n ?_
     by_cases h33 : p27 = true
     ·replace hl18 := if_t hl18 h33
      refine CW.is_t rfl (h33) ?_
      refine CW.seq (CW.region ?_)
      refine OW.rv (RV.assign rfl) rfl ?_
      refine OW.nil (QW.then_n (CW.ret (QW.block_r (QW.then_r (QW.then_r (QW.block_r (QW.then_r ?_)))))))
      have hc := Option.some.inj hl18
      subst hc
      try dsimp only at hf
      refine QW.then_r ?_
      have e0 := Option.some.inj hf
      subst e0
      refine QW.retG (rs := [.tmp 4]) ([.bool false]) ([]) rfl ?_ rfl ?_ ?_ _ (.inl rfl)
      ·exact ⟨rfl, trivial⟩
      ·exact rfl
      ·exact (fun w m => m)
     ·replace hl18 := if_f hl18 h33
      refine CW.is_f rfl (Bool.eq_false_iff.2 h33) ?_
      refine CW.skip (QW.block_n (QW.then_n (CW.region ?_)))
      refine OW.rv (RV.move rfl) rfl ?_
      refine OW.rv (RV.add rfl rfl (by omega)) rfl ?_
      refine OW.slot (.int .i64 (((n15 + 1) : Nat) : Int)) (by first | rfl | (congr 1) | (congr 1; omega)) ?_
      refine OW.rv (RV.assign rfl) rfl ?_
      refine OW.nil ?_
      exact QW.againJ (k' := k17) (Nat.lt_succ_self _) ⟨(n15 + 1), hl18, (by omega), rfl, rfl⟩ ⟨rfl, rfl, rfl, trivial⟩ (fun w m => m.pick [] 0 rfl rfl)
    ·skip
     refine CW.drawsU 28 mixed (by kernel_rfl) rfl ?_
     refine UW.rv 0 rfl (by kernel_rfl) rfl (RV.move rfl) rfl ?_
     refine UW.rv 1 rfl (by kernel_rfl) rfl (RV.move rfl) rfl ?_
     refine UW.rv 2 rfl (by kernel_rfl) rfl (RV.len rfl rfl) rfl ?_
     refine UW.rv 3 rfl (by kernel_rfl) rfl (RV.lss rfl rfl) rfl ?_
     refine UW.slot (.bool (decide (n15 < a1.length))) (congrArg Value.bool (decide_eq_decide.2 (by omega))) ?_
     refine UW.rv 4 rfl (by kernel_rfl) rfl (RV.move rfl) rfl ?_
     by_cases h34 : n15 < a1.length
     ·replace hq26 := if_t hq26 h34
      refine UW.slot (.bool true) (congrArg Value.bool (decide_eq_true h34)) ?_
      refine UW.rv 5 rfl (by kernel_rfl) rfl (RV.move rfl) rfl ?_
      refine UW.rv 6 rfl (by kernel_rfl) rfl (RV.move rfl) rfl ?_
      obtain ⟨x35, hx36, hq26⟩ := some_bind hq26
      have hl37 := lt_of_at hx36
      refine UW.rv 7 rfl (by kernel_rfl) rfl (RV.idx_r (n15) rfl rfl rfl rfl rfl (v5.isSome (by decide) hl37) (by omega)) rfl ?_
      refine UW.rv 8 rfl (by kernel_rfl) rfl (RV.load_at rfl rfl rfl (fun w m => v5.cell (More.of hΦ 0 m rfl) (u8s_at hx36))) rfl ?_
      refine UW.rv 9 rfl (by kernel_rfl) rfl (RV.move rfl) rfl ?_
      refine UW.rv 10 rfl (by kernel_rfl) rfl (RV.move rfl) rfl ?_
      obtain ⟨x38, hx39, hq26⟩ := some_bind hq26
      have hl40 := lt_of_at hx39
      refine UW.rv 11 rfl (by kernel_rfl) rfl (RV.idx_r (n15) rfl rfl rfl rfl rfl (va1.isSome (by decide) hl40) (by omega)) rfl ?_
      refine UW.rv 12 rfl (by kernel_rfl) rfl (RV.load_at rfl rfl rfl (fun w m => va1.cell (More.of hΦ 0 m rfl) (u8s_at hx39))) rfl ?_
      refine UW.rv 13 rfl (by kernel_rfl) rfl (RV.neq8 rfl (by first | rfl | exact lit8 _ rfl) rfl (by first | rfl | exact lit8 _ rfl)) rfl ?_
      refine UW.rv 14 rfl (by kernel_rfl) rfl (RV.pick_t rfl rfl rfl) rfl ?_
      refine UW.rv 15 rfl (by kernel_rfl) rfl (RV.move rfl) rfl ?_
      by_cases h41 : x35 = x38
      ·replace hq26 := if_t hq26 h41
       refine UW.slot (.bool false) (congrArg Value.bool (congrArg (fun b => !b) (decide_eq_true h41))) ?_
       refine UW.rv 16 rfl (by kernel_rfl) rfl (RV.move rfl) rfl ?_
       refine UW.rv 17 rfl (by kernel_rfl) rfl (RV.move rfl) rfl ?_
       refine UW.rv 18 rfl (by kernel_rfl) rfl (RV.len rfl rfl) rfl ?_
       refine UW.rv 19 rfl (by kernel_rfl) rfl (RV.geq rfl rfl) rfl ?_
       refine UW.slot (.bool (decide (a1.length ≤ n15))) (congrArg Value.bool (decide_eq_decide.2 (by omega))) ?_
       refine UW.rv 20 rfl (by kernel_rfl) rfl (RV.move rfl) rfl ?_
       by_cases h42 : a1.length ≤ n15
       ·replace hq26 := if_t hq26 h42
        refine UW.slot (.bool true) (congrArg Value.bool (decide_eq_true h42)) ?_
        refine UW.rv 21 rfl (by kernel_rfl) rfl (RV.move rfl) rfl ?_
        refine UW.rv 22 rfl (by kernel_rfl) rfl (RV.move rfl) rfl ?_
        obtain ⟨x43, hx44, hq26⟩ := some_bind hq26
        have hl45 := lt_of_at hx44
        refine UW.rv 23 rfl (by kernel_rfl) rfl (RV.idx_r (n15) rfl rfl rfl rfl rfl (v5.isSome (by decide) hl45) (by omega)) rfl ?_
        refine UW.rv 24 rfl (by kernel_rfl) rfl (RV.load_at rfl rfl rfl (fun w m => v5.cell (More.of hΦ 0 m rfl) (u8s_at hx44))) rfl ?_
        refine UW.rv 25 rfl (by kernel_rfl) rfl (RV.neq8 rfl (by first | rfl | exact lit8 _ rfl) rfl (by first | rfl | exact lit8 _ rfl)) rfl ?_
        refine UW.rv 26 rfl (by kernel_rfl) rfl (RV.pick_t rfl rfl rfl) rfl ?_
        refine UW.rv 27 rfl (by kernel_rfl) rfl (RV.pick_f rfl rfl rfl) rfl ?_
        refine UW.nil (by kernel_rfl) ?_
        refine OW.nil ?_
        exact QW.join ⟨(!decide (x43 = 165#8)), (Option.some.inj hq26).symm, rfl, rfl⟩ ⟨rfl, rfl, rfl, rfl, trivial⟩ (fun w m => m.pick [] 0 rfl rfl)
       ·replace hq26 := if_f hq26 h42
        refine UW.slot (.bool false) (congrArg Value.bool (decide_eq_false h42)) ?_
        refine UW.skip 21 rfl (by kernel_rfl) rfl rfl ?_
        refine UW.skip 22 rfl (by kernel_rfl) rfl rfl ?_
        refine UW.skip 23 rfl (by kernel_rfl) rfl rfl ?_
        refine UW.skip 24 rfl (by kernel_rfl) rfl rfl ?_
        refine UW.skip 25 rfl (by kernel_rfl) rfl rfl ?_
        refine UW.rv 26 rfl (by kernel_rfl) rfl (RV.pick_f rfl rfl rfl) rfl ?_
        refine UW.rv 27 rfl (by kernel_rfl) rfl (RV.pick_f rfl rfl rfl) rfl ?_
        refine UW.nil (by kernel_rfl) ?_
        refine OW.nil ?_
        exact QW.join ⟨false, (Option.some.inj hq26).symm, rfl, rfl⟩ ⟨rfl, rfl, rfl, rfl, trivial⟩ (fun w m => m.pick [] 0 rfl rfl)
      ·replace hq26 := if_f hq26 h41
       refine UW.slot (.bool true) (congrArg Value.bool (congrArg (fun b => !b) (decide_eq_false h41))) ?_
       refine UW.skip 16 rfl (by kernel_rfl) rfl rfl ?_
       refine UW.skip 17 rfl (by kernel_rfl) rfl rfl ?_
       refine UW.skip 18 rfl (by kernel_rfl) rfl rfl ?_
       refine UW.skip 19 rfl (by kernel_rfl) rfl rfl ?_
       refine UW.skip 20 rfl (by kernel_rfl) rfl rfl ?_
       refine UW.skip 21 rfl (by kernel_rfl) rfl rfl ?_
       refine UW.skip 22 rfl (by kernel_rfl) rfl rfl ?_
       refine UW.skip 23 rfl (by kernel_rfl) rfl rfl ?_
       refine UW.skip 24 rfl (by kernel_rfl) rfl rfl ?_
       refine UW.skip 25 rfl (by kernel_rfl) rfl rfl ?_
       refine UW.skip 26 rfl (by kernel_rfl) rfl rfl ?_
       refine UW.rv 27 rfl (by kernel_rfl) rfl (RV.pick_t rfl rfl rfl) rfl ?_
       refine UW.nil (by kernel_rfl) ?_
       refine OW.nil ?_
       exact QW.join ⟨true, (Option.some.inj hq26).symm, rfl, rfl⟩ ⟨rfl, rfl, rfl, rfl, trivial⟩ (fun w m => m.pick [] 0 rfl rfl)
     ·replace hq26 := if_f hq26 h34
      refine UW.slot (.bool false) (congrArg Value.bool (decide_eq_false h34)) ?_
      refine UW.skip 5 rfl (by kernel_rfl) rfl rfl ?_
      refine UW.skip 6 rfl (by kernel_rfl) rfl rfl ?_
      refine UW.skip 7 rfl (by kernel_rfl) rfl rfl ?_
      refine UW.skip 8 rfl (by kernel_rfl) rfl rfl ?_
      refine UW.skip 9 rfl (by kernel_rfl) rfl rfl ?_
      refine UW.skip 10 rfl (by kernel_rfl) rfl rfl ?_
      refine UW.skip 11 rfl (by kernel_rfl) rfl rfl ?_
      refine UW.skip 12 rfl (by kernel_rfl) rfl rfl ?_
      refine UW.skip 13 rfl (by kernel_rfl) rfl rfl ?_
      refine UW.rv 14 rfl (by kernel_rfl) rfl (RV.pick_f rfl rfl rfl) rfl ?_
      refine UW.rv 15 rfl (by kernel_rfl) rfl (RV.move rfl) rfl ?_
      refine UW.rv 16 rfl (by kernel_rfl) rfl (RV.move rfl) rfl ?_
      refine UW.rv 17 rfl (by kernel_rfl) rfl (RV.move rfl) rfl ?_
      refine UW.rv 18 rfl (by kernel_rfl) rfl (RV.len rfl rfl) rfl ?_
      refine UW.rv 19 rfl (by kernel_rfl) rfl (RV.geq rfl rfl) rfl ?_
      refine UW.slot (.bool (decide (a1.length ≤ n15))) (congrArg Value.bool (decide_eq_decide.2 (by omega))) ?_
      refine UW.rv 20 rfl (by kernel_rfl) rfl (RV.move rfl) rfl ?_
      by_cases h46 : a1.length ≤ n15
      ·replace hq26 := if_t hq26 h46
       refine UW.slot (.bool true) (congrArg Value.bool (decide_eq_true h46)) ?_
       refine UW.rv 21 rfl (by kernel_rfl) rfl (RV.move rfl) rfl ?_
       refine UW.rv 22 rfl (by kernel_rfl) rfl (RV.move rfl) rfl ?_
       obtain ⟨x47, hx48, hq26⟩ := some_bind hq26
       have hl49 := lt_of_at hx48
       refine UW.rv 23 rfl (by kernel_rfl) rfl (RV.idx_r (n15) rfl rfl rfl rfl rfl (v5.isSome (by decide) hl49) (by omega)) rfl ?_
       refine UW.rv 24 rfl (by kernel_rfl) rfl (RV.load_at rfl rfl rfl (fun w m => v5.cell (More.of hΦ 0 m rfl) (u8s_at hx48))) rfl ?_
       refine UW.rv 25 rfl (by kernel_rfl) rfl (RV.neq8 rfl (by first | rfl | exact lit8 _ rfl) rfl (by first | rfl | exact lit8 _ rfl)) rfl ?_
       refine UW.rv 26 rfl (by kernel_rfl) rfl (RV.pick_t rfl rfl rfl) rfl ?_
       refine UW.rv 27 rfl (by kernel_rfl) rfl (RV.pick_f rfl rfl rfl) rfl ?_
       refine UW.nil (by kernel_rfl) ?_
       refine OW.nil ?_
       exact QW.join ⟨(!decide (x47 = 165#8)), (Option.some.inj hq26).symm, rfl, rfl⟩ ⟨rfl, rfl, rfl, rfl, trivial⟩ (fun w m => m.pick [] 0 rfl rfl)
      ·replace hq26 := if_f hq26 h46
       refine UW.slot (.bool false) (congrArg Value.bool (decide_eq_false h46)) ?_
       refine UW.skip 21 rfl (by kernel_rfl) rfl rfl ?_
       refine UW.skip 22 rfl (by kernel_rfl) rfl rfl ?_
       refine UW.skip 23 rfl (by kernel_rfl) rfl rfl ?_
       refine UW.skip 24 rfl (by kernel_rfl) rfl rfl ?_
       refine UW.skip 25 rfl (by kernel_rfl) rfl rfl ?_
       refine UW.rv 26 rfl (by kernel_rfl) rfl (RV.pick_f rfl rfl rfl) rfl ?_
       refine UW.rv 27 rfl (by kernel_rfl) rfl (RV.pick_f rfl rfl rfl) rfl ?_
       refine UW.nil (by kernel_rfl) ?_
       refine OW.nil ?_
       exact QW.join ⟨false, (Option.some.inj hq26).symm, rfl, rfl⟩ ⟨rfl, rfl, rfl, rfl, trivial⟩ (fun w m => m.pick [] 0 rfl rfl)
   ·replace hl18 := if_f hl18 h24
    refine CW.is_f rfl (decide_eq_false h24) ?_
    refine CW.exit (QW.then_x (QW.then_x (QW.block_xe ?_)))
    exact QW.join ⟨(Option.some.inj hl18).symm, rfl, rfl⟩ trivial (fun w m => m.pick [] 0 rfl rfl)
 ·replace hf := if_f hf h4
  refine CW.is_t rfl (congrArg (fun b => !b) (decide_eq_false h4)) ?_
  refine CW.seq (CW.region ?_)
  refine OW.rv (RV.assign rfl) rfl ?_
  refine OW.nil (QW.then_n (CW.ret (QW.then_r ?_)))
  have e0 := Option.some.inj hf
  subst e0
  refine QW.retG (rs := [.tmp 4]) ([.bool false]) ([]) rfl ?_ rfl ?_ ?_ _ (.inl rfl)
  ·exact ⟨rfl, trivial⟩
  ·exact rfl
  ·exact (fun w m => m)
theorem waybilllaw03_whole_does (w0 : World) (Φ : Ctx) (N : List Ent) (hΦ : ∀ w, Mem w0 w N → Φ w) (A0_ : Option Addr) (c0_ : Nat) (a0 : List (List (BitVec 8))) (A1_ : Option Addr) (c1_ : Nat) (cs1_ : List Value) (a1 : List (List (BitVec 8))) (res0 : Bool) (ra0 : MRooms (List.replicate 70 165#8) [[165#8], [90#8]] Φ A0_ c0_ a0) (va1 : View Φ A1_ a1.length c1_ 1 cs1_) (ha1 : Reps (BsRd Φ) cs1_ a1) (hf : waybilllaw03_whole a0 a1 = some res0) : DoesG Tryd.prog 21 [.slice A0_ a0.length c0_, .slice A1_ a1.length c1_] w0 [] N (fun v G => v = .bool res0) := by
 unfold waybilllaw03_whole at hf
 replace va1 := va1.mono (Ψ := More w0 Φ []) (fun w q => q.1)
 replace ha1 := ha1.mono (BsRd.mono (Ψ := More w0 Φ []) (fun w q => q.1))
 replace ra0 := ra0.mono (Ψ := More w0 Φ []) (fun w q => q.1)
 obtain ⟨cs1, mk2, v3, h4, h5⟩ := ra0
 replace h4 : Reps (MkRd03 (More w0 Φ [])) cs1 a0 := h4
 have hlp : a0.length ≤ (a0 ++ ([[165#8], [90#8]] : List (List (BitVec 8)))).length := by rw [List.length_append]; omega
 have v6 : View (More w0 Φ []) A0_ a0.length c0_ 1 cs1 := View.pre v3 (h4.len MkRd03.len) hlp
 have m7 := v6.mx
 have m8 := v3.mx
 have m9 := v6.mx
 have m10 := va1.mx
 refine DoesG.enter Tryd.func21 rfl Tryd.ntmps21 rfl (M := (([] ++ N))) rfl ?_
 refine CW.seq (CW.region ?_)
 refine OW.rv (RV.assign rfl) rfl ?_
 refine OW.nil (QW.then_n (CW.seq (CW.seq (CW.region ?_))))
 refine OW.rv (RV.move rfl) rfl ?_
 refine OW.rv (RV.len rfl rfl) rfl ?_
 refine OW.rv (RV.move rfl) rfl ?_
 refine OW.rv (RV.len rfl rfl) rfl ?_
 refine OW.rv (RV.neq rfl rfl) rfl ?_
 refine OW.slot (.bool (!decide (a0.length = a1.length))) (congrArg (fun b => Value.bool (!b)) (decide_eq_decide.2 (by omega))) ?_
 refine OW.nil (QW.then_n ?_)
 by_cases h11 : a0.length = a1.length
 ·replace hf := if_t hf h11
  refine CW.is_f rfl (congrArg (fun b => !b) (decide_eq_true h11)) ?_
  refine CW.skip (QW.then_n (CW.seq (CW.seq (CW.region ?_))))
  refine OW.rv (RV.assign rfl) rfl ?_
  refine OW.nil (QW.then_n ?_)
  obtain ⟨q12, hq13, hf⟩ := some_bind hf
  refine CW.cutJ (fun L' M' => q12 = Lp.go () ∧ L' = [(0, .slice A0_ a0.length c0_), (1, .slice A1_ a1.length c1_)] ∧ M' = (([] ++ N))) ?_ ?_
  ·rintro L15 M16 ⟨e14, e17, e18⟩
   rw [e17, e18]
   clear e17 e18 L15 M16
   clear hq13
   rw [e14] at hf
   clear e14
   try dsimp only at hf
   refine QW.then_n (CW.seq (CW.region ?_))
   refine OW.rv (RV.move rfl) rfl ?_
   refine OW.rv (RV.move rfl) rfl ?_
   refine OW.rv (RV.len rfl rfl) rfl ?_
   refine OW.rv (RV.add rfl rfl (by omega)) rfl ?_
   refine OW.slot (.int .i64 (((a1.length + 2) : Nat) : Int)) (by first | rfl | (congr 1) | (congr 1; omega)) ?_
   obtain ⟨g20, hf⟩ := some_if hf
   have hle := v3.le
   have hlen_ : (a0 ++ ([[165#8], [90#8]] : List (List (BitVec 8)))).length = (a0 ++ ([[165#8], [90#8]] : List (List (BitVec 8)))).length := rfl
   refine OW.rv (RV.cut_hi ((a1.length + 2)) rfl rfl (by omega) rfl rfl (by omega)) rfl ?_
   refine OW.slot (.slice A0_ ((a0 ++ ([[165#8], [90#8]] : List (List (BitVec 8)))).take (a1.length + 2)).length c0_) (by rw [show (((a0 ++ ([[165#8], [90#8]] : List (List (BitVec 8)))).take (a1.length + 2))).length = (a1.length + 2) from List.length_take.trans (Nat.min_eq_left (by omega))]) ?_
   have v19 : View (More w0 Φ []) A0_ ((a0 ++ ([[165#8], [90#8]] : List (List (BitVec 8)))).take (a1.length + 2)).length c0_ 1 ((cs1 ++ mk2).take ((a1.length + 2) * 1)) := v3.hiD (by omega)
   have h21 := h5.take BsRd.len (a1.length + 2)
   have m22 := v19.mx
   refine OW.rv (RV.assign rfl) rfl ?_
   refine OW.nil (QW.then_n (CW.seq ?_))
   obtain ⟨q23, hq24, hf⟩ := some_bind hf
   refine CW.cutJ (fun L' M' => ∃ p27 : Bool, ∃ B25 : List Ent, q23 = p27 ∧ (∀ w, Mem w0 w B25 → Mem w0 w []) ∧ L' = [(4, .bool (p27))] ∧ M' = ((B25 ++ N))) ?_ ?_
   ·rintro L29 M30 ⟨p27, B25, e28, hB26, e31, e32⟩
    rw [e31, e32]
    clear e31 e32 L29 M30
    clear hq24
    rw [e28] at hf
    clear e28
    try dsimp only at hf
    refine QW.then_n (CW.ret ?_)
    have e0 := Option.some.inj hf
    subst e0
    refine QW.retG (rs := [.tmp 4]) ([.bool (p27)]) (B25) rfl ?_ rfl ?_ ?_ _ (.inl rfl)
    ·exact ⟨rfl, trivial⟩
    ·exact rfl
    ·exact (fun w m => m)
   ·skip
    refine CW.region ?_
    refine OW.rv (RV.move rfl) rfl ?_
    refine OW.rv (RV.move rfl) rfl ?_
    refine OW.rv (RV.len rfl rfl) rfl ?_
    obtain ⟨x33, hx34, hq24⟩ := some_bind hq24
    have hl35 := lt_of_at hx34
    refine OW.rv (RV.idx_r (a1.length) rfl rfl rfl rfl rfl (v19.isSome (by decide) hl35) (by omega)) rfl ?_
    obtain ⟨cs36, h37, h38⟩ := h21.get BsRd.len hx34
    obtain ⟨A39, c40, e42, v41⟩ := h37
    subst e42
    have m43 := v41.mx
    refine OW.rv (RV.load_at rfl rfl rfl (fun w m => by have := v19.load (More.of hΦ 0 m rfl) h38 0 _ rfl; simpa [Addr.add] using this)) rfl ?_
    refine OW.ofN (NV.bs1 rfl rfl rfl rfl rfl rfl) rfl (fun b44 => ?_)
    refine OW.mem (M' := (((some b44), blk ((u8s ([165#8] : List (BitVec 8))) ++ []) 5) :: ([] ++ N))) (fun w m => by first | exact m | simpa [u8s] using m) ?_
    have o45 : OwnS (some b44) ([165#8] : List (BitVec 8)).length 1 1 (u8s ([165#8] : List (BitVec 8))) [] := ⟨by simp [u8s], by simp [u8s], (fun h => nomatch h), by simp⟩
    refine OW.slot (sl (some b44) 0 ([165#8] : List (BitVec 8)).length 1) (rfl) ?_
    refine OW.mem (M' := ((((some b44), blk ((u8s ([165#8] : List (BitVec 8))) ++ []) 5) :: []) ++ N)) (fun w m => m.pick [0] 1 rfl rfl) ?_
    have gq1 : ∀ w, More w0 Φ (((some b44), blk ((u8s ([165#8] : List (BitVec 8))) ++ []) 5) :: []) w → More w0 Φ [] w := fun w q => More.mono (fun w m => (m).tail) q
    replace v6 := v6.mono gq1
    replace h4 := h4.mono (MkRd03.mono gq1)
    replace v3 := v3.mono gq1
    replace h5 := h5.mono (BsRd.mono gq1)
    replace va1 := va1.mono gq1
    replace ha1 := ha1.mono (BsRd.mono gq1)
    replace v19 := v19.mono gq1
    replace h21 := h21.mono (BsRd.mono gq1)
    replace v41 := v41.mono gq1
    have v46 : View (More w0 Φ (((some b44), blk ((u8s ([165#8] : List (BitVec 8))) ++ []) 5) :: [])) (((some b44)).map fun k => ⟨k, 0, none⟩) ([165#8] : List (BitVec 8)).length 1 1 (u8s ([165#8] : List (BitVec 8))) := o45.view (by decide) (fun w q => q.2.sublist (List.singleton_sublist.2 (List.mem_cons_self ..)))
    obtain ⟨x48, hx47, hq24⟩ := some_bind hq24
    refine OW.callG Tryd.call44 rfl (waybilllaw03_same_does w0 (More w0 Φ (((some b44), blk ((u8s ([165#8] : List (BitVec 8))) ++ []) 5) :: [])) (((((some b44), blk ((u8s ([165#8] : List (BitVec 8))) ++ []) 5) :: []) ++ N)) (fun w m => More.of hΦ 0 m rfl) A39 c40 x33 (((some b44)).map fun k => ⟨k, 0, none⟩) 1 ([165#8] : List (BitVec 8)) x48 v41 v46 hx47) rfl rfl ?_
    rintro _ G49 rfl
    refine OW.mem (M' := (((((some b44), blk ((u8s ([165#8] : List (BitVec 8))) ++ []) 5) :: []) ++ N))) (fun w m => m.appR) ?_
    refine OW.rv (RV.move rfl) rfl ?_
    by_cases h51 : x48 = true
    ·replace hq24 := if_t hq24 h51
     refine OW.slot (.bool true) (congrArg Value.bool (h51)) ?_
     refine OW.want rfl ?_
     refine OW.rv (RV.move rfl) rfl ?_
     refine OW.want rfl ?_
     refine OW.rv (RV.move rfl) rfl ?_
     refine OW.want rfl ?_
     refine OW.rv (RV.len rfl rfl) rfl ?_
     refine OW.want rfl ?_
     refine OW.rv (RV.add rfl rfl (by omega)) rfl ?_
     refine OW.slot (.int .i64 (((a1.length + 1) : Nat) : Int)) (by first | rfl | (congr 1) | (congr 1; omega)) ?_
     refine OW.want rfl ?_
     obtain ⟨x52, hx53, hq24⟩ := some_bind hq24
     have hl54 := lt_of_at hx53
     refine OW.rv (RV.idx_r ((a1.length + 1)) rfl rfl rfl rfl rfl (v19.isSome (by decide) hl54) (by omega)) rfl ?_
     obtain ⟨cs55, h56, h57⟩ := h21.get BsRd.len hx53
     obtain ⟨A58, c59, e61, v60⟩ := h56
     subst e61
     have m62 := v60.mx
     refine OW.want rfl ?_
     refine OW.rv (RV.load_at rfl rfl rfl (fun w m => by have := v19.load (More.of hΦ 0 m rfl) h57 0 _ rfl; simpa [Addr.add] using this)) rfl ?_
     refine OW.want rfl ?_
     refine OW.ofN (NV.bs1 rfl rfl rfl rfl rfl rfl) rfl (fun b63 => ?_)
     refine OW.mem (M' := (((some b63), blk ((u8s ([90#8] : List (BitVec 8))) ++ []) 5) :: ((((some b44), blk ((u8s ([165#8] : List (BitVec 8))) ++ []) 5) :: []) ++ N))) (fun w m => by first | exact m | simpa [u8s] using m) ?_
     have o64 : OwnS (some b63) ([90#8] : List (BitVec 8)).length 1 1 (u8s ([90#8] : List (BitVec 8))) [] := ⟨by simp [u8s], by simp [u8s], (fun h => nomatch h), by simp⟩
     refine OW.slot (sl (some b63) 0 ([90#8] : List (BitVec 8)).length 1) (rfl) ?_
     refine OW.want rfl ?_
     refine OW.mem (M' := ((((some b63), blk ((u8s ([90#8] : List (BitVec 8))) ++ []) 5) :: (((some b44), blk ((u8s ([165#8] : List (BitVec 8))) ++ []) 5) :: [])) ++ N)) (fun w m => m.pick [0] 1 rfl rfl) ?_
     have gq2 : ∀ w, More w0 Φ (((some b63), blk ((u8s ([90#8] : List (BitVec 8))) ++ []) 5) :: (((some b44), blk ((u8s ([165#8] : List (BitVec 8))) ++ []) 5) :: [])) w → More w0 Φ (((some b44), blk ((u8s ([165#8] : List (BitVec 8))) ++ []) 5) :: []) w := fun w q => More.mono (fun w m => (m).tail) q
     replace v6 := v6.mono gq2
     replace h4 := h4.mono (MkRd03.mono gq2)
     replace v3 := v3.mono gq2
     replace h5 := h5.mono (BsRd.mono gq2)
     replace va1 := va1.mono gq2
     replace ha1 := ha1.mono (BsRd.mono gq2)
     replace v19 := v19.mono gq2
     replace h21 := h21.mono (BsRd.mono gq2)
     replace v41 := v41.mono gq2
     replace v46 := v46.mono gq2
     replace v60 := v60.mono gq2
     have v65 : View (More w0 Φ (((some b63), blk ((u8s ([90#8] : List (BitVec 8))) ++ []) 5) :: (((some b44), blk ((u8s ([165#8] : List (BitVec 8))) ++ []) 5) :: []))) (((some b63)).map fun k => ⟨k, 0, none⟩) ([90#8] : List (BitVec 8)).length 1 1 (u8s ([90#8] : List (BitVec 8))) := o64.view (by decide) (fun w q => q.2.sublist (List.singleton_sublist.2 (List.mem_cons_self ..)))
     obtain ⟨x67, hx66, hq24⟩ := some_bind hq24
     refine OW.callG Tryd.call44 rfl (waybilllaw03_same_does w0 (More w0 Φ (((some b63), blk ((u8s ([90#8] : List (BitVec 8))) ++ []) 5) :: (((some b44), blk ((u8s ([165#8] : List (BitVec 8))) ++ []) 5) :: []))) (((((some b63), blk ((u8s ([90#8] : List (BitVec 8))) ++ []) 5) :: (((some b44), blk ((u8s ([165#8] : List (BitVec 8))) ++ []) 5) :: [])) ++ N)) (fun w m => More.of hΦ 0 m rfl) A58 c59 x52 (((some b63)).map fun k => ⟨k, 0, none⟩) 1 ([90#8] : List (BitVec 8)) x67 v60 v65 hx66) rfl rfl ?_
     rintro _ G68 rfl
     refine OW.mem (M' := (((((some b63), blk ((u8s ([90#8] : List (BitVec 8))) ++ []) 5) :: (((some b44), blk ((u8s ([165#8] : List (BitVec 8))) ++ []) 5) :: [])) ++ N))) (fun w m => m.appR) ?_
     refine OW.rv (RV.pick_t rfl rfl rfl) rfl ?_
     refine OW.rv (RV.assign rfl) rfl ?_
     refine OW.nil ?_
     exact QW.join ⟨(x67), (((some b63), blk ((u8s ([90#8] : List (BitVec 8))) ++ []) 5) :: (((some b44), blk ((u8s ([165#8] : List (BitVec 8))) ++ []) 5) :: [])), (Option.some.inj hq24).symm, (fun w m => ((m).tail).tail), rfl, rfl⟩ ⟨rfl, trivial⟩ (fun w m => m.pick [] 0 rfl rfl)
    ·replace hq24 := if_f hq24 h51
     refine OW.slot (.bool false) (congrArg Value.bool (Bool.eq_false_iff.2 h51)) ?_
     refine OW.skip rfl rfl rfl ?_
     refine OW.skip rfl rfl rfl ?_
     refine OW.skip rfl rfl rfl ?_
     refine OW.skip rfl rfl rfl ?_
     refine OW.skip rfl rfl rfl ?_
     refine OW.skip rfl rfl rfl ?_
     refine OW.skip rfl rfl rfl ?_
     refine OW.skip rfl rfl rfl ?_
     refine OW.rv (RV.pick_f rfl rfl rfl) rfl ?_
     refine OW.rv (RV.assign rfl) rfl ?_
     refine OW.nil ?_
     exact QW.join ⟨false, (((some b44), blk ((u8s ([165#8] : List (BitVec 8))) ++ []) 5) :: []), (Option.some.inj hq24).symm, (fun w m => (m).tail), rfl, rfl⟩ ⟨rfl, trivial⟩ (fun w m => m.pick [] 0 rfl rfl)
  ·skip
   refine CW.block ?_
   refine CW.loopJ (fun k L' M' => ∃ n70 : Nat, (waybilllaw03_whole.l1 a0 a1 k n70) = some q12 ∧ (n70 ≤ 9223372036854775807) ∧ L' = [(0, .slice A0_ a0.length c0_), (1, .slice A1_ a1.length c1_), (5, .int .i64 ((n70 : Nat) : Int))] ∧ M' = (([] ++ N))) (k0 := (a1.length - 0 + 2)) ⟨0, hq13, (by omega), rfl, rfl⟩ ⟨rfl, rfl, rfl, trivial⟩ (fun w m => m.pick [] 0 rfl rfl) ?_
   clear hq13
   rintro k72 L75 M76 ⟨n70, hl73, b71, e77, e78⟩
   rw [e77, e78]
   clear e77 e78 L75 M76
   rcases k72 with _ | k72
   ·rw [waybilllaw03_whole.l1] at hl73; cases hl73
   rw [waybilllaw03_whole.l1] at hl73
   refine CW.seq (CW.seq (CW.region ?_))
   refine OW.rv (RV.move rfl) rfl ?_
   refine OW.rv (RV.move rfl) rfl ?_
   refine OW.rv (RV.len rfl rfl) rfl ?_
   refine OW.rv (RV.lss rfl rfl) rfl ?_
   refine OW.slot (.bool (decide (n70 < a1.length))) (congrArg Value.bool (decide_eq_decide.2 (by omega))) ?_
   refine OW.nil (QW.then_n ?_)
   by_cases h79 : n70 < a1.length
   ·replace hl73 := if_t hl73 h79
    refine CW.is_t rfl (decide_eq_true h79) ?_
    refine CW.skip (QW.then_n (CW.seq (CW.block (CW.seq ?_))))
    refine CW.drawsU 10 mixed (by kernel_rfl) rfl ?_
    refine UW.rv 0 rfl (by kernel_rfl) rfl (RV.move rfl) rfl ?_
    refine UW.rv 1 rfl (by kernel_rfl) rfl (RV.move rfl) rfl ?_
    obtain ⟨x80, hx81, hl73⟩ := some_bind hl73
    have hl82 := lt_of_at hx81
    refine UW.rv 2 rfl (by kernel_rfl) rfl (RV.idx_r (n70) rfl rfl rfl rfl rfl (v6.isSome (by decide) hl82) (by omega)) rfl ?_
    obtain ⟨cs83, h84, h85⟩ := h4.get MkRd03.len hx81
    obtain ⟨A86, c87, e88, v89⟩ := h84
    subst e88
    have hle := v89.mx
    have hle2 : (x80 ++ List.replicate 70 165#8).length = x80.length + 70 := by rw [List.length_append, List.length_replicate]
    have v90 : View (More w0 Φ []) A86 x80.length c87 1 (u8s x80) := MRoom.view v89
    have m91 := v90.mx
    refine UW.rv 3 rfl (by kernel_rfl) rfl (RV.load_at rfl rfl rfl (fun w m => by have := v6.load (More.of hΦ 0 m rfl) h85 0 _ rfl; simpa [Addr.add] using this)) rfl ?_
    refine UW.rv 4 rfl (by kernel_rfl) rfl (RV.move rfl) rfl ?_
    refine UW.rv 5 rfl (by kernel_rfl) rfl (RV.move rfl) rfl ?_
    obtain ⟨x92, hx93, hl73⟩ := some_bind hl73
    have hl94 := lt_of_at hx93
    refine UW.rv 6 rfl (by kernel_rfl) rfl (RV.idx_r (n70) rfl rfl rfl rfl rfl (va1.isSome (by decide) hl94) (by omega)) rfl ?_
    obtain ⟨cs95, h96, h97⟩ := ha1.get BsRd.len hx93
    obtain ⟨A98, c99, e101, v100⟩ := h96
    subst e101
    have m102 := v100.mx
    refine UW.rv 7 rfl (by kernel_rfl) rfl (RV.load_at rfl rfl rfl (fun w m => by have := va1.load (More.of hΦ 0 m rfl) h97 0 _ rfl; simpa [Addr.add] using this)) rfl ?_
    obtain ⟨x104, hx103, hl73⟩ := some_bind hl73
    refine UW.callG 8 rfl (by kernel_rfl) rfl Tryd.call14 rfl (fun N' hN' => waybilllaw03_still_does w0 (More w0 Φ []) N' (fun w m => More.of hΦ 0 (hN' w m) rfl) A86 c87 x80 A98 c99 x92 x104 v89 v100 hx103) rfl ?_
    rintro _ G105 rfl
    refine UW.mem (M' := (([] ++ N))) (fun w m => m.appR) ?_
    refine UW.rv 9 rfl (by kernel_rfl) rfl (RV.not rfl) rfl ?_
    refine UW.nil (by kernel_rfl) ?_
    refine OW.nil (QW.then_n ?_)
    by_cases h107 : x104 = true
    ·replace hl73 := if_t hl73 h107
     refine CW.is_f rfl (congrArg (fun b => !b) (h107)) ?_
     refine CW.skip (QW.block_n (QW.then_n (CW.region ?_)))
     refine OW.rv (RV.move rfl) rfl ?_
     refine OW.rv (RV.add rfl rfl (by omega)) rfl ?_
     refine OW.slot (.int .i64 (((n70 + 1) : Nat) : Int)) (by first | rfl | (congr 1) | (congr 1; omega)) ?_
     refine OW.rv (RV.assign rfl) rfl ?_
     refine OW.nil ?_
     exact QW.againJ (k' := k72) (Nat.lt_succ_self _) ⟨(n70 + 1), hl73, (by omega), rfl, rfl⟩ ⟨rfl, rfl, rfl, trivial⟩ (fun w m => m.pick [] 0 rfl rfl)
    ·replace hl73 := if_f hl73 h107
     refine CW.is_t rfl (congrArg (fun b => !b) (Bool.eq_false_iff.2 h107)) ?_
     refine CW.seq (CW.region ?_)
     refine OW.rv (RV.assign rfl) rfl ?_
     refine OW.nil (QW.then_n (CW.ret (QW.block_r (QW.then_r (QW.then_r (QW.block_r (QW.then_r ?_)))))))
     have hc := Option.some.inj hl73
     subst hc
     try dsimp only at hf
     refine QW.then_r ?_
     have e0 := Option.some.inj hf
     subst e0
     refine QW.retG (rs := [.tmp 4]) ([.bool false]) ([]) rfl ?_ rfl ?_ ?_ _ (.inl rfl)
     ·exact ⟨rfl, trivial⟩
     ·exact rfl
     ·exact (fun w m => m)
   ·replace hl73 := if_f hl73 h79
    refine CW.is_f rfl (decide_eq_false h79) ?_
    refine CW.exit (QW.then_x (QW.then_x (QW.block_xe ?_)))
    exact QW.join ⟨(Option.some.inj hl73).symm, rfl, rfl⟩ ⟨rfl, rfl, trivial⟩ (fun w m => m.pick [] 0 rfl rfl)
 ·replace hf := if_f hf h11
  refine CW.is_t rfl (congrArg (fun b => !b) (decide_eq_false h11)) ?_
  refine CW.seq (CW.region ?_)
  refine OW.rv (RV.assign rfl) rfl ?_
  refine OW.nil (QW.then_n (CW.ret (QW.then_r ?_)))
  have e0 := Option.some.inj hf
  subst e0
  refine QW.retG (rs := [.tmp 4]) ([.bool false]) ([]) rfl ?_ rfl ?_ ?_ _ (.inl rfl)
  ·exact ⟨rfl, trivial⟩
  ·exact rfl
  ·exact (fun w m => m)
theorem waybillref03_bytesOf_does (w0 : World) (Φ : Ctx) (N : List Ent) (hΦ : ∀ w, Mem w0 w N → Φ w) (a0 : Vector (BitVec 8) 32) (res0 : List (BitVec 8)) (hf : waybillref03_bytesOf a0 = some res0) : DoesG Tryd.prog 49 [.agg (u8s a0.toList).toArray] w0 [] N (fun v G => ∃ B : List Ent, ∃ or0 : Option Nat, ∃ kr0 : Nat, ∃ rr0 : List Value, (OwnS or0 res0.length kr0 1 (u8s res0) rr0) ∧ v = sl or0 0 res0.length kr0 ∧ G = (or0, blk ((u8s res0) ++ rr0) 5) :: B) := by
 unfold waybillref03_bytesOf at hf
 refine DoesG.enter Tryd.func49 rfl Tryd.ntmps49 rfl (M := (([] ++ N))) rfl ?_
 refine CW.seq (CW.region ?_)
 refine OW.boxA rfl rfl (fun b1 => ?_)
 refine OW.rv (RV.assign rfl) rfl ?_
 refine OW.nil (QW.then_n (CW.seq (CW.region ?_)))
 refine OW.rv (RV.assign rfl) rfl ?_
 refine OW.nil (QW.then_n (CW.seq (CW.seq (CW.region ?_))))
 refine OW.rv (RV.assign rfl) rfl ?_
 refine OW.nil (QW.then_n ?_)
 obtain ⟨q2, hq3, hf⟩ := some_bind hf
 refine CW.cutJ (fun L' M' => ∃ l4 : List (BitVec 8), ∃ ob5 : Option Nat, ∃ c6 : Nat, ∃ r7 : List Value, q2 = l4 ∧ (OwnS ob5 l4.length c6 1 (u8s l4) r7) ∧ L' = [(3, sl ob5 0 l4.length c6)] ∧ M' = ((ob5, blk ((u8s l4) ++ r7) 5) :: ([] ++ N))) ?_ ?_
 ·rintro L10 M11 ⟨l4, ob5, c6, r7, e9, o8, e12, e13⟩
  rw [e12, e13]
  clear e12 e13 L10 M11
  clear hq3
  rw [e9] at hf
  clear e9
  try dsimp only at hf
  have m14 := o8.mx
  refine QW.then_n (CW.seq (CW.region ?_))
  refine OW.rv (RV.move rfl) rfl ?_
  refine OW.rv (RV.assign rfl) rfl ?_
  refine OW.nil (QW.then_n (CW.ret ?_))
  have e0 := Option.some.inj hf
  subst e0
  refine QW.retG (rs := [.tmp 2]) ([sl ob5 0 l4.length c6]) ((ob5, blk ((u8s l4) ++ r7) 5) :: []) rfl ?_ rfl ?_ ?_ _ (.inl rfl)
  ·exact ⟨rfl, trivial⟩
  ·exact ⟨[], ob5, c6, r7, o8, rfl, rfl⟩
  ·exact (fun w m => m.pick [0] 1 rfl rfl)
 ·skip
  refine CW.block ?_
  refine CW.mem (M' := ((none, blk ((u8s ([] : List (BitVec 8))) ++ []) 5) :: (some b1, blk (u8s a0.toList) 39) :: ([] ++ N))) (fun w m => m.nil_ent _) ?_
  refine CW.loopJ (fun k L' M' => ∃ l15 : List (BitVec 8), ∃ n20 : Nat, ∃ ob16 : Option Nat, ∃ c17 : Nat, ∃ r18 : List Value, (waybillref03_bytesOf.l1 a0 k l15 n20) = some q2 ∧ (OwnS ob16 l15.length c17 1 (u8s l15) r18) ∧ (n20 ≤ 9223372036854775807) ∧ L' = [(1, ptr (some b1) 0), (3, sl ob16 0 l15.length c17), (4, .int .i64 ((n20 : Nat) : Int))] ∧ M' = ((ob16, blk ((u8s l15) ++ r18) 5) :: (some b1, blk (u8s a0.toList) 39) :: ([] ++ N))) (k0 := (32 - 0 + 2)) ⟨([] : List (BitVec 8)), 0, none, 0, [], hq3, OwnS.nil, (by omega), rfl, rfl⟩ ⟨rfl, rfl, rfl, trivial⟩ (fun w m => m.pick [0, 1] 2 rfl rfl) ?_
  clear hq3
  rintro k22 L25 M26 ⟨l15, n20, ob16, c17, r18, hl23, o19, b21, e27, e28⟩
  rw [e27, e28]
  clear e27 e28 L25 M26
  rcases k22 with _ | k22
  ·rw [waybillref03_bytesOf.l1] at hl23; cases hl23
  rw [waybillref03_bytesOf.l1] at hl23
  have m29 := o19.mx
  refine CW.seq (CW.seq (CW.region ?_))
  refine OW.rv (RV.move rfl) rfl ?_
  refine OW.rv (RV.lss rfl rfl) rfl ?_
  refine OW.slot (.bool (decide (n20 < 32))) (congrArg Value.bool (decide_eq_decide.2 (by omega))) ?_
  refine OW.nil (QW.then_n ?_)
  by_cases h30 : n20 < 32
  ·replace hl23 := if_t hl23 h30
   refine CW.is_t rfl (decide_eq_true h30) ?_
   refine CW.skip (QW.then_n (CW.seq (CW.block (CW.region ?_))))
   refine OW.rv (RV.move rfl) rfl ?_
   refine OW.rv (RV.move rfl) rfl ?_
   refine OW.rv (RV.idx_a (n20) rfl rfl rfl rfl rfl (by omega)) rfl ?_
   obtain ⟨x31, hx32, hl23⟩ := some_bind hl23
   refine OW.rv (RV.load rfl (List.Mem.tail _ (List.Mem.head _)) rfl rfl rfl (by rw [Nat.zero_add]; exact u8s_at (vat hx32))) rfl ?_
   refine OW.ofN (NV.bs1 rfl rfl rfl rfl rfl rfl) rfl (fun b33 => ?_)
   refine OW.mem (M' := (((some b33), blk ((u8s ([x31] : List (BitVec 8))) ++ []) 5) :: (ob16, blk ((u8s l15) ++ r18) 5) :: (some b1, blk (u8s a0.toList) 39) :: ([] ++ N))) (fun w m => by first | exact m | simpa [u8s] using m) ?_
   have o34 : OwnS (some b33) ([x31] : List (BitVec 8)).length 1 1 (u8s ([x31] : List (BitVec 8))) [] := ⟨by simp [u8s], by simp [u8s], (fun h => nomatch h), by simp⟩
   refine OW.slot (sl (some b33) 0 ([x31] : List (BitVec 8)).length 1) (rfl) ?_
   refine OW.rot1 ?_
   obtain ⟨g35, hl23⟩ := some_if hl23
   refine OW.appendOwn (s := 1) rfl rfl rfl rfl rfl rfl o19 (fun w m => m.rd0 (List.Mem.tail _ (List.Mem.head _)) (fun e => o34.nilc (by decide) e)) o34.n (u8s_one _) (o34.zeroO (by decide)) (by decide) (by decide) (by first | omega | (simp only [i5, List.length_nil]; omega)) rfl rfl ((l15 ++ ([x31] : List (BitVec 8))).length) (u8s (l15 ++ ([x31] : List (BitVec 8)))) (List.length_append ..).symm (u8s_app _ _) (fun ob36 r37 c38 o39 => ?_)
   have m40 := o39.mx
   refine OW.rv (RV.assign rfl) rfl ?_
   refine OW.nil (QW.block_n (QW.then_n (CW.region ?_)))
   refine OW.rv (RV.move rfl) rfl ?_
   refine OW.rv (RV.add rfl rfl (by omega)) rfl ?_
   refine OW.slot (.int .i64 (((n20 + 1) : Nat) : Int)) (by first | rfl | (congr 1) | (congr 1; omega)) ?_
   refine OW.rv (RV.assign rfl) rfl ?_
   refine OW.nil ?_
   exact QW.againJ (k' := k22) (Nat.lt_succ_self _) ⟨(l15 ++ ([x31] : List (BitVec 8))), (n20 + 1), ob36, c38, r37, hl23, o39, (by omega), rfl, rfl⟩ ⟨rfl, rfl, rfl, trivial⟩ (fun w m => m.pick [0, 2] 3 rfl rfl)
  ·replace hl23 := if_f hl23 h30
   refine CW.is_f rfl (decide_eq_false h30) ?_
   refine CW.exit (QW.then_x (QW.then_x (QW.block_xe ?_)))
   exact QW.join ⟨l15, ob16, c17, r18, (Option.some.inj hl23).symm, o19, rfl, rfl⟩ ⟨rfl, trivial⟩ (fun w m => m.pick [0] 2 rfl rfl)
theorem waybillref03_HMAC_does (w0 : World) (Φ : Ctx) (N : List Ent) (hΦ : ∀ w, Mem w0 w N → Φ w) (A0_ : Option Addr) (c0_ : Nat) (a0 : List (BitVec 8)) (A1_ : Option Addr) (c1_ : Nat) (cs1_ : List Value) (a1 : List (List (BitVec 8))) (res0 : Vector (BitVec 8) 32) (va0 : View Φ A0_ a0.length c0_ 1 (u8s a0)) (va1 : View Φ A1_ a1.length c1_ 1 cs1_) (ha1 : Reps (BsRd Φ) cs1_ a1) (hf : waybillref03_HMAC a0 a1 = some res0) : DoesG Tryd.prog 38 [.slice A0_ a0.length c0_, .slice A1_ a1.length c1_] w0 [] N (fun v G => v = .agg (u8s res0.toList).toArray) := by
 unfold waybillref03_HMAC at hf
 replace va0 := va0.mono (Ψ := More w0 Φ []) (fun w q => q.1)
 replace va1 := va1.mono (Ψ := More w0 Φ []) (fun w q => q.1)
 replace ha1 := ha1.mono (BsRd.mono (Ψ := More w0 Φ []) (fun w q => q.1))
 have m1 := va0.mx
 have m2 := va1.mx
 refine DoesG.enter Tryd.func38 rfl Tryd.ntmps38 rfl (M := (([] ++ N))) rfl ?_
 refine CW.seq (CW.region ?_)
 refine OW.alloc (l := (u8s (Vector.replicate 32 0#8).toList)) rfl (by rw [Vector.toList_replicate, ← u8s_rep']; rfl) rfl (fun b3 => ?_)
 refine OW.nil (QW.then_n (CW.seq (CW.region ?_)))
 refine OW.rv (RV.move rfl) rfl ?_
 refine OW.ofN (NV.bs1 rfl rfl rfl rfl rfl rfl) rfl (fun b4 => ?_)
 have h7 : Reps (BsRd (More w0 Φ [])) (([.slice A0_ a0.length c0_] : List Value)) [a0] := Reps.one (BsRd.mk va0)
 refine OW.mem (M' := (((some b4), blk ((([.slice A0_ a0.length c0_] : List Value)) ++ []) 24) :: (some b3, blk (u8s (Vector.replicate 32 0#8).toList) 39) :: ([] ++ N))) (fun w m => m) ?_
 have o5 : OwnS (some b4) ([a0] : List (List (BitVec 8))).length 1 1 (([.slice A0_ a0.length c0_] : List Value)) [] := ⟨by simp [BsRd], by simp [BsRd], (fun h => nomatch h), by simp⟩
 refine OW.slot (sl (some b4) 0 ([a0] : List (List (BitVec 8))).length 1) (rfl) ?_
 refine OW.mem (M' := (some b3, blk (u8s (Vector.replicate 32 0#8).toList) 39) :: ((((some b4), blk ((([.slice A0_ a0.length c0_] : List Value)) ++ []) 24) :: []) ++ N)) (fun w m => m.pick [1, 0] 2 rfl rfl) ?_
 have gq1 : ∀ w, More w0 Φ (((some b4), blk ((([.slice A0_ a0.length c0_] : List Value)) ++ []) 24) :: []) w → More w0 Φ [] w := fun w q => More.mono (fun w m => (m).tail) q
 replace va0 := va0.mono gq1
 replace va1 := va1.mono gq1
 replace ha1 := ha1.mono (BsRd.mono gq1)
 replace h7 := h7.mono (BsRd.mono gq1)
 have v8 : View (More w0 Φ (((some b4), blk ((([.slice A0_ a0.length c0_] : List Value)) ++ []) 24) :: [])) (((some b4)).map fun k => ⟨k, 0, none⟩) ([a0] : List (List (BitVec 8))).length 1 1 (([.slice A0_ a0.length c0_] : List Value)) := o5.view (by decide) (fun w q => q.2.sublist (List.singleton_sublist.2 (List.mem_cons_self ..)))
 obtain ⟨x10, hx9, hf⟩ := some_bind hf
 refine OW.callG Tryd.call42 rfl (waybillref03_joined_does w0 (More w0 Φ (((some b4), blk ((([.slice A0_ a0.length c0_] : List Value)) ++ []) 24) :: [])) ((some b3, blk (u8s (Vector.replicate 32 0#8).toList) 39) :: ((((some b4), blk ((([.slice A0_ a0.length c0_] : List Value)) ++ []) 24) :: []) ++ N)) (fun w m => More.of hΦ 1 m rfl) (((some b4)).map fun k => ⟨k, 0, none⟩) 1 (([.slice A0_ a0.length c0_] : List Value)) ([a0] : List (List (BitVec 8))) x10 v8 h7 hx9) rfl rfl ?_
 rintro L16 M17 ⟨B11, ob12, c13, r14, o15, e18, e19⟩
 rw [e18, e19]
 clear e18 e19 L16 M17
 refine OW.mem (M' := ((ob12, blk ((u8s x10) ++ r14) 5) :: (some b3, blk (u8s (Vector.replicate 32 0#8).toList) 39) :: ((B11 ++ (((some b4), blk ((([.slice A0_ a0.length c0_] : List Value)) ++ []) 24) :: [])) ++ N))) (fun w m => by have h := Mem.sinkAt (A := B11) m 1 1 rfl rfl; exact h) ?_
 have gq2 : ∀ w, More w0 Φ (B11 ++ (((some b4), blk ((([.slice A0_ a0.length c0_] : List Value)) ++ []) 24) :: [])) w → More w0 Φ (((some b4), blk ((([.slice A0_ a0.length c0_] : List Value)) ++ []) 24) :: []) w := fun w q => More.mono (fun w m => (m).appR) q
 replace va0 := va0.mono gq2
 replace va1 := va1.mono gq2
 replace ha1 := ha1.mono (BsRd.mono gq2)
 replace v8 := v8.mono gq2
 replace h7 := h7.mono (BsRd.mono gq2)
 have m20 := o15.mx
 refine OW.rv (RV.assign rfl) rfl ?_
 refine OW.nil (QW.then_n (CW.seq (CW.seq (CW.region ?_))))
 refine OW.rv (RV.move rfl) rfl ?_
 refine OW.rv (RV.len rfl rfl) rfl ?_
 refine OW.rv (RV.gtr rfl rfl) rfl ?_
 refine OW.slot (.bool (decide (64 < x10.length))) (congrArg Value.bool (decide_eq_decide.2 (by omega))) ?_
 refine OW.nil (QW.then_n ?_)
 obtain ⟨q21, hq22, hf⟩ := some_bind hf
 refine CW.cutJ (fun L' M' => ∃ l25 : List (BitVec 8), ∃ B23 : List Ent, ∃ ob26 : Option Nat, ∃ c27 : Nat, ∃ r28 : List Value, q21 = l25 ∧ (∀ w, Mem w0 w B23 → Mem w0 w (B11 ++ (((some b4), blk ((([.slice A0_ a0.length c0_] : List Value)) ++ []) 24) :: []))) ∧ (OwnS ob26 l25.length c27 1 (u8s l25) r28) ∧ L' = [(1, .slice A1_ a1.length c1_), (4, ptr (some b3) 0), (5, sl ob26 0 l25.length c27)] ∧ M' = ((ob26, blk ((u8s l25) ++ r28) 5) :: (some b3, blk (u8s (Vector.replicate 32 0#8).toList) 39) :: (B23 ++ N))) ?_ ?_
 ·rintro L31 M32 ⟨l25, B23, ob26, c27, r28, e30, hB24, o29, e33, e34⟩
  rw [e33, e34]
  clear e33 e34 L31 M32
  clear hq22
  rw [e30] at hf
  clear e30
  try dsimp only at hf
  have gq3 : ∀ w, More w0 Φ B23 w → More w0 Φ (B11 ++ (((some b4), blk ((([.slice A0_ a0.length c0_] : List Value)) ++ []) 24) :: [])) w := fun w q => More.mono (fun w m => hB24 w (m)) q
  replace va1 := va1.mono gq3
  replace ha1 := ha1.mono (BsRd.mono gq3)
  have m35 := o29.mx
  refine QW.then_n (CW.seq ?_)
  obtain ⟨q36, hq37, hf⟩ := some_bind hf
  refine CW.cutJ (fun L' M' => ∃ l38 : List (BitVec 8), ∃ ob39 : Option Nat, ∃ c40 : Nat, ∃ r41 : List Value, q36 = l38 ∧ (OwnS ob39 l38.length c40 1 (u8s l38) r41) ∧ L' = [(1, .slice A1_ a1.length c1_), (4, ptr (some b3) 0), (5, sl ob39 0 l38.length c40)] ∧ M' = ((ob39, blk ((u8s l38) ++ r41) 5) :: (some b3, blk (u8s (Vector.replicate 32 0#8).toList) 39) :: (B23 ++ N))) ?_ ?_
  ·rintro L44 M45 ⟨l38, ob39, c40, r41, e43, o42, e46, e47⟩
   rw [e46, e47]
   clear e46 e47 L44 M45
   clear hq37
   rw [e43] at hf
   clear e43
   try dsimp only at hf
   have m48 := o42.mx
   refine QW.then_n (CW.seq (CW.region ?_))
   refine OW.rv (RV.assign rfl) rfl ?_
   refine OW.nil (QW.then_n (CW.seq (CW.region ?_)))
   refine OW.rv (RV.assign rfl) rfl ?_
   refine OW.nil (QW.then_n (CW.seq (CW.seq (CW.region ?_))))
   refine OW.rv (RV.assign rfl) rfl ?_
   refine OW.nil (QW.then_n ?_)
   obtain ⟨q49, hq50, hf⟩ := some_bind hf
   refine CW.cutJ (fun L' M' => ∃ l51 : List (BitVec 8), ∃ l56 : List (BitVec 8), ∃ ob52 : Option Nat, ∃ c53 : Nat, ∃ r54 : List Value, ∃ ob57 : Option Nat, ∃ c58 : Nat, ∃ r59 : List Value, q49 = (l51, l56) ∧ (OwnS ob52 l51.length c53 1 (u8s l51) r54) ∧ (OwnS ob57 l56.length c58 1 (u8s l56) r59) ∧ L' = [(1, .slice A1_ a1.length c1_), (4, ptr (some b3) 0), (7, sl ob52 0 l51.length c53), (8, sl ob57 0 l56.length c58)] ∧ M' = ((ob52, blk ((u8s l51) ++ r54) 5) :: (ob57, blk ((u8s l56) ++ r59) 5) :: (some b3, blk (u8s (Vector.replicate 32 0#8).toList) 39) :: (B23 ++ N))) ?_ ?_
   ·rintro L62 M63 ⟨l51, l56, ob52, c53, r54, ob57, c58, r59, e61, o55, o60, e64, e65⟩
    rw [e64, e65]
    clear e64 e65 L62 M63
    clear hq50
    rw [e61] at hf
    clear e61
    try dsimp only at hf
    have m66 := o55.mx
    have m67 := o60.mx
    refine QW.then_n (CW.seq (CW.region ?_))
    refine OW.rv (RV.move rfl) rfl ?_
    obtain ⟨x69, hx68, hf⟩ := some_bind hf
    refine OW.callG Tryd.call42 rfl (waybillref03_joined_does w0 (More w0 Φ B23) ((ob52, blk ((u8s l51) ++ r54) 5) :: (ob57, blk ((u8s l56) ++ r59) 5) :: (some b3, blk (u8s (Vector.replicate 32 0#8).toList) 39) :: (B23 ++ N)) (fun w m => More.of hΦ 3 m rfl) A1_ c1_ cs1_ a1 x69 va1 ha1 hx68) rfl rfl ?_
    rintro L75 M76 ⟨B70, ob71, c72, r73, o74, e77, e78⟩
    rw [e77, e78]
    clear e77 e78 L75 M76
    refine OW.mem (M' := ((ob71, blk ((u8s x69) ++ r73) 5) :: (ob52, blk ((u8s l51) ++ r54) 5) :: (ob57, blk ((u8s l56) ++ r59) 5) :: (some b3, blk (u8s (Vector.replicate 32 0#8).toList) 39) :: ((B70 ++ B23) ++ N))) (fun w m => by have h := Mem.sinkAt (A := B70) m 1 3 rfl rfl; exact h) ?_
    have gq4 : ∀ w, More w0 Φ (B70 ++ B23) w → More w0 Φ B23 w := fun w q => More.mono (fun w m => (m).appR) q
    replace va1 := va1.mono gq4
    replace ha1 := ha1.mono (BsRd.mono gq4)
    have m79 := o74.mx
    refine OW.rv (RV.assign rfl) rfl ?_
    refine OW.nil (QW.then_n (CW.seq (CW.region ?_)))
    refine OW.rv (RV.move rfl) rfl ?_
    refine OW.rv (RV.move rfl) rfl ?_
    refine OW.mem (M' := (ob71, blk ((u8s x69) ++ r73) 5) :: (ob57, blk ((u8s l56) ++ r59) 5) :: (some b3, blk (u8s (Vector.replicate 32 0#8).toList) 39) :: (((ob52, blk ((u8s l51) ++ r54) 5) :: (B70 ++ B23)) ++ N)) (fun w m => m.pick [0, 2, 3, 1] 4 rfl rfl) ?_
    have gq5 : ∀ w, More w0 Φ ((ob52, blk ((u8s l51) ++ r54) 5) :: (B70 ++ B23)) w → More w0 Φ (B70 ++ B23) w := fun w q => More.mono (fun w m => (m).tail) q
    replace va1 := va1.mono gq5
    replace ha1 := ha1.mono (BsRd.mono gq5)
    have v82 : View (More w0 Φ ((ob52, blk ((u8s l51) ++ r54) 5) :: (B70 ++ B23))) ((ob52).map fun k => ⟨k, 0, none⟩) l51.length c53 1 (u8s l51) := o55.view (by decide) (fun w q => q.2.sublist (List.singleton_sublist.2 (List.mem_cons_self ..)))
    refine OW.mem (M' := (ob57, blk ((u8s l56) ++ r59) 5) :: (some b3, blk (u8s (Vector.replicate 32 0#8).toList) 39) :: (((ob71, blk ((u8s x69) ++ r73) 5) :: ((ob52, blk ((u8s l51) ++ r54) 5) :: (B70 ++ B23))) ++ N)) (fun w m => m.pick [1, 2, 0] 3 rfl rfl) ?_
    have gq6 : ∀ w, More w0 Φ ((ob71, blk ((u8s x69) ++ r73) 5) :: ((ob52, blk ((u8s l51) ++ r54) 5) :: (B70 ++ B23))) w → More w0 Φ ((ob52, blk ((u8s l51) ++ r54) 5) :: (B70 ++ B23)) w := fun w q => More.mono (fun w m => (m).tail) q
    replace va1 := va1.mono gq6
    replace ha1 := ha1.mono (BsRd.mono gq6)
    replace v82 := v82.mono gq6
    have v83 : View (More w0 Φ ((ob71, blk ((u8s x69) ++ r73) 5) :: ((ob52, blk ((u8s l51) ++ r54) 5) :: (B70 ++ B23)))) ((ob71).map fun k => ⟨k, 0, none⟩) x69.length c72 1 (u8s x69) := o74.view (by decide) (fun w q => q.2.sublist (List.singleton_sublist.2 (List.mem_cons_self ..)))
    refine OW.ofN (NV.bsN rfl rfl rfl (by decide) (by decide) rfl rfl rfl rfl) rfl (fun b80 => ?_)
    have h85 : Reps (BsRd (More w0 Φ ((ob71, blk ((u8s x69) ++ r73) 5) :: ((ob52, blk ((u8s l51) ++ r54) 5) :: (B70 ++ B23))))) (([.slice ((ob52).map fun k => ⟨k, 0, none⟩) l51.length c53] : List Value) ++ ([.slice ((ob71).map fun k => ⟨k, 0, none⟩) x69.length c72] : List Value)) [l51, x69] := by simpa using (show Reps (BsRd (More w0 Φ ((ob71, blk ((u8s x69) ++ r73) 5) :: ((ob52, blk ((u8s l51) ++ r54) 5) :: (B70 ++ B23))))) _ [l51, x69] from (.cons (BsRd.mk v82) (.cons (BsRd.mk v83) .nil)))
    refine OW.mem (M' := (((some b80), blk ((([.slice ((ob52).map fun k => ⟨k, 0, none⟩) l51.length c53] : List Value) ++ ([.slice ((ob71).map fun k => ⟨k, 0, none⟩) x69.length c72] : List Value)) ++ []) 24) :: (ob57, blk ((u8s l56) ++ r59) 5) :: (some b3, blk (u8s (Vector.replicate 32 0#8).toList) 39) :: (((ob71, blk ((u8s x69) ++ r73) 5) :: ((ob52, blk ((u8s l51) ++ r54) 5) :: (B70 ++ B23))) ++ N))) (fun w m => m) ?_
    have o81 : OwnS (some b80) ([l51, x69] : List (List (BitVec 8))).length 2 1 (([.slice ((ob52).map fun k => ⟨k, 0, none⟩) l51.length c53] : List Value) ++ ([.slice ((ob71).map fun k => ⟨k, 0, none⟩) x69.length c72] : List Value)) [] := ⟨by simp [BsRd], by simp [BsRd], (fun h => nomatch h), by simp⟩
    refine OW.slot (sl (some b80) 0 ([l51, x69] : List (List (BitVec 8))).length 2) (rfl) ?_
    refine OW.mem (M' := (ob57, blk ((u8s l56) ++ r59) 5) :: (some b3, blk (u8s (Vector.replicate 32 0#8).toList) 39) :: ((((some b80), blk ((([.slice ((ob52).map fun k => ⟨k, 0, none⟩) l51.length c53] : List Value) ++ ([.slice ((ob71).map fun k => ⟨k, 0, none⟩) x69.length c72] : List Value)) ++ []) 24) :: ((ob71, blk ((u8s x69) ++ r73) 5) :: ((ob52, blk ((u8s l51) ++ r54) 5) :: (B70 ++ B23)))) ++ N)) (fun w m => m.pick [1, 2, 0] 3 rfl rfl) ?_
    have gq7 : ∀ w, More w0 Φ (((some b80), blk ((([.slice ((ob52).map fun k => ⟨k, 0, none⟩) l51.length c53] : List Value) ++ ([.slice ((ob71).map fun k => ⟨k, 0, none⟩) x69.length c72] : List Value)) ++ []) 24) :: ((ob71, blk ((u8s x69) ++ r73) 5) :: ((ob52, blk ((u8s l51) ++ r54) 5) :: (B70 ++ B23)))) w → More w0 Φ ((ob71, blk ((u8s x69) ++ r73) 5) :: ((ob52, blk ((u8s l51) ++ r54) 5) :: (B70 ++ B23))) w := fun w q => More.mono (fun w m => (m).tail) q
    replace va1 := va1.mono gq7
    replace ha1 := ha1.mono (BsRd.mono gq7)
    replace v82 := v82.mono gq7
    replace v83 := v83.mono gq7
    replace h85 := h85.mono (BsRd.mono gq7)
    have v86 : View (More w0 Φ (((some b80), blk ((([.slice ((ob52).map fun k => ⟨k, 0, none⟩) l51.length c53] : List Value) ++ ([.slice ((ob71).map fun k => ⟨k, 0, none⟩) x69.length c72] : List Value)) ++ []) 24) :: ((ob71, blk ((u8s x69) ++ r73) 5) :: ((ob52, blk ((u8s l51) ++ r54) 5) :: (B70 ++ B23))))) (((some b80)).map fun k => ⟨k, 0, none⟩) ([l51, x69] : List (List (BitVec 8))).length 2 1 (([.slice ((ob52).map fun k => ⟨k, 0, none⟩) l51.length c53] : List Value) ++ ([.slice ((ob71).map fun k => ⟨k, 0, none⟩) x69.length c72] : List Value)) := o81.view (by decide) (fun w q => q.2.sublist (List.singleton_sublist.2 (List.mem_cons_self ..)))
    obtain ⟨x88, hx87, hf⟩ := some_bind hf
    refine OW.callG Tryd.call42 rfl (waybillref03_joined_does w0 (More w0 Φ (((some b80), blk ((([.slice ((ob52).map fun k => ⟨k, 0, none⟩) l51.length c53] : List Value) ++ ([.slice ((ob71).map fun k => ⟨k, 0, none⟩) x69.length c72] : List Value)) ++ []) 24) :: ((ob71, blk ((u8s x69) ++ r73) 5) :: ((ob52, blk ((u8s l51) ++ r54) 5) :: (B70 ++ B23))))) ((ob57, blk ((u8s l56) ++ r59) 5) :: (some b3, blk (u8s (Vector.replicate 32 0#8).toList) 39) :: ((((some b80), blk ((([.slice ((ob52).map fun k => ⟨k, 0, none⟩) l51.length c53] : List Value) ++ ([.slice ((ob71).map fun k => ⟨k, 0, none⟩) x69.length c72] : List Value)) ++ []) 24) :: ((ob71, blk ((u8s x69) ++ r73) 5) :: ((ob52, blk ((u8s l51) ++ r54) 5) :: (B70 ++ B23)))) ++ N)) (fun w m => More.of hΦ 2 m rfl) (((some b80)).map fun k => ⟨k, 0, none⟩) 2 (([.slice ((ob52).map fun k => ⟨k, 0, none⟩) l51.length c53] : List Value) ++ ([.slice ((ob71).map fun k => ⟨k, 0, none⟩) x69.length c72] : List Value)) ([l51, x69] : List (List (BitVec 8))) x88 v86 h85 hx87) rfl rfl ?_
    rintro L94 M95 ⟨B89, ob90, c91, r92, o93, e96, e97⟩
    rw [e96, e97]
    clear e96 e97 L94 M95
    refine OW.mem (M' := ((ob90, blk ((u8s x88) ++ r92) 5) :: (ob57, blk ((u8s l56) ++ r59) 5) :: (some b3, blk (u8s (Vector.replicate 32 0#8).toList) 39) :: ((B89 ++ (((some b80), blk ((([.slice ((ob52).map fun k => ⟨k, 0, none⟩) l51.length c53] : List Value) ++ ([.slice ((ob71).map fun k => ⟨k, 0, none⟩) x69.length c72] : List Value)) ++ []) 24) :: ((ob71, blk ((u8s x69) ++ r73) 5) :: ((ob52, blk ((u8s l51) ++ r54) 5) :: (B70 ++ B23))))) ++ N))) (fun w m => by have h := Mem.sinkAt (A := B89) m 1 2 rfl rfl; exact h) ?_
    have gq8 : ∀ w, More w0 Φ (B89 ++ (((some b80), blk ((([.slice ((ob52).map fun k => ⟨k, 0, none⟩) l51.length c53] : List Value) ++ ([.slice ((ob71).map fun k => ⟨k, 0, none⟩) x69.length c72] : List Value)) ++ []) 24) :: ((ob71, blk ((u8s x69) ++ r73) 5) :: ((ob52, blk ((u8s l51) ++ r54) 5) :: (B70 ++ B23))))) w → More w0 Φ (((some b80), blk ((([.slice ((ob52).map fun k => ⟨k, 0, none⟩) l51.length c53] : List Value) ++ ([.slice ((ob71).map fun k => ⟨k, 0, none⟩) x69.length c72] : List Value)) ++ []) 24) :: ((ob71, blk ((u8s x69) ++ r73) 5) :: ((ob52, blk ((u8s l51) ++ r54) 5) :: (B70 ++ B23)))) w := fun w q => More.mono (fun w m => (m).appR) q
    replace va1 := va1.mono gq8
    replace ha1 := ha1.mono (BsRd.mono gq8)
    replace v82 := v82.mono gq8
    replace v83 := v83.mono gq8
    replace v86 := v86.mono gq8
    replace h85 := h85.mono (BsRd.mono gq8)
    have m98 := o93.mx
    refine OW.mem (M' := (ob57, blk ((u8s l56) ++ r59) 5) :: (some b3, blk (u8s (Vector.replicate 32 0#8).toList) 39) :: (((ob90, blk ((u8s x88) ++ r92) 5) :: (B89 ++ (((some b80), blk ((([.slice ((ob52).map fun k => ⟨k, 0, none⟩) l51.length c53] : List Value) ++ ([.slice ((ob71).map fun k => ⟨k, 0, none⟩) x69.length c72] : List Value)) ++ []) 24) :: ((ob71, blk ((u8s x69) ++ r73) 5) :: ((ob52, blk ((u8s l51) ++ r54) 5) :: (B70 ++ B23)))))) ++ N)) (fun w m => m.pick [1, 2, 0] 3 rfl rfl) ?_
    have gq9 : ∀ w, More w0 Φ ((ob90, blk ((u8s x88) ++ r92) 5) :: (B89 ++ (((some b80), blk ((([.slice ((ob52).map fun k => ⟨k, 0, none⟩) l51.length c53] : List Value) ++ ([.slice ((ob71).map fun k => ⟨k, 0, none⟩) x69.length c72] : List Value)) ++ []) 24) :: ((ob71, blk ((u8s x69) ++ r73) 5) :: ((ob52, blk ((u8s l51) ++ r54) 5) :: (B70 ++ B23)))))) w → More w0 Φ (B89 ++ (((some b80), blk ((([.slice ((ob52).map fun k => ⟨k, 0, none⟩) l51.length c53] : List Value) ++ ([.slice ((ob71).map fun k => ⟨k, 0, none⟩) x69.length c72] : List Value)) ++ []) 24) :: ((ob71, blk ((u8s x69) ++ r73) 5) :: ((ob52, blk ((u8s l51) ++ r54) 5) :: (B70 ++ B23))))) w := fun w q => More.mono (fun w m => (m).tail) q
    replace va1 := va1.mono gq9
    replace ha1 := ha1.mono (BsRd.mono gq9)
    replace v82 := v82.mono gq9
    replace v83 := v83.mono gq9
    replace v86 := v86.mono gq9
    replace h85 := h85.mono (BsRd.mono gq9)
    have v99 : View (More w0 Φ ((ob90, blk ((u8s x88) ++ r92) 5) :: (B89 ++ (((some b80), blk ((([.slice ((ob52).map fun k => ⟨k, 0, none⟩) l51.length c53] : List Value) ++ ([.slice ((ob71).map fun k => ⟨k, 0, none⟩) x69.length c72] : List Value)) ++ []) 24) :: ((ob71, blk ((u8s x69) ++ r73) 5) :: ((ob52, blk ((u8s l51) ++ r54) 5) :: (B70 ++ B23))))))) ((ob90).map fun k => ⟨k, 0, none⟩) x88.length c91 1 (u8s x88) := o93.view (by decide) (fun w q => q.2.sublist (List.singleton_sublist.2 (List.mem_cons_self ..)))
    obtain ⟨x101, hx100, hf⟩ := some_bind hf
    refine OW.callG Tryd.call43 rfl (waybillref03_digest_does w0 (More w0 Φ ((ob90, blk ((u8s x88) ++ r92) 5) :: (B89 ++ (((some b80), blk ((([.slice ((ob52).map fun k => ⟨k, 0, none⟩) l51.length c53] : List Value) ++ ([.slice ((ob71).map fun k => ⟨k, 0, none⟩) x69.length c72] : List Value)) ++ []) 24) :: ((ob71, blk ((u8s x69) ++ r73) 5) :: ((ob52, blk ((u8s l51) ++ r54) 5) :: (B70 ++ B23))))))) ((ob57, blk ((u8s l56) ++ r59) 5) :: (some b3, blk (u8s (Vector.replicate 32 0#8).toList) 39) :: (((ob90, blk ((u8s x88) ++ r92) 5) :: (B89 ++ (((some b80), blk ((([.slice ((ob52).map fun k => ⟨k, 0, none⟩) l51.length c53] : List Value) ++ ([.slice ((ob71).map fun k => ⟨k, 0, none⟩) x69.length c72] : List Value)) ++ []) 24) :: ((ob71, blk ((u8s x69) ++ r73) 5) :: ((ob52, blk ((u8s l51) ++ r54) 5) :: (B70 ++ B23)))))) ++ N)) (fun w m => More.of hΦ 2 m rfl) ((ob90).map fun k => ⟨k, 0, none⟩) c91 x88 x101 v99 hx100) rfl rfl ?_
    rintro _ G102 rfl
    refine OW.mem (M' := ((ob57, blk ((u8s l56) ++ r59) 5) :: (some b3, blk (u8s (Vector.replicate 32 0#8).toList) 39) :: (((ob90, blk ((u8s x88) ++ r92) 5) :: (B89 ++ (((some b80), blk ((([.slice ((ob52).map fun k => ⟨k, 0, none⟩) l51.length c53] : List Value) ++ ([.slice ((ob71).map fun k => ⟨k, 0, none⟩) x69.length c72] : List Value)) ++ []) 24) :: ((ob71, blk ((u8s x69) ++ r73) 5) :: ((ob52, blk ((u8s l51) ++ r54) 5) :: (B70 ++ B23)))))) ++ N))) (fun w m => m.appR) ?_
    refine OW.alloc (l := (u8s (Vector.replicate 32 0#8).toList)) rfl (by rw [Vector.toList_replicate, ← u8s_rep']; rfl) rfl (fun b104 => ?_)
    refine OW.sv (SV.storeW rfl rfl rfl (u8s_one _) rfl ((u8s_length _).trans Vector.length_toList) ((u8s_length _).trans Vector.length_toList)) ?_
    refine OW.nil (QW.then_n (CW.seq (CW.region ?_)))
    refine OW.rv (RV.move rfl) rfl ?_
    refine OW.rv (RV.loadW rfl (List.Mem.head _) rfl rfl rfl rfl ((u8s_length _).trans Vector.length_toList)) rfl ?_
    obtain ⟨x106, hx105, hf⟩ := some_bind hf
    refine OW.callG Tryd.call49 rfl (waybillref03_bytesOf_does w0 (More w0 Φ ((ob90, blk ((u8s x88) ++ r92) 5) :: (B89 ++ (((some b80), blk ((([.slice ((ob52).map fun k => ⟨k, 0, none⟩) l51.length c53] : List Value) ++ ([.slice ((ob71).map fun k => ⟨k, 0, none⟩) x69.length c72] : List Value)) ++ []) 24) :: ((ob71, blk ((u8s x69) ++ r73) 5) :: ((ob52, blk ((u8s l51) ++ r54) 5) :: (B70 ++ B23))))))) ((some b104, blk (u8s x101.toList) 39) :: (ob57, blk ((u8s l56) ++ r59) 5) :: (some b3, blk (u8s (Vector.replicate 32 0#8).toList) 39) :: (((ob90, blk ((u8s x88) ++ r92) 5) :: (B89 ++ (((some b80), blk ((([.slice ((ob52).map fun k => ⟨k, 0, none⟩) l51.length c53] : List Value) ++ ([.slice ((ob71).map fun k => ⟨k, 0, none⟩) x69.length c72] : List Value)) ++ []) 24) :: ((ob71, blk ((u8s x69) ++ r73) 5) :: ((ob52, blk ((u8s l51) ++ r54) 5) :: (B70 ++ B23)))))) ++ N)) (fun w m => More.of hΦ 3 m rfl) x101 x106 hx105) rfl rfl ?_
    rintro L112 M113 ⟨B107, ob108, c109, r110, o111, e114, e115⟩
    rw [e114, e115]
    clear e114 e115 L112 M113
    refine OW.mem (M' := ((ob108, blk ((u8s x106) ++ r110) 5) :: (some b104, blk (u8s x101.toList) 39) :: (ob57, blk ((u8s l56) ++ r59) 5) :: (some b3, blk (u8s (Vector.replicate 32 0#8).toList) 39) :: ((B107 ++ ((ob90, blk ((u8s x88) ++ r92) 5) :: (B89 ++ (((some b80), blk ((([.slice ((ob52).map fun k => ⟨k, 0, none⟩) l51.length c53] : List Value) ++ ([.slice ((ob71).map fun k => ⟨k, 0, none⟩) x69.length c72] : List Value)) ++ []) 24) :: ((ob71, blk ((u8s x69) ++ r73) 5) :: ((ob52, blk ((u8s l51) ++ r54) 5) :: (B70 ++ B23))))))) ++ N))) (fun w m => by have h := Mem.sinkAt (A := B107) m 1 3 rfl rfl; exact h) ?_
    have gq10 : ∀ w, More w0 Φ (B107 ++ ((ob90, blk ((u8s x88) ++ r92) 5) :: (B89 ++ (((some b80), blk ((([.slice ((ob52).map fun k => ⟨k, 0, none⟩) l51.length c53] : List Value) ++ ([.slice ((ob71).map fun k => ⟨k, 0, none⟩) x69.length c72] : List Value)) ++ []) 24) :: ((ob71, blk ((u8s x69) ++ r73) 5) :: ((ob52, blk ((u8s l51) ++ r54) 5) :: (B70 ++ B23))))))) w → More w0 Φ ((ob90, blk ((u8s x88) ++ r92) 5) :: (B89 ++ (((some b80), blk ((([.slice ((ob52).map fun k => ⟨k, 0, none⟩) l51.length c53] : List Value) ++ ([.slice ((ob71).map fun k => ⟨k, 0, none⟩) x69.length c72] : List Value)) ++ []) 24) :: ((ob71, blk ((u8s x69) ++ r73) 5) :: ((ob52, blk ((u8s l51) ++ r54) 5) :: (B70 ++ B23)))))) w := fun w q => More.mono (fun w m => (m).appR) q
    replace va1 := va1.mono gq10
    replace ha1 := ha1.mono (BsRd.mono gq10)
    replace v82 := v82.mono gq10
    replace v83 := v83.mono gq10
    replace v86 := v86.mono gq10
    replace h85 := h85.mono (BsRd.mono gq10)
    replace v99 := v99.mono gq10
    have m116 := o111.mx
    refine OW.mem (M' := (ob108, blk ((u8s x106) ++ r110) 5) :: (some b104, blk (u8s x101.toList) 39) :: (some b3, blk (u8s (Vector.replicate 32 0#8).toList) 39) :: (((ob57, blk ((u8s l56) ++ r59) 5) :: (B107 ++ ((ob90, blk ((u8s x88) ++ r92) 5) :: (B89 ++ (((some b80), blk ((([.slice ((ob52).map fun k => ⟨k, 0, none⟩) l51.length c53] : List Value) ++ ([.slice ((ob71).map fun k => ⟨k, 0, none⟩) x69.length c72] : List Value)) ++ []) 24) :: ((ob71, blk ((u8s x69) ++ r73) 5) :: ((ob52, blk ((u8s l51) ++ r54) 5) :: (B70 ++ B23)))))))) ++ N)) (fun w m => m.pick [0, 1, 3, 2] 4 rfl rfl) ?_
    have gq11 : ∀ w, More w0 Φ ((ob57, blk ((u8s l56) ++ r59) 5) :: (B107 ++ ((ob90, blk ((u8s x88) ++ r92) 5) :: (B89 ++ (((some b80), blk ((([.slice ((ob52).map fun k => ⟨k, 0, none⟩) l51.length c53] : List Value) ++ ([.slice ((ob71).map fun k => ⟨k, 0, none⟩) x69.length c72] : List Value)) ++ []) 24) :: ((ob71, blk ((u8s x69) ++ r73) 5) :: ((ob52, blk ((u8s l51) ++ r54) 5) :: (B70 ++ B23)))))))) w → More w0 Φ (B107 ++ ((ob90, blk ((u8s x88) ++ r92) 5) :: (B89 ++ (((some b80), blk ((([.slice ((ob52).map fun k => ⟨k, 0, none⟩) l51.length c53] : List Value) ++ ([.slice ((ob71).map fun k => ⟨k, 0, none⟩) x69.length c72] : List Value)) ++ []) 24) :: ((ob71, blk ((u8s x69) ++ r73) 5) :: ((ob52, blk ((u8s l51) ++ r54) 5) :: (B70 ++ B23))))))) w := fun w q => More.mono (fun w m => (m).tail) q
    replace va1 := va1.mono gq11
    replace ha1 := ha1.mono (BsRd.mono gq11)
    replace v82 := v82.mono gq11
    replace v83 := v83.mono gq11
    replace v86 := v86.mono gq11
    replace h85 := h85.mono (BsRd.mono gq11)
    replace v99 := v99.mono gq11
    have v119 : View (More w0 Φ ((ob57, blk ((u8s l56) ++ r59) 5) :: (B107 ++ ((ob90, blk ((u8s x88) ++ r92) 5) :: (B89 ++ (((some b80), blk ((([.slice ((ob52).map fun k => ⟨k, 0, none⟩) l51.length c53] : List Value) ++ ([.slice ((ob71).map fun k => ⟨k, 0, none⟩) x69.length c72] : List Value)) ++ []) 24) :: ((ob71, blk ((u8s x69) ++ r73) 5) :: ((ob52, blk ((u8s l51) ++ r54) 5) :: (B70 ++ B23))))))))) ((ob57).map fun k => ⟨k, 0, none⟩) l56.length c58 1 (u8s l56) := o60.view (by decide) (fun w q => q.2.sublist (List.singleton_sublist.2 (List.mem_cons_self ..)))
    refine OW.mem (M' := (some b104, blk (u8s x101.toList) 39) :: (some b3, blk (u8s (Vector.replicate 32 0#8).toList) 39) :: (((ob108, blk ((u8s x106) ++ r110) 5) :: ((ob57, blk ((u8s l56) ++ r59) 5) :: (B107 ++ ((ob90, blk ((u8s x88) ++ r92) 5) :: (B89 ++ (((some b80), blk ((([.slice ((ob52).map fun k => ⟨k, 0, none⟩) l51.length c53] : List Value) ++ ([.slice ((ob71).map fun k => ⟨k, 0, none⟩) x69.length c72] : List Value)) ++ []) 24) :: ((ob71, blk ((u8s x69) ++ r73) 5) :: ((ob52, blk ((u8s l51) ++ r54) 5) :: (B70 ++ B23))))))))) ++ N)) (fun w m => m.pick [1, 2, 0] 3 rfl rfl) ?_
    have gq12 : ∀ w, More w0 Φ ((ob108, blk ((u8s x106) ++ r110) 5) :: ((ob57, blk ((u8s l56) ++ r59) 5) :: (B107 ++ ((ob90, blk ((u8s x88) ++ r92) 5) :: (B89 ++ (((some b80), blk ((([.slice ((ob52).map fun k => ⟨k, 0, none⟩) l51.length c53] : List Value) ++ ([.slice ((ob71).map fun k => ⟨k, 0, none⟩) x69.length c72] : List Value)) ++ []) 24) :: ((ob71, blk ((u8s x69) ++ r73) 5) :: ((ob52, blk ((u8s l51) ++ r54) 5) :: (B70 ++ B23))))))))) w → More w0 Φ ((ob57, blk ((u8s l56) ++ r59) 5) :: (B107 ++ ((ob90, blk ((u8s x88) ++ r92) 5) :: (B89 ++ (((some b80), blk ((([.slice ((ob52).map fun k => ⟨k, 0, none⟩) l51.length c53] : List Value) ++ ([.slice ((ob71).map fun k => ⟨k, 0, none⟩) x69.length c72] : List Value)) ++ []) 24) :: ((ob71, blk ((u8s x69) ++ r73) 5) :: ((ob52, blk ((u8s l51) ++ r54) 5) :: (B70 ++ B23)))))))) w := fun w q => More.mono (fun w m => (m).tail) q
    replace va1 := va1.mono gq12
    replace ha1 := ha1.mono (BsRd.mono gq12)
    replace v82 := v82.mono gq12
    replace v119 := v119.mono gq12
    replace v83 := v83.mono gq12
    replace v86 := v86.mono gq12
    replace h85 := h85.mono (BsRd.mono gq12)
    replace v99 := v99.mono gq12
    have v120 : View (More w0 Φ ((ob108, blk ((u8s x106) ++ r110) 5) :: ((ob57, blk ((u8s l56) ++ r59) 5) :: (B107 ++ ((ob90, blk ((u8s x88) ++ r92) 5) :: (B89 ++ (((some b80), blk ((([.slice ((ob52).map fun k => ⟨k, 0, none⟩) l51.length c53] : List Value) ++ ([.slice ((ob71).map fun k => ⟨k, 0, none⟩) x69.length c72] : List Value)) ++ []) 24) :: ((ob71, blk ((u8s x69) ++ r73) 5) :: ((ob52, blk ((u8s l51) ++ r54) 5) :: (B70 ++ B23)))))))))) ((ob108).map fun k => ⟨k, 0, none⟩) x106.length c109 1 (u8s x106) := o111.view (by decide) (fun w q => q.2.sublist (List.singleton_sublist.2 (List.mem_cons_self ..)))
    refine OW.ofN (NV.bsN rfl rfl rfl (by decide) (by decide) rfl rfl rfl rfl) rfl (fun b117 => ?_)
    have h122 : Reps (BsRd (More w0 Φ ((ob108, blk ((u8s x106) ++ r110) 5) :: ((ob57, blk ((u8s l56) ++ r59) 5) :: (B107 ++ ((ob90, blk ((u8s x88) ++ r92) 5) :: (B89 ++ (((some b80), blk ((([.slice ((ob52).map fun k => ⟨k, 0, none⟩) l51.length c53] : List Value) ++ ([.slice ((ob71).map fun k => ⟨k, 0, none⟩) x69.length c72] : List Value)) ++ []) 24) :: ((ob71, blk ((u8s x69) ++ r73) 5) :: ((ob52, blk ((u8s l51) ++ r54) 5) :: (B70 ++ B23))))))))))) (([.slice ((ob57).map fun k => ⟨k, 0, none⟩) l56.length c58] : List Value) ++ ([.slice ((ob108).map fun k => ⟨k, 0, none⟩) x106.length c109] : List Value)) [l56, x106] := by simpa using (show Reps (BsRd (More w0 Φ ((ob108, blk ((u8s x106) ++ r110) 5) :: ((ob57, blk ((u8s l56) ++ r59) 5) :: (B107 ++ ((ob90, blk ((u8s x88) ++ r92) 5) :: (B89 ++ (((some b80), blk ((([.slice ((ob52).map fun k => ⟨k, 0, none⟩) l51.length c53] : List Value) ++ ([.slice ((ob71).map fun k => ⟨k, 0, none⟩) x69.length c72] : List Value)) ++ []) 24) :: ((ob71, blk ((u8s x69) ++ r73) 5) :: ((ob52, blk ((u8s l51) ++ r54) 5) :: (B70 ++ B23))))))))))) _ [l56, x106] from (.cons (BsRd.mk v119) (.cons (BsRd.mk v120) .nil)))
    refine OW.mem (M' := (((some b117), blk ((([.slice ((ob57).map fun k => ⟨k, 0, none⟩) l56.length c58] : List Value) ++ ([.slice ((ob108).map fun k => ⟨k, 0, none⟩) x106.length c109] : List Value)) ++ []) 24) :: (some b104, blk (u8s x101.toList) 39) :: (some b3, blk (u8s (Vector.replicate 32 0#8).toList) 39) :: (((ob108, blk ((u8s x106) ++ r110) 5) :: ((ob57, blk ((u8s l56) ++ r59) 5) :: (B107 ++ ((ob90, blk ((u8s x88) ++ r92) 5) :: (B89 ++ (((some b80), blk ((([.slice ((ob52).map fun k => ⟨k, 0, none⟩) l51.length c53] : List Value) ++ ([.slice ((ob71).map fun k => ⟨k, 0, none⟩) x69.length c72] : List Value)) ++ []) 24) :: ((ob71, blk ((u8s x69) ++ r73) 5) :: ((ob52, blk ((u8s l51) ++ r54) 5) :: (B70 ++ B23))))))))) ++ N))) (fun w m => m) ?_
    have o118 : OwnS (some b117) ([l56, x106] : List (List (BitVec 8))).length 2 1 (([.slice ((ob57).map fun k => ⟨k, 0, none⟩) l56.length c58] : List Value) ++ ([.slice ((ob108).map fun k => ⟨k, 0, none⟩) x106.length c109] : List Value)) [] := ⟨by simp [BsRd], by simp [BsRd], (fun h => nomatch h), by simp⟩
    refine OW.slot (sl (some b117) 0 ([l56, x106] : List (List (BitVec 8))).length 2) (rfl) ?_
    refine OW.mem (M' := (some b104, blk (u8s x101.toList) 39) :: (some b3, blk (u8s (Vector.replicate 32 0#8).toList) 39) :: ((((some b117), blk ((([.slice ((ob57).map fun k => ⟨k, 0, none⟩) l56.length c58] : List Value) ++ ([.slice ((ob108).map fun k => ⟨k, 0, none⟩) x106.length c109] : List Value)) ++ []) 24) :: ((ob108, blk ((u8s x106) ++ r110) 5) :: ((ob57, blk ((u8s l56) ++ r59) 5) :: (B107 ++ ((ob90, blk ((u8s x88) ++ r92) 5) :: (B89 ++ (((some b80), blk ((([.slice ((ob52).map fun k => ⟨k, 0, none⟩) l51.length c53] : List Value) ++ ([.slice ((ob71).map fun k => ⟨k, 0, none⟩) x69.length c72] : List Value)) ++ []) 24) :: ((ob71, blk ((u8s x69) ++ r73) 5) :: ((ob52, blk ((u8s l51) ++ r54) 5) :: (B70 ++ B23)))))))))) ++ N)) (fun w m => m.pick [1, 2, 0] 3 rfl rfl) ?_
    have gq13 : ∀ w, More w0 Φ (((some b117), blk ((([.slice ((ob57).map fun k => ⟨k, 0, none⟩) l56.length c58] : List Value) ++ ([.slice ((ob108).map fun k => ⟨k, 0, none⟩) x106.length c109] : List Value)) ++ []) 24) :: ((ob108, blk ((u8s x106) ++ r110) 5) :: ((ob57, blk ((u8s l56) ++ r59) 5) :: (B107 ++ ((ob90, blk ((u8s x88) ++ r92) 5) :: (B89 ++ (((some b80), blk ((([.slice ((ob52).map fun k => ⟨k, 0, none⟩) l51.length c53] : List Value) ++ ([.slice ((ob71).map fun k => ⟨k, 0, none⟩) x69.length c72] : List Value)) ++ []) 24) :: ((ob71, blk ((u8s x69) ++ r73) 5) :: ((ob52, blk ((u8s l51) ++ r54) 5) :: (B70 ++ B23)))))))))) w → More w0 Φ ((ob108, blk ((u8s x106) ++ r110) 5) :: ((ob57, blk ((u8s l56) ++ r59) 5) :: (B107 ++ ((ob90, blk ((u8s x88) ++ r92) 5) :: (B89 ++ (((some b80), blk ((([.slice ((ob52).map fun k => ⟨k, 0, none⟩) l51.length c53] : List Value) ++ ([.slice ((ob71).map fun k => ⟨k, 0, none⟩) x69.length c72] : List Value)) ++ []) 24) :: ((ob71, blk ((u8s x69) ++ r73) 5) :: ((ob52, blk ((u8s l51) ++ r54) 5) :: (B70 ++ B23))))))))) w := fun w q => More.mono (fun w m => (m).tail) q
    replace va1 := va1.mono gq13
    replace ha1 := ha1.mono (BsRd.mono gq13)
    replace v82 := v82.mono gq13
    replace v119 := v119.mono gq13
    replace v83 := v83.mono gq13
    replace v86 := v86.mono gq13
    replace h85 := h85.mono (BsRd.mono gq13)
    replace v99 := v99.mono gq13
    replace v120 := v120.mono gq13
    replace h122 := h122.mono (BsRd.mono gq13)
    have v123 : View (More w0 Φ (((some b117), blk ((([.slice ((ob57).map fun k => ⟨k, 0, none⟩) l56.length c58] : List Value) ++ ([.slice ((ob108).map fun k => ⟨k, 0, none⟩) x106.length c109] : List Value)) ++ []) 24) :: ((ob108, blk ((u8s x106) ++ r110) 5) :: ((ob57, blk ((u8s l56) ++ r59) 5) :: (B107 ++ ((ob90, blk ((u8s x88) ++ r92) 5) :: (B89 ++ (((some b80), blk ((([.slice ((ob52).map fun k => ⟨k, 0, none⟩) l51.length c53] : List Value) ++ ([.slice ((ob71).map fun k => ⟨k, 0, none⟩) x69.length c72] : List Value)) ++ []) 24) :: ((ob71, blk ((u8s x69) ++ r73) 5) :: ((ob52, blk ((u8s l51) ++ r54) 5) :: (B70 ++ B23))))))))))) (((some b117)).map fun k => ⟨k, 0, none⟩) ([l56, x106] : List (List (BitVec 8))).length 2 1 (([.slice ((ob57).map fun k => ⟨k, 0, none⟩) l56.length c58] : List Value) ++ ([.slice ((ob108).map fun k => ⟨k, 0, none⟩) x106.length c109] : List Value)) := o118.view (by decide) (fun w q => q.2.sublist (List.singleton_sublist.2 (List.mem_cons_self ..)))
    obtain ⟨x125, hx124, hf⟩ := some_bind hf
    refine OW.callG Tryd.call42 rfl (waybillref03_joined_does w0 (More w0 Φ (((some b117), blk ((([.slice ((ob57).map fun k => ⟨k, 0, none⟩) l56.length c58] : List Value) ++ ([.slice ((ob108).map fun k => ⟨k, 0, none⟩) x106.length c109] : List Value)) ++ []) 24) :: ((ob108, blk ((u8s x106) ++ r110) 5) :: ((ob57, blk ((u8s l56) ++ r59) 5) :: (B107 ++ ((ob90, blk ((u8s x88) ++ r92) 5) :: (B89 ++ (((some b80), blk ((([.slice ((ob52).map fun k => ⟨k, 0, none⟩) l51.length c53] : List Value) ++ ([.slice ((ob71).map fun k => ⟨k, 0, none⟩) x69.length c72] : List Value)) ++ []) 24) :: ((ob71, blk ((u8s x69) ++ r73) 5) :: ((ob52, blk ((u8s l51) ++ r54) 5) :: (B70 ++ B23))))))))))) ((some b104, blk (u8s x101.toList) 39) :: (some b3, blk (u8s (Vector.replicate 32 0#8).toList) 39) :: ((((some b117), blk ((([.slice ((ob57).map fun k => ⟨k, 0, none⟩) l56.length c58] : List Value) ++ ([.slice ((ob108).map fun k => ⟨k, 0, none⟩) x106.length c109] : List Value)) ++ []) 24) :: ((ob108, blk ((u8s x106) ++ r110) 5) :: ((ob57, blk ((u8s l56) ++ r59) 5) :: (B107 ++ ((ob90, blk ((u8s x88) ++ r92) 5) :: (B89 ++ (((some b80), blk ((([.slice ((ob52).map fun k => ⟨k, 0, none⟩) l51.length c53] : List Value) ++ ([.slice ((ob71).map fun k => ⟨k, 0, none⟩) x69.length c72] : List Value)) ++ []) 24) :: ((ob71, blk ((u8s x69) ++ r73) 5) :: ((ob52, blk ((u8s l51) ++ r54) 5) :: (B70 ++ B23)))))))))) ++ N)) (fun w m => More.of hΦ 2 m rfl) (((some b117)).map fun k => ⟨k, 0, none⟩) 2 (([.slice ((ob57).map fun k => ⟨k, 0, none⟩) l56.length c58] : List Value) ++ ([.slice ((ob108).map fun k => ⟨k, 0, none⟩) x106.length c109] : List Value)) ([l56, x106] : List (List (BitVec 8))) x125 v123 h122 hx124) rfl rfl ?_
    rintro L131 M132 ⟨B126, ob127, c128, r129, o130, e133, e134⟩
    rw [e133, e134]
    clear e133 e134 L131 M132
    refine OW.mem (M' := ((ob127, blk ((u8s x125) ++ r129) 5) :: (some b104, blk (u8s x101.toList) 39) :: (some b3, blk (u8s (Vector.replicate 32 0#8).toList) 39) :: ((B126 ++ (((some b117), blk ((([.slice ((ob57).map fun k => ⟨k, 0, none⟩) l56.length c58] : List Value) ++ ([.slice ((ob108).map fun k => ⟨k, 0, none⟩) x106.length c109] : List Value)) ++ []) 24) :: ((ob108, blk ((u8s x106) ++ r110) 5) :: ((ob57, blk ((u8s l56) ++ r59) 5) :: (B107 ++ ((ob90, blk ((u8s x88) ++ r92) 5) :: (B89 ++ (((some b80), blk ((([.slice ((ob52).map fun k => ⟨k, 0, none⟩) l51.length c53] : List Value) ++ ([.slice ((ob71).map fun k => ⟨k, 0, none⟩) x69.length c72] : List Value)) ++ []) 24) :: ((ob71, blk ((u8s x69) ++ r73) 5) :: ((ob52, blk ((u8s l51) ++ r54) 5) :: (B70 ++ B23))))))))))) ++ N))) (fun w m => by have h := Mem.sinkAt (A := B126) m 1 2 rfl rfl; exact h) ?_
    have gq14 : ∀ w, More w0 Φ (B126 ++ (((some b117), blk ((([.slice ((ob57).map fun k => ⟨k, 0, none⟩) l56.length c58] : List Value) ++ ([.slice ((ob108).map fun k => ⟨k, 0, none⟩) x106.length c109] : List Value)) ++ []) 24) :: ((ob108, blk ((u8s x106) ++ r110) 5) :: ((ob57, blk ((u8s l56) ++ r59) 5) :: (B107 ++ ((ob90, blk ((u8s x88) ++ r92) 5) :: (B89 ++ (((some b80), blk ((([.slice ((ob52).map fun k => ⟨k, 0, none⟩) l51.length c53] : List Value) ++ ([.slice ((ob71).map fun k => ⟨k, 0, none⟩) x69.length c72] : List Value)) ++ []) 24) :: ((ob71, blk ((u8s x69) ++ r73) 5) :: ((ob52, blk ((u8s l51) ++ r54) 5) :: (B70 ++ B23))))))))))) w → More w0 Φ (((some b117), blk ((([.slice ((ob57).map fun k => ⟨k, 0, none⟩) l56.length c58] : List Value) ++ ([.slice ((ob108).map fun k => ⟨k, 0, none⟩) x106.length c109] : List Value)) ++ []) 24) :: ((ob108, blk ((u8s x106) ++ r110) 5) :: ((ob57, blk ((u8s l56) ++ r59) 5) :: (B107 ++ ((ob90, blk ((u8s x88) ++ r92) 5) :: (B89 ++ (((some b80), blk ((([.slice ((ob52).map fun k => ⟨k, 0, none⟩) l51.length c53] : List Value) ++ ([.slice ((ob71).map fun k => ⟨k, 0, none⟩) x69.length c72] : List Value)) ++ []) 24) :: ((ob71, blk ((u8s x69) ++ r73) 5) :: ((ob52, blk ((u8s l51) ++ r54) 5) :: (B70 ++ B23)))))))))) w := fun w q => More.mono (fun w m => (m).appR) q
    replace va1 := va1.mono gq14
    replace ha1 := ha1.mono (BsRd.mono gq14)
    replace v82 := v82.mono gq14
    replace v119 := v119.mono gq14
    replace v83 := v83.mono gq14
    replace v86 := v86.mono gq14
    replace h85 := h85.mono (BsRd.mono gq14)
    replace v99 := v99.mono gq14
    replace v120 := v120.mono gq14
    replace v123 := v123.mono gq14
    replace h122 := h122.mono (BsRd.mono gq14)
    have m135 := o130.mx
    refine OW.mem (M' := (some b104, blk (u8s x101.toList) 39) :: (some b3, blk (u8s (Vector.replicate 32 0#8).toList) 39) :: (((ob127, blk ((u8s x125) ++ r129) 5) :: (B126 ++ (((some b117), blk ((([.slice ((ob57).map fun k => ⟨k, 0, none⟩) l56.length c58] : List Value) ++ ([.slice ((ob108).map fun k => ⟨k, 0, none⟩) x106.length c109] : List Value)) ++ []) 24) :: ((ob108, blk ((u8s x106) ++ r110) 5) :: ((ob57, blk ((u8s l56) ++ r59) 5) :: (B107 ++ ((ob90, blk ((u8s x88) ++ r92) 5) :: (B89 ++ (((some b80), blk ((([.slice ((ob52).map fun k => ⟨k, 0, none⟩) l51.length c53] : List Value) ++ ([.slice ((ob71).map fun k => ⟨k, 0, none⟩) x69.length c72] : List Value)) ++ []) 24) :: ((ob71, blk ((u8s x69) ++ r73) 5) :: ((ob52, blk ((u8s l51) ++ r54) 5) :: (B70 ++ B23)))))))))))) ++ N)) (fun w m => m.pick [1, 2, 0] 3 rfl rfl) ?_
    have gq15 : ∀ w, More w0 Φ ((ob127, blk ((u8s x125) ++ r129) 5) :: (B126 ++ (((some b117), blk ((([.slice ((ob57).map fun k => ⟨k, 0, none⟩) l56.length c58] : List Value) ++ ([.slice ((ob108).map fun k => ⟨k, 0, none⟩) x106.length c109] : List Value)) ++ []) 24) :: ((ob108, blk ((u8s x106) ++ r110) 5) :: ((ob57, blk ((u8s l56) ++ r59) 5) :: (B107 ++ ((ob90, blk ((u8s x88) ++ r92) 5) :: (B89 ++ (((some b80), blk ((([.slice ((ob52).map fun k => ⟨k, 0, none⟩) l51.length c53] : List Value) ++ ([.slice ((ob71).map fun k => ⟨k, 0, none⟩) x69.length c72] : List Value)) ++ []) 24) :: ((ob71, blk ((u8s x69) ++ r73) 5) :: ((ob52, blk ((u8s l51) ++ r54) 5) :: (B70 ++ B23)))))))))))) w → More w0 Φ (B126 ++ (((some b117), blk ((([.slice ((ob57).map fun k => ⟨k, 0, none⟩) l56.length c58] : List Value) ++ ([.slice ((ob108).map fun k => ⟨k, 0, none⟩) x106.length c109] : List Value)) ++ []) 24) :: ((ob108, blk ((u8s x106) ++ r110) 5) :: ((ob57, blk ((u8s l56) ++ r59) 5) :: (B107 ++ ((ob90, blk ((u8s x88) ++ r92) 5) :: (B89 ++ (((some b80), blk ((([.slice ((ob52).map fun k => ⟨k, 0, none⟩) l51.length c53] : List Value) ++ ([.slice ((ob71).map fun k => ⟨k, 0, none⟩) x69.length c72] : List Value)) ++ []) 24) :: ((ob71, blk ((u8s x69) ++ r73) 5) :: ((ob52, blk ((u8s l51) ++ r54) 5) :: (B70 ++ B23))))))))))) w := fun w q => More.mono (fun w m => (m).tail) q
    replace va1 := va1.mono gq15
    replace ha1 := ha1.mono (BsRd.mono gq15)
    replace v82 := v82.mono gq15
    replace v119 := v119.mono gq15
    replace v83 := v83.mono gq15
    replace v86 := v86.mono gq15
    replace h85 := h85.mono (BsRd.mono gq15)
    replace v99 := v99.mono gq15
    replace v120 := v120.mono gq15
    replace v123 := v123.mono gq15
    replace h122 := h122.mono (BsRd.mono gq15)
    have v136 : View (More w0 Φ ((ob127, blk ((u8s x125) ++ r129) 5) :: (B126 ++ (((some b117), blk ((([.slice ((ob57).map fun k => ⟨k, 0, none⟩) l56.length c58] : List Value) ++ ([.slice ((ob108).map fun k => ⟨k, 0, none⟩) x106.length c109] : List Value)) ++ []) 24) :: ((ob108, blk ((u8s x106) ++ r110) 5) :: ((ob57, blk ((u8s l56) ++ r59) 5) :: (B107 ++ ((ob90, blk ((u8s x88) ++ r92) 5) :: (B89 ++ (((some b80), blk ((([.slice ((ob52).map fun k => ⟨k, 0, none⟩) l51.length c53] : List Value) ++ ([.slice ((ob71).map fun k => ⟨k, 0, none⟩) x69.length c72] : List Value)) ++ []) 24) :: ((ob71, blk ((u8s x69) ++ r73) 5) :: ((ob52, blk ((u8s l51) ++ r54) 5) :: (B70 ++ B23))))))))))))) ((ob127).map fun k => ⟨k, 0, none⟩) x125.length c128 1 (u8s x125) := o130.view (by decide) (fun w q => q.2.sublist (List.singleton_sublist.2 (List.mem_cons_self ..)))
    obtain ⟨x138, hx137, hf⟩ := some_bind hf
    refine OW.callG Tryd.call43 rfl (waybillref03_digest_does w0 (More w0 Φ ((ob127, blk ((u8s x125) ++ r129) 5) :: (B126 ++ (((some b117), blk ((([.slice ((ob57).map fun k => ⟨k, 0, none⟩) l56.length c58] : List Value) ++ ([.slice ((ob108).map fun k => ⟨k, 0, none⟩) x106.length c109] : List Value)) ++ []) 24) :: ((ob108, blk ((u8s x106) ++ r110) 5) :: ((ob57, blk ((u8s l56) ++ r59) 5) :: (B107 ++ ((ob90, blk ((u8s x88) ++ r92) 5) :: (B89 ++ (((some b80), blk ((([.slice ((ob52).map fun k => ⟨k, 0, none⟩) l51.length c53] : List Value) ++ ([.slice ((ob71).map fun k => ⟨k, 0, none⟩) x69.length c72] : List Value)) ++ []) 24) :: ((ob71, blk ((u8s x69) ++ r73) 5) :: ((ob52, blk ((u8s l51) ++ r54) 5) :: (B70 ++ B23))))))))))))) ((some b104, blk (u8s x101.toList) 39) :: (some b3, blk (u8s (Vector.replicate 32 0#8).toList) 39) :: (((ob127, blk ((u8s x125) ++ r129) 5) :: (B126 ++ (((some b117), blk ((([.slice ((ob57).map fun k => ⟨k, 0, none⟩) l56.length c58] : List Value) ++ ([.slice ((ob108).map fun k => ⟨k, 0, none⟩) x106.length c109] : List Value)) ++ []) 24) :: ((ob108, blk ((u8s x106) ++ r110) 5) :: ((ob57, blk ((u8s l56) ++ r59) 5) :: (B107 ++ ((ob90, blk ((u8s x88) ++ r92) 5) :: (B89 ++ (((some b80), blk ((([.slice ((ob52).map fun k => ⟨k, 0, none⟩) l51.length c53] : List Value) ++ ([.slice ((ob71).map fun k => ⟨k, 0, none⟩) x69.length c72] : List Value)) ++ []) 24) :: ((ob71, blk ((u8s x69) ++ r73) 5) :: ((ob52, blk ((u8s l51) ++ r54) 5) :: (B70 ++ B23)))))))))))) ++ N)) (fun w m => More.of hΦ 2 m rfl) ((ob127).map fun k => ⟨k, 0, none⟩) c128 x125 x138 v136 hx137) rfl rfl ?_
    rintro _ G139 rfl
    refine OW.mem (M' := ((some b104, blk (u8s x101.toList) 39) :: (some b3, blk (u8s (Vector.replicate 32 0#8).toList) 39) :: (((ob127, blk ((u8s x125) ++ r129) 5) :: (B126 ++ (((some b117), blk ((([.slice ((ob57).map fun k => ⟨k, 0, none⟩) l56.length c58] : List Value) ++ ([.slice ((ob108).map fun k => ⟨k, 0, none⟩) x106.length c109] : List Value)) ++ []) 24) :: ((ob108, blk ((u8s x106) ++ r110) 5) :: ((ob57, blk ((u8s l56) ++ r59) 5) :: (B107 ++ ((ob90, blk ((u8s x88) ++ r92) 5) :: (B89 ++ (((some b80), blk ((([.slice ((ob52).map fun k => ⟨k, 0, none⟩) l51.length c53] : List Value) ++ ([.slice ((ob71).map fun k => ⟨k, 0, none⟩) x69.length c72] : List Value)) ++ []) 24) :: ((ob71, blk ((u8s x69) ++ r73) 5) :: ((ob52, blk ((u8s l51) ++ r54) 5) :: (B70 ++ B23)))))))))))) ++ N))) (fun w m => m.appR) ?_
    refine OW.rot1 ?_
    refine OW.sv (SV.storeW rfl rfl rfl (u8s_one _) rfl ((u8s_length _).trans Vector.length_toList) ((u8s_length _).trans Vector.length_toList)) ?_
    refine OW.nil (QW.then_n (CW.ret ?_))
    have e0 := Option.some.inj hf
    subst e0
    refine QW.retG (rs := [.cell 4 39]) ([.agg (u8s x138.toList).toArray]) ((some b3, blk (u8s x138.toList) 39) :: (some b104, blk (u8s x101.toList) 39) :: ((ob127, blk ((u8s x125) ++ r129) 5) :: (B126 ++ (((some b117), blk ((([.slice ((ob57).map fun k => ⟨k, 0, none⟩) l56.length c58] : List Value) ++ ([.slice ((ob108).map fun k => ⟨k, 0, none⟩) x106.length c109] : List Value)) ++ []) 24) :: ((ob108, blk ((u8s x106) ++ r110) 5) :: ((ob57, blk ((u8s l56) ++ r59) 5) :: (B107 ++ ((ob90, blk ((u8s x88) ++ r92) 5) :: (B89 ++ (((some b80), blk ((([.slice ((ob52).map fun k => ⟨k, 0, none⟩) l51.length c53] : List Value) ++ ([.slice ((ob71).map fun k => ⟨k, 0, none⟩) x69.length c72] : List Value)) ++ []) 24) :: ((ob71, blk ((u8s x69) ++ r73) 5) :: ((ob52, blk ((u8s l51) ++ r54) 5) :: (B70 ++ B23))))))))))))) rfl ?_ rfl ?_ ?_ _ (.inl rfl)
    ·exact ⟨⟨_, _, _, _, rfl, (List.Mem.head _), rfl, rfl, (congrArg some ((u8s_length _).trans Vector.length_toList).symm), rfl⟩, trivial⟩
    ·exact rfl
    ·exact (fun w m => m)
   ·skip
    refine CW.block ?_
    refine CW.mem (M' := ((none, blk ((u8s ([] : List (BitVec 8))) ++ []) 5) :: (ob39, blk ((u8s l38) ++ r41) 5) :: (some b3, blk (u8s (Vector.replicate 32 0#8).toList) 39) :: (B23 ++ N))) (fun w m => m.nil_ent _) ?_
    refine CW.mem (M' := ((none, blk ((u8s ([] : List (BitVec 8))) ++ []) 5) :: (none, blk ((u8s ([] : List (BitVec 8))) ++ []) 5) :: (ob39, blk ((u8s l38) ++ r41) 5) :: (some b3, blk (u8s (Vector.replicate 32 0#8).toList) 39) :: (B23 ++ N))) (fun w m => m.nil_ent _) ?_
    refine CW.loopJ (fun k L' M' => ∃ l141 : List (BitVec 8), ∃ l146 : List (BitVec 8), ∃ n151 : Nat, ∃ ob142 : Option Nat, ∃ c143 : Nat, ∃ r144 : List Value, ∃ ob147 : Option Nat, ∃ c148 : Nat, ∃ r149 : List Value, (waybillref03_HMAC.l1 l38 k l141 l146 n151) = some q49 ∧ (OwnS ob142 l141.length c143 1 (u8s l141) r144) ∧ (OwnS ob147 l146.length c148 1 (u8s l146) r149) ∧ (n151 ≤ 9223372036854775807) ∧ L' = [(1, .slice A1_ a1.length c1_), (4, ptr (some b3) 0), (5, sl ob39 0 l38.length c40), (7, sl ob142 0 l141.length c143), (8, sl ob147 0 l146.length c148), (9, .int .i64 ((n151 : Nat) : Int))] ∧ M' = ((ob142, blk ((u8s l141) ++ r144) 5) :: (ob147, blk ((u8s l146) ++ r149) 5) :: (ob39, blk ((u8s l38) ++ r41) 5) :: (some b3, blk (u8s (Vector.replicate 32 0#8).toList) 39) :: (B23 ++ N))) (k0 := (64 - 0 + 2)) ⟨([] : List (BitVec 8)), ([] : List (BitVec 8)), 0, none, 0, [], none, 0, [], hq50, OwnS.nil, OwnS.nil, (by omega), rfl, rfl⟩ ⟨rfl, rfl, rfl, rfl, rfl, rfl, trivial⟩ (fun w m => m.pick [1, 0, 2, 3] 4 rfl rfl) ?_
    clear hq50
    rintro k153 L156 M157 ⟨l141, l146, n151, ob142, c143, r144, ob147, c148, r149, hl154, o145, o150, b152, e158, e159⟩
    rw [e158, e159]
    clear e158 e159 L156 M157
    rcases k153 with _ | k153
    ·rw [waybillref03_HMAC.l1] at hl154; cases hl154
    rw [waybillref03_HMAC.l1] at hl154
    have m160 := o145.mx
    have m161 := o150.mx
    have m162 := o42.mx
    refine CW.seq (CW.seq (CW.region ?_))
    refine OW.rv (RV.move rfl) rfl ?_
    refine OW.rv (RV.lss rfl rfl) rfl ?_
    refine OW.slot (.bool (decide (n151 < 64))) (congrArg Value.bool (decide_eq_decide.2 (by omega))) ?_
    refine OW.nil (QW.then_n ?_)
    by_cases h163 : n151 < 64
    ·replace hl154 := if_t hl154 h163
     refine CW.is_t rfl (decide_eq_true h163) ?_
     refine CW.skip (QW.then_n (CW.seq (CW.block (CW.seq (CW.region ?_)))))
     refine OW.rv (RV.move rfl) rfl ?_
     refine OW.rv (RV.move rfl) rfl ?_
     refine OW.rv (RV.move rfl) rfl ?_
     obtain ⟨x164, hx165, hl154⟩ := some_bind hl154
     have hl166 := lt_of_at hx165
     refine OW.rv (RV.idx_o (n151) rfl rfl rfl rfl rfl (o42.isSome (by decide) hl166) (by omega)) rfl ?_
     refine OW.rv (RV.load rfl (List.Mem.tail _ (List.Mem.tail _ (List.Mem.head _))) (o42.isSome (by decide) hl166) rfl rfl (own_at0 (u8s_at hx165))) rfl ?_
     refine OW.rv (RV.xor8 rfl (by first | rfl | exact lit8 _ rfl) rfl (by first | rfl | exact lit8 _ rfl)) rfl ?_
     refine OW.ofN (NV.bs1 rfl rfl rfl rfl rfl rfl) rfl (fun b167 => ?_)
     refine OW.mem (M' := (((some b167), blk ((u8s ([(x164 ^^^ 54#8)] : List (BitVec 8))) ++ []) 5) :: (ob142, blk ((u8s l141) ++ r144) 5) :: (ob147, blk ((u8s l146) ++ r149) 5) :: (ob39, blk ((u8s l38) ++ r41) 5) :: (some b3, blk (u8s (Vector.replicate 32 0#8).toList) 39) :: (B23 ++ N))) (fun w m => by first | exact m | simpa [u8s] using m) ?_
     have o168 : OwnS (some b167) ([(x164 ^^^ 54#8)] : List (BitVec 8)).length 1 1 (u8s ([(x164 ^^^ 54#8)] : List (BitVec 8))) [] := ⟨by simp [u8s], by simp [u8s], (fun h => nomatch h), by simp⟩
     refine OW.slot (sl (some b167) 0 ([(x164 ^^^ 54#8)] : List (BitVec 8)).length 1) (rfl) ?_
     refine OW.rot1 ?_
     obtain ⟨g169, hl154⟩ := some_if hl154
     refine OW.appendOwn (s := 1) rfl rfl rfl rfl rfl rfl o145 (fun w m => m.rd0 (List.Mem.tail _ (List.Mem.head _)) (fun e => o168.nilc (by decide) e)) o168.n (u8s_one _) (o168.zeroO (by decide)) (by decide) (by decide) (by first | omega | (simp only [i5, List.length_nil]; omega)) rfl rfl ((l141 ++ ([(x164 ^^^ 54#8)] : List (BitVec 8))).length) (u8s (l141 ++ ([(x164 ^^^ 54#8)] : List (BitVec 8)))) (List.length_append ..).symm (u8s_app _ _) (fun ob170 r171 c172 o173 => ?_)
     have m174 := o173.mx
     refine OW.rv (RV.assign rfl) rfl ?_
     refine OW.nil (QW.then_n (CW.region ?_))
     refine OW.rv (RV.move rfl) rfl ?_
     refine OW.rv (RV.move rfl) rfl ?_
     refine OW.rv (RV.move rfl) rfl ?_
     obtain ⟨x175, hx176, hl154⟩ := some_bind hl154
     have hl177 := lt_of_at hx176
     refine OW.rv (RV.idx_o (n151) rfl rfl rfl rfl rfl (o42.isSome (by decide) hl177) (by omega)) rfl ?_
     refine OW.rv (RV.load rfl (List.Mem.tail _ (List.Mem.tail _ (List.Mem.tail _ (List.Mem.head _)))) (o42.isSome (by decide) hl177) rfl rfl (own_at0 (u8s_at hx176))) rfl ?_
     refine OW.rv (RV.xor8 rfl (by first | rfl | exact lit8 _ rfl) rfl (by first | rfl | exact lit8 _ rfl)) rfl ?_
     refine OW.ofN (NV.bs1 rfl rfl rfl rfl rfl rfl) rfl (fun b178 => ?_)
     refine OW.mem (M' := (((some b178), blk ((u8s ([(x175 ^^^ 92#8)] : List (BitVec 8))) ++ []) 5) :: (ob170, blk ((u8s (l141 ++ ([(x164 ^^^ 54#8)] : List (BitVec 8)))) ++ r171) 5) :: ((some b167), blk ((u8s ([(x164 ^^^ 54#8)] : List (BitVec 8))) ++ []) 5) :: (ob147, blk ((u8s l146) ++ r149) 5) :: (ob39, blk ((u8s l38) ++ r41) 5) :: (some b3, blk (u8s (Vector.replicate 32 0#8).toList) 39) :: (B23 ++ N))) (fun w m => by first | exact m | simpa [u8s] using m) ?_
     have o179 : OwnS (some b178) ([(x175 ^^^ 92#8)] : List (BitVec 8)).length 1 1 (u8s ([(x175 ^^^ 92#8)] : List (BitVec 8))) [] := ⟨by simp [u8s], by simp [u8s], (fun h => nomatch h), by simp⟩
     refine OW.slot (sl (some b178) 0 ([(x175 ^^^ 92#8)] : List (BitVec 8)).length 1) (rfl) ?_
     refine OW.rot3 ?_
     obtain ⟨g180, hl154⟩ := some_if hl154
     refine OW.appendOwn (s := 1) rfl rfl rfl rfl rfl rfl o150 (fun w m => m.rd0 (List.Mem.tail _ (List.Mem.head _)) (fun e => o179.nilc (by decide) e)) o179.n (u8s_one _) (o179.zeroO (by decide)) (by decide) (by decide) (by first | omega | (simp only [i5, List.length_nil]; omega)) rfl rfl ((l146 ++ ([(x175 ^^^ 92#8)] : List (BitVec 8))).length) (u8s (l146 ++ ([(x175 ^^^ 92#8)] : List (BitVec 8)))) (List.length_append ..).symm (u8s_app _ _) (fun ob181 r182 c183 o184 => ?_)
     have m185 := o184.mx
     refine OW.rv (RV.assign rfl) rfl ?_
     refine OW.nil (QW.block_n (QW.then_n (CW.region ?_)))
     refine OW.rv (RV.move rfl) rfl ?_
     refine OW.rv (RV.add rfl rfl (by omega)) rfl ?_
     refine OW.slot (.int .i64 (((n151 + 1) : Nat) : Int)) (by first | rfl | (congr 1) | (congr 1; omega)) ?_
     refine OW.rv (RV.assign rfl) rfl ?_
     refine OW.nil ?_
     exact QW.againJ (k' := k153) (Nat.lt_succ_self _) ⟨(l141 ++ ([(x164 ^^^ 54#8)] : List (BitVec 8))), (l146 ++ ([(x175 ^^^ 92#8)] : List (BitVec 8))), (n151 + 1), ob170, c172, r171, ob181, c183, r182, hl154, o173, o184, (by omega), rfl, rfl⟩ ⟨rfl, rfl, rfl, rfl, rfl, rfl, trivial⟩ (fun w m => m.pick [2, 0, 4, 5] 6 rfl rfl)
    ·replace hl154 := if_f hl154 h163
     refine CW.is_f rfl (decide_eq_false h163) ?_
     refine CW.exit (QW.then_x (QW.then_x (QW.block_xe ?_)))
     exact QW.join ⟨l141, l146, ob142, c143, r144, ob147, c148, r149, (Option.some.inj hl154).symm, o145, o150, rfl, rfl⟩ ⟨rfl, rfl, rfl, rfl, trivial⟩ (fun w m => m.pick [0, 1, 3] 4 rfl rfl)
  ·skip
   refine CW.block ?_
   refine CW.loopJ (fun k L' M' => ∃ l186 : List (BitVec 8), ∃ ob187 : Option Nat, ∃ c188 : Nat, ∃ r189 : List Value, (waybillref03_HMAC.l2 k l186) = some q36 ∧ (OwnS ob187 l186.length c188 1 (u8s l186) r189) ∧ L' = [(1, .slice A1_ a1.length c1_), (4, ptr (some b3) 0), (5, sl ob187 0 l186.length c188)] ∧ M' = ((ob187, blk ((u8s l186) ++ r189) 5) :: (some b3, blk (u8s (Vector.replicate 32 0#8).toList) 39) :: (B23 ++ N))) (k0 := (64 - l25.length + 2)) ⟨l25, ob26, c27, r28, hq37, o29, rfl, rfl⟩ ⟨rfl, rfl, rfl, trivial⟩ (fun w m => m.pick [0, 1] 2 rfl rfl) ?_
   clear hq37
   rintro k191 L194 M195 ⟨l186, ob187, c188, r189, hl192, o190, e196, e197⟩
   rw [e196, e197]
   clear e196 e197 L194 M195
   rcases k191 with _ | k191
   ·rw [waybillref03_HMAC.l2] at hl192; cases hl192
   rw [waybillref03_HMAC.l2] at hl192
   have m198 := o190.mx
   refine CW.seq (CW.seq (CW.region ?_))
   refine OW.rv (RV.move rfl) rfl ?_
   refine OW.rv (RV.len rfl rfl) rfl ?_
   refine OW.rv (RV.lss rfl rfl) rfl ?_
   refine OW.slot (.bool (decide (l186.length < 64))) (congrArg Value.bool (decide_eq_decide.2 (by omega))) ?_
   refine OW.nil (QW.then_n ?_)
   by_cases h199 : l186.length < 64
   ·replace hl192 := if_t hl192 h199
    refine CW.is_t rfl (decide_eq_true h199) ?_
    refine CW.skip (QW.then_n (CW.block (CW.region ?_)))
    refine OW.rv (RV.move rfl) rfl ?_
    refine OW.ofN (NV.bs1 rfl rfl rfl rfl rfl rfl) rfl (fun b200 => ?_)
    refine OW.mem (M' := (((some b200), blk ((u8s ([0#8] : List (BitVec 8))) ++ []) 5) :: (ob187, blk ((u8s l186) ++ r189) 5) :: (some b3, blk (u8s (Vector.replicate 32 0#8).toList) 39) :: (B23 ++ N))) (fun w m => by first | exact m | simpa [u8s] using m) ?_
    have o201 : OwnS (some b200) ([0#8] : List (BitVec 8)).length 1 1 (u8s ([0#8] : List (BitVec 8))) [] := ⟨by simp [u8s], by simp [u8s], (fun h => nomatch h), by simp⟩
    refine OW.slot (sl (some b200) 0 ([0#8] : List (BitVec 8)).length 1) (rfl) ?_
    refine OW.rot1 ?_
    obtain ⟨g202, hl192⟩ := some_if hl192
    refine OW.appendOwn (s := 1) rfl rfl rfl rfl rfl rfl o190 (fun w m => m.rd0 (List.Mem.tail _ (List.Mem.head _)) (fun e => o201.nilc (by decide) e)) o201.n (u8s_one _) (o201.zeroO (by decide)) (by decide) (by decide) (by first | omega | (simp only [i5, List.length_nil]; omega)) rfl rfl ((l186 ++ ([0#8] : List (BitVec 8))).length) (u8s (l186 ++ ([0#8] : List (BitVec 8)))) (List.length_append ..).symm (u8s_app _ _) (fun ob203 r204 c205 o206 => ?_)
    have m207 := o206.mx
    refine OW.rv (RV.assign rfl) rfl ?_
    refine OW.nil (QW.block_n ?_)
    exact QW.againJ (k' := k191) (Nat.lt_succ_self _) ⟨(l186 ++ ([0#8] : List (BitVec 8))), ob203, c205, r204, hl192, o206, rfl, rfl⟩ ⟨rfl, rfl, rfl, trivial⟩ (fun w m => m.pick [0, 2] 3 rfl rfl)
   ·replace hl192 := if_f hl192 h199
    refine CW.is_f rfl (decide_eq_false h199) ?_
    refine CW.exit (QW.then_x (QW.then_x (QW.block_xe ?_)))
    exact QW.join ⟨l186, ob187, c188, r189, (Option.some.inj hl192).symm, o190, rfl, rfl⟩ ⟨rfl, rfl, rfl, trivial⟩ (fun w m => m.pick [0, 1] 2 rfl rfl)
 ·skip
  by_cases h208 : 64 < x10.length
  ·replace hq22 := if_t hq22 h208
   refine CW.is_t rfl (decide_eq_true h208) ?_
   refine CW.seq (CW.region ?_)
   refine OW.rv (RV.move rfl) rfl ?_
   refine OW.mem (M' := (some b3, blk (u8s (Vector.replicate 32 0#8).toList) 39) :: (((ob12, blk ((u8s x10) ++ r14) 5) :: (B11 ++ (((some b4), blk ((([.slice A0_ a0.length c0_] : List Value)) ++ []) 24) :: []))) ++ N)) (fun w m => m.pick [1, 0] 2 rfl rfl) ?_
   have gq16 : ∀ w, More w0 Φ ((ob12, blk ((u8s x10) ++ r14) 5) :: (B11 ++ (((some b4), blk ((([.slice A0_ a0.length c0_] : List Value)) ++ []) 24) :: []))) w → More w0 Φ (B11 ++ (((some b4), blk ((([.slice A0_ a0.length c0_] : List Value)) ++ []) 24) :: [])) w := fun w q => More.mono (fun w m => (m).tail) q
   replace va0 := va0.mono gq16
   replace va1 := va1.mono gq16
   replace ha1 := ha1.mono (BsRd.mono gq16)
   replace v8 := v8.mono gq16
   replace h7 := h7.mono (BsRd.mono gq16)
   have v209 : View (More w0 Φ ((ob12, blk ((u8s x10) ++ r14) 5) :: (B11 ++ (((some b4), blk ((([.slice A0_ a0.length c0_] : List Value)) ++ []) 24) :: [])))) ((ob12).map fun k => ⟨k, 0, none⟩) x10.length c13 1 (u8s x10) := o15.view (by decide) (fun w q => q.2.sublist (List.singleton_sublist.2 (List.mem_cons_self ..)))
   obtain ⟨x211, hx210, hq22⟩ := some_bind hq22
   refine OW.callG Tryd.call43 rfl (waybillref03_digest_does w0 (More w0 Φ ((ob12, blk ((u8s x10) ++ r14) 5) :: (B11 ++ (((some b4), blk ((([.slice A0_ a0.length c0_] : List Value)) ++ []) 24) :: [])))) ((some b3, blk (u8s (Vector.replicate 32 0#8).toList) 39) :: (((ob12, blk ((u8s x10) ++ r14) 5) :: (B11 ++ (((some b4), blk ((([.slice A0_ a0.length c0_] : List Value)) ++ []) 24) :: []))) ++ N)) (fun w m => More.of hΦ 1 m rfl) ((ob12).map fun k => ⟨k, 0, none⟩) c13 x10 x211 v209 hx210) rfl rfl ?_
   rintro _ G212 rfl
   refine OW.mem (M' := ((some b3, blk (u8s (Vector.replicate 32 0#8).toList) 39) :: (((ob12, blk ((u8s x10) ++ r14) 5) :: (B11 ++ (((some b4), blk ((([.slice A0_ a0.length c0_] : List Value)) ++ []) 24) :: []))) ++ N))) (fun w m => m.appR) ?_
   refine OW.alloc (l := (u8s (Vector.replicate 32 0#8).toList)) rfl (by rw [Vector.toList_replicate, ← u8s_rep']; rfl) rfl (fun b214 => ?_)
   refine OW.sv (SV.storeW rfl rfl rfl (u8s_one _) rfl ((u8s_length _).trans Vector.length_toList) ((u8s_length _).trans Vector.length_toList)) ?_
   refine OW.nil (QW.then_n (CW.region ?_))
   refine OW.rv (RV.loadW rfl (List.Mem.head _) rfl rfl rfl rfl ((u8s_length _).trans Vector.length_toList)) rfl ?_
   obtain ⟨x216, hx215, hq22⟩ := some_bind hq22
   refine OW.callG Tryd.call49 rfl (waybillref03_bytesOf_does w0 (More w0 Φ ((ob12, blk ((u8s x10) ++ r14) 5) :: (B11 ++ (((some b4), blk ((([.slice A0_ a0.length c0_] : List Value)) ++ []) 24) :: [])))) ((some b214, blk (u8s x211.toList) 39) :: (some b3, blk (u8s (Vector.replicate 32 0#8).toList) 39) :: (((ob12, blk ((u8s x10) ++ r14) 5) :: (B11 ++ (((some b4), blk ((([.slice A0_ a0.length c0_] : List Value)) ++ []) 24) :: []))) ++ N)) (fun w m => More.of hΦ 2 m rfl) x211 x216 hx215) rfl rfl ?_
   rintro L222 M223 ⟨B217, ob218, c219, r220, o221, e224, e225⟩
   rw [e224, e225]
   clear e224 e225 L222 M223
   refine OW.mem (M' := ((ob218, blk ((u8s x216) ++ r220) 5) :: (some b214, blk (u8s x211.toList) 39) :: (some b3, blk (u8s (Vector.replicate 32 0#8).toList) 39) :: ((B217 ++ ((ob12, blk ((u8s x10) ++ r14) 5) :: (B11 ++ (((some b4), blk ((([.slice A0_ a0.length c0_] : List Value)) ++ []) 24) :: [])))) ++ N))) (fun w m => by have h := Mem.sinkAt (A := B217) m 1 2 rfl rfl; exact h) ?_
   have gq17 : ∀ w, More w0 Φ (B217 ++ ((ob12, blk ((u8s x10) ++ r14) 5) :: (B11 ++ (((some b4), blk ((([.slice A0_ a0.length c0_] : List Value)) ++ []) 24) :: [])))) w → More w0 Φ ((ob12, blk ((u8s x10) ++ r14) 5) :: (B11 ++ (((some b4), blk ((([.slice A0_ a0.length c0_] : List Value)) ++ []) 24) :: []))) w := fun w q => More.mono (fun w m => (m).appR) q
   replace va0 := va0.mono gq17
   replace va1 := va1.mono gq17
   replace ha1 := ha1.mono (BsRd.mono gq17)
   replace v8 := v8.mono gq17
   replace h7 := h7.mono (BsRd.mono gq17)
   replace v209 := v209.mono gq17
   have m226 := o221.mx
   refine OW.rv (RV.assign rfl) rfl ?_
   refine OW.nil ?_
   exact QW.join ⟨x216, (B217 ++ ((ob12, blk ((u8s x10) ++ r14) 5) :: (B11 ++ (((some b4), blk ((([.slice A0_ a0.length c0_] : List Value)) ++ []) 24) :: [])))), ob218, c219, r220, (Option.some.inj hq22).symm, (fun w m => ((m).appR).tail), o221, rfl, rfl⟩ ⟨rfl, rfl, rfl, trivial⟩ (fun w m => m.pick [0, 2] 3 rfl rfl)
  ·replace hq22 := if_f hq22 h208
   refine CW.is_f rfl (decide_eq_false h208) ?_
   refine CW.skip ?_
   exact QW.join ⟨x10, (B11 ++ (((some b4), blk ((([.slice A0_ a0.length c0_] : List Value)) ++ []) 24) :: [])), ob12, c13, r14, (Option.some.inj hq22).symm, (fun w m => m), o15, rfl, rfl⟩ ⟨rfl, rfl, rfl, trivial⟩ (fun w m => m.pick [0, 1] 2 rfl rfl)
abbrev mk03 : List (BitVec 8) := List.replicate 70 165#8
theorem one_ok (b : Nat) (t : BitVec 8) : (⟨b, [t], 1, []⟩ : Lt).Ok [] := ⟨⟨rfl, rfl, (fun h => nomatch h), by show 1 ≤ _; decide⟩, by show 1 + 0 ≤ _; decide⟩
theorem turn_back (w0 : World) (N X : List Ent) (b0 : Nat) (r : List Value) (mks ls : List Lt) (i : Nat) (x : Lt) (ys : List (BitVec 8)) (hx : ls[i]? = some x) (hl : ys.length = x.t.length) {w : World}
  (m : Mem w0 w ((some x.b, blk (u8s ys ++ (u8s mk03 ++ x.r)) 5) :: ((X ++ ((some b0, blk (ls.map Lt.cell ++ (mks.map Lt.cell ++ r)) 24) :: lents 5 [] mks)) ++ (lents 5 mk03 (ls.take i ++ ls.drop (i + 1)) ++ N)))) :
  Mem w0 w (X ++ (lx 24 5 mk03 b0 r mks (ls.set i ⟨x.b, ys, x.c, x.r⟩) ++ N)) :=
 lx_back (y := ⟨x.b, ys, x.c, x.r⟩) hx (by show Value.slice _ ys.length _ = Value.slice _ x.t.length _; rw [hl]) m
theorem waybilllaw03_parcel_raw (w0 : World) (Φ : Ctx) (N : List Ent) (hΦ : ∀ w, Mem w0 w N → Φ w) (A0 : Option Addr) (c0 : Nat) (cs0 : List Value) (a0 : List (List (BitVec 8))) (va0 : View Φ A0 a0.length c0 1 cs0) (ha0 : Reps (BsRd Φ) cs0 a0) (hb : (a0.length + 2) * 24 ≤ 140737488355328) (hm : ∀ t ∈ a0, t.length + 70 ≤ 140737488355328) :
  DoesG Tryd.prog 18 [.slice A0 a0.length c0] w0 [] N (fun v G => ∃ (b0 c : Nat) (r : List Value) (mks ls : List Lt), ls.map (·.t) = a0 ∧ (∀ x ∈ ls, x.Ok mk03) ∧ (∀ x ∈ mks, x.Ok []) ∧ mks.map (·.t) = [[165#8], [90#8]] ∧ a0.length + 2 ≤ c ∧ v = .slice (some ⟨b0, 0, none⟩) a0.length c ∧
   G = lx 24 5 mk03 b0 r mks ls) := by
 have m1 := va0.mx
 refine DoesG.enter Tryd.func18 rfl Tryd.ntmps18 rfl (M := N) rfl ?_
 (repeat (first | refine CW.seq ?_ | refine QW.then_n ?_ | refine CW.block ?_ | refine CW.ret ?_ | refine CW.skip ?_ | refine CW.exit ?_ | refine QW.then_x ?_ | refine QW.then_r ?_ | refine QW.block_n ?_ | refine QW.block_xe ?_ | refine QW.block_xn rfl ?_ | refine QW.block_r ?_))
 refine CW.region ?_
 refine OW.rv (RV.assign rfl) rfl ?_
 refine OW.nil ?_
 (repeat (first | refine CW.seq ?_ | refine QW.then_n ?_ | refine CW.block ?_ | refine CW.ret ?_ | refine CW.skip ?_ | refine CW.exit ?_ | refine QW.then_x ?_ | refine QW.then_r ?_ | refine QW.block_n ?_ | refine QW.block_xe ?_ | refine QW.block_xn rfl ?_ | refine QW.block_r ?_))
 (repeat (first | refine CW.seq ?_ | refine QW.then_n ?_ | refine CW.block ?_ | refine CW.ret ?_ | refine CW.skip ?_ | refine CW.exit ?_ | refine QW.then_x ?_ | refine QW.then_r ?_ | refine QW.block_n ?_ | refine QW.block_xe ?_ | refine QW.block_xn rfl ?_ | refine QW.block_r ?_))
 refine CW.region ?_
 refine OW.rv (RV.assign rfl) rfl ?_
 refine OW.nil ?_
 (repeat (first | refine CW.seq ?_ | refine QW.then_n ?_ | refine CW.block ?_ | refine CW.ret ?_ | refine CW.skip ?_ | refine CW.exit ?_ | refine QW.then_x ?_ | refine QW.then_r ?_ | refine QW.block_n ?_ | refine QW.block_xe ?_ | refine QW.block_xn rfl ?_ | refine QW.block_r ?_))
 (repeat (first | refine CW.seq ?_ | refine QW.then_n ?_ | refine CW.block ?_ | refine CW.ret ?_ | refine CW.skip ?_ | refine CW.exit ?_ | refine QW.then_x ?_ | refine QW.then_r ?_ | refine QW.block_n ?_ | refine QW.block_xe ?_ | refine QW.block_xn rfl ?_ | refine QW.block_r ?_))
 refine CW.region ?_
 refine OW.rv (RV.assign rfl) rfl ?_
 refine OW.nil ?_
 (repeat (first | refine CW.seq ?_ | refine QW.then_n ?_ | refine CW.block ?_ | refine CW.ret ?_ | refine CW.skip ?_ | refine CW.exit ?_ | refine QW.then_x ?_ | refine QW.then_r ?_ | refine QW.block_n ?_ | refine QW.block_xe ?_ | refine QW.block_xn rfl ?_ | refine QW.block_r ?_))
 refine CW.loopJ (fun k L' M' => ∃ (i : Nat) (ls : List Lt) (ob : Option Nat) (c : Nat) (r : List Value), k = a0.length - i ∧ i ≤ a0.length ∧ ls.length = i ∧ ls.map (·.t) = a0.take i ∧ (∀ x ∈ ls, x.Ok mk03) ∧ OwnS ob i c 1 (ls.map Lt.cell) r ∧ L' = [(0, .slice A0 a0.length c0), (3, sl ob 0 i c), (4, .int .i64 (i : Int))] ∧ M' = (ob, blk (ls.map Lt.cell ++ r) 24) :: (lents 5 mk03 ls ++ N)) (k0 := a0.length) ⟨0, [], none, 0, [], rfl, by omega, rfl, rfl, (fun x hx => by cases hx), OwnS.nil, rfl, rfl⟩ ⟨rfl, rfl, rfl, trivial⟩ (fun w m => m.nil_ent _) ?_
 rintro k L' M' ⟨i, ls, ob, c, r, rfl, hi, hl, ht, hok, ho, rfl, rfl⟩
 (repeat (first | refine CW.seq ?_ | refine QW.then_n ?_ | refine CW.block ?_ | refine CW.ret ?_ | refine CW.skip ?_ | refine CW.exit ?_ | refine QW.then_x ?_ | refine QW.then_r ?_ | refine QW.block_n ?_ | refine QW.block_xe ?_ | refine QW.block_xn rfl ?_ | refine QW.block_r ?_))
 refine CW.region ?_
 refine OW.rv (RV.move rfl) rfl ?_
 refine OW.rv (RV.move rfl) rfl ?_
 refine OW.rv (RV.len rfl rfl) rfl ?_
 refine OW.rv (RV.lss rfl rfl) rfl ?_
 refine OW.nil ?_
 (repeat (first | refine CW.seq ?_ | refine QW.then_n ?_ | refine CW.block ?_ | refine CW.ret ?_ | refine CW.skip ?_ | refine CW.exit ?_ | refine QW.then_x ?_ | refine QW.then_r ?_ | refine QW.block_n ?_ | refine QW.block_xe ?_ | refine QW.block_xn rfl ?_ | refine QW.block_r ?_))
 (first | refine CW.cond_t rfl ?_ | refine CW.cond_f rfl ?_ | refine CW.cond_p rfl (fun hlt => ?_) (fun hlt => ?_) | refine CW.cond_np rfl (fun hlt => ?_) (fun hlt => ?_) | refine CW.cond rfl (fun hlt => ?_) (fun hlt => ?_))
 ·have h1 : i < a0.length := by omega
  have hx : a0[i]? = some a0[i] := List.getElem?_eq_getElem h1
  obtain ⟨cs, hr, hcs⟩ := ha0.get BsRd.len hx
  obtain ⟨A1, c1, e, v1⟩ := hr
  subst e
  (repeat (first | refine CW.seq ?_ | refine QW.then_n ?_ | refine CW.block ?_ | refine CW.ret ?_ | refine CW.skip ?_ | refine CW.exit ?_ | refine QW.then_x ?_ | refine QW.then_r ?_ | refine QW.block_n ?_ | refine QW.block_xe ?_ | refine QW.block_xn rfl ?_ | refine QW.block_r ?_))
  refine CW.region ?_
  refine OW.rv (RV.move rfl) rfl ?_
  refine OW.rv (RV.move rfl) rfl ?_
  refine OW.rv (RV.move rfl) rfl ?_
  refine OW.rv (RV.idx_r (i) rfl rfl rfl rfl rfl (va0.isSome (by decide) h1) (by omega)) rfl ?_
  refine OW.rv (RV.load_at rfl rfl rfl (fun w m => va0.cell (hΦ w m.tail.appR) (show cs0[i]? = some (.slice A1 a0[i].length c1) by have := hcs 0 _ rfl; simpa using this))) rfl ?_
  refine OW.callG Tryd.call10 rfl (waybilllaw03_lent_does w0 Φ _ (fun w m => hΦ w m.tail.appR) A1 c1 a0[i] a0[i] v1 (slent_eq _ (hm _ (List.getElem_mem h1)))) rfl rfl ?_
  rintro L1 M1 ⟨B, or0, kr, rr, o1, mx, e1, e2⟩
  rw [e1, e2]
  clear e1 e2 L1 M1
  obtain ⟨b, rfl⟩ : ∃ b, or0 = some b := by
   cases or0 with
   | some b => exact ⟨b, rfl⟩
   | none =>
    exfalso
    have q1 := o1.hn rfl
    have q2 := o1.hr
    rw [List.length_append, List.length_append, u8s_length, u8s_length, List.length_replicate] at q2
    omega
  refine OW.mem (M' := (⟨b, a0[i], kr, rr⟩ : Lt).ent 5 mk03 :: (ob, blk (ls.map Lt.cell ++ r) 24) :: (lents 5 mk03 ls ++ N)) (fun w m => m.sublist (List.Sublist.cons_cons _ (List.sublist_append_right _ _))) ?_
  refine OW.ofN (NV.bs1 rfl rfl rfl rfl rfl rfl) rfl (fun b2 => ?_)
  refine OW.rot2 ?_
  refine OW.appendOwn (s := 1) rfl rfl rfl rfl rfl rfl ho (fun w m => m.rdl (List.Mem.tail _ (List.Mem.head _)) (fun e => nomatch e)) rfl (by intro u hu; simp at hu; subst hu; rfl) (fun e => nomatch e) (by decide) (by decide) (by simp only [i24]; omega) rfl rfl (i + 1) ((ls ++ [(⟨b, a0[i], kr, rr⟩ : Lt)]).map Lt.cell) rfl (by rw [List.map_append]; rfl) (fun ob' r' c' o' => ?_)
  refine OW.rv (RV.assign rfl) rfl ?_
  refine OW.nil ?_
  (repeat (first | refine CW.seq ?_ | refine QW.then_n ?_ | refine CW.block ?_ | refine CW.ret ?_ | refine CW.skip ?_ | refine CW.exit ?_ | refine QW.then_x ?_ | refine QW.then_r ?_ | refine QW.block_n ?_ | refine QW.block_xe ?_ | refine QW.block_xn rfl ?_ | refine QW.block_r ?_))
  (repeat (first | refine CW.seq ?_ | refine QW.then_n ?_ | refine CW.block ?_ | refine CW.ret ?_ | refine CW.skip ?_ | refine CW.exit ?_ | refine QW.then_x ?_ | refine QW.then_r ?_ | refine QW.block_n ?_ | refine QW.block_xe ?_ | refine QW.block_xn rfl ?_ | refine QW.block_r ?_))
  refine CW.region ?_
  refine OW.rv (RV.move rfl) rfl ?_
  refine OW.rv (RV.add rfl rfl (by omega)) rfl ?_
  refine OW.rv (RV.assign rfl) rfl ?_
  refine OW.nil ?_
  (repeat (first | refine CW.seq ?_ | refine QW.then_n ?_ | refine CW.block ?_ | refine CW.ret ?_ | refine CW.skip ?_ | refine CW.exit ?_ | refine QW.then_x ?_ | refine QW.then_r ?_ | refine QW.block_n ?_ | refine QW.block_xe ?_ | refine QW.block_xn rfl ?_ | refine QW.block_r ?_))
  refine QW.againJ (k' := a0.length - (i + 1)) (by omega) ⟨i + 1, ls ++ [(⟨b, a0[i], kr, rr⟩ : Lt)], ob', c', r', rfl, by omega, by simp [hl], by rw [List.map_append, ht, List.take_add_one, hx]; rfl, ?_, o', rfl, rfl⟩ ⟨rfl, rfl, rfl, trivial⟩ (fun w m => lents_snoc (X := [_]) (x := ⟨b, a0[i], kr, rr⟩) (m.sublist (List.Sublist.cons_cons _ (List.sublist_cons_self _ _))))
  intro x hx
  rcases List.mem_append.1 hx with hx | hx
  ·exact hok x hx
  ·obtain rfl := List.mem_singleton.1 hx
   exact ⟨o1, by show a0[i].length + (List.replicate 70 165#8).length ≤ _; rw [List.length_replicate]; exact mx⟩
 ·have hie : i = a0.length := by omega
  subst hie
  rw [List.take_length] at ht
  (repeat (first | refine CW.seq ?_ | refine QW.then_n ?_ | refine CW.block ?_ | refine CW.ret ?_ | refine CW.skip ?_ | refine CW.exit ?_ | refine QW.then_x ?_ | refine QW.then_r ?_ | refine QW.block_n ?_ | refine QW.block_xe ?_ | refine QW.block_xn rfl ?_ | refine QW.block_r ?_))
  refine CW.region ?_
  refine OW.rv (RV.move rfl) rfl ?_
  refine OW.ofN (NV.bs1 rfl rfl rfl rfl rfl rfl) rfl (fun b1 => ?_)
  refine OW.ofN (NV.bs1 rfl rfl rfl rfl rfl rfl) rfl (fun b2 => ?_)
  refine OW.ofN (NV.bsN rfl rfl rfl (by decide) (by decide) rfl rfl rfl rfl) rfl (fun b3 => ?_)
  refine OW.rot3 ?_
  refine OW.appendOwn (s := 1) rfl rfl rfl rfl rfl rfl ho (fun w m => m.rdl (List.Mem.tail _ (List.Mem.head _)) (fun e => nomatch e)) rfl (by intro u hu; simp at hu; rcases hu with rfl | rfl <;> rfl) (fun e => nomatch e) (by decide) (by decide) (by simp only [i24]; omega) rfl rfl (a0.length + 2) (ls.map Lt.cell ++ ([⟨b1, [165#8], 1, []⟩, ⟨b2, [90#8], 1, []⟩] : List Lt).map Lt.cell) rfl rfl (fun ob' r' c' o' => ?_)
  refine OW.rv (RV.assign rfl) rfl ?_
  refine OW.nil ?_
  obtain ⟨b0, rfl⟩ : ∃ b, ob' = some b := by
   cases ob' with
   | some b => exact ⟨b, rfl⟩
   | none =>
    exfalso
    have q1 := o'.hn rfl
    have q2 := o'.le (by decide)
    omega
  have hcc := o'.le (by decide)
  (repeat (first | refine CW.seq ?_ | refine QW.then_n ?_ | refine CW.block ?_ | refine CW.ret ?_ | refine CW.skip ?_ | refine CW.exit ?_ | refine QW.then_x ?_ | refine QW.then_r ?_ | refine QW.block_n ?_ | refine QW.block_xe ?_ | refine QW.block_xn rfl ?_ | refine QW.block_r ?_))
  refine CW.region ?_
  refine OW.rv (RV.move rfl) rfl ?_
  refine OW.rv (RV.move rfl) rfl ?_
  refine OW.rv (RV.len rfl rfl) rfl ?_
  refine OW.rv (RV.cut_o (a0.length) rfl rfl rfl rfl rfl (by omega)) rfl ?_
  refine OW.rv (RV.assign rfl) rfl ?_
  refine OW.nil ?_
  (repeat (first | refine CW.seq ?_ | refine QW.then_n ?_ | refine CW.block ?_ | refine CW.ret ?_ | refine CW.skip ?_ | refine CW.exit ?_ | refine QW.then_x ?_ | refine QW.then_r ?_ | refine QW.block_n ?_ | refine QW.block_xe ?_ | refine QW.block_xn rfl ?_ | refine QW.block_r ?_))
  refine QW.retG (rs := [.tmp 2]) [sl (some b0) 0 a0.length c'] (lx 24 5 mk03 b0 r' [⟨b1, [165#8], 1, []⟩, ⟨b2, [90#8], 1, []⟩] ls) rfl ?_ rfl ?_ ?_ _ (.inl rfl)
  ·exact ⟨rfl, trivial⟩
  ·refine ⟨b0, c', r', _, ls, ht, hok, ?_, rfl, hcc, rfl, rfl⟩
   intro x hx
   simp only [List.mem_cons, List.not_mem_nil, or_false] at hx
   rcases hx with rfl | rfl
   ·exact one_ok _ _
   ·exact one_ok _ _
  ·intro w m
   have m2 := m.pick [0, 3, 2] 4 rfl rfl
   rw [List.append_assoc] at m2
   exact m2
theorem sha_HMAC_does (w0 : World) (Φ : Ctx) (N : List Ent) (hΦ : ∀ w, Mem w0 w N → Φ w) (A0 : Option Addr) (c0 : Nat) (key : List (BitVec 8)) (A1 : Option Addr) (c1 : Nat) (cs1 : List Value) (a1 : List (List (BitVec 8))) (vk : View Φ A0 key.length c0 1 (u8s key)) (va1 : View Φ A1 a1.length c1 1 cs1) (ha1 : Reps (BsRd Φ) cs1 a1)
  (hK : TabAt w0 1 constL) (hS : TabAt w0 0 startL) (hk : key.length ≤ 140737488351232) (hb : a1.flatten.length + 200 ≤ 140737488351232) :
  DoesG Tryd.prog 37 [.slice A0 key.length c0, .slice A1 a1.length c1] w0 [] N (fun v G => v = .agg (u8s (hmacV key a1.flatten).toList).toArray) := by
 have mk := vk.mx
 have m1 := va1.mx
 have hK64 := key0_length key
 refine DoesG.enter Tryd.func37 rfl Tryd.ntmps37 rfl (M := N) rfl ?_
 refine CW.seq (CW.region ?_)
 refine OW.alloc (l := u8s (List.replicate 32 0#8)) rfl (by rw [← u8s_rep']; rfl) rfl (fun b4 => ?_)
 refine OW.nil ?_
 (repeat (first | refine CW.seq ?_ | refine QW.then_n ?_ | refine CW.block ?_ | refine CW.ret ?_ | refine CW.skip ?_ | refine CW.exit ?_ | refine QW.then_x ?_ | refine QW.then_r ?_ | refine QW.block_n ?_ | refine QW.block_xe ?_ | refine QW.block_xn rfl ?_ | refine QW.block_r ?_))
 refine CW.region ?_
 refine OW.alloc (l := u8s (List.replicate 64 0#8)) rfl (by rw [← u8s_rep']; rfl) rfl (fun b5 => ?_)
 refine OW.nil ?_
 (repeat (first | refine CW.seq ?_ | refine QW.then_n ?_ | refine CW.block ?_ | refine CW.ret ?_ | refine CW.skip ?_ | refine CW.exit ?_ | refine QW.then_x ?_ | refine QW.then_r ?_ | refine QW.block_n ?_ | refine QW.block_xe ?_ | refine QW.block_xn rfl ?_ | refine QW.block_r ?_))
 refine CW.region ?_
 refine OW.rv (RV.move rfl) rfl ?_
 refine OW.rv (RV.len rfl rfl) rfl ?_
 refine OW.rv (RV.gtr rfl rfl) rfl ?_
 refine OW.slot (.bool (decide (64 < key.length))) (congrArg Value.bool (decide_eq_decide.2 (by omega))) ?_
 refine OW.nil (QW.then_n ?_)
 refine CW.cutJ (fun L' M' => L' = [(1, .slice A1 a1.length c1), (4, ptr (some b4) 0), (5, ptr (some b5) 0)] ∧ M' = (some b5, blk (u8s (key0 key)) 78) :: (some b4, blk (u8s (List.replicate 32 0#8)) 39) :: N) ?_ ?_
 ·rintro L' M' ⟨rfl, rfl⟩
  generalize hKK : key0 key = K at hK64
  have hkx : hmacV key a1.flatten = shaV (xorA 92#8 K ++ (shaV (xorA 54#8 K ++ a1.flatten)).toList) := by unfold hmacV; rw [hKK]
  rw [hkx]
  (repeat (first | refine CW.seq ?_ | refine QW.then_n ?_ | refine CW.block ?_ | refine CW.ret ?_ | refine CW.skip ?_ | refine CW.exit ?_ | refine QW.then_x ?_ | refine QW.then_r ?_ | refine QW.block_n ?_ | refine QW.block_xe ?_ | refine QW.block_xn rfl ?_ | refine QW.block_r ?_))
  refine CW.region ?_
  refine OW.rv (RV.loadW rfl (List.Mem.head _) rfl rfl rfl rfl ((u8s_length _).trans hK64)) rfl ?_
  refine OW.rv (RV.loadW rfl (List.Mem.head _) rfl rfl rfl rfl ((u8s_length _).trans hK64)) rfl ?_
  refine OW.alloc (l := u8s (List.replicate 64 0#8)) rfl (by rw [← u8s_rep']; rfl) rfl (fun b7 => ?_)
  refine OW.alloc (l := u8s (List.replicate 64 0#8)) rfl (by rw [← u8s_rep']; rfl) rfl (fun b8 => ?_)
  refine OW.rot1 ?_
  refine OW.sv (SV.storeW rfl rfl rfl (u8s_one _) rfl ((u8s_length _).trans (List.length_replicate ..)) ((u8s_length _).trans hK64)) ?_
  refine OW.rot1 ?_
  refine OW.sv (SV.storeW rfl rfl rfl (u8s_one _) rfl ((u8s_length _).trans (List.length_replicate ..)) ((u8s_length _).trans hK64)) ?_
  refine OW.nil ?_
  (repeat (first | refine CW.seq ?_ | refine QW.then_n ?_ | refine CW.block ?_ | refine CW.ret ?_ | refine CW.skip ?_ | refine CW.exit ?_ | refine QW.then_x ?_ | refine QW.then_r ?_ | refine QW.block_n ?_ | refine QW.block_xe ?_ | refine QW.block_xn rfl ?_ | refine QW.block_r ?_))
  refine CW.region ?_
  refine OW.rv (RV.move rfl) rfl ?_
  refine OW.nil ?_
  (repeat (first | refine CW.seq ?_ | refine QW.then_n ?_ | refine CW.block ?_ | refine CW.ret ?_ | refine CW.skip ?_ | refine CW.exit ?_ | refine QW.then_x ?_ | refine QW.then_r ?_ | refine QW.block_n ?_ | refine QW.block_xe ?_ | refine QW.block_xn rfl ?_ | refine QW.block_r ?_))
  refine CW.loopJ (fun k L' M' => ∃ i : Nat, k = 64 - i ∧ i ≤ 64 ∧ L' = [(1, .slice A1 a1.length c1), (4, ptr (some b4) 0), (7, ptr (some b7) 0), (8, ptr (some b8) 0), (28, .int .i64 (i : Int))] ∧ M' = (some b8, blk (u8s (xorTo 92#8 K i)) 78) :: (some b7, blk (u8s (xorTo 54#8 K i)) 78) :: (some b4, blk (u8s (List.replicate 32 0#8)) 39) :: N) (k0 := 64) ⟨0, rfl, by omega, rfl, rfl⟩ ⟨rfl, rfl, rfl, rfl, rfl, trivial⟩ (fun w m => by rw [xorTo_zero, xorTo_zero]; exact m.pick [0, 1] 3 rfl rfl) ?_
  rintro k L' M' ⟨i, rfl, hi, rfl, rfl⟩
  refine CW.seq (CW.region ?_)
  refine OW.rv (RV.lss rfl rfl) rfl ?_
  refine OW.slot (.bool (decide (i < 64))) (congrArg Value.bool (decide_eq_decide.2 (by omega))) ?_
  refine OW.nil (QW.then_n (CW.seq ?_))
  by_cases h1 : i < 64
  ·refine CW.is_t rfl (decide_eq_true h1) ?_
   have hx1 := xorTo_get 54#8 K (i := i) (by omega)
   have hx2 := xorTo_get 92#8 K (i := i) (by omega)
   (repeat (first | refine CW.seq ?_ | refine QW.then_n ?_ | refine CW.block ?_ | refine CW.ret ?_ | refine CW.skip ?_ | refine CW.exit ?_ | refine QW.then_x ?_ | refine QW.then_r ?_ | refine QW.block_n ?_ | refine QW.block_xe ?_ | refine QW.block_xn rfl ?_ | refine QW.block_r ?_))
   refine CW.region ?_
   refine OW.rv (RV.move rfl) rfl ?_
   refine OW.rv (RV.assign rfl) rfl ?_
   refine OW.nil ?_
   (repeat (first | refine CW.seq ?_ | refine QW.then_n ?_ | refine CW.block ?_ | refine CW.ret ?_ | refine CW.skip ?_ | refine CW.exit ?_ | refine QW.then_x ?_ | refine QW.then_r ?_ | refine QW.block_n ?_ | refine QW.block_xe ?_ | refine QW.block_xn rfl ?_ | refine QW.block_r ?_))
   refine CW.region ?_
   refine OW.rv (RV.move rfl) rfl ?_
   refine OW.rv (RV.idx_a (i) rfl rfl rfl rfl rfl (by omega)) rfl ?_
   refine OW.rv (RV.load rfl (List.Mem.tail _ (List.Mem.head _)) rfl rfl rfl (by rw [Nat.zero_add]; exact u8s_at hx1)) rfl ?_
   refine OW.rv (RV.xor8 rfl (by first | rfl | exact lit8 _ rfl) rfl (by first | rfl | exact lit8 _ rfl)) rfl ?_
   refine OW.rv (RV.idx_a (i) rfl rfl rfl rfl rfl (by omega)) rfl ?_
   refine OW.rot1 ?_
   refine OW.sv (SV.store rfl rfl rfl rfl rfl (by rw [u8s_length, xorTo_length]; omega)) ?_
   refine OW.cells (u8s (xorTo 54#8 K (i + 1))) (by rw [Nat.zero_add, u8s_set', xorTo_set]) ?_
   refine OW.nil ?_
   (repeat (first | refine CW.seq ?_ | refine QW.then_n ?_ | refine CW.block ?_ | refine CW.ret ?_ | refine CW.skip ?_ | refine CW.exit ?_ | refine QW.then_x ?_ | refine QW.then_r ?_ | refine QW.block_n ?_ | refine QW.block_xe ?_ | refine QW.block_xn rfl ?_ | refine QW.block_r ?_))
   refine CW.region ?_
   refine OW.rv (RV.move rfl) rfl ?_
   refine OW.rv (RV.idx_a (i) rfl rfl rfl rfl rfl (by omega)) rfl ?_
   refine OW.rv (RV.load rfl (List.Mem.tail _ (List.Mem.head _)) rfl rfl rfl (by rw [Nat.zero_add]; exact u8s_at hx2)) rfl ?_
   refine OW.rv (RV.xor8 rfl (by first | rfl | exact lit8 _ rfl) rfl (by first | rfl | exact lit8 _ rfl)) rfl ?_
   refine OW.rv (RV.idx_a (i) rfl rfl rfl rfl rfl (by omega)) rfl ?_
   refine OW.rot1 ?_
   refine OW.sv (SV.store rfl rfl rfl rfl rfl (by rw [u8s_length, xorTo_length]; omega)) ?_
   refine OW.cells (u8s (xorTo 92#8 K (i + 1))) (by rw [Nat.zero_add, u8s_set', xorTo_set]) ?_
   refine OW.nil ?_
   (repeat (first | refine CW.seq ?_ | refine QW.then_n ?_ | refine CW.block ?_ | refine CW.ret ?_ | refine CW.skip ?_ | refine CW.exit ?_ | refine QW.then_x ?_ | refine QW.then_r ?_ | refine QW.block_n ?_ | refine QW.block_xe ?_ | refine QW.block_xn rfl ?_ | refine QW.block_r ?_))
   refine CW.region ?_
   refine OW.rv (RV.add rfl rfl (by omega)) rfl ?_
   refine OW.rv (RV.move rfl) rfl ?_
   refine OW.nil ?_
   exact QW.againJ (k' := 64 - (i + 1)) (by omega) ⟨i + 1, rfl, by omega, rfl, rfl⟩ ⟨rfl, rfl, rfl, rfl, rfl, trivial⟩ (fun w m => m)
  ·have hie : i = 64 := by omega
   subst hie
   rw [xorTo_all 54#8 hK64, xorTo_all 92#8 hK64]
   have hl7 : (xorA 54#8 K).length = 64 := by rw [xorA_length, hK64]
   have hl8 : (xorA 92#8 K).length = 64 := by rw [xorA_length, hK64]
   generalize xorA 54#8 K = KI at hl7
   generalize xorA 92#8 K = KO at hl8
   refine CW.is_f rfl (decide_eq_false h1) ?_
   (repeat (first | refine CW.seq ?_ | refine QW.then_n ?_ | refine CW.block ?_ | refine CW.ret ?_ | refine CW.skip ?_ | refine CW.exit ?_ | refine QW.then_x ?_ | refine QW.then_r ?_ | refine QW.block_n ?_ | refine QW.block_xe ?_ | refine QW.block_xn rfl ?_ | refine QW.block_r ?_))
   refine CW.region ?_
   refine OW.callG Tryd.call30 rfl (New_does w0 _) rfl rfl ?_
   rintro L1 M1 ⟨b, e1, e2⟩
   rw [e1, e2]
   clear e1 e2 L1 M1
   refine OW.rv (RV.assign rfl) rfl ?_
   refine OW.nil ?_
   (repeat (first | refine CW.seq ?_ | refine QW.then_n ?_ | refine CW.block ?_ | refine CW.ret ?_ | refine CW.skip ?_ | refine CW.exit ?_ | refine QW.then_x ?_ | refine QW.then_r ?_ | refine QW.block_n ?_ | refine QW.block_xe ?_ | refine QW.block_xn rfl ?_ | refine QW.block_r ?_))
   refine CW.region ?_
   refine OW.rv (RV.move rfl) rfl ?_
   refine OW.rv (RV.arr_all rfl rfl rfl) rfl ?_
   refine OW.slot (.slice (some ⟨b7, 0, none⟩) KI.length 64) (by rw [hl7]; rfl) ?_
   have v7 : View (fun w => Mem w0 w ((some b8, blk (u8s KO) 78) :: (some b7, blk (u8s KI) 78) :: (some b4, blk (u8s (List.replicate 32 0#8)) 39) :: N)) (some ⟨b7, 0, none⟩) KI.length 64 1 (u8s KI) := ⟨fun w m => m.rdl (ob := some b7) (List.Mem.tail _ (List.Mem.head _)) (fun e => nomatch e), fun _ => rfl, by rw [u8s_length]; omega, by omega, by omega⟩
   have v8 : View (fun w => Mem w0 w ((some b8, blk (u8s KO) 78) :: (some b7, blk (u8s KI) 78) :: (some b4, blk (u8s (List.replicate 32 0#8)) 39) :: N)) (some ⟨b8, 0, none⟩) KO.length 64 1 (u8s KO) := ⟨fun w m => m.rdl (ob := some b8) (List.Mem.head _) (fun e => nomatch e), fun _ => rfl, by rw [u8s_length]; omega, by omega, by omega⟩
   refine OW.mem (M' := (some b, blk (u32s (List.replicate 8 0#32) ++ [sl none 0 ([] : List (BitVec 8)).length 0, .int .i64 0]) 56) :: (none, blk ([] ++ []) 5) :: (some b8, blk (u8s KO) 78) :: (some b7, blk (u8s KI) 78) :: (some b4, blk (u8s (List.replicate 32 0#8)) 39) :: N) (fun w m => (m.nil_ent (blk ([] ++ []) 5)).pick [1, 0] 2 rfl rfl) ?_
   refine OW.callG Tryd.call25 rfl (Write_does w0 _ _ (fun w m => m) hK hS b none 0 [] (List.replicate 8 0#32) [] 0 [] zH_HT OwnS.nil (some ⟨b7, 0, none⟩) 64 KI v7 (by rw [List.length_nil]; omega)) rfl rfl ?_
   rintro L1 M1 ⟨ob1, c1', r1, s1, rest1, n1, hT1, ho1, e1, e2⟩
   rw [e1, e2]
   clear e1 e2 L1 M1
   rw [List.nil_append] at hT1
   refine OW.nil ?_
   (repeat (first | refine CW.seq ?_ | refine QW.then_n ?_ | refine CW.block ?_ | refine CW.ret ?_ | refine CW.skip ?_ | refine CW.exit ?_ | refine QW.then_x ?_ | refine QW.then_r ?_ | refine QW.block_n ?_ | refine QW.block_xe ?_ | refine QW.block_xn rfl ?_ | refine QW.block_r ?_))
   refine CW.region ?_
   refine OW.rv (RV.move rfl) rfl ?_
   refine OW.rv (RV.len rfl rfl) rfl ?_
   refine OW.rv (RV.move rfl) rfl ?_
   refine OW.nil ?_
   (repeat (first | refine CW.seq ?_ | refine QW.then_n ?_ | refine CW.block ?_ | refine CW.ret ?_ | refine CW.skip ?_ | refine CW.exit ?_ | refine QW.then_x ?_ | refine QW.then_r ?_ | refine QW.block_n ?_ | refine QW.block_xe ?_ | refine QW.block_xn rfl ?_ | refine QW.block_r ?_))
   refine CW.loopJ (fun k L' M' => ∃ (i : Nat) (s : List (BitVec 32)) (rest : List (BitVec 8)) (n : Int) (ob : Option Nat) (c : Nat) (r : List Value), k = a1.length - i ∧ i ≤ a1.length ∧ HT s rest n (KI ++ (a1.take i).flatten) ∧ OwnS ob rest.length c 1 (u8s rest) r ∧ L' = [(4, ptr (some b4) 0), (8, ptr (some b8) 0), (10, ptr (some b) 0), (46, .slice A1 a1.length c1), (47, .int .i64 (a1.length : Int)), (48, .int .i64 (i : Int))] ∧ M' = (some b, blk (u32s s ++ [sl ob 0 rest.length c, .int .i64 n]) 56) :: (ob, blk (u8s rest ++ r) 5) :: (some b8, blk (u8s KO) 78) :: (some b7, blk (u8s KI) 78) :: (some b4, blk (u8s (List.replicate 32 0#8)) 39) :: N) (k0 := a1.length) ⟨0, s1, rest1, n1, ob1, c1', r1, rfl, by omega, by simpa using hT1, ho1, rfl, rfl⟩ ⟨rfl, rfl, rfl, rfl, rfl, rfl, trivial⟩ (fun w m => m) ?_
   rintro k L' M' ⟨i, s, rest, n, ob, c, r, rfl, hi, hT, ho, rfl, rfl⟩
   refine CW.seq (CW.region ?_)
   refine OW.rv (RV.lss rfl rfl) rfl ?_
   refine OW.slot (.bool (decide (i < a1.length))) (congrArg Value.bool (decide_eq_decide.2 (by omega))) ?_
   refine OW.nil (QW.then_n (CW.seq ?_))
   by_cases h2 : i < a1.length
   ·refine CW.is_t rfl (decide_eq_true h2) ?_
    have hx : a1[i]? = some a1[i] := List.getElem?_eq_getElem h2
    obtain ⟨cs, hr, hcs⟩ := ha1.get BsRd.len hx
    obtain ⟨A2, c2, e, v2⟩ := hr
    subst e
    have hfl : (a1.take (i + 1)).flatten = (a1.take i).flatten ++ a1[i] := by rw [List.take_add_one, hx, Option.toList_some, List.flatten_append]; simp
    have hle : ((a1.take (i + 1)).flatten).length ≤ a1.flatten.length := by
     have h2 : a1.flatten = (a1.take (i + 1)).flatten ++ (a1.drop (i + 1)).flatten := by rw [← List.flatten_append, List.take_append_drop]
     rw [h2, List.length_append]
     omega
    rw [hfl, List.length_append] at hle
    (repeat (first | refine CW.seq ?_ | refine QW.then_n ?_ | refine CW.block ?_ | refine CW.ret ?_ | refine CW.skip ?_ | refine CW.exit ?_ | refine QW.then_x ?_ | refine QW.then_r ?_ | refine QW.block_n ?_ | refine QW.block_xe ?_ | refine QW.block_xn rfl ?_ | refine QW.block_r ?_))
    refine CW.region ?_
    refine OW.rv (RV.idx_r (i) rfl rfl rfl rfl rfl (va1.isSome (by decide) h2) (by omega)) rfl ?_
    refine OW.rv (RV.load_at rfl rfl rfl (fun w m => va1.cell (hΦ w (m.drop 5)) (show cs1[i]? = some (.slice A2 a1[i].length c2) by have := hcs 0 _ rfl; simpa using this))) rfl ?_
    refine OW.rv (RV.assign rfl) rfl ?_
    refine OW.nil ?_
    (repeat (first | refine CW.seq ?_ | refine QW.then_n ?_ | refine CW.block ?_ | refine CW.ret ?_ | refine CW.skip ?_ | refine CW.exit ?_ | refine QW.then_x ?_ | refine QW.then_r ?_ | refine QW.block_n ?_ | refine QW.block_xe ?_ | refine QW.block_xn rfl ?_ | refine QW.block_r ?_))
    refine CW.region ?_
    refine OW.rv (RV.move rfl) rfl ?_
    refine OW.rv (RV.move rfl) rfl ?_
    refine OW.callG Tryd.call25 rfl (Write_does w0 Φ ((some b8, blk (u8s KO) 78) :: (some b7, blk (u8s KI) 78) :: (some b4, blk (u8s (List.replicate 32 0#8)) 39) :: N) (fun w m => hΦ w (m.drop 3)) hK hS b ob c r s rest n _ hT ho A2 c2 a1[i] v2 (by rw [List.length_append]; omega)) rfl rfl ?_
    rintro L1 M1 ⟨ob', c', r', s', rest', n', hT', ho', e1, e2⟩
    rw [e1, e2]
    clear e1 e2 L1 M1
    refine OW.nil ?_
    (repeat (first | refine CW.seq ?_ | refine QW.then_n ?_ | refine CW.block ?_ | refine CW.ret ?_ | refine CW.skip ?_ | refine CW.exit ?_ | refine QW.then_x ?_ | refine QW.then_r ?_ | refine QW.block_n ?_ | refine QW.block_xe ?_ | refine QW.block_xn rfl ?_ | refine QW.block_r ?_))
    refine CW.region ?_
    refine OW.rv (RV.add rfl rfl (by omega)) rfl ?_
    refine OW.rv (RV.move rfl) rfl ?_
    refine OW.nil ?_
    exact QW.againJ (k' := a1.length - (i + 1)) (by omega) ⟨i + 1, s', rest', n', ob', c', r', rfl, by omega, by rw [hfl, ← List.append_assoc]; exact hT', ho', rfl, rfl⟩ ⟨rfl, rfl, rfl, rfl, rfl, rfl, trivial⟩ (fun w m => m)
   ·have hie : i = a1.length := by omega
    subst hie
    rw [List.take_length] at hT
    refine CW.is_f rfl (decide_eq_false h2) ?_
    (repeat (first | refine CW.seq ?_ | refine QW.then_n ?_ | refine CW.block ?_ | refine CW.ret ?_ | refine CW.skip ?_ | refine CW.exit ?_ | refine QW.then_x ?_ | refine QW.then_r ?_ | refine QW.block_n ?_ | refine QW.block_xe ?_ | refine QW.block_xn rfl ?_ | refine QW.block_r ?_))
    refine CW.region ?_
    refine OW.rv (RV.move rfl) rfl ?_
    refine OW.callG Tryd.call28 rfl (HSum_does w0 ((some b8, blk (u8s KO) 78) :: (some b7, blk (u8s KI) 78) :: (some b4, blk (u8s (List.replicate 32 0#8)) 39) :: N) hK hS b ob c r s rest n _ hT ho (by rw [List.length_append]; omega)) rfl rfl ?_
    rintro L1 M1 ⟨e1, e2⟩
    rw [e1, e2]
    clear e1 e2 L1 M1
    refine OW.slot (.agg (u8s (shaV (KI ++ a1.flatten)).toList).toArray) rfl ?_
    have hone := ssum_eq3 [KO, (shaV (KI ++ a1.flatten)).toList] (by simp [hl8])
    have hflat : ([KO, (shaV (KI ++ a1.flatten)).toList] : List (List (BitVec 8))).flatten = KO ++ (shaV (KI ++ a1.flatten)).toList := by simp
    rw [hflat] at hone
    generalize shaV (KO ++ (shaV (KI ++ a1.flatten)).toList) = RR at hone
    generalize shaV (KI ++ a1.flatten) = FF at hone
    refine OW.alloc (l := u8s (List.replicate 32 0#8)) rfl (by rw [← u8s_rep']; rfl) rfl (fun b13 => ?_)
    refine OW.sv (SV.storeW rfl rfl rfl (u8s_one _) rfl ((u8s_length _).trans (List.length_replicate ..)) ((u8s_length _).trans Vector.length_toList)) ?_
    refine OW.nil ?_
    (repeat (first | refine CW.seq ?_ | refine QW.then_n ?_ | refine CW.block ?_ | refine CW.ret ?_ | refine CW.skip ?_ | refine CW.exit ?_ | refine QW.then_x ?_ | refine QW.then_r ?_ | refine QW.block_n ?_ | refine QW.block_xe ?_ | refine QW.block_xn rfl ?_ | refine QW.block_r ?_))
    refine CW.drawsU 4 mixed (by kernel_rfl) rfl ?_
    refine UW.rv 0 rfl (by kernel_rfl) rfl (RV.arr_all rfl rfl rfl) rfl ?_
    refine UW.slot (.slice (some ⟨b8, 0, none⟩) KO.length 64) (by rw [hl8]; rfl) ?_
    refine UW.rv 1 rfl (by kernel_rfl) rfl (RV.arr_all rfl rfl rfl) rfl ?_
    refine UW.slot (.slice (some ⟨b13, 0, none⟩) FF.toList.length 32) (by rw [Vector.length_toList]; rfl) ?_
    refine UW.new 2 rfl (by kernel_rfl) rfl (NV.bsN rfl rfl rfl (by decide) (by decide) rfl rfl rfl rfl) rfl (fun b20 => ?_)
    have w8 : View (fun w => Mem w0 w ((some b20, blk [.slice (some ⟨b8, 0, none⟩) KO.length 64, .slice (some ⟨b13, 0, none⟩) FF.toList.length 32] 24) :: (some b13, blk (u8s FF.toList) 39) :: (some b, blk (u32s s ++ [sl ob 0 rest.length c, .int .i64 n]) 56) :: (ob, blk (u8s rest ++ r) 5) :: (some b8, blk (u8s KO) 78) :: (some b7, blk (u8s KI) 78) :: (some b4, blk (u8s (List.replicate 32 0#8)) 39) :: N)) (some ⟨b8, 0, none⟩) KO.length 64 1 (u8s KO) := v8.mono fun w m => m.drop 4
    have w13 : View (fun w => Mem w0 w ((some b20, blk [.slice (some ⟨b8, 0, none⟩) KO.length 64, .slice (some ⟨b13, 0, none⟩) FF.toList.length 32] 24) :: (some b13, blk (u8s FF.toList) 39) :: (some b, blk (u32s s ++ [sl ob 0 rest.length c, .int .i64 n]) 56) :: (ob, blk (u8s rest ++ r) 5) :: (some b8, blk (u8s KO) 78) :: (some b7, blk (u8s KI) 78) :: (some b4, blk (u8s (List.replicate 32 0#8)) 39) :: N)) (some ⟨b13, 0, none⟩) FF.toList.length 32 1 (u8s FF.toList) := ⟨fun w m => m.rdl (ob := some b13) (List.Mem.tail _ (List.Mem.head _)) (fun e => nomatch e), fun _ => rfl, by rw [u8s_length]; omega, by rw [Vector.length_toList]; exact Nat.le_refl _, by rw [Vector.length_toList]; omega⟩
    have w20 : View (fun w => Mem w0 w ((some b20, blk [.slice (some ⟨b8, 0, none⟩) KO.length 64, .slice (some ⟨b13, 0, none⟩) FF.toList.length 32] 24) :: (some b13, blk (u8s FF.toList) 39) :: (some b, blk (u32s s ++ [sl ob 0 rest.length c, .int .i64 n]) 56) :: (ob, blk (u8s rest ++ r) 5) :: (some b8, blk (u8s KO) 78) :: (some b7, blk (u8s KI) 78) :: (some b4, blk (u8s (List.replicate 32 0#8)) 39) :: N)) (some ⟨b20, 0, none⟩) ([KO, FF.toList] : List (List (BitVec 8))).length 2 1 [.slice (some ⟨b8, 0, none⟩) KO.length 64, .slice (some ⟨b13, 0, none⟩) FF.toList.length 32] := ⟨fun w m => m.rdl (ob := some b20) (List.Mem.head _) (fun e => nomatch e), fun _ => rfl, rfl, by show 2 ≤ 2; omega, by show 2 ≤ _; omega⟩
    refine UW.callG 3 rfl (by kernel_rfl) rfl Tryd.call19 rfl (fun N' hN' => shaSum_does w0 _ N' (fun w m => hN' w m) _ _ _ [KO, FF.toList] RR w20 (.cons (c := [_]) (BsRd.mk w8) (.cons (c := [_]) (BsRd.mk w13) .nil)) hK hS hone) rfl ?_
    rintro _ G1 rfl
    refine UW.mem (M' := (some b4, blk (u8s (List.replicate 32 0#8)) 39) :: N) (fun w m => m.appR.drop 6) ?_
    refine UW.nil (by kernel_rfl) ?_
    refine OW.sv (SV.storeW rfl rfl rfl (u8s_one _) rfl ((u8s_length _).trans (List.length_replicate ..)) ((u8s_length _).trans Vector.length_toList)) ?_
    refine OW.nil ?_
    (repeat (first | refine CW.seq ?_ | refine QW.then_n ?_ | refine CW.block ?_ | refine CW.ret ?_ | refine CW.skip ?_ | refine CW.exit ?_ | refine QW.then_x ?_ | refine QW.then_r ?_ | refine QW.block_n ?_ | refine QW.block_xe ?_ | refine QW.block_xn rfl ?_ | refine QW.block_r ?_))
    refine QW.retG (rs := [.cell 4 39]) [.agg (u8s RR.toList).toArray] [] rfl ?_ rfl ?_ ?_ _ (.inl rfl)
    ·exact ⟨⟨_, _, _, _, rfl, (List.Mem.head _), rfl, rfl, (congrArg some ((u8s_length _).trans Vector.length_toList).symm), rfl⟩, trivial⟩
    ·rfl
    ·exact fun w m => m.tail
 ·by_cases h0 : 64 < key.length
  ·refine CW.is_t rfl (decide_eq_true h0) ?_
   have hk0 : key0 key = shaR key ++ List.replicate 32 0#8 := by unfold key0; rw [if_pos h0]
   rw [hk0]
   have hone := ssum_one key hk
   have hsv : shaR key = (shaV key).toList := rfl
   rw [hsv]
   generalize shaV key = DD at hone
   refine CW.seq (CW.region ?_)
   refine OW.rv (RV.move rfl) rfl ?_
   refine OW.ofN (NV.bs1 rfl rfl rfl rfl rfl rfl) rfl (fun b9 => ?_)
   have vk2 : View (fun w => Mem w0 w ((some b9, blk [.slice A0 key.length c0] 24) :: (some b5, blk (u8s (List.replicate 64 0#8)) 78) :: (some b4, blk (u8s (List.replicate 32 0#8)) 39) :: N)) A0 key.length c0 1 (u8s key) := vk.mono fun w m => hΦ w (m.drop 3)
   have w9 : View (fun w => Mem w0 w ((some b9, blk [.slice A0 key.length c0] 24) :: (some b5, blk (u8s (List.replicate 64 0#8)) 78) :: (some b4, blk (u8s (List.replicate 32 0#8)) 39) :: N)) (some ⟨b9, 0, none⟩) ([key] : List (List (BitVec 8))).length 1 1 [.slice A0 key.length c0] := ⟨fun w m => m.rdl (ob := some b9) (List.Mem.head _) (fun e => nomatch e), fun _ => rfl, rfl, by show 1 ≤ 1; omega, by show 1 ≤ _; omega⟩
   refine OW.callG Tryd.call19 rfl (shaSum_does w0 _ _ (fun w m => m) _ _ _ [key] DD w9 (Reps.one (BsRd.mk vk2)) hK hS hone) rfl rfl ?_
   rintro _ G1 rfl
   refine OW.mem (M' := (some b5, blk (u8s (List.replicate 64 0#8)) 78) :: (some b4, blk (u8s (List.replicate 32 0#8)) 39) :: N) (fun w m => m.appR.tail) ?_
   refine OW.alloc (l := u8s (List.replicate 32 0#8)) rfl (by rw [← u8s_rep']; rfl) rfl (fun b6 => ?_)
   refine OW.sv (SV.storeW rfl rfl rfl (u8s_one _) rfl ((u8s_length _).trans (List.length_replicate ..)) ((u8s_length _).trans Vector.length_toList)) ?_
   refine OW.nil ?_
   (repeat (first | refine CW.seq ?_ | refine QW.then_n ?_ | refine CW.block ?_ | refine CW.ret ?_ | refine CW.skip ?_ | refine CW.exit ?_ | refine QW.then_x ?_ | refine QW.then_r ?_ | refine QW.block_n ?_ | refine QW.block_xe ?_ | refine QW.block_xn rfl ?_ | refine QW.block_r ?_))
   refine CW.drawsU 2 mixed (by kernel_rfl) rfl ?_
   refine UW.rv 0 rfl (by kernel_rfl) rfl (RV.arr_all rfl rfl rfl) rfl ?_
   refine UW.rv 1 rfl (by kernel_rfl) rfl (RV.arr_all rfl rfl rfl) rfl ?_
   refine UW.nil (by kernel_rfl) ?_
   refine OW.rot1 ?_
   refine OW.copy (ob := some b5) (off := 0) (l := u8s (List.replicate 64 0#8)) (te := 78) rfl rfl rfl rfl (fun h => nomatch h) (by rw [u8s_length, List.length_replicate]; omega) (fun w m => m.rdl (ob := some b6) (List.Mem.tail _ (List.Mem.head _)) (fun e => nomatch e)) ((u8s_length _).trans Vector.length_toList) (u8s_one _) (fun e => nomatch e) rfl ?_
   refine OW.cells (u8s (DD.toList ++ List.replicate 32 0#8)) (by
    have hl : DD.toList.length = 32 := Vector.length_toList
    rw [show min 32 64 = 32 by rfl, List.take_of_length_le (by rw [u8s_length]; omega), spl_front _ _ (by rw [u8s_length, u8s_length, List.length_replicate]; omega), u8s_length, hl, ← u8s_app]
    rfl) ?_
   refine OW.nil ?_
   exact QW.join ⟨rfl, rfl⟩ ⟨rfl, rfl, rfl, trivial⟩ (fun w m => m.pick [0, 2] 3 rfl rfl)
  ·refine CW.is_f rfl (decide_eq_false h0) ?_
   have hk0 : key0 key = key ++ List.replicate (64 - key.length) 0#8 := by unfold key0; rw [if_neg h0]
   rw [hk0]
   refine CW.region ?_
   refine OW.rv (RV.arr_all rfl rfl rfl) rfl ?_
   refine OW.rv (RV.move rfl) rfl ?_
   refine OW.copy (ob := some b5) (off := 0) (l := u8s (List.replicate 64 0#8)) (te := 78) rfl rfl rfl rfl (fun h => nomatch h) (by rw [u8s_length, List.length_replicate]; omega) (fun w m => vk.rd w (hΦ w (m.drop 2))) (u8s_length _) (u8s_one _) (vk.zero (by decide)) rfl ?_
   refine OW.cells (u8s (key ++ List.replicate (64 - key.length) 0#8)) (by
    rw [Nat.min_eq_left (by omega), List.take_of_length_le (by rw [u8s_length]; omega), spl_front _ _ (by rw [u8s_length, u8s_length, List.length_replicate]; omega), u8s_length, ← u8s_app]
    congr 1
    unfold u8s
    rw [← List.map_drop, List.drop_replicate]) ?_
   refine OW.nil ?_
   exact QW.join ⟨rfl, rfl⟩ ⟨rfl, rfl, rfl, trivial⟩ (fun w m => m)
theorem waybilllaw03_ShaCodes_does (w0 : World) (Φ : Ctx) (N : List Ent) (hΦ : ∀ w, Mem w0 w N → Φ w) (AK : Option Addr) (cK : Nat) (key : List (BitVec 8)) (A0 : Option Addr) (c0 : Nat) (cs0 : List Value) (a0 : List (List (BitVec 8))) (vk : View Φ AK key.length cK 1 (u8s key)) (va0 : View Φ A0 a0.length c0 1 cs0) (ha0 : Reps (BsRd Φ) cs0 a0)
  (hK : TabAt w0 1 constL) (hS : TabAt w0 0 startL)
  (hkl : key.length + 70 ≤ 140737488351232) (hb : (a0.length + 2) * 24 ≤ 140737488355328) (hm : a0.flatten.length + 200 ≤ 140737488351232) :
  DoesG Tryd.prog 9 [.slice AK key.length cK, .slice A0 a0.length c0] w0 [] N (fun v G => v = .bool true) := by
 have hm1 : ∀ t ∈ a0, t.length + 70 ≤ 140737488355328 := fun t ht => by have := mem_flat3 ht; omega
 have hR1 := rhmac_eq key a0 (by omega) hm
 have hD1 : hmacV key a0.flatten = hmacV key a0.flatten := rfl
 have m1 := va0.mx
 refine DoesG.enter Tryd.func9 rfl Tryd.ntmps9 rfl (M := N) rfl ?_
 (repeat (first | refine CW.seq ?_ | refine QW.then_n ?_ | refine CW.block ?_ | refine CW.ret ?_ | refine CW.skip ?_ | refine CW.exit ?_ | refine QW.then_x ?_ | refine QW.then_r ?_ | refine QW.block_n ?_ | refine QW.block_xe ?_ | refine QW.block_xn rfl ?_ | refine QW.block_r ?_))
 refine CW.region ?_
 refine OW.rv (RV.assign rfl) rfl ?_
 refine OW.nil ?_
 (repeat (first | refine CW.seq ?_ | refine QW.then_n ?_ | refine CW.block ?_ | refine CW.ret ?_ | refine CW.skip ?_ | refine CW.exit ?_ | refine QW.then_x ?_ | refine QW.then_r ?_ | refine QW.block_n ?_ | refine QW.block_xe ?_ | refine QW.block_xn rfl ?_ | refine QW.block_r ?_))
 refine CW.region ?_
 refine OW.rv (RV.move rfl) rfl ?_
 refine OW.callG Tryd.call18 rfl (waybilllaw03_parcel_raw w0 Φ N hΦ A0 c0 cs0 a0 va0 ha0 hb hm1) rfl rfl ?_
 rintro L1 M1 ⟨b0, c, r, mks, ls, ht, hok, hmk, hmt, hcc, e1, e2⟩
 rw [e1, e2]
 clear e1 e2 L1 M1
 refine OW.rv (RV.assign rfl) rfl ?_
 refine OW.nil ?_
 (repeat (first | refine CW.seq ?_ | refine QW.then_n ?_ | refine CW.block ?_ | refine CW.ret ?_ | refine CW.skip ?_ | refine CW.exit ?_ | refine QW.then_x ?_ | refine QW.then_r ?_ | refine QW.block_n ?_ | refine QW.block_xe ?_ | refine QW.block_xn rfl ?_ | refine QW.block_r ?_))
 have hln : ls.length = a0.length := by rw [← ht, List.length_map]
 have hmln : mks.length = 2 := by rw [← List.length_map (f := (·.t)), hmt]; rfl
 have hrd : ∀ (l : List Lt) (Ψ : Ctx), (∀ x ∈ l, x.Ok mk03) → l.length = a0.length → (∀ w, Ψ w → Mem w0 w (lx 24 5 mk03 b0 r mks l)) → (View Ψ (some ⟨b0, 0, none⟩) (l.map (·.t)).length c 1 (l.map Lt.cell) ∧ Reps (BsRd Ψ) (l.map Lt.cell) (l.map (·.t))) ∧ MRooms mk03 [[165#8], [90#8]] Ψ (some ⟨b0, 0, none⟩) c (l.map (·.t)) := fun l Ψ h1 h2 h3 =>
  ⟨lx_list h1 h3 (by rw [h2, hmln]; exact hcc) (by rw [h2, hmln]; omega), by have := lx_rooms h1 hmk h3 (by rw [h2, hmln]; exact hcc) (by rw [h2, hmln]; omega); rwa [hmt] at this⟩
 refine CW.region ?_
 refine OW.rv (RV.move rfl) rfl ?_
 refine OW.callG Tryd.call10 rfl (waybilllaw03_lent_does w0 Φ (lx 24 5 mk03 b0 r mks ls ++ N) (fun w m => hΦ w m.appR) AK cK key key vk (slent_eq _ (by omega))) rfl rfl ?_
 rintro L1 M1 ⟨B, or0, kr, rk, o1, mx, e1, e2⟩
 rw [e1, e2]
 clear e1 e2 L1 M1
 obtain ⟨bk, rfl⟩ : ∃ b, or0 = some b := by
  cases or0 with
  | some b => exact ⟨b, rfl⟩
  | none =>
   exfalso
   have q1 := o1.hn rfl
   have q2 := o1.hr
   rw [List.length_append, List.length_append, u8s_length, u8s_length, List.length_replicate] at q2
   omega
 refine OW.mem (M' := (some bk, blk (u8s key ++ (u8s mk03 ++ rk)) 5) :: (lx 24 5 mk03 b0 r mks ls ++ N)) (fun w m => m.sublist (List.Sublist.cons_cons _ (List.sublist_append_right _ _))) ?_
 refine OW.rv (RV.assign rfl) rfl ?_
 refine OW.nil ?_
 (repeat (first | refine CW.seq ?_ | refine QW.then_n ?_ | refine CW.block ?_ | refine CW.ret ?_ | refine CW.skip ?_ | refine CW.exit ?_ | refine QW.then_x ?_ | refine QW.then_r ?_ | refine QW.block_n ?_ | refine QW.block_xe ?_ | refine QW.block_xn rfl ?_ | refine QW.block_r ?_))
 obtain ⟨⟨v1, r1⟩, g1⟩ := hrd ls (fun w => Mem w0 w ((some bk, blk (u8s key ++ (u8s mk03 ++ rk)) 5) :: (lx 24 5 mk03 b0 r mks ls ++ N))) hok hln (fun w m => m.tail.appL)
 rw [ht] at v1 r1 g1
 have vkk : View (fun w => Mem w0 w ((some bk, blk (u8s key ++ (u8s mk03 ++ rk)) 5) :: (lx 24 5 mk03 b0 r mks ls ++ N))) (some ⟨bk, 0, none⟩) key.length kr 1 (u8s key) := o1.view (by decide) (te := 5) (fun w q => q.sublist (List.singleton_sublist.2 (List.mem_cons_self ..)))
 have gkk : View (fun w => Mem w0 w ((some bk, blk (u8s key ++ (u8s mk03 ++ rk)) 5) :: (lx 24 5 mk03 b0 r mks ls ++ N))) (some ⟨bk, 0, none⟩) (key ++ mk03).length kr 1 (u8s (key ++ mk03)) := OwnS.mroom o1 (te := 5) (fun w q => q.sublist (List.singleton_sublist.2 (List.mem_cons_self ..))) (by rw [List.length_replicate]; exact mx)
 refine CW.region ?_
 refine OW.rv (RV.move rfl) rfl ?_
 refine OW.rv (RV.move rfl) rfl ?_
 refine OW.callG Tryd.call37 rfl (sha_HMAC_does w0 _ _ (fun w m => m) _ _ key _ _ _ a0 vkk v1 r1 hK hS (by omega) hm) rfl rfl ?_
 rintro _ G1 rfl
 generalize hmacV key a0.flatten = D1 at hR1
 refine OW.mem (M' := (some bk, blk (u8s key ++ (u8s mk03 ++ rk)) 5) :: (lx 24 5 mk03 b0 r mks ls ++ N)) (fun w m => m.appR) ?_
 refine OW.alloc (l := u8s (List.replicate 32 0#8)) rfl (by rw [← u8s_rep']; rfl) rfl (fun b7 => ?_)
 refine OW.sv (SV.storeW rfl rfl rfl (u8s_one _) rfl ((u8s_length _).trans (List.length_replicate ..)) ((u8s_length _).trans Vector.length_toList)) ?_
 refine OW.nil ?_
 (repeat (first | refine CW.seq ?_ | refine QW.then_n ?_ | refine CW.block ?_ | refine CW.ret ?_ | refine CW.skip ?_ | refine CW.exit ?_ | refine QW.then_x ?_ | refine QW.then_r ?_ | refine QW.block_n ?_ | refine QW.block_xe ?_ | refine QW.block_xn rfl ?_ | refine QW.block_r ?_))
 refine CW.drawsU 17 mixed (by kernel_rfl) rfl ?_
 refine UW.rv 0 rfl (by kernel_rfl) rfl (RV.loadW rfl (List.Mem.head _) rfl rfl rfl rfl ((u8s_length _).trans Vector.length_toList)) rfl ?_
 refine UW.rv 1 rfl (by kernel_rfl) rfl (RV.move rfl) rfl ?_
 refine UW.rv 2 rfl (by kernel_rfl) rfl (RV.move rfl) rfl ?_
 refine UW.callG 3 rfl (by kernel_rfl) rfl Tryd.call38 rfl (fun N' hN' => waybillref03_HMAC_does w0 Φ N' (fun w m => hΦ w (hN' w m).tail.tail.appR) AK cK key A0 c0 cs0 a0 D1 vk va0 ha0 hR1) rfl ?_
 rintro _ G1 rfl
 refine UW.mem (M' := (some b7, blk (u8s D1.toList) 39) :: (some bk, blk (u8s key ++ (u8s mk03 ++ rk)) 5) :: (lx 24 5 mk03 b0 r mks ls ++ N)) (fun w m => m.appR) ?_
 refine UW.rv 4 rfl (by kernel_rfl) rfl (RV.neA8 rfl rfl rfl rfl rfl rfl Vector.length_toList Vector.length_toList) rfl ?_
 refine UW.slot (.bool false) (by simp) ?_
 refine UW.rv 5 rfl (by kernel_rfl) rfl (RV.move rfl) rfl ?_
 refine UW.rv 6 rfl (by kernel_rfl) rfl (RV.move rfl) rfl ?_
 refine UW.rv 7 rfl (by kernel_rfl) rfl (RV.move rfl) rfl ?_
 refine UW.callG 8 rfl (by kernel_rfl) rfl Tryd.call21 rfl (fun N' hN' => waybilllaw03_whole_does w0 (fun w => Mem w0 w ((some bk, blk (u8s key ++ (u8s mk03 ++ rk)) 5) :: (lx 24 5 mk03 b0 r mks ls ++ N))) N' (fun w m => (hN' w m).tail) _ _ a0 A0 c0 cs0 a0 true g1 (va0.mono fun w m => hΦ w m.tail.appR) (ha0.mono (BsRd.mono fun w m => hΦ w m.tail.appR)) (whole_eq a0)) rfl ?_
 rintro _ G1 rfl
 refine UW.mem (M' := (some b7, blk (u8s D1.toList) 39) :: (some bk, blk (u8s key ++ (u8s mk03 ++ rk)) 5) :: (lx 24 5 mk03 b0 r mks ls ++ N)) (fun w m => m.appR) ?_
 refine UW.rv 9 rfl (by kernel_rfl) rfl (RV.not rfl) rfl ?_
 refine UW.rv 10 rfl (by kernel_rfl) rfl (RV.pick_f rfl rfl rfl) rfl ?_
 refine UW.slot (.bool false) rfl ?_
 refine UW.rv 11 rfl (by kernel_rfl) rfl (RV.move rfl) rfl ?_
 refine UW.rv 12 rfl (by kernel_rfl) rfl (RV.move rfl) rfl ?_
 refine UW.rv 13 rfl (by kernel_rfl) rfl (RV.move rfl) rfl ?_
 refine UW.callG 14 rfl (by kernel_rfl) rfl Tryd.call14 rfl (fun N' hN' => waybilllaw03_still_does w0 (fun w => Mem w0 w ((some bk, blk (u8s key ++ (u8s mk03 ++ rk)) 5) :: (lx 24 5 mk03 b0 r mks ls ++ N))) N' (fun w m => (hN' w m).tail) _ kr key AK cK key true gkk (vk.mono fun w m => hΦ w m.tail.appR) (sstill_eq key)) rfl ?_
 rintro _ G1 rfl
 refine UW.mem (M' := (some b7, blk (u8s D1.toList) 39) :: (some bk, blk (u8s key ++ (u8s mk03 ++ rk)) 5) :: (lx 24 5 mk03 b0 r mks ls ++ N)) (fun w m => m.appR) ?_
 refine UW.rv 15 rfl (by kernel_rfl) rfl (RV.not rfl) rfl ?_
 refine UW.rv 16 rfl (by kernel_rfl) rfl (RV.pick_f rfl rfl rfl) rfl ?_
 refine UW.nil (by kernel_rfl) ?_
 refine OW.nil ?_
 (repeat (first | refine CW.seq ?_ | refine QW.then_n ?_ | refine CW.block ?_ | refine CW.ret ?_ | refine CW.skip ?_ | refine CW.exit ?_ | refine QW.then_x ?_ | refine QW.then_r ?_ | refine QW.block_n ?_ | refine QW.block_xe ?_ | refine QW.block_xn rfl ?_ | refine QW.block_r ?_))
 refine CW.is_f rfl rfl ?_
 (repeat (first | refine CW.seq ?_ | refine QW.then_n ?_ | refine CW.block ?_ | refine CW.ret ?_ | refine CW.skip ?_ | refine CW.exit ?_ | refine QW.then_x ?_ | refine QW.then_r ?_ | refine QW.block_n ?_ | refine QW.block_xe ?_ | refine QW.block_xn rfl ?_ | refine QW.block_r ?_))
 refine CW.region ?_
 refine OW.rv (RV.move rfl) rfl ?_
 refine OW.rot1 ?_
 refine OW.call Tryd.call17 rfl (turn_does w0 _ bk (u8s mk03 ++ rk) kr key rfl (by omega)) rfl (fun yk hyk => ?_)
 refine OW.nil ?_
 (repeat (first | refine CW.seq ?_ | refine QW.then_n ?_ | refine CW.block ?_ | refine CW.ret ?_ | refine CW.skip ?_ | refine CW.exit ?_ | refine QW.then_x ?_ | refine QW.then_r ?_ | refine QW.block_n ?_ | refine QW.block_xe ?_ | refine QW.block_xn rfl ?_ | refine QW.block_r ?_))
 have ok2 : OwnS (some bk) yk.length kr 1 (u8s yk) (u8s mk03 ++ rk) := OwnS.same o1 (by rw [u8s_length, u8s_length]; exact hyk) hyk
 rw [← hyk]
 (repeat (first | refine CW.seq ?_ | refine QW.then_n ?_ | refine CW.block ?_ | refine CW.ret ?_ | refine CW.skip ?_ | refine CW.exit ?_ | refine QW.then_x ?_ | refine QW.then_r ?_ | refine QW.block_n ?_ | refine QW.block_xe ?_ | refine QW.block_xn rfl ?_ | refine QW.block_r ?_))
 refine CW.region ?_
 refine OW.rv (RV.assign rfl) rfl ?_
 refine OW.nil ?_
 (repeat (first | refine CW.seq ?_ | refine QW.then_n ?_ | refine CW.block ?_ | refine CW.ret ?_ | refine CW.skip ?_ | refine CW.exit ?_ | refine QW.then_x ?_ | refine QW.then_r ?_ | refine QW.block_n ?_ | refine QW.block_xe ?_ | refine QW.block_xn rfl ?_ | refine QW.block_r ?_))
 refine CW.loopJ (fun k L' M' => ∃ (i : Nat) (lt : List Lt), k = a0.length - i ∧ i ≤ a0.length ∧ lt.length = a0.length ∧ lt.map (·.t.length) = a0.map List.length ∧ (∀ x ∈ lt, x.Ok mk03) ∧ L' = [(5, .slice (some ⟨b0, 0, none⟩) a0.length c), (6, .slice (some ⟨bk, 0, none⟩) yk.length kr), (8, .int .i64 (i : Int))] ∧ M' = (some bk, blk (u8s yk ++ (u8s mk03 ++ rk)) 5) :: (some b7, blk (u8s D1.toList) 39) :: (lx 24 5 mk03 b0 r mks lt ++ N)) (k0 := a0.length) ⟨0, ls, rfl, by omega, hln, by rw [← ht, List.map_map]; rfl, hok, rfl, rfl⟩ ⟨rfl, rfl, rfl, trivial⟩ (fun w m => m) ?_
 clear g1 r1 v1 vkk gkk
 rintro k L' M' ⟨i, lt, rfl, hi, hll, htx, hok2, rfl, rfl⟩
 (repeat (first | refine CW.seq ?_ | refine QW.then_n ?_ | refine CW.block ?_ | refine CW.ret ?_ | refine CW.skip ?_ | refine CW.exit ?_ | refine QW.then_x ?_ | refine QW.then_r ?_ | refine QW.block_n ?_ | refine QW.block_xe ?_ | refine QW.block_xn rfl ?_ | refine QW.block_r ?_))
 refine CW.region ?_
 refine OW.rv (RV.move rfl) rfl ?_
 refine OW.rv (RV.move rfl) rfl ?_
 refine OW.rv (RV.len rfl rfl) rfl ?_
 refine OW.rv (RV.lss rfl rfl) rfl ?_
 refine OW.nil ?_
 (repeat (first | refine CW.seq ?_ | refine QW.then_n ?_ | refine CW.block ?_ | refine CW.ret ?_ | refine CW.skip ?_ | refine CW.exit ?_ | refine QW.then_x ?_ | refine QW.then_r ?_ | refine QW.block_n ?_ | refine QW.block_xe ?_ | refine QW.block_xn rfl ?_ | refine QW.block_r ?_))
 (first | refine CW.cond_t rfl ?_ | refine CW.cond_f rfl ?_ | refine CW.cond_p rfl (fun hlt => ?_) (fun hlt => ?_) | refine CW.cond_np rfl (fun hlt => ?_) (fun hlt => ?_) | refine CW.cond rfl (fun hlt => ?_) (fun hlt => ?_))
 ·have h1 : i < a0.length := by omega
  have h3 : i < lt.length := by omega
  have hxl : lt[i]? = some lt[i] := List.getElem?_eq_getElem h3
  have hq := hok2 _ (List.getElem_mem h3)
  have hli : (lt[i]).t.length ≤ a0.flatten.length := by
   have q : (lt.map (·.t.length))[i]? = (a0.map List.length)[i]? := by rw [htx]
   rw [List.getElem?_map, List.getElem?_map, hxl, List.getElem?_eq_getElem h1] at q
   have q2 : (lt[i]).t.length = a0[i].length := Option.some.inj q
   rw [q2]
   exact mem_flat3 (List.getElem_mem h1)
  obtain ⟨⟨v1, r1⟩, g1⟩ := hrd lt (fun w => Mem w0 w ((some bk, blk (u8s yk ++ (u8s mk03 ++ rk)) 5) :: (some b7, blk (u8s D1.toList) 39) :: (lx 24 5 mk03 b0 r mks lt ++ N))) hok2 hll (fun w m => m.tail.tail.appL)
  (repeat (first | refine CW.seq ?_ | refine QW.then_n ?_ | refine CW.block ?_ | refine CW.ret ?_ | refine CW.skip ?_ | refine CW.exit ?_ | refine QW.then_x ?_ | refine QW.then_r ?_ | refine QW.block_n ?_ | refine QW.block_xe ?_ | refine QW.block_xn rfl ?_ | refine QW.block_r ?_))
  refine CW.region ?_
  refine OW.rv (RV.move rfl) rfl ?_
  refine OW.rv (RV.move rfl) rfl ?_
  refine OW.rv (RV.idx_r (i) rfl rfl rfl rfl rfl rfl (by omega)) rfl ?_
  refine OW.rv (RV.load_at rfl rfl rfl (fun w m => v1.cell m (show (lt.map Lt.cell)[i]? = some (.slice (some ⟨(lt[i]).b, 0, none⟩) (lt[i]).t.length (lt[i]).c) by rw [List.getElem?_map, hxl]; rfl))) rfl ?_
  refine OW.mem (M' := (some (lt[i]).b, blk (u8s (lt[i]).t ++ (u8s mk03 ++ (lt[i]).r)) 5) :: (([(some bk, blk (u8s yk ++ (u8s mk03 ++ rk)) 5), (some b7, blk (u8s D1.toList) 39)] ++ ((some b0, blk (lt.map Lt.cell ++ (mks.map Lt.cell ++ r)) 24) :: lents 5 [] mks)) ++ (lents 5 mk03 (lt.take i ++ lt.drop (i + 1)) ++ N))) (fun w m => lx_front (X := [(some bk, blk (u8s yk ++ (u8s mk03 ++ rk)) 5), (some b7, blk (u8s D1.toList) 39)]) hxl m) ?_
  refine OW.call Tryd.call17 rfl (turn_does w0 _ (lt[i]).b (u8s mk03 ++ (lt[i]).r) (lt[i]).c (lt[i]).t rfl (by omega)) rfl (fun ys hys => ?_)
  refine OW.nil ?_
  (repeat (first | refine CW.seq ?_ | refine QW.then_n ?_ | refine CW.block ?_ | refine CW.ret ?_ | refine CW.skip ?_ | refine CW.exit ?_ | refine QW.then_x ?_ | refine QW.then_r ?_ | refine QW.block_n ?_ | refine QW.block_xe ?_ | refine QW.block_xn rfl ?_ | refine QW.block_r ?_))
  (repeat (first | refine CW.seq ?_ | refine QW.then_n ?_ | refine CW.block ?_ | refine CW.ret ?_ | refine CW.skip ?_ | refine CW.exit ?_ | refine QW.then_x ?_ | refine QW.then_r ?_ | refine QW.block_n ?_ | refine QW.block_xe ?_ | refine QW.block_xn rfl ?_ | refine QW.block_r ?_))
  refine CW.region ?_
  refine OW.rv (RV.move rfl) rfl ?_
  refine OW.rv (RV.add rfl rfl (by omega)) rfl ?_
  refine OW.rv (RV.assign rfl) rfl ?_
  refine OW.nil ?_
  (repeat (first | refine CW.seq ?_ | refine QW.then_n ?_ | refine CW.block ?_ | refine CW.ret ?_ | refine CW.skip ?_ | refine CW.exit ?_ | refine QW.then_x ?_ | refine QW.then_r ?_ | refine QW.block_n ?_ | refine QW.block_xe ?_ | refine QW.block_xn rfl ?_ | refine QW.block_r ?_))
  refine QW.againJ (k' := a0.length - (i + 1)) (by omega) ⟨i + 1, lt.set i ⟨(lt[i]).b, ys, (lt[i]).c, (lt[i]).r⟩, rfl, by omega, by simp [hll], ?_, ?_, rfl, rfl⟩ ⟨rfl, rfl, rfl, trivial⟩ (fun w m => turn_back w0 N [(some bk, blk (u8s yk ++ (u8s mk03 ++ rk)) 5), (some b7, blk (u8s D1.toList) 39)] b0 r mks lt i lt[i] ys hxl hys m)
  ·rw [List.map_set, ← htx, show (⟨(lt[i]).b, ys, (lt[i]).c, (lt[i]).r⟩ : Lt).t.length = (lt.map (·.t.length))[i]'(by simpa using h3) by rw [List.getElem_map]; exact hys]
   exact List.set_getElem_self (by simpa using h3)
  ·intro x hx
   rcases List.mem_or_eq_of_mem_set hx with hx | rfl
   ·exact hok2 x hx
   ·exact ⟨OwnS.same hq.own (by rw [u8s_length, u8s_length]; exact hys) hys, by have := hq.mx; show ys.length + _ ≤ _; omega⟩
 ·obtain ⟨⟨v1, r1⟩, g1⟩ := hrd lt (fun w => Mem w0 w ((some bk, blk (u8s yk ++ (u8s mk03 ++ rk)) 5) :: (some b7, blk (u8s D1.toList) 39) :: (lx 24 5 mk03 b0 r mks lt ++ N))) hok2 hll (fun w m => m.tail.tail.appL)
  have vkk : View (fun w => Mem w0 w ((some bk, blk (u8s yk ++ (u8s mk03 ++ rk)) 5) :: (some b7, blk (u8s D1.toList) 39) :: (lx 24 5 mk03 b0 r mks lt ++ N))) (some ⟨bk, 0, none⟩) yk.length kr 1 (u8s yk) := ok2.view (by decide) (te := 5) (fun w q => q.sublist (List.singleton_sublist.2 (List.mem_cons_self ..)))
  have hfl : (lt.map (·.t)).flatten.length = a0.flatten.length := by
   rw [List.length_flatten, List.length_flatten, List.map_map]
   exact congrArg List.sum htx
  have hS1 := rhmac_eq yk (lt.map (·.t)) (by omega) (by omega)
  have hln2 : a0.length = (lt.map (·.t)).length := by rw [List.length_map, hll]
  (repeat (first | refine CW.seq ?_ | refine QW.then_n ?_ | refine CW.block ?_ | refine CW.ret ?_ | refine CW.skip ?_ | refine CW.exit ?_ | refine QW.then_x ?_ | refine QW.then_r ?_ | refine QW.block_n ?_ | refine QW.block_xe ?_ | refine QW.block_xn rfl ?_ | refine QW.block_r ?_))
  refine CW.region ?_
  refine OW.rv (RV.move rfl) rfl ?_
  refine OW.rv (RV.move rfl) rfl ?_
  refine OW.slot (.slice (some ⟨b0, 0, none⟩) (lt.map (·.t)).length c) (by rw [← hln2]) ?_
  have hk2 : yk.length ≤ 140737488351232 := by omega
  have hb2 : (lt.map (·.t)).flatten.length + 200 ≤ 140737488351232 := by omega
  have hdo := sha_HMAC_does w0 (fun w => Mem w0 w ((some bk, blk (u8s yk ++ (u8s mk03 ++ rk)) 5) :: (some b7, blk (u8s D1.toList) 39) :: (lx 24 5 mk03 b0 r mks lt ++ N))) ((some bk, blk (u8s yk ++ (u8s mk03 ++ rk)) 5) :: (some b7, blk (u8s D1.toList) 39) :: (lx 24 5 mk03 b0 r mks lt ++ N)) (fun w m => m) (some ⟨bk, 0, none⟩) kr yk (some ⟨b0, 0, none⟩) c (lt.map Lt.cell) (lt.map (·.t)) vkk v1 r1 hK hS hk2 hb2
  refine OW.callG Tryd.call37 rfl hdo rfl rfl ?_
  rintro _ G1 rfl
  generalize hmacV yk (lt.map (·.t)).flatten = E1 at hS1
  refine OW.mem (M' := (some bk, blk (u8s yk ++ (u8s mk03 ++ rk)) 5) :: (some b7, blk (u8s D1.toList) 39) :: (lx 24 5 mk03 b0 r mks lt ++ N)) (fun w m => m.appR) ?_
  refine OW.alloc (l := u8s (List.replicate 32 0#8)) rfl (by rw [← u8s_rep']; rfl) rfl (fun b9 => ?_)
  refine OW.sv (SV.storeW rfl rfl rfl (u8s_one _) rfl ((u8s_length _).trans (List.length_replicate ..)) ((u8s_length _).trans Vector.length_toList)) ?_
  refine OW.nil ?_
  (repeat (first | refine CW.seq ?_ | refine QW.then_n ?_ | refine CW.block ?_ | refine CW.ret ?_ | refine CW.skip ?_ | refine CW.exit ?_ | refine QW.then_x ?_ | refine QW.then_r ?_ | refine QW.block_n ?_ | refine QW.block_xe ?_ | refine QW.block_xn rfl ?_ | refine QW.block_r ?_))
  refine CW.drawsU 6 mixed (by kernel_rfl) rfl ?_
  refine UW.rv 0 rfl (by kernel_rfl) rfl (RV.loadW rfl (List.Mem.head _) rfl rfl rfl rfl ((u8s_length _).trans Vector.length_toList)) rfl ?_
  refine UW.rv 1 rfl (by kernel_rfl) rfl (RV.move rfl) rfl ?_
  refine UW.rv 2 rfl (by kernel_rfl) rfl (RV.move rfl) rfl ?_
  refine UW.slot (.slice (some ⟨b0, 0, none⟩) (lt.map (·.t)).length c) (by rw [← hln2]) ?_
  have hdr := fun (N' : List Ent) (hN' : ∀ w, Mem w0 w N' → Mem w0 w ((some b9, blk (u8s E1.toList) 39) :: (some bk, blk (u8s yk ++ (u8s mk03 ++ rk)) 5) :: (some b7, blk (u8s D1.toList) 39) :: (lx 24 5 mk03 b0 r mks lt ++ N))) => waybillref03_HMAC_does w0 (fun w => Mem w0 w ((some bk, blk (u8s yk ++ (u8s mk03 ++ rk)) 5) :: (some b7, blk (u8s D1.toList) 39) :: (lx 24 5 mk03 b0 r mks lt ++ N))) N' (fun w m => (hN' w m).tail) (some ⟨bk, 0, none⟩) kr yk (some ⟨b0, 0, none⟩) c (lt.map Lt.cell) (lt.map (·.t)) E1 vkk v1 r1 hS1
  refine UW.callG 3 rfl (by kernel_rfl) rfl Tryd.call38 rfl hdr rfl ?_
  rintro _ G1 rfl
  refine UW.mem (M' := (some b9, blk (u8s E1.toList) 39) :: (some bk, blk (u8s yk ++ (u8s mk03 ++ rk)) 5) :: (some b7, blk (u8s D1.toList) 39) :: (lx 24 5 mk03 b0 r mks lt ++ N)) (fun w m => m.appR) ?_
  refine UW.rv 4 rfl (by kernel_rfl) rfl (RV.eqA8 rfl rfl rfl rfl rfl rfl Vector.length_toList Vector.length_toList) rfl ?_
  refine UW.slot (.bool true) (by simp) ?_
  refine UW.rv 5 rfl (by kernel_rfl) rfl (RV.assign rfl) rfl ?_
  refine UW.nil (by kernel_rfl) ?_
  refine OW.nil ?_
  (repeat (first | refine CW.seq ?_ | refine QW.then_n ?_ | refine CW.block ?_ | refine CW.ret ?_ | refine CW.skip ?_ | refine CW.exit ?_ | refine QW.then_x ?_ | refine QW.then_r ?_ | refine QW.block_n ?_ | refine QW.block_xe ?_ | refine QW.block_xn rfl ?_ | refine QW.block_r ?_))
  refine QW.retG (rs := [.tmp 4]) [.bool true] [] rfl ?_ rfl ?_ ?_ _ (.inl rfl)
  ·exact ⟨rfl, trivial⟩
  ·rfl
  ·exact fun w m => m.tail.tail.tail.appR
end Go.Fw.Tryd
