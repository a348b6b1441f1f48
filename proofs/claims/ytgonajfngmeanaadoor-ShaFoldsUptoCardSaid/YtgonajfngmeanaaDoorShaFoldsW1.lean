/- Part of a proof: rules that its law uses. -/
import Derived.Test.YtgonajfngmeanaaDoorTy
import Derived.Test.YtgonajfngmeanaaDoorExt
import Derived.Test.YtgonajfngmeanaaDoorShaK5
import Derived.Test.YtgonajfngmeanaaDoorShaK6
import Derived.Test.YtgonajfngmeanaaDoorShaH
import Derived.Test.YtgonajfngmeanaaDoorFwE
import Derived.Test.YtgonajfngmeanaaDoorShaP1
import Derived.Test.YtgonajfngmeanaaDoorShaP2
import Derived.Test.YtgonajfngmeanaaDoorShaQ
namespace Go.Fw.Tryd
open Go Go.Proofs Go.Fw
set_option maxRecDepth 100000
set_option linter.unusedVariables false
set_option linter.unusedSimpArgs false
set_option maxHeartbeats 1000000
theorem waybilllaw03_copied_does (w0 : World) (Φ : Ctx) (N : List Ent) (hΦ : ∀ w, Mem w0 w N → Φ w) (A0_ : Option Addr) (c0_ : Nat) (a0 : List (BitVec 8)) (res0 : List (BitVec 8)) (va0 : View Φ A0_ a0.length c0_ 1 (u8s a0)) (hf : waybilllaw03_copied a0 = some res0) : DoesG Tryd.prog 23 [.slice A0_ a0.length c0_] w0 [] N (fun v G => ∃ B : List Ent, ∃ or0 : Option Nat, ∃ kr0 : Nat, ∃ rr0 : List Value, (OwnS or0 res0.length kr0 1 (u8s res0) rr0) ∧ v = sl or0 0 res0.length kr0 ∧ G = (or0, blk ((u8s res0) ++ rr0) 5) :: B) := by
 unfold waybilllaw03_copied at hf
 replace va0 := va0.mono (Ψ := More w0 Φ []) (fun w q => q.1)
 have m1 := va0.mx
 refine DoesG.enter Tryd.func23 rfl Tryd.ntmps23 rfl (M := (([] ++ N))) rfl ?_
 refine CW.seq (CW.region ?_)
 refine OW.rv (RV.assign rfl) rfl ?_
 refine OW.nil (QW.then_n (CW.seq (CW.region ?_)))
 refine OW.rv (RV.assign rfl) rfl ?_
 refine OW.nil (QW.then_n (CW.seq (CW.seq (CW.region ?_))))
 refine OW.rv (RV.assign rfl) rfl ?_
 refine OW.nil (QW.then_n ?_)
 obtain ⟨q2, hq3, hf⟩ := some_bind hf
 refine CW.cutJ (fun L' M' => ∃ l4 : List (BitVec 8), ∃ ob5 : Option Nat, ∃ c6 : Nat, ∃ r7 : List Value, q2 = l4 ∧ (OwnS ob5 l4.length c6 1 (u8s l4) r7) ∧ L' = [(3, sl ob5 0 l4.length c6)] ∧ M' = ((ob5, blk ((u8s l4) ++ r7) 5) :: ([] ++ N))) ?_ ?_
 ·rintro L10 M11 ⟨l4, ob5, c6, r7, e9, o8, e12, e13⟩
  rw [e12, e13]
  clear e12 e13 L10 M11
  clear hq3
  rw [e9] at hf
  clear e9
  try dsimp only at hf
  have m14 := o8.mx
  refine QW.then_n (CW.seq (CW.region ?_))
  refine OW.rv (RV.move rfl) rfl ?_
  refine OW.rv (RV.assign rfl) rfl ?_
  refine OW.nil (QW.then_n (CW.ret ?_))
  have e0 := Option.some.inj hf
  subst e0
  refine QW.retG (rs := [.tmp 2]) ([sl ob5 0 l4.length c6]) ((ob5, blk ((u8s l4) ++ r7) 5) :: []) rfl ?_ rfl ?_ ?_ _ (.inl rfl)
  ·exact ⟨rfl, trivial⟩
  ·exact ⟨[], ob5, c6, r7, o8, rfl, rfl⟩
  ·exact (fun w m => m.pick [0] 1 rfl rfl)
 ·skip
  refine CW.block ?_
  refine CW.mem (M' := ((none, blk ((u8s ([] : List (BitVec 8))) ++ []) 5) :: ([] ++ N))) (fun w m => m.nil_ent _) ?_
  refine CW.loopJ (fun k L' M' => ∃ l15 : List (BitVec 8), ∃ n20 : Nat, ∃ ob16 : Option Nat, ∃ c17 : Nat, ∃ r18 : List Value, (waybilllaw03_copied.l1 a0 k l15 n20) = some q2 ∧ (OwnS ob16 l15.length c17 1 (u8s l15) r18) ∧ (n20 ≤ 9223372036854775807) ∧ L' = [(0, .slice A0_ a0.length c0_), (3, sl ob16 0 l15.length c17), (4, .int .i64 ((n20 : Nat) : Int))] ∧ M' = ((ob16, blk ((u8s l15) ++ r18) 5) :: ([] ++ N))) (k0 := (a0.length - 0 + 2)) ⟨([] : List (BitVec 8)), 0, none, 0, [], hq3, OwnS.nil, (by omega), rfl, rfl⟩ ⟨rfl, rfl, rfl, trivial⟩ (fun w m => m.pick [0] 1 rfl rfl) ?_
  clear hq3
  rintro k22 L25 M26 ⟨l15, n20, ob16, c17, r18, hl23, o19, b21, e27, e28⟩
  rw [e27, e28]
  clear e27 e28 L25 M26
  rcases k22 with _ | k22
  ·rw [waybilllaw03_copied.l1] at hl23; cases hl23
  rw [waybilllaw03_copied.l1] at hl23
  have m29 := o19.mx
  refine CW.seq (CW.seq (CW.region ?_))
  refine OW.rv (RV.move rfl) rfl ?_
  refine OW.rv (RV.move rfl) rfl ?_
  refine OW.rv (RV.len rfl rfl) rfl ?_
  refine OW.rv (RV.lss rfl rfl) rfl ?_
  refine OW.slot (.bool (decide (n20 < a0.length))) (congrArg Value.bool (decide_eq_decide.2 (by omega))) ?_
  refine OW.nil (QW.then_n ?_)
  by_cases h30 : n20 < a0.length
  ·replace hl23 := if_t hl23 h30
   refine CW.is_t rfl (decide_eq_true h30) ?_
   refine CW.skip (QW.then_n (CW.seq (CW.block (CW.region ?_))))
   refine OW.rv (RV.move rfl) rfl ?_
   refine OW.rv (RV.move rfl) rfl ?_
   refine OW.rv (RV.move rfl) rfl ?_
   obtain ⟨x31, hx32, hl23⟩ := some_bind hl23
   have hl33 := lt_of_at hx32
   refine OW.rv (RV.idx_r (n20) rfl rfl rfl rfl rfl (va0.isSome (by decide) hl33) (by omega)) rfl ?_
   refine OW.rv (RV.load_at rfl rfl rfl (fun w m => va0.cell (More.of hΦ 1 m rfl) (u8s_at hx32))) rfl ?_
   refine OW.ofN (NV.bs1 rfl rfl rfl rfl rfl rfl) rfl (fun b34 => ?_)
   refine OW.mem (M' := (((some b34), blk ((u8s ([x31] : List (BitVec 8))) ++ []) 5) :: (ob16, blk ((u8s l15) ++ r18) 5) :: ([] ++ N))) (fun w m => by first | exact m | simpa [u8s] using m) ?_
   have o35 : OwnS (some b34) ([x31] : List (BitVec 8)).length 1 1 (u8s ([x31] : List (BitVec 8))) [] := ⟨by simp [u8s], by simp [u8s], (fun h => nomatch h), by simp⟩
   refine OW.slot (sl (some b34) 0 ([x31] : List (BitVec 8)).length 1) (rfl) ?_
   refine OW.rot1 ?_
   obtain ⟨g36, hl23⟩ := some_if hl23
   refine OW.appendOwn (s := 1) rfl rfl rfl rfl rfl rfl o19 (fun w m => m.rd0 (List.Mem.tail _ (List.Mem.head _)) (fun e => o35.nilc (by decide) e)) o35.n (u8s_one _) (o35.zeroO (by decide)) (by decide) (by decide) (by first | omega | (simp only [i5, List.length_nil]; omega)) rfl rfl ((l15 ++ ([x31] : List (BitVec 8))).length) (u8s (l15 ++ ([x31] : List (BitVec 8)))) (List.length_append ..).symm (u8s_app _ _) (fun ob37 r38 c39 o40 => ?_)
   have m41 := o40.mx
   refine OW.rv (RV.assign rfl) rfl ?_
   refine OW.nil (QW.block_n (QW.then_n (CW.region ?_)))
   refine OW.rv (RV.move rfl) rfl ?_
   refine OW.rv (RV.add rfl rfl (by omega)) rfl ?_
   refine OW.slot (.int .i64 (((n20 + 1) : Nat) : Int)) (by first | rfl | (congr 1) | (congr 1; omega)) ?_
   refine OW.rv (RV.assign rfl) rfl ?_
   refine OW.nil ?_
   exact QW.againJ (k' := k22) (Nat.lt_succ_self _) ⟨(l15 ++ ([x31] : List (BitVec 8))), (n20 + 1), ob37, c39, r38, hl23, o40, (by omega), rfl, rfl⟩ ⟨rfl, rfl, rfl, trivial⟩ (fun w m => m.pick [0] 2 rfl rfl)
  ·replace hl23 := if_f hl23 h30
   refine CW.is_f rfl (decide_eq_false h30) ?_
   refine CW.exit (QW.then_x (QW.then_x (QW.block_xe ?_)))
   exact QW.join ⟨l15, ob16, c17, r18, (Option.some.inj hl23).symm, o19, rfl, rfl⟩ ⟨rfl, trivial⟩ (fun w m => m.pick [0] 1 rfl rfl)
theorem waybilllaw03_joined_does (w0 : World) (Φ : Ctx) (N : List Ent) (hΦ : ∀ w, Mem w0 w N → Φ w) (A0_ : Option Addr) (c0_ : Nat) (cs0_ : List Value) (a0 : List (List (BitVec 8))) (res0 : List (BitVec 8)) (va0 : View Φ A0_ a0.length c0_ 1 cs0_) (ha0 : Reps (BsRd Φ) cs0_ a0) (hf : waybilllaw03_joined a0 = some res0) : DoesG Tryd.prog 36 [.slice A0_ a0.length c0_] w0 [] N (fun v G => ∃ B : List Ent, ∃ or0 : Option Nat, ∃ kr0 : Nat, ∃ rr0 : List Value, (OwnS or0 res0.length kr0 1 (u8s res0) rr0) ∧ v = sl or0 0 res0.length kr0 ∧ G = (or0, blk ((u8s res0) ++ rr0) 5) :: B) := by
 unfold waybilllaw03_joined at hf
 replace va0 := va0.mono (Ψ := More w0 Φ []) (fun w q => q.1)
 replace ha0 := ha0.mono (BsRd.mono (Ψ := More w0 Φ []) (fun w q => q.1))
 have m1 := va0.mx
 refine DoesG.enter Tryd.func36 rfl Tryd.ntmps36 rfl (M := (([] ++ N))) rfl ?_
 refine CW.seq (CW.region ?_)
 refine OW.rv (RV.assign rfl) rfl ?_
 refine OW.nil (QW.then_n (CW.seq (CW.region ?_)))
 refine OW.rv (RV.assign rfl) rfl ?_
 refine OW.nil (QW.then_n (CW.seq (CW.seq (CW.region ?_))))
 refine OW.rv (RV.assign rfl) rfl ?_
 refine OW.nil (QW.then_n ?_)
 obtain ⟨q2, hq3, hf⟩ := some_bind hf
 refine CW.cutJ (fun L' M' => ∃ l4 : List (BitVec 8), ∃ ob5 : Option Nat, ∃ c6 : Nat, ∃ r7 : List Value, q2 = l4 ∧ (OwnS ob5 l4.length c6 1 (u8s l4) r7) ∧ L' = [(3, sl ob5 0 l4.length c6)] ∧ M' = ((ob5, blk ((u8s l4) ++ r7) 5) :: ([] ++ N))) ?_ ?_
 ·rintro L10 M11 ⟨l4, ob5, c6, r7, e9, o8, e12, e13⟩
  rw [e12, e13]
  clear e12 e13 L10 M11
  clear hq3
  rw [e9] at hf
  clear e9
  try dsimp only at hf
  have m14 := o8.mx
  refine QW.then_n (CW.seq (CW.region ?_))
  refine OW.rv (RV.move rfl) rfl ?_
  refine OW.rv (RV.assign rfl) rfl ?_
  refine OW.nil (QW.then_n (CW.ret ?_))
  have e0 := Option.some.inj hf
  subst e0
  refine QW.retG (rs := [.tmp 2]) ([sl ob5 0 l4.length c6]) ((ob5, blk ((u8s l4) ++ r7) 5) :: []) rfl ?_ rfl ?_ ?_ _ (.inl rfl)
  ·exact ⟨rfl, trivial⟩
  ·exact ⟨[], ob5, c6, r7, o8, rfl, rfl⟩
  ·exact (fun w m => m.pick [0] 1 rfl rfl)
 ·skip
  refine CW.block ?_
  refine CW.mem (M' := ((none, blk ((u8s ([] : List (BitVec 8))) ++ []) 5) :: ([] ++ N))) (fun w m => m.nil_ent _) ?_
  refine CW.loopJ (fun k L' M' => ∃ l15 : List (BitVec 8), ∃ n20 : Nat, ∃ ob16 : Option Nat, ∃ c17 : Nat, ∃ r18 : List Value, (waybilllaw03_joined.l1 a0 k l15 n20) = some q2 ∧ (OwnS ob16 l15.length c17 1 (u8s l15) r18) ∧ (n20 ≤ 9223372036854775807) ∧ L' = [(0, .slice A0_ a0.length c0_), (3, sl ob16 0 l15.length c17), (4, .int .i64 ((n20 : Nat) : Int))] ∧ M' = ((ob16, blk ((u8s l15) ++ r18) 5) :: ([] ++ N))) (k0 := (a0.length - 0 + 2)) ⟨([] : List (BitVec 8)), 0, none, 0, [], hq3, OwnS.nil, (by omega), rfl, rfl⟩ ⟨rfl, rfl, rfl, trivial⟩ (fun w m => m.pick [0] 1 rfl rfl) ?_
  clear hq3
  rintro k22 L25 M26 ⟨l15, n20, ob16, c17, r18, hl23, o19, b21, e27, e28⟩
  rw [e27, e28]
  clear e27 e28 L25 M26
  rcases k22 with _ | k22
  ·rw [waybilllaw03_joined.l1] at hl23; cases hl23
  rw [waybilllaw03_joined.l1] at hl23
  have m29 := o19.mx
  refine CW.seq (CW.seq (CW.region ?_))
  refine OW.rv (RV.move rfl) rfl ?_
  refine OW.rv (RV.move rfl) rfl ?_
  refine OW.rv (RV.len rfl rfl) rfl ?_
  refine OW.rv (RV.lss rfl rfl) rfl ?_
  refine OW.slot (.bool (decide (n20 < a0.length))) (congrArg Value.bool (decide_eq_decide.2 (by omega))) ?_
  refine OW.nil (QW.then_n ?_)
  by_cases h30 : n20 < a0.length
  ·replace hl23 := if_t hl23 h30
   refine CW.is_t rfl (decide_eq_true h30) ?_
   refine CW.skip (QW.then_n (CW.seq (CW.block (CW.seq (CW.region ?_)))))
   refine OW.rv (RV.assign rfl) rfl ?_
   refine OW.nil (QW.then_n ?_)
   obtain ⟨q31, hq32, hl23⟩ := some_bind hl23
   refine CW.cutJ (fun L' M' => ∃ l33 : List (BitVec 8), ∃ ob34 : Option Nat, ∃ c35 : Nat, ∃ r36 : List Value, q31 = l33 ∧ (OwnS ob34 l33.length c35 1 (u8s l33) r36) ∧ L' = [(0, .slice A0_ a0.length c0_), (3, sl ob34 0 l33.length c35), (4, .int .i64 ((n20 : Nat) : Int))] ∧ M' = ((ob34, blk ((u8s l33) ++ r36) 5) :: ([] ++ N))) ?_ ?_
   ·rintro L39 M40 ⟨l33, ob34, c35, r36, e38, o37, e41, e42⟩
    rw [e41, e42]
    clear e41 e42 L39 M40
    clear hq32
    rw [e38] at hl23
    clear e38
    try dsimp only at hl23
    have m43 := o37.mx
    refine QW.block_n (QW.then_n (CW.region ?_))
    refine OW.rv (RV.move rfl) rfl ?_
    refine OW.rv (RV.add rfl rfl (by omega)) rfl ?_
    refine OW.slot (.int .i64 (((n20 + 1) : Nat) : Int)) (by first | rfl | (congr 1) | (congr 1; omega)) ?_
    refine OW.rv (RV.assign rfl) rfl ?_
    refine OW.nil ?_
    exact QW.againJ (k' := k22) (Nat.lt_succ_self _) ⟨l33, (n20 + 1), ob34, c35, r36, hl23, o37, (by omega), rfl, rfl⟩ ⟨rfl, rfl, rfl, trivial⟩ (fun w m => m.pick [0] 1 rfl rfl)
   ·skip
    refine CW.block ?_
    refine CW.loopJ (fun k L' M' => ∃ l44 : List (BitVec 8), ∃ n49 : Nat, ∃ ob45 : Option Nat, ∃ c46 : Nat, ∃ r47 : List Value, (waybilllaw03_joined.l2 a0 n20 k l44 n49) = some q31 ∧ (OwnS ob45 l44.length c46 1 (u8s l44) r47) ∧ (n49 ≤ 9223372036854775807) ∧ L' = [(0, .slice A0_ a0.length c0_), (3, sl ob45 0 l44.length c46), (4, .int .i64 ((n20 : Nat) : Int)), (5, .int .i64 ((n49 : Nat) : Int))] ∧ M' = ((ob45, blk ((u8s l44) ++ r47) 5) :: ([] ++ N))) (k0 := ((a0).flatten.length + 2)) ⟨l15, 0, ob16, c17, r18, hq32, o19, (by omega), rfl, rfl⟩ ⟨rfl, rfl, rfl, rfl, trivial⟩ (fun w m => m.pick [0] 1 rfl rfl) ?_
    clear hq32
    rintro k51 L54 M55 ⟨l44, n49, ob45, c46, r47, hl52, o48, b50, e56, e57⟩
    rw [e56, e57]
    clear e56 e57 L54 M55
    rcases k51 with _ | k51
    ·rw [waybilllaw03_joined.l2] at hl52; cases hl52
    rw [waybilllaw03_joined.l2] at hl52
    have m58 := o48.mx
    refine CW.seq (CW.seq (CW.region ?_))
    refine OW.rv (RV.move rfl) rfl ?_
    refine OW.rv (RV.move rfl) rfl ?_
    refine OW.rv (RV.move rfl) rfl ?_
    obtain ⟨x59, hx60, hl52⟩ := some_bind hl52
    have hl61 := lt_of_at hx60
    refine OW.rv (RV.idx_r (n20) rfl rfl rfl rfl rfl (va0.isSome (by decide) hl61) (by omega)) rfl ?_
    obtain ⟨cs62, h63, h64⟩ := ha0.get BsRd.len hx60
    obtain ⟨A65, c66, e68, v67⟩ := h63
    subst e68
    have m69 := v67.mx
    refine OW.rv (RV.load_at rfl rfl rfl (fun w m => by have := va0.load (More.of hΦ 1 m rfl) h64 0 _ rfl; simpa [Addr.add] using this)) rfl ?_
    refine OW.rv (RV.len rfl rfl) rfl ?_
    refine OW.rv (RV.lss rfl rfl) rfl ?_
    refine OW.slot (.bool (decide (n49 < x59.length))) (congrArg Value.bool (decide_eq_decide.2 (by omega))) ?_
    refine OW.nil (QW.then_n ?_)
    by_cases h70 : n49 < x59.length
    ·replace hl52 := if_t hl52 h70
     refine CW.is_t rfl (decide_eq_true h70) ?_
     refine CW.skip (QW.then_n (CW.seq (CW.block (CW.region ?_))))
     refine OW.rv (RV.move rfl) rfl ?_
     refine OW.rv (RV.move rfl) rfl ?_
     refine OW.rv (RV.move rfl) rfl ?_
     obtain ⟨x71, hx72, hl52⟩ := some_bind hl52
     have hl73 := lt_of_at hx72
     refine OW.rv (RV.idx_r (n20) rfl rfl rfl rfl rfl (va0.isSome (by decide) hl73) (by omega)) rfl ?_
     obtain ⟨cs74, h75, h76⟩ := ha0.get BsRd.len hx72
     obtain ⟨A77, c78, e80, v79⟩ := h75
     subst e80
     have m81 := v79.mx
     refine OW.rv (RV.load_at rfl rfl rfl (fun w m => by have := va0.load (More.of hΦ 1 m rfl) h76 0 _ rfl; simpa [Addr.add] using this)) rfl ?_
     refine OW.rv (RV.move rfl) rfl ?_
     obtain ⟨x82, hx83, hl52⟩ := some_bind hl52
     have hl84 := lt_of_at hx83
     refine OW.rv (RV.idx_r (n49) rfl rfl rfl rfl rfl (v79.isSome (by decide) hl84) (by omega)) rfl ?_
     refine OW.rv (RV.load_at rfl rfl rfl (fun w m => v79.cell (More.of hΦ 1 m rfl) (u8s_at hx83))) rfl ?_
     refine OW.ofN (NV.bs1 rfl rfl rfl rfl rfl rfl) rfl (fun b85 => ?_)
     refine OW.mem (M' := (((some b85), blk ((u8s ([x82] : List (BitVec 8))) ++ []) 5) :: (ob45, blk ((u8s l44) ++ r47) 5) :: ([] ++ N))) (fun w m => by first | exact m | simpa [u8s] using m) ?_
     have o86 : OwnS (some b85) ([x82] : List (BitVec 8)).length 1 1 (u8s ([x82] : List (BitVec 8))) [] := ⟨by simp [u8s], by simp [u8s], (fun h => nomatch h), by simp⟩
     refine OW.slot (sl (some b85) 0 ([x82] : List (BitVec 8)).length 1) (rfl) ?_
     refine OW.rot1 ?_
     obtain ⟨g87, hl52⟩ := some_if hl52
     refine OW.appendOwn (s := 1) rfl rfl rfl rfl rfl rfl o48 (fun w m => m.rd0 (List.Mem.tail _ (List.Mem.head _)) (fun e => o86.nilc (by decide) e)) o86.n (u8s_one _) (o86.zeroO (by decide)) (by decide) (by decide) (by first | omega | (simp only [i5, List.length_nil]; omega)) rfl rfl ((l44 ++ ([x82] : List (BitVec 8))).length) (u8s (l44 ++ ([x82] : List (BitVec 8)))) (List.length_append ..).symm (u8s_app _ _) (fun ob88 r89 c90 o91 => ?_)
     have m92 := o91.mx
     refine OW.rv (RV.assign rfl) rfl ?_
     refine OW.nil (QW.block_n (QW.then_n (CW.region ?_)))
     refine OW.rv (RV.move rfl) rfl ?_
     refine OW.rv (RV.add rfl rfl (by omega)) rfl ?_
     refine OW.slot (.int .i64 (((n49 + 1) : Nat) : Int)) (by first | rfl | (congr 1) | (congr 1; omega)) ?_
     refine OW.rv (RV.assign rfl) rfl ?_
     refine OW.nil ?_
     exact QW.againJ (k' := k51) (Nat.lt_succ_self _) ⟨(l44 ++ ([x82] : List (BitVec 8))), (n49 + 1), ob88, c90, r89, hl52, o91, (by omega), rfl, rfl⟩ ⟨rfl, rfl, rfl, rfl, trivial⟩ (fun w m => m.pick [0] 2 rfl rfl)
    ·replace hl52 := if_f hl52 h70
     refine CW.is_f rfl (decide_eq_false h70) ?_
     refine CW.exit (QW.then_x (QW.then_x (QW.block_xe ?_)))
     exact QW.join ⟨l44, ob45, c46, r47, (Option.some.inj hl52).symm, o48, rfl, rfl⟩ ⟨rfl, rfl, rfl, trivial⟩ (fun w m => m.pick [0] 1 rfl rfl)
  ·replace hl23 := if_f hl23 h30
   refine CW.is_f rfl (decide_eq_false h30) ?_
   refine CW.exit (QW.then_x (QW.then_x (QW.block_xe ?_)))
   exact QW.join ⟨l15, ob16, c17, r18, (Option.some.inj hl23).symm, o19, rfl, rfl⟩ ⟨rfl, trivial⟩ (fun w m => m.pick [0] 1 rfl rfl)
theorem waybilllaw03_folded_does (w0 : World) (Φ : Ctx) (N : List Ent) (hΦ : ∀ w, Mem w0 w N → Φ w) (A0_ : Option Addr) (c0_ : Nat) (a0 : List (BitVec 8)) (res0 : Vector (BitVec 8) 32) (res1 : Bool) (va0 : View Φ A0_ a0.length c0_ 1 (u8s a0)) (hK : TabAt w0 1 constL) (hS : TabAt w0 0 startL) (hf : waybilllaw03_folded a0 = some (res0, res1)) : DoesG Tryd.prog 22 [.slice A0_ a0.length c0_] w0 [] N (fun v G => v = .tuple #[.agg (u8s res0.toList).toArray, .bool res1]) := by
 unfold waybilllaw03_folded at hf
 replace va0 := va0.mono (Ψ := More w0 Φ []) (fun w q => q.1)
 have m1 := va0.mx
 refine DoesG.enter Tryd.func22 rfl Tryd.ntmps22 rfl (M := (([] ++ N))) rfl ?_
 refine CW.seq (CW.region ?_)
 refine OW.alloc (l := (u8s (Vector.replicate 32 0#8).toList)) rfl (by rw [Vector.toList_replicate, ← u8s_rep']; rfl) rfl (fun b2 => ?_)
 refine OW.rv (RV.assign rfl) rfl ?_
 refine OW.nil (QW.then_n (CW.seq (CW.region ?_)))
 refine OW.rv (RV.move rfl) rfl ?_
 refine OW.rv (RV.len rfl rfl) rfl ?_
 obtain ⟨⟨x4, x5⟩, hx3, hf⟩ := some_bind hf
 try dsimp only at hf
 refine OW.callG Tryd.call45 rfl (sha_Pad_own w0 (More w0 Φ []) ((some b2, blk (u8s (Vector.replicate 32 0#8).toList) 39) :: ([] ++ N)) (fun w m => More.of hΦ 1 m rfl) ((a0.length : Nat) : Int) x4 x5 (by omega) hx3) rfl rfl ?_
 rintro L12 M13 ⟨B6, ob7, c8, r9, o10, b11, e14, e15⟩
 rw [e14, e15]
 clear e14 e15 L12 M13
 refine OW.mem (M' := ((ob7, blk ((u8s x4) ++ r9) 5) :: (some b2, blk (u8s (Vector.replicate 32 0#8).toList) 39) :: ((B6 ++ []) ++ N))) (fun w m => by have h := Mem.sinkAt (A := B6) m 1 1 rfl rfl; exact h) ?_
 have gq1 : ∀ w, More w0 Φ (B6 ++ []) w → More w0 Φ [] w := fun w q => More.mono (fun w m => (m).appR) q
 replace va0 := va0.mono gq1
 have m16 := o10.mx
 refine OW.rv (RV.move rfl) rfl ?_
 refine OW.rv (RV.extract rfl rfl) rfl ?_
 refine OW.slot (sl ob7 0 x4.length c8) (rfl) ?_
 refine OW.rv (RV.extract rfl rfl) rfl ?_
 refine OW.slot (.int .i64 ((x5 : Nat) : Int)) (rfl) ?_
 refine OW.rv (RV.assign rfl) rfl ?_
 refine OW.rv (RV.assign rfl) rfl ?_
 refine OW.nil (QW.then_n (CW.seq (CW.region ?_)))
 refine OW.rv (RV.move rfl) rfl ?_
 refine OW.rv (RV.move rfl) rfl ?_
 refine OW.mem (M' := (some b2, blk (u8s (Vector.replicate 32 0#8).toList) 39) :: (((ob7, blk ((u8s x4) ++ r9) 5) :: (B6 ++ [])) ++ N)) (fun w m => m.pick [1, 0] 2 rfl rfl) ?_
 have gq2 : ∀ w, More w0 Φ ((ob7, blk ((u8s x4) ++ r9) 5) :: (B6 ++ [])) w → More w0 Φ (B6 ++ []) w := fun w q => More.mono (fun w m => (m).tail) q
 replace va0 := va0.mono gq2
 have v19 : View (More w0 Φ ((ob7, blk ((u8s x4) ++ r9) 5) :: (B6 ++ []))) ((ob7).map fun k => ⟨k, 0, none⟩) x4.length c8 1 (u8s x4) := o10.view (by decide) (fun w q => q.2.sublist (List.singleton_sublist.2 (List.mem_cons_self ..)))
 refine OW.ofN (NV.bsN rfl rfl rfl (by decide) (by decide) rfl rfl rfl rfl) rfl (fun b17 => ?_)
 have h21 : Reps (BsRd (More w0 Φ ((ob7, blk ((u8s x4) ++ r9) 5) :: (B6 ++ [])))) (([.slice A0_ a0.length c0_] : List Value) ++ ([.slice ((ob7).map fun k => ⟨k, 0, none⟩) x4.length c8] : List Value)) [a0, x4] := by simpa using (show Reps (BsRd (More w0 Φ ((ob7, blk ((u8s x4) ++ r9) 5) :: (B6 ++ [])))) _ [a0, x4] from (.cons (BsRd.mk va0) (.cons (BsRd.mk v19) .nil)))
 refine OW.mem (M' := (((some b17), blk ((([.slice A0_ a0.length c0_] : List Value) ++ ([.slice ((ob7).map fun k => ⟨k, 0, none⟩) x4.length c8] : List Value)) ++ []) 24) :: (some b2, blk (u8s (Vector.replicate 32 0#8).toList) 39) :: (((ob7, blk ((u8s x4) ++ r9) 5) :: (B6 ++ [])) ++ N))) (fun w m => m) ?_
 have o18 : OwnS (some b17) ([a0, x4] : List (List (BitVec 8))).length 2 1 (([.slice A0_ a0.length c0_] : List Value) ++ ([.slice ((ob7).map fun k => ⟨k, 0, none⟩) x4.length c8] : List Value)) [] := ⟨by simp [BsRd], by simp [BsRd], (fun h => nomatch h), by simp⟩
 refine OW.slot (sl (some b17) 0 ([a0, x4] : List (List (BitVec 8))).length 2) (rfl) ?_
 refine OW.mem (M' := (some b2, blk (u8s (Vector.replicate 32 0#8).toList) 39) :: ((((some b17), blk ((([.slice A0_ a0.length c0_] : List Value) ++ ([.slice ((ob7).map fun k => ⟨k, 0, none⟩) x4.length c8] : List Value)) ++ []) 24) :: ((ob7, blk ((u8s x4) ++ r9) 5) :: (B6 ++ []))) ++ N)) (fun w m => m.pick [1, 0] 2 rfl rfl) ?_
 have gq3 : ∀ w, More w0 Φ (((some b17), blk ((([.slice A0_ a0.length c0_] : List Value) ++ ([.slice ((ob7).map fun k => ⟨k, 0, none⟩) x4.length c8] : List Value)) ++ []) 24) :: ((ob7, blk ((u8s x4) ++ r9) 5) :: (B6 ++ []))) w → More w0 Φ ((ob7, blk ((u8s x4) ++ r9) 5) :: (B6 ++ [])) w := fun w q => More.mono (fun w m => (m).tail) q
 replace va0 := va0.mono gq3
 replace v19 := v19.mono gq3
 replace h21 := h21.mono (BsRd.mono gq3)
 have v22 : View (More w0 Φ (((some b17), blk ((([.slice A0_ a0.length c0_] : List Value) ++ ([.slice ((ob7).map fun k => ⟨k, 0, none⟩) x4.length c8] : List Value)) ++ []) 24) :: ((ob7, blk ((u8s x4) ++ r9) 5) :: (B6 ++ [])))) (((some b17)).map fun k => ⟨k, 0, none⟩) ([a0, x4] : List (List (BitVec 8))).length 2 1 (([.slice A0_ a0.length c0_] : List Value) ++ ([.slice ((ob7).map fun k => ⟨k, 0, none⟩) x4.length c8] : List Value)) := o18.view (by decide) (fun w q => q.2.sublist (List.singleton_sublist.2 (List.mem_cons_self ..)))
 obtain ⟨x24, hx23, hf⟩ := some_bind hf
 refine OW.callG Tryd.call36 rfl (waybilllaw03_joined_does w0 (More w0 Φ (((some b17), blk ((([.slice A0_ a0.length c0_] : List Value) ++ ([.slice ((ob7).map fun k => ⟨k, 0, none⟩) x4.length c8] : List Value)) ++ []) 24) :: ((ob7, blk ((u8s x4) ++ r9) 5) :: (B6 ++ [])))) ((some b2, blk (u8s (Vector.replicate 32 0#8).toList) 39) :: ((((some b17), blk ((([.slice A0_ a0.length c0_] : List Value) ++ ([.slice ((ob7).map fun k => ⟨k, 0, none⟩) x4.length c8] : List Value)) ++ []) 24) :: ((ob7, blk ((u8s x4) ++ r9) 5) :: (B6 ++ []))) ++ N)) (fun w m => More.of hΦ 1 m rfl) (((some b17)).map fun k => ⟨k, 0, none⟩) 2 (([.slice A0_ a0.length c0_] : List Value) ++ ([.slice ((ob7).map fun k => ⟨k, 0, none⟩) x4.length c8] : List Value)) ([a0, x4] : List (List (BitVec 8))) x24 v22 h21 hx23) rfl rfl ?_
 rintro L30 M31 ⟨B25, ob26, c27, r28, o29, e32, e33⟩
 rw [e32, e33]
 clear e32 e33 L30 M31
 refine OW.mem (M' := ((ob26, blk ((u8s x24) ++ r28) 5) :: (some b2, blk (u8s (Vector.replicate 32 0#8).toList) 39) :: ((B25 ++ (((some b17), blk ((([.slice A0_ a0.length c0_] : List Value) ++ ([.slice ((ob7).map fun k => ⟨k, 0, none⟩) x4.length c8] : List Value)) ++ []) 24) :: ((ob7, blk ((u8s x4) ++ r9) 5) :: (B6 ++ [])))) ++ N))) (fun w m => by have h := Mem.sinkAt (A := B25) m 1 1 rfl rfl; exact h) ?_
 have gq4 : ∀ w, More w0 Φ (B25 ++ (((some b17), blk ((([.slice A0_ a0.length c0_] : List Value) ++ ([.slice ((ob7).map fun k => ⟨k, 0, none⟩) x4.length c8] : List Value)) ++ []) 24) :: ((ob7, blk ((u8s x4) ++ r9) 5) :: (B6 ++ [])))) w → More w0 Φ (((some b17), blk ((([.slice A0_ a0.length c0_] : List Value) ++ ([.slice ((ob7).map fun k => ⟨k, 0, none⟩) x4.length c8] : List Value)) ++ []) 24) :: ((ob7, blk ((u8s x4) ++ r9) 5) :: (B6 ++ []))) w := fun w q => More.mono (fun w m => (m).appR) q
 replace va0 := va0.mono gq4
 replace v19 := v19.mono gq4
 replace v22 := v22.mono gq4
 replace h21 := h21.mono (BsRd.mono gq4)
 have m34 := o29.mx
 refine OW.rv (RV.assign rfl) rfl ?_
 refine OW.nil (QW.then_n (CW.seq (CW.seq ?_)))
 obtain ⟨q35, hq36, hf⟩ := some_bind hf
 refine CW.cutJ (fun L' M' => ∃ p37 : Bool, q35 = p37 ∧ L' = [(2, ptr (some b2) 0), (6, sl ob26 0 x24.length c27), (40, .bool (p37))] ∧ M' = ((ob26, blk ((u8s x24) ++ r28) 5) :: (some b2, blk (u8s (Vector.replicate 32 0#8).toList) 39) :: ((B25 ++ (((some b17), blk ((([.slice A0_ a0.length c0_] : List Value) ++ ([.slice ((ob7).map fun k => ⟨k, 0, none⟩) x4.length c8] : List Value)) ++ []) 24) :: ((ob7, blk ((u8s x4) ++ r9) 5) :: (B6 ++ [])))) ++ N))) ?_ ?_
 ·rintro L39 M40 ⟨p37, e38, e41, e42⟩
  rw [e41, e42]
  clear e41 e42 L39 M40
  clear hq36
  rw [e38] at hf
  clear e38
  try dsimp only at hf
  have m43 := o29.mx
  refine QW.then_n ?_
  by_cases h44 : p37 = true
  ·replace hf := if_t hf h44
   refine CW.is_t rfl (h44) ?_
   refine CW.seq (CW.region ?_)
   refine OW.rv (RV.build0 (l := (u8s (Vector.replicate 32 0#8).toList)) rfl rfl rfl (by rw [Vector.toList_replicate, ← u8s_rep']; rfl)) rfl ?_
   refine OW.rot1 ?_
   refine OW.sv (SV.storeW rfl rfl rfl (u8s_one _) rfl ((u8s_length _).trans Vector.length_toList) ((u8s_length _).trans Vector.length_toList)) ?_
   refine OW.rv (RV.assign rfl) rfl ?_
   refine OW.nil (QW.then_n (CW.ret (QW.then_r ?_)))
   have er0 := Option.some.inj hf
   obtain ⟨e0, er1⟩ := Prod.mk.inj er0
   clear er0
   subst e0
   subst er1
   refine QW.retG (rs := [.cell 2 39, .tmp 3]) ([.agg (u8s (Vector.replicate 32 0#8).toList).toArray, .bool false]) ((some b2, blk (u8s (Vector.replicate 32 0#8).toList) 39) :: (ob26, blk ((u8s x24) ++ r28) 5) :: (B25 ++ (((some b17), blk ((([.slice A0_ a0.length c0_] : List Value) ++ ([.slice ((ob7).map fun k => ⟨k, 0, none⟩) x4.length c8] : List Value)) ++ []) 24) :: ((ob7, blk ((u8s x4) ++ r9) 5) :: (B6 ++ []))))) rfl ?_ rfl ?_ ?_ _ (.inl rfl)
   ·exact ⟨⟨_, _, _, _, rfl, (List.Mem.head _), rfl, rfl, (congrArg some ((u8s_length _).trans Vector.length_toList).symm), rfl⟩, rfl, trivial⟩
   ·exact rfl
   ·exact (fun w m => m)
  ·replace hf := if_f hf h44
   refine CW.is_f rfl (Bool.eq_false_iff.2 h44) ?_
   refine CW.skip (QW.then_n (CW.seq (CW.region ?_)))
   obtain ⟨x46, hx45, hf⟩ := some_bind hf
   refine OW.callG Tryd.call15 rfl (sha_Start_does w0 (More w0 Φ (B25 ++ (((some b17), blk ((([.slice A0_ a0.length c0_] : List Value) ++ ([.slice ((ob7).map fun k => ⟨k, 0, none⟩) x4.length c8] : List Value)) ++ []) 24) :: ((ob7, blk ((u8s x4) ++ r9) 5) :: (B6 ++ []))))) ((ob26, blk ((u8s x24) ++ r28) 5) :: (some b2, blk (u8s (Vector.replicate 32 0#8).toList) 39) :: ((B25 ++ (((some b17), blk ((([.slice A0_ a0.length c0_] : List Value) ++ ([.slice ((ob7).map fun k => ⟨k, 0, none⟩) x4.length c8] : List Value)) ++ []) 24) :: ((ob7, blk ((u8s x4) ++ r9) 5) :: (B6 ++ [])))) ++ N)) (fun w m => More.of hΦ 2 m rfl) x46 hS hx45) rfl rfl ?_
   rintro _ G47 rfl
   refine OW.mem (M' := ((ob26, blk ((u8s x24) ++ r28) 5) :: (some b2, blk (u8s (Vector.replicate 32 0#8).toList) 39) :: ((B25 ++ (((some b17), blk ((([.slice A0_ a0.length c0_] : List Value) ++ ([.slice ((ob7).map fun k => ⟨k, 0, none⟩) x4.length c8] : List Value)) ++ []) 24) :: ((ob7, blk ((u8s x4) ++ r9) 5) :: (B6 ++ [])))) ++ N))) (fun w m => m.appR) ?_
   refine OW.alloc (l := (u32s (Vector.replicate 8 0#32).toList)) rfl (by rw [Vector.toList_replicate, ← u32s_rep]; rfl) rfl (fun b49 => ?_)
   refine OW.sv (SV.storeW rfl rfl rfl (u32s_one _) rfl ((u32s_length _).trans Vector.length_toList) ((u32s_length _).trans Vector.length_toList)) ?_
   refine OW.nil (QW.then_n (CW.seq (CW.seq (CW.region ?_))))
   refine OW.rv (RV.assign rfl) rfl ?_
   refine OW.nil (QW.then_n ?_)
   obtain ⟨q50, hq51, hf⟩ := some_bind hf
   refine CW.cutJ (fun L' M' => ∃ w54 : Vector (BitVec 32) 8, ∃ B52 : List Ent, q50 = Lp.go w54 ∧ (∀ w, Mem w0 w B52 → Mem w0 w (B25 ++ (((some b17), blk ((([.slice A0_ a0.length c0_] : List Value) ++ ([.slice ((ob7).map fun k => ⟨k, 0, none⟩) x4.length c8] : List Value)) ++ []) 24) :: ((ob7, blk ((u8s x4) ++ r9) 5) :: (B6 ++ []))))) ∧ L' = [(2, ptr (some b2) 0), (7, ptr (some b49) 0)] ∧ M' = ((some b49, blk (u32s w54.toList) 23) :: (some b2, blk (u8s (Vector.replicate 32 0#8).toList) 39) :: (B52 ++ N))) ?_ ?_
   ·rintro L56 M57 ⟨w54, B52, e55, hB53, e58, e59⟩
    rw [e58, e59]
    clear e58 e59 L56 M57
    clear hq51
    rw [e55] at hf
    clear e55
    try dsimp only at hf
    refine QW.then_n (CW.seq (CW.region ?_))
    refine OW.alloc (l := (u8s (Vector.replicate 32 0#8).toList)) rfl (by rw [Vector.toList_replicate, ← u8s_rep']; rfl) rfl (fun b60 => ?_)
    refine OW.nil (QW.then_n (CW.seq (CW.seq (CW.region ?_))))
    refine OW.rv (RV.assign rfl) rfl ?_
    refine OW.nil (QW.then_n ?_)
    obtain ⟨q61, hq62, hf⟩ := some_bind hf
    refine CW.cutJ (fun L' M' => ∃ w63 : Vector (BitVec 8) 32, q61 = w63 ∧ L' = [(2, ptr (some b2) 0), (11, ptr (some b60) 0)] ∧ M' = ((some b60, blk (u8s w63.toList) 39) :: (some b2, blk (u8s (Vector.replicate 32 0#8).toList) 39) :: (B52 ++ N))) ?_ ?_
    ·rintro L65 M66 ⟨w63, e64, e67, e68⟩
     rw [e67, e68]
     clear e67 e68 L65 M66
     clear hq62
     rw [e64] at hf
     clear e64
     try dsimp only at hf
     refine QW.then_n (CW.seq (CW.region ?_))
     refine OW.rv (RV.loadW rfl (List.Mem.head _) rfl rfl rfl rfl ((u8s_length _).trans Vector.length_toList)) rfl ?_
     refine OW.rot1 ?_
     refine OW.sv (SV.storeW rfl rfl rfl (u8s_one _) rfl ((u8s_length _).trans Vector.length_toList) ((u8s_length _).trans Vector.length_toList)) ?_
     refine OW.rv (RV.assign rfl) rfl ?_
     refine OW.nil (QW.then_n (CW.ret ?_))
     have er0 := Option.some.inj hf
     obtain ⟨e0, er1⟩ := Prod.mk.inj er0
     clear er0
     subst e0
     subst er1
     refine QW.retG (rs := [.cell 2 39, .tmp 3]) ([.agg (u8s w63.toList).toArray, .bool true]) ((some b2, blk (u8s w63.toList) 39) :: (some b60, blk (u8s w63.toList) 39) :: B52) rfl ?_ rfl ?_ ?_ _ (.inl rfl)
     ·exact ⟨⟨_, _, _, _, rfl, (List.Mem.head _), rfl, rfl, (congrArg some ((u8s_length _).trans Vector.length_toList).symm), rfl⟩, rfl, trivial⟩
     ·exact rfl
     ·exact (fun w m => m)
    ·skip
     refine CW.block ?_
     refine CW.loopJ (fun k L' M' => ∃ n69 : Nat, ∃ w71 : Vector (BitVec 8) 32, (waybilllaw03_folded.l1 w54 k n69 w71) = some q61 ∧ (n69 ≤ 9223372036854775807) ∧ L' = [(2, ptr (some b2) 0), (7, ptr (some b49) 0), (11, ptr (some b60) 0), (12, .int .i64 ((n69 : Nat) : Int))] ∧ M' = ((some b60, blk (u8s w71.toList) 39) :: (some b49, blk (u32s w54.toList) 23) :: (some b2, blk (u8s (Vector.replicate 32 0#8).toList) 39) :: (B52 ++ N))) (k0 := (32 - 0 + 2)) ⟨0, (Vector.replicate 32 0#8), hq62, (by omega), rfl, rfl⟩ ⟨rfl, rfl, rfl, rfl, trivial⟩ (fun w m => m.pick [0, 1, 2] 3 rfl rfl) ?_
     clear hq62
     rintro k72 L75 M76 ⟨n69, w71, hl73, b70, e77, e78⟩
     rw [e77, e78]
     clear e77 e78 L75 M76
     rcases k72 with _ | k72
     ·rw [waybilllaw03_folded.l1] at hl73; cases hl73
     rw [waybilllaw03_folded.l1] at hl73
     refine CW.seq (CW.seq (CW.region ?_))
     refine OW.rv (RV.move rfl) rfl ?_
     refine OW.rv (RV.lss rfl rfl) rfl ?_
     refine OW.slot (.bool (decide (n69 < 32))) (congrArg Value.bool (decide_eq_decide.2 (by omega))) ?_
     refine OW.nil (QW.then_n ?_)
     by_cases h79 : n69 < 32
     ·replace hl73 := if_t hl73 h79
      refine CW.is_t rfl (decide_eq_true h79) ?_
      refine CW.skip (QW.then_n (CW.seq (CW.block (CW.region ?_))))
      refine OW.rv (RV.move rfl) rfl ?_
      refine OW.rv (RV.move rfl) rfl ?_
      refine OW.rv (RV.quo rfl rfl (by omega) (by omega) (by omega)) rfl ?_
      refine OW.slot (.int .i64 ((n69 / 4 : Nat) : Int)) (by first | rfl | (congr 1; omega)) ?_
      obtain ⟨g80, hl73⟩ := some_if hl73
      refine OW.rv (RV.idx_a ((n69 / 4)) rfl rfl rfl rfl rfl (by omega)) rfl ?_
      obtain ⟨x81, hx82, hl73⟩ := some_bind hl73
      refine OW.rv (RV.load rfl (List.Mem.tail _ (List.Mem.head _)) rfl rfl rfl (by rw [Nat.zero_add]; exact u32s_at (vat hx82))) rfl ?_
      refine OW.rv (RV.move rfl) rfl ?_
      refine OW.rv (RV.rem rfl rfl (by omega) (by omega)) rfl ?_
      refine OW.slot (.int .i64 ((n69 % 4 : Nat) : Int)) (by first | rfl | (congr 1; omega)) ?_
      refine OW.rv (RV.mul rfl rfl (by omega)) rfl ?_
      refine OW.slot (.int .i64 (((8 * (n69 % 4)) : Nat) : Int)) (by first | rfl | (congr 1) | (congr 1; omega)) ?_
      refine OW.rv (RV.sub rfl rfl (by omega)) rfl ?_
      refine OW.rv (RV.conv_i64 rfl rfl rfl) rfl ?_
      refine OW.rv (RV.shr32 (s := (BitVec.ofInt 64 ((24 : Int) - (((8 * (n69 % 4)) : Nat) : Int))).toNat) rfl (by first | rfl | exact lit32 _ rfl) rfl (by first | rfl | (simp [U64]; done))) rfl ?_
      refine OW.rv (RV.conv32_8 rfl (by first | rfl | exact lit32 _ rfl) rfl rfl) rfl ?_
      refine OW.rv (RV.idx_a (n69) rfl rfl rfl rfl rfl (by omega)) rfl ?_
      refine OW.sv (SV.store rfl rfl rfl rfl rfl (by rw [u8s_length, Vector.length_toList]; omega)) ?_
      refine OW.cells (u8s (w71.setIfInBounds n69 ((x81 >>> (BitVec.ofInt 64 ((24 : Int) - (((8 * (n69 % 4)) : Nat) : Int))).toNat).setWidth 8)).toList) (by rw [Nat.zero_add, u8s_set', vset]) ?_
      refine OW.nil (QW.block_n (QW.then_n (CW.region ?_)))
      refine OW.rv (RV.move rfl) rfl ?_
      refine OW.rv (RV.add rfl rfl (by omega)) rfl ?_
      refine OW.slot (.int .i64 (((n69 + 1) : Nat) : Int)) (by first | rfl | (congr 1) | (congr 1; omega)) ?_
      refine OW.rv (RV.assign rfl) rfl ?_
      refine OW.nil ?_
      exact QW.againJ (k' := k72) (Nat.lt_succ_self _) ⟨(n69 + 1), (w71.setIfInBounds n69 ((x81 >>> (BitVec.ofInt 64 ((24 : Int) - (((8 * (n69 % 4)) : Nat) : Int))).toNat).setWidth 8)), hl73, (by omega), rfl, rfl⟩ ⟨rfl, rfl, rfl, rfl, trivial⟩ (fun w m => m.pick [0, 1, 2] 3 rfl rfl)
     ·replace hl73 := if_f hl73 h79
      refine CW.is_f rfl (decide_eq_false h79) ?_
      refine CW.exit (QW.then_x (QW.then_x (QW.block_xe ?_)))
      exact QW.join ⟨w71, (Option.some.inj hl73).symm, rfl, rfl⟩ ⟨rfl, rfl, trivial⟩ (fun w m => m.pick [0, 2] 3 rfl rfl)
   ·skip
    refine CW.block ?_
    refine CW.mem (M' := (some b49, blk (u32s x46.toList) 23) :: (some b2, blk (u8s (Vector.replicate 32 0#8).toList) 39) :: (((ob26, blk ((u8s x24) ++ r28) 5) :: (B25 ++ (((some b17), blk ((([.slice A0_ a0.length c0_] : List Value) ++ ([.slice ((ob7).map fun k => ⟨k, 0, none⟩) x4.length c8] : List Value)) ++ []) 24) :: ((ob7, blk ((u8s x4) ++ r9) 5) :: (B6 ++ []))))) ++ N)) (fun w m => m.pick [0, 2, 1] 3 rfl rfl) ?_
    have v94 : View (More w0 Φ ((ob26, blk ((u8s x24) ++ r28) 5) :: (B25 ++ (((some b17), blk ((([.slice A0_ a0.length c0_] : List Value) ++ ([.slice ((ob7).map fun k => ⟨k, 0, none⟩) x4.length c8] : List Value)) ++ []) 24) :: ((ob7, blk ((u8s x4) ++ r9) 5) :: (B6 ++ [])))))) ((ob26).map fun k => ⟨k, 0, none⟩) x24.length c27 1 (u8s x24) := o29.view (by decide) (fun w q => q.2.sublist (List.singleton_sublist.2 (List.mem_cons_self ..)))
    refine CW.loopJ (fun k L' M' => ∃ l97 : List (BitVec 8), ∃ n101 : Nat, ∃ w103 : Vector (BitVec 32) 8, ∃ B95 : List Ent, ∃ A98 : Option Addr, ∃ c99 : Nat, (waybilllaw03_folded.l2 k l97 n101 w103) = some q50 ∧ (∀ w, Mem w0 w B95 → Mem w0 w ((ob26, blk ((u8s x24) ++ r28) 5) :: (B25 ++ (((some b17), blk ((([.slice A0_ a0.length c0_] : List Value) ++ ([.slice ((ob7).map fun k => ⟨k, 0, none⟩) x4.length c8] : List Value)) ++ []) 24) :: ((ob7, blk ((u8s x4) ++ r9) 5) :: (B6 ++ [])))))) ∧ (View (More w0 Φ B95) A98 l97.length c99 1 (u8s l97)) ∧ (n101 ≤ 9223372036854775807) ∧ L' = [(2, ptr (some b2) 0), (6, .slice A98 l97.length c99), (7, ptr (some b49) 0), (8, .int .i64 ((n101 : Nat) : Int))] ∧ M' = ((some b49, blk (u32s w103.toList) 23) :: (some b2, blk (u8s (Vector.replicate 32 0#8).toList) 39) :: (B95 ++ N))) (k0 := (x24.length - 0 + 2)) ⟨x24, 0, x46, ((ob26, blk ((u8s x24) ++ r28) 5) :: (B25 ++ (((some b17), blk ((([.slice A0_ a0.length c0_] : List Value) ++ ([.slice ((ob7).map fun k => ⟨k, 0, none⟩) x4.length c8] : List Value)) ++ []) 24) :: ((ob7, blk ((u8s x4) ++ r9) 5) :: (B6 ++ []))))), ((ob26).map fun k => ⟨k, 0, none⟩), c27, hq51, (fun w m => m), v94, (by omega), rfl, rfl⟩ ⟨rfl, rfl, rfl, rfl, trivial⟩ (fun w m => m.pick [0, 1] 2 rfl rfl) ?_
    clear hq51
    rintro k92 L105 M106 ⟨l97, n101, w103, B95, A98, c99, hl93, hB96, v100, b102, e107, e108⟩
    rw [e107, e108]
    clear e107 e108 L105 M106
    rcases k92 with _ | k92
    ·rw [waybilllaw03_folded.l2] at hl93; cases hl93
    rw [waybilllaw03_folded.l2] at hl93
    have m109 := v100.mx
    refine CW.seq (CW.seq (CW.region ?_))
    refine OW.rv (RV.move rfl) rfl ?_
    refine OW.rv (RV.move rfl) rfl ?_
    refine OW.rv (RV.len rfl rfl) rfl ?_
    refine OW.rv (RV.lss rfl rfl) rfl ?_
    refine OW.slot (.bool (decide (n101 < l97.length))) (congrArg Value.bool (decide_eq_decide.2 (by omega))) ?_
    refine OW.nil (QW.then_n ?_)
    by_cases h110 : n101 < l97.length
    ·replace hl93 := if_t hl93 h110
     refine CW.is_t rfl (decide_eq_true h110) ?_
     refine CW.skip (QW.then_n (CW.seq (CW.block (CW.seq ?_))))
     refine CW.drawsX ((some b49, blk (u32s w103.toList) 23) :: (some b2, blk (u8s (Vector.replicate 32 0#8).toList) 39) :: (B95 ++ N)) [12] (fun w m => m.pick [0, 1] 2 rfl rfl) mixed (by kernel_rfl) ?_
     refine XW.rs 0 rfl (by kernel_rfl) rfl (RV.loadW rfl (List.Mem.head _) rfl rfl rfl rfl ((u32s_length _).trans Vector.length_toList)) rfl ?_
     refine XW.rs 1 rfl (by kernel_rfl) rfl (RV.move rfl) rfl ?_
     refine XW.rs 2 rfl (by kernel_rfl) rfl (RV.move rfl) rfl ?_
     refine XW.rs 3 rfl (by kernel_rfl) rfl (RV.move rfl) rfl ?_
     refine XW.rs 4 rfl (by kernel_rfl) rfl (RV.add rfl rfl (by omega)) rfl ?_
     refine XW.slot (.int .i64 (((n101 + 64) : Nat) : Int)) (by first | rfl | (congr 1) | (congr 1; omega)) ?_
     obtain ⟨g112, hl93⟩ := some_if hl93
     obtain ⟨g113, hl93⟩ := some_if hl93
     have hle := v100.le
     refine XW.rs 5 rfl (by kernel_rfl) rfl (RV.cut_both (s := 1) (n101) ((n101 + 64)) rfl rfl rfl (by omega) (by omega) rfl rfl (by omega) (by omega)) rfl ?_
     refine XW.slot (.slice (subA A98 c99 n101 1) ((l97.take (n101 + 64)).drop n101).length (c99 - n101)) (by rw [show (((l97.take (n101 + 64)).drop n101)).length = ((n101 + 64)) - (n101) from List.length_drop.trans (by rw [List.length_take, Nat.min_eq_left (by omega)])]) ?_
     have v111 : View (More w0 Φ B95) (subA A98 c99 n101 1) ((l97.take (n101 + 64)).drop n101).length (c99 - n101) 1 (u8s ((l97.take (n101 + 64)).drop n101)) := v100.mid8 (by omega) (by omega)
     have m114 := v111.mx
     refine XWp.start (l := (u32s (Vector.replicate 8 0#32).toList)) (te := 23) (dp := 9) 11 rfl (NV.alloc rfl (by rw [Vector.toList_replicate, ← u32s_rep]; rfl)) rfl rfl ?_
     obtain ⟨x116, hx115, hl93⟩ := some_bind hl93
     refine XWp.callG 6 rfl (by kernel_rfl) rfl Tryd.call23 rfl (fun N' hN' => waybilllaw03_copied_does w0 (More w0 Φ B95) N' (fun w m => More.of hΦ 2 (hN' w m) rfl) (subA A98 c99 n101 1) (c99 - n101) ((l97.take (n101 + 64)).drop n101) x116 v111 hx115) rfl ?_
     rintro L122 M123 ⟨B117, ob118, c119, r120, o121, e124, e125⟩
     rw [e124, e125]
     clear e124 e125 L122 M123
     refine XWp.mem (M' := ((ob118, blk ((u8s x116) ++ r120) 5) :: (some b49, blk (u32s w103.toList) 23) :: (some b2, blk (u8s (Vector.replicate 32 0#8).toList) 39) :: ((B117 ++ B95) ++ N))) (fun w m => by have h := Mem.sinkAt (A := B117) m 1 2 rfl rfl; exact h) (fun w m => by have h := Mem.shrink (B := B95) (B' := (B117 ++ B95)) (List.sublist_append_right _ _) (m.pick [1, 2] 3 rfl rfl) 2 rfl; exact h) ?_
     have gq5 : ∀ w, More w0 Φ (B117 ++ B95) w → More w0 Φ B95 w := fun w q => More.mono (fun w m => (m).appR) q
     replace v100 := v100.mono gq5
     replace v111 := v111.mono gq5
     have m126 := o121.mx
     refine XWp.mem (M' := (some b49, blk (u32s w103.toList) 23) :: (some b2, blk (u8s (Vector.replicate 32 0#8).toList) 39) :: (((ob118, blk ((u8s x116) ++ r120) 5) :: (B117 ++ B95)) ++ N)) (fun w m => m.pick [1, 2, 0] 3 rfl rfl) (fun w m => by have h := Mem.shrink (B := B95) (B' := ((ob118, blk ((u8s x116) ++ r120) 5) :: (B117 ++ B95))) ((List.sublist_append_right _ _).trans (List.sublist_cons_self _ _)) (m.pick [0, 1] 2 rfl rfl) 2 rfl; exact h) ?_
     have gq6 : ∀ w, More w0 Φ ((ob118, blk ((u8s x116) ++ r120) 5) :: (B117 ++ B95)) w → More w0 Φ (B117 ++ B95) w := fun w q => More.mono (fun w m => (m).tail) q
     replace v100 := v100.mono gq6
     replace v111 := v111.mono gq6
     have v127 : View (More w0 Φ ((ob118, blk ((u8s x116) ++ r120) 5) :: (B117 ++ B95))) ((ob118).map fun k => ⟨k, 0, none⟩) x116.length c119 1 (u8s x116) := o121.view (by decide) (fun w q => q.2.sublist (List.singleton_sublist.2 (List.mem_cons_self ..)))
     obtain ⟨⟨x129, x130⟩, hx128, hl93⟩ := some_bind hl93
     try dsimp only at hl93
     refine XWp.callG 7 rfl (by kernel_rfl) rfl Tryd.call11 rfl (fun N' hN' => sha_Compress_does w0 (More w0 Φ ((ob118, blk ((u8s x116) ++ r120) 5) :: (B117 ++ B95))) N' (fun w m => More.of hΦ 2 (hN' w m) rfl) w103 ((ob118).map fun k => ⟨k, 0, none⟩) c119 x116 x129 x130 v127 hK hx128) rfl ?_
     rintro _ G132 ⟨b131, rfl⟩
     refine XWp.mem (M' := ((some b49, blk (u32s w103.toList) 23) :: (some b2, blk (u8s (Vector.replicate 32 0#8).toList) 39) :: (((ob118, blk ((u8s x116) ++ r120) 5) :: (B117 ++ B95)) ++ N))) (fun w m => m.appR) (fun w m => by have h := Mem.shrink (B := B95) (B' := ((ob118, blk ((u8s x116) ++ r120) 5) :: (B117 ++ B95))) ((List.sublist_append_right _ _).trans (List.sublist_cons_self _ _)) (m.pick [0, 1] 2 rfl rfl) 2 rfl; exact h) ?_
     refine XWp.rs 8 rfl (by kernel_rfl) rfl (RV.move rfl) rfl ?_
     refine XWp.rs 9 rfl (by kernel_rfl) rfl (RV.extract rfl rfl) rfl ?_
     refine XWp.slot (.agg (u32s x129.toList).toArray) (rfl) ?_
     refine XWp.rs 10 rfl (by kernel_rfl) rfl (RV.extract rfl rfl) rfl ?_
     refine XWp.slot (.int .i64 x130) (rfl) ?_
     refine XWp.fin (by kernel_rfl) (fun b134 => ?_)
     refine XW.sv 12 rfl (by kernel_rfl) (SV.storeW rfl rfl rfl (u32s_one _) rfl ((u32s_length _).trans Vector.length_toList) ((u32s_length _).trans Vector.length_toList)) (fun w m => by have h := Mem.shrink (B := B95) (B' := ((ob118, blk ((u8s x116) ++ r120) 5) :: (B117 ++ B95))) ((List.sublist_append_right _ _).trans (List.sublist_cons_self _ _)) (m.pick [1, 2] 3 rfl rfl) 2 rfl; exact h) ?_
     refine XW.rs 13 rfl (by kernel_rfl) rfl (RV.assign rfl) rfl ?_
     refine XW.nil (by kernel_rfl) ?_
     refine QW.then_n (CW.seq (CW.seq (CW.region ?_)))
     refine OW.rv (RV.move rfl) rfl ?_
     refine OW.rv (RV.neq rfl rfl) rfl ?_
     refine OW.nil (QW.then_n ?_)
     by_cases h135 : x130 = (0 : Int)
     ·replace hl93 := if_t hl93 h135
      refine CW.is_f rfl (congrArg (fun b => !b) (decide_eq_true h135)) ?_
      refine CW.skip (QW.then_n (CW.region ?_))
      refine OW.rv (RV.loadW rfl (List.Mem.head _) rfl rfl rfl rfl ((u32s_length _).trans Vector.length_toList)) rfl ?_
      refine OW.rot1 ?_
      refine OW.sv (SV.storeW rfl rfl rfl (u32s_one _) rfl ((u32s_length _).trans Vector.length_toList) ((u32s_length _).trans Vector.length_toList)) ?_
      refine OW.nil (QW.block_n (QW.then_n (CW.region ?_)))
      refine OW.rv (RV.move rfl) rfl ?_
      refine OW.rv (RV.add rfl rfl (by omega)) rfl ?_
      refine OW.slot (.int .i64 (((n101 + 64) : Nat) : Int)) (by first | rfl | (congr 1) | (congr 1; omega)) ?_
      refine OW.rv (RV.assign rfl) rfl ?_
      refine OW.nil ?_
      exact QW.againJ (k' := k92) (Nat.lt_succ_self _) ⟨l97, (n101 + 64), x129, ((ob118, blk ((u8s x116) ++ r120) 5) :: (B117 ++ B95)), A98, c99, hl93, (fun w m => hB96 w (((m).tail).appR)), v100, (by omega), rfl, rfl⟩ ⟨rfl, rfl, rfl, rfl, trivial⟩ (fun w m => m.pick [0, 2] 3 rfl rfl)
     ·replace hl93 := if_f hl93 h135
      refine CW.is_t rfl (congrArg (fun b => !b) (decide_eq_false h135)) ?_
      refine CW.seq (CW.region ?_)
      refine OW.rv (RV.build0 (l := (u8s (Vector.replicate 32 0#8).toList)) rfl rfl rfl (by rw [Vector.toList_replicate, ← u8s_rep']; rfl)) rfl ?_
      refine OW.rot2 ?_
      refine OW.sv (SV.storeW rfl rfl rfl (u8s_one _) rfl ((u8s_length _).trans Vector.length_toList) ((u8s_length _).trans Vector.length_toList)) ?_
      refine OW.rv (RV.assign rfl) rfl ?_
      refine OW.nil (QW.then_n (CW.ret (QW.then_r (QW.block_r (QW.then_r (QW.then_r (QW.block_r (QW.then_r ?_))))))))
      have hc := Option.some.inj hl93
      subst hc
      try dsimp only at hf
      refine QW.then_r ?_
      have er0 := Option.some.inj hf
      obtain ⟨e0, er1⟩ := Prod.mk.inj er0
      clear er0
      subst e0
      subst er1
      refine QW.retG (rs := [.cell 2 39, .tmp 3]) ([.agg (u8s (Vector.replicate 32 0#8).toList).toArray, .bool false]) ((some b2, blk (u8s (Vector.replicate 32 0#8).toList) 39) :: (some b134, blk (u32s x129.toList) 23) :: (some b49, blk (u32s w103.toList) 23) :: ((ob118, blk ((u8s x116) ++ r120) 5) :: (B117 ++ B95))) rfl ?_ rfl ?_ ?_ _ (.inl rfl)
      ·exact ⟨⟨_, _, _, _, rfl, (List.Mem.head _), rfl, rfl, (congrArg some ((u8s_length _).trans Vector.length_toList).symm), rfl⟩, rfl, trivial⟩
      ·exact rfl
      ·exact (fun w m => m)
    ·replace hl93 := if_f hl93 h110
     refine CW.is_f rfl (decide_eq_false h110) ?_
     refine CW.exit (QW.then_x (QW.then_x (QW.block_xe ?_)))
     exact QW.join ⟨w103, B95, (Option.some.inj hl93).symm, (fun w m => (hB96 w (m)).tail), rfl, rfl⟩ ⟨rfl, rfl, trivial⟩ (fun w m => m.pick [0, 1] 2 rfl rfl)
 ·skip
  refine CW.region ?_
  refine OW.rv (RV.move rfl) rfl ?_
  refine OW.rv (RV.neq rfl rfl) rfl ?_
  refine OW.slot (.bool (!decide (x5 = 0))) (congrArg (fun b => Value.bool (!b)) (decide_eq_decide.2 (by omega))) ?_
  refine OW.rv (RV.move rfl) rfl ?_
  by_cases h136 : x5 = 0
  ·replace hq36 := if_t hq36 h136
   refine OW.slot (.bool false) (congrArg Value.bool (congrArg (fun b => !b) (decide_eq_true h136))) ?_
   refine OW.want rfl ?_
   refine OW.rv (RV.move rfl) rfl ?_
   refine OW.want rfl ?_
   refine OW.rv (RV.len rfl rfl) rfl ?_
   refine OW.want rfl ?_
   refine OW.rv (RV.rem rfl rfl (by omega) (by omega)) rfl ?_
   refine OW.slot (.int .i64 ((x24.length % 64 : Nat) : Int)) (by first | rfl | (congr 1; omega)) ?_
   refine OW.want rfl ?_
   refine OW.rv (RV.neq rfl rfl) rfl ?_
   refine OW.slot (.bool (!decide ((x24.length % 64) = 0))) (congrArg (fun b => Value.bool (!b)) (decide_eq_decide.2 (by omega))) ?_
   refine OW.rv (RV.pick_f rfl rfl rfl) rfl ?_
   refine OW.rv (RV.move rfl) rfl ?_
   by_cases h137 : (x24.length % 64) = 0
   ·replace hq36 := if_t hq36 h137
    refine OW.slot (.bool false) (congrArg Value.bool (congrArg (fun b => !b) (decide_eq_true h137))) ?_
    refine OW.want rfl ?_
    refine OW.rv (RV.move rfl) rfl ?_
    refine OW.want rfl ?_
    refine OW.rv (RV.len rfl rfl) rfl ?_
    refine OW.want rfl ?_
    refine OW.rv (RV.lss rfl rfl) rfl ?_
    refine OW.slot (.bool (decide (x4.length < 9))) (congrArg Value.bool (decide_eq_decide.2 (by omega))) ?_
    refine OW.rv (RV.pick_f rfl rfl rfl) rfl ?_
    refine OW.rv (RV.move rfl) rfl ?_
    by_cases h138 : x4.length < 9
    ·replace hq36 := if_t hq36 h138
     refine OW.slot (.bool true) (congrArg Value.bool (decide_eq_true h138)) ?_
     refine OW.skip rfl rfl rfl ?_
     refine OW.skip rfl rfl rfl ?_
     refine OW.skip rfl rfl rfl ?_
     refine OW.rv (RV.pick_t rfl rfl rfl) rfl ?_
     refine OW.nil ?_
     exact QW.join ⟨true, (Option.some.inj hq36).symm, rfl, rfl⟩ ⟨rfl, rfl, rfl, trivial⟩ (fun w m => m.pick [0, 1] 2 rfl rfl)
    ·replace hq36 := if_f hq36 h138
     refine OW.slot (.bool false) (congrArg Value.bool (decide_eq_false h138)) ?_
     refine OW.want rfl ?_
     refine OW.rv (RV.move rfl) rfl ?_
     refine OW.want rfl ?_
     refine OW.rv (RV.len rfl rfl) rfl ?_
     refine OW.want rfl ?_
     refine OW.rv (RV.gtr rfl rfl) rfl ?_
     refine OW.slot (.bool (decide (72 < x4.length))) (congrArg Value.bool (decide_eq_decide.2 (by omega))) ?_
     refine OW.rv (RV.pick_f rfl rfl rfl) rfl ?_
     refine OW.nil ?_
     exact QW.join ⟨(decide (72 < x4.length)), (Option.some.inj hq36).symm, rfl, rfl⟩ ⟨rfl, rfl, rfl, trivial⟩ (fun w m => m.pick [0, 1] 2 rfl rfl)
   ·replace hq36 := if_f hq36 h137
    refine OW.slot (.bool true) (congrArg Value.bool (congrArg (fun b => !b) (decide_eq_false h137))) ?_
    refine OW.skip rfl rfl rfl ?_
    refine OW.skip rfl rfl rfl ?_
    refine OW.skip rfl rfl rfl ?_
    refine OW.rv (RV.pick_t rfl rfl rfl) rfl ?_
    refine OW.rv (RV.move rfl) rfl ?_
    refine OW.skip rfl rfl rfl ?_
    refine OW.skip rfl rfl rfl ?_
    refine OW.skip rfl rfl rfl ?_
    refine OW.rv (RV.pick_t rfl rfl rfl) rfl ?_
    refine OW.nil ?_
    exact QW.join ⟨true, (Option.some.inj hq36).symm, rfl, rfl⟩ ⟨rfl, rfl, rfl, trivial⟩ (fun w m => m.pick [0, 1] 2 rfl rfl)
  ·replace hq36 := if_f hq36 h136
   refine OW.slot (.bool true) (congrArg Value.bool (congrArg (fun b => !b) (decide_eq_false h136))) ?_
   refine OW.skip rfl rfl rfl ?_
   refine OW.skip rfl rfl rfl ?_
   refine OW.skip rfl rfl rfl ?_
   refine OW.skip rfl rfl rfl ?_
   refine OW.rv (RV.pick_t rfl rfl rfl) rfl ?_
   refine OW.rv (RV.move rfl) rfl ?_
   refine OW.skip rfl rfl rfl ?_
   refine OW.skip rfl rfl rfl ?_
   refine OW.skip rfl rfl rfl ?_
   refine OW.rv (RV.pick_t rfl rfl rfl) rfl ?_
   refine OW.rv (RV.move rfl) rfl ?_
   refine OW.skip rfl rfl rfl ?_
   refine OW.skip rfl rfl rfl ?_
   refine OW.skip rfl rfl rfl ?_
   refine OW.rv (RV.pick_t rfl rfl rfl) rfl ?_
   refine OW.nil ?_
   exact QW.join ⟨true, (Option.some.inj hq36).symm, rfl, rfl⟩ ⟨rfl, rfl, rfl, trivial⟩ (fun w m => m.pick [0, 1] 2 rfl rfl)
theorem waybilllaw03_lent_does (w0 : World) (Φ : Ctx) (N : List Ent) (hΦ : ∀ w, Mem w0 w N → Φ w) (A0_ : Option Addr) (c0_ : Nat) (a0 : List (BitVec 8)) (res0 : List (BitVec 8)) (va0 : View Φ A0_ a0.length c0_ 1 (u8s a0)) (hf : waybilllaw03_lent a0 = some res0) : DoesG Tryd.prog 10 [.slice A0_ a0.length c0_] w0 [] N (fun v G => ∃ B : List Ent, ∃ or0 : Option Nat, ∃ kr0 : Nat, ∃ rr0 : List Value, (OwnS or0 res0.length kr0 1 (u8s res0) (u8s (List.replicate 70 165#8) ++ rr0)) ∧ (res0.length + 70 ≤ 140737488355328) ∧ v = sl or0 0 res0.length kr0 ∧ G = (or0, blk ((u8s res0) ++ (u8s (List.replicate 70 165#8) ++ rr0)) 5) :: B) := by
 unfold waybilllaw03_lent at hf
 replace va0 := va0.mono (Ψ := More w0 Φ []) (fun w q => q.1)
 have m1 := va0.mx
 refine DoesG.enter Tryd.func10 rfl Tryd.ntmps10 rfl (M := (([] ++ N))) rfl ?_
 refine CW.seq (CW.region ?_)
 refine OW.rv (RV.assign rfl) rfl ?_
 refine OW.nil (QW.then_n (CW.seq (CW.region ?_)))
 refine OW.rv (RV.move rfl) rfl ?_
 obtain ⟨x3, hx2, hf⟩ := some_bind hf
 refine OW.callG Tryd.call23 rfl (waybilllaw03_copied_does w0 (More w0 Φ []) (([] ++ N)) (fun w m => More.of hΦ 0 m rfl) A0_ c0_ a0 x3 va0 hx2) rfl rfl ?_
 rintro L9 M10 ⟨B4, ob5, c6, r7, o8, e11, e12⟩
 rw [e11, e12]
 clear e11 e12 L9 M10
 refine OW.mem (M' := ((ob5, blk ((u8s x3) ++ r7) 5) :: ((B4 ++ []) ++ N))) (fun w m => by have h := Mem.sinkAt (A := B4) m 1 0 rfl rfl; exact h) ?_
 have gq1 : ∀ w, More w0 Φ (B4 ++ []) w → More w0 Φ [] w := fun w q => More.mono (fun w m => (m).appR) q
 replace va0 := va0.mono gq1
 have m13 := o8.mx
 refine OW.rv (RV.assign rfl) rfl ?_
 refine OW.nil (QW.then_n (CW.seq (CW.seq (CW.region ?_))))
 refine OW.rv (RV.assign rfl) rfl ?_
 refine OW.nil (QW.then_n ?_)
 obtain ⟨q14, hq15, hf⟩ := some_bind hf
 refine CW.cutJ (fun L' M' => ∃ l16 : List (BitVec 8), ∃ ob17 : Option Nat, ∃ c18 : Nat, ∃ r19 : List Value, q14 = l16 ∧ (OwnS ob17 l16.length c18 1 (u8s l16) r19) ∧ L' = [(0, .slice A0_ a0.length c0_), (3, sl ob17 0 l16.length c18)] ∧ M' = ((ob17, blk ((u8s l16) ++ r19) 5) :: ((B4 ++ []) ++ N))) ?_ ?_
 ·rintro L22 M23 ⟨l16, ob17, c18, r19, e21, o20, e24, e25⟩
  rw [e24, e25]
  clear e24 e25 L22 M23
  clear hq15
  rw [e21] at hf
  clear e21
  try dsimp only at hf
  have m26 := o20.mx
  refine QW.then_n (CW.seq (CW.region ?_))
  refine OW.rv (RV.move rfl) rfl ?_
  refine OW.rv (RV.move rfl) rfl ?_
  refine OW.rv (RV.len rfl rfl) rfl ?_
  obtain ⟨g27, hf⟩ := some_if hf
  obtain ⟨g28, hf⟩ := some_if hf
  have hle := o20.le (by decide)
  refine OW.rv (RV.cut_o (a0.length) rfl rfl (by omega) rfl rfl (by omega)) rfl ?_
  have o29 : OwnS ob17 (l16.take a0.length).length c18 1 (u8s (l16.take a0.length)) (u8s (List.replicate 70 165#8) ++ r19) := OwnS.shrink8 o20 (by omega) g28
  refine OW.cells (u8s (l16.take a0.length) ++ (u8s (List.replicate 70 165#8) ++ r19)) (shrink8 g28) ?_
  refine OW.slot (sl ob17 0 (l16.take a0.length).length c18) (by rw [show ((l16.take a0.length)).length = a0.length from List.length_take.trans (Nat.min_eq_left (by omega))]) ?_
  refine OW.rv (RV.assign rfl) rfl ?_
  refine OW.nil (QW.then_n (CW.ret ?_))
  have e0 := Option.some.inj hf
  subst e0
  refine QW.retG (rs := [.tmp 2]) ([sl ob17 0 (l16.take a0.length).length c18]) ((ob17, blk ((u8s (l16.take a0.length)) ++ (u8s (List.replicate 70 165#8) ++ r19)) 5) :: (B4 ++ [])) rfl ?_ rfl ?_ ?_ _ (.inl rfl)
  ·exact ⟨rfl, trivial⟩
  ·exact ⟨(B4 ++ []), ob17, c18, r19, o29, (shrink_mx g28 o20.mx (by omega)), rfl, rfl⟩
  ·exact (fun w m => m.pick [0] 1 rfl rfl)
 ·skip
  refine CW.block ?_
  refine CW.loopJ (fun k L' M' => ∃ l30 : List (BitVec 8), ∃ n35 : Nat, ∃ ob31 : Option Nat, ∃ c32 : Nat, ∃ r33 : List Value, (waybilllaw03_lent.l1 k l30 n35) = some q14 ∧ (OwnS ob31 l30.length c32 1 (u8s l30) r33) ∧ (n35 ≤ 9223372036854775807) ∧ L' = [(0, .slice A0_ a0.length c0_), (3, sl ob31 0 l30.length c32), (4, .int .i64 ((n35 : Nat) : Int))] ∧ M' = ((ob31, blk ((u8s l30) ++ r33) 5) :: ((B4 ++ []) ++ N))) (k0 := (70 - 0 + 2)) ⟨x3, 0, ob5, c6, r7, hq15, o8, (by omega), rfl, rfl⟩ ⟨rfl, rfl, rfl, trivial⟩ (fun w m => m.pick [0] 1 rfl rfl) ?_
  clear hq15
  rintro k37 L40 M41 ⟨l30, n35, ob31, c32, r33, hl38, o34, b36, e42, e43⟩
  rw [e42, e43]
  clear e42 e43 L40 M41
  rcases k37 with _ | k37
  ·rw [waybilllaw03_lent.l1] at hl38; cases hl38
  rw [waybilllaw03_lent.l1] at hl38
  have m44 := o34.mx
  refine CW.seq (CW.seq (CW.region ?_))
  refine OW.rv (RV.move rfl) rfl ?_
  refine OW.rv (RV.lss rfl rfl) rfl ?_
  refine OW.slot (.bool (decide (n35 < 70))) (congrArg Value.bool (decide_eq_decide.2 (by omega))) ?_
  refine OW.nil (QW.then_n ?_)
  by_cases h45 : n35 < 70
  ·replace hl38 := if_t hl38 h45
   refine CW.is_t rfl (decide_eq_true h45) ?_
   refine CW.skip (QW.then_n (CW.seq (CW.block (CW.region ?_))))
   refine OW.rv (RV.move rfl) rfl ?_
   refine OW.ofN (NV.bs1 rfl rfl rfl rfl rfl rfl) rfl (fun b46 => ?_)
   refine OW.mem (M' := (((some b46), blk ((u8s ([165#8] : List (BitVec 8))) ++ []) 5) :: (ob31, blk ((u8s l30) ++ r33) 5) :: ((B4 ++ []) ++ N))) (fun w m => by first | exact m | simpa [u8s] using m) ?_
   have o47 : OwnS (some b46) ([165#8] : List (BitVec 8)).length 1 1 (u8s ([165#8] : List (BitVec 8))) [] := ⟨by simp [u8s], by simp [u8s], (fun h => nomatch h), by simp⟩
   refine OW.slot (sl (some b46) 0 ([165#8] : List (BitVec 8)).length 1) (rfl) ?_
   refine OW.rot1 ?_
   obtain ⟨g48, hl38⟩ := some_if hl38
   refine OW.appendOwn (s := 1) rfl rfl rfl rfl rfl rfl o34 (fun w m => m.rd0 (List.Mem.tail _ (List.Mem.head _)) (fun e => o47.nilc (by decide) e)) o47.n (u8s_one _) (o47.zeroO (by decide)) (by decide) (by decide) (by first | omega | (simp only [i5, List.length_nil]; omega)) rfl rfl ((l30 ++ ([165#8] : List (BitVec 8))).length) (u8s (l30 ++ ([165#8] : List (BitVec 8)))) (List.length_append ..).symm (u8s_app _ _) (fun ob49 r50 c51 o52 => ?_)
   have m53 := o52.mx
   refine OW.rv (RV.assign rfl) rfl ?_
   refine OW.nil (QW.block_n (QW.then_n (CW.region ?_)))
   refine OW.rv (RV.move rfl) rfl ?_
   refine OW.rv (RV.add rfl rfl (by omega)) rfl ?_
   refine OW.slot (.int .i64 (((n35 + 1) : Nat) : Int)) (by first | rfl | (congr 1) | (congr 1; omega)) ?_
   refine OW.rv (RV.assign rfl) rfl ?_
   refine OW.nil ?_
   exact QW.againJ (k' := k37) (Nat.lt_succ_self _) ⟨(l30 ++ ([165#8] : List (BitVec 8))), (n35 + 1), ob49, c51, r50, hl38, o52, (by omega), rfl, rfl⟩ ⟨rfl, rfl, rfl, trivial⟩ (fun w m => m.pick [0] 2 rfl rfl)
  ·replace hl38 := if_f hl38 h45
   refine CW.is_f rfl (decide_eq_false h45) ?_
   refine CW.exit (QW.then_x (QW.then_x (QW.block_xe ?_)))
   exact QW.join ⟨l30, ob31, c32, r33, (Option.some.inj hl38).symm, o34, rfl, rfl⟩ ⟨rfl, rfl, trivial⟩ (fun w m => m.pick [0] 1 rfl rfl)
abbrev mk03 : List (BitVec 8) := List.replicate 70 165#8
theorem one_ok (b : Nat) (t : BitVec 8) : (⟨b, [t], 1, []⟩ : Lt).Ok [] := ⟨⟨rfl, rfl, (fun h => nomatch h), by show 1 ≤ _; decide⟩, by show 1 + 0 ≤ _; decide⟩
theorem waybilllaw03_parcel_raw (w0 : World) (Φ : Ctx) (N : List Ent) (hΦ : ∀ w, Mem w0 w N → Φ w) (A0 : Option Addr) (c0 : Nat) (cs0 : List Value) (a0 : List (List (BitVec 8))) (va0 : View Φ A0 a0.length c0 1 cs0) (ha0 : Reps (BsRd Φ) cs0 a0) (hb : (a0.length + 2) * 24 ≤ 140737488355328) (hm : ∀ t ∈ a0, t.length + 70 ≤ 140737488355328) :
  DoesG Tryd.prog 18 [.slice A0 a0.length c0] w0 [] N (fun v G => ∃ (b0 c : Nat) (r : List Value) (mks ls : List Lt), ls.map (·.t) = a0 ∧ (∀ x ∈ ls, x.Ok mk03) ∧ (∀ x ∈ mks, x.Ok []) ∧ mks.map (·.t) = [[165#8], [90#8]] ∧ a0.length + 2 ≤ c ∧ v = .slice (some ⟨b0, 0, none⟩) a0.length c ∧
   G = lx 24 5 mk03 b0 r mks ls) := by
 have m1 := va0.mx
 refine DoesG.enter Tryd.func18 rfl Tryd.ntmps18 rfl (M := N) rfl ?_
 (repeat (first | refine CW.seq ?_ | refine QW.then_n ?_ | refine CW.block ?_ | refine CW.ret ?_ | refine CW.skip ?_ | refine CW.exit ?_ | refine QW.then_x ?_ | refine QW.then_r ?_ | refine QW.block_n ?_ | refine QW.block_xe ?_ | refine QW.block_xn rfl ?_ | refine QW.block_r ?_))
 refine CW.region ?_
 refine OW.rv (RV.assign rfl) rfl ?_
 refine OW.nil ?_
 (repeat (first | refine CW.seq ?_ | refine QW.then_n ?_ | refine CW.block ?_ | refine CW.ret ?_ | refine CW.skip ?_ | refine CW.exit ?_ | refine QW.then_x ?_ | refine QW.then_r ?_ | refine QW.block_n ?_ | refine QW.block_xe ?_ | refine QW.block_xn rfl ?_ | refine QW.block_r ?_))
 (repeat (first | refine CW.seq ?_ | refine QW.then_n ?_ | refine CW.block ?_ | refine CW.ret ?_ | refine CW.skip ?_ | refine CW.exit ?_ | refine QW.then_x ?_ | refine QW.then_r ?_ | refine QW.block_n ?_ | refine QW.block_xe ?_ | refine QW.block_xn rfl ?_ | refine QW.block_r ?_))
 refine CW.region ?_
 refine OW.rv (RV.assign rfl) rfl ?_
 refine OW.nil ?_
 (repeat (first | refine CW.seq ?_ | refine QW.then_n ?_ | refine CW.block ?_ | refine CW.ret ?_ | refine CW.skip ?_ | refine CW.exit ?_ | refine QW.then_x ?_ | refine QW.then_r ?_ | refine QW.block_n ?_ | refine QW.block_xe ?_ | refine QW.block_xn rfl ?_ | refine QW.block_r ?_))
 (repeat (first | refine CW.seq ?_ | refine QW.then_n ?_ | refine CW.block ?_ | refine CW.ret ?_ | refine CW.skip ?_ | refine CW.exit ?_ | refine QW.then_x ?_ | refine QW.then_r ?_ | refine QW.block_n ?_ | refine QW.block_xe ?_ | refine QW.block_xn rfl ?_ | refine QW.block_r ?_))
 refine CW.region ?_
 refine OW.rv (RV.assign rfl) rfl ?_
 refine OW.nil ?_
 (repeat (first | refine CW.seq ?_ | refine QW.then_n ?_ | refine CW.block ?_ | refine CW.ret ?_ | refine CW.skip ?_ | refine CW.exit ?_ | refine QW.then_x ?_ | refine QW.then_r ?_ | refine QW.block_n ?_ | refine QW.block_xe ?_ | refine QW.block_xn rfl ?_ | refine QW.block_r ?_))
 refine CW.loopJ (fun k L' M' => ∃ (i : Nat) (ls : List Lt) (ob : Option Nat) (c : Nat) (r : List Value), k = a0.length - i ∧ i ≤ a0.length ∧ ls.length = i ∧ ls.map (·.t) = a0.take i ∧ (∀ x ∈ ls, x.Ok mk03) ∧ OwnS ob i c 1 (ls.map Lt.cell) r ∧ L' = [(0, .slice A0 a0.length c0), (3, sl ob 0 i c), (4, .int .i64 (i : Int))] ∧ M' = (ob, blk (ls.map Lt.cell ++ r) 24) :: (lents 5 mk03 ls ++ N)) (k0 := a0.length) ⟨0, [], none, 0, [], rfl, by omega, rfl, rfl, (fun x hx => by cases hx), OwnS.nil, rfl, rfl⟩ ⟨rfl, rfl, rfl, trivial⟩ (fun w m => m.nil_ent _) ?_
 rintro k L' M' ⟨i, ls, ob, c, r, rfl, hi, hl, ht, hok, ho, rfl, rfl⟩
 (repeat (first | refine CW.seq ?_ | refine QW.then_n ?_ | refine CW.block ?_ | refine CW.ret ?_ | refine CW.skip ?_ | refine CW.exit ?_ | refine QW.then_x ?_ | refine QW.then_r ?_ | refine QW.block_n ?_ | refine QW.block_xe ?_ | refine QW.block_xn rfl ?_ | refine QW.block_r ?_))
 refine CW.region ?_
 refine OW.rv (RV.move rfl) rfl ?_
 refine OW.rv (RV.move rfl) rfl ?_
 refine OW.rv (RV.len rfl rfl) rfl ?_
 refine OW.rv (RV.lss rfl rfl) rfl ?_
 refine OW.nil ?_
 (repeat (first | refine CW.seq ?_ | refine QW.then_n ?_ | refine CW.block ?_ | refine CW.ret ?_ | refine CW.skip ?_ | refine CW.exit ?_ | refine QW.then_x ?_ | refine QW.then_r ?_ | refine QW.block_n ?_ | refine QW.block_xe ?_ | refine QW.block_xn rfl ?_ | refine QW.block_r ?_))
 (first | refine CW.cond_t rfl ?_ | refine CW.cond_f rfl ?_ | refine CW.cond_p rfl (fun hlt => ?_) (fun hlt => ?_) | refine CW.cond_np rfl (fun hlt => ?_) (fun hlt => ?_) | refine CW.cond rfl (fun hlt => ?_) (fun hlt => ?_))
 ·have h1 : i < a0.length := by omega
  have hx : a0[i]? = some a0[i] := List.getElem?_eq_getElem h1
  obtain ⟨cs, hr, hcs⟩ := ha0.get BsRd.len hx
  obtain ⟨A1, c1, e, v1⟩ := hr
  subst e
  (repeat (first | refine CW.seq ?_ | refine QW.then_n ?_ | refine CW.block ?_ | refine CW.ret ?_ | refine CW.skip ?_ | refine CW.exit ?_ | refine QW.then_x ?_ | refine QW.then_r ?_ | refine QW.block_n ?_ | refine QW.block_xe ?_ | refine QW.block_xn rfl ?_ | refine QW.block_r ?_))
  refine CW.region ?_
  refine OW.rv (RV.move rfl) rfl ?_
  refine OW.rv (RV.move rfl) rfl ?_
  refine OW.rv (RV.move rfl) rfl ?_
  refine OW.rv (RV.idx_r (i) rfl rfl rfl rfl rfl (va0.isSome (by decide) h1) (by omega)) rfl ?_
  refine OW.rv (RV.load_at rfl rfl rfl (fun w m => va0.cell (hΦ w m.tail.appR) (show cs0[i]? = some (.slice A1 a0[i].length c1) by have := hcs 0 _ rfl; simpa using this))) rfl ?_
  refine OW.callG Tryd.call10 rfl (waybilllaw03_lent_does w0 Φ _ (fun w m => hΦ w m.tail.appR) A1 c1 a0[i] a0[i] v1 (slent_eq _ (hm _ (List.getElem_mem h1)))) rfl rfl ?_
  rintro L1 M1 ⟨B, or0, kr, rr, o1, mx, e1, e2⟩
  rw [e1, e2]
  clear e1 e2 L1 M1
  obtain ⟨b, rfl⟩ : ∃ b, or0 = some b := by
   cases or0 with
   | some b => exact ⟨b, rfl⟩
   | none =>
    exfalso
    have q1 := o1.hn rfl
    have q2 := o1.hr
    rw [List.length_append, List.length_append, u8s_length, u8s_length, List.length_replicate] at q2
    omega
  refine OW.mem (M' := (⟨b, a0[i], kr, rr⟩ : Lt).ent 5 mk03 :: (ob, blk (ls.map Lt.cell ++ r) 24) :: (lents 5 mk03 ls ++ N)) (fun w m => m.sublist (List.Sublist.cons_cons _ (List.sublist_append_right _ _))) ?_
  refine OW.ofN (NV.bs1 rfl rfl rfl rfl rfl rfl) rfl (fun b2 => ?_)
  refine OW.rot2 ?_
  refine OW.appendOwn (s := 1) rfl rfl rfl rfl rfl rfl ho (fun w m => m.rdl (List.Mem.tail _ (List.Mem.head _)) (fun e => nomatch e)) rfl (by intro u hu; simp at hu; subst hu; rfl) (fun e => nomatch e) (by decide) (by decide) (by simp only [i24]; omega) rfl rfl (i + 1) ((ls ++ [(⟨b, a0[i], kr, rr⟩ : Lt)]).map Lt.cell) rfl (by rw [List.map_append]; rfl) (fun ob' r' c' o' => ?_)
  refine OW.rv (RV.assign rfl) rfl ?_
  refine OW.nil ?_
  (repeat (first | refine CW.seq ?_ | refine QW.then_n ?_ | refine CW.block ?_ | refine CW.ret ?_ | refine CW.skip ?_ | refine CW.exit ?_ | refine QW.then_x ?_ | refine QW.then_r ?_ | refine QW.block_n ?_ | refine QW.block_xe ?_ | refine QW.block_xn rfl ?_ | refine QW.block_r ?_))
  (repeat (first | refine CW.seq ?_ | refine QW.then_n ?_ | refine CW.block ?_ | refine CW.ret ?_ | refine CW.skip ?_ | refine CW.exit ?_ | refine QW.then_x ?_ | refine QW.then_r ?_ | refine QW.block_n ?_ | refine QW.block_xe ?_ | refine QW.block_xn rfl ?_ | refine QW.block_r ?_))
  refine CW.region ?_
  refine OW.rv (RV.move rfl) rfl ?_
  refine OW.rv (RV.add rfl rfl (by omega)) rfl ?_
  refine OW.rv (RV.assign rfl) rfl ?_
  refine OW.nil ?_
  (repeat (first | refine CW.seq ?_ | refine QW.then_n ?_ | refine CW.block ?_ | refine CW.ret ?_ | refine CW.skip ?_ | refine CW.exit ?_ | refine QW.then_x ?_ | refine QW.then_r ?_ | refine QW.block_n ?_ | refine QW.block_xe ?_ | refine QW.block_xn rfl ?_ | refine QW.block_r ?_))
  refine QW.againJ (k' := a0.length - (i + 1)) (by omega) ⟨i + 1, ls ++ [(⟨b, a0[i], kr, rr⟩ : Lt)], ob', c', r', rfl, by omega, by simp [hl], by rw [List.map_append, ht, List.take_add_one, hx]; rfl, ?_, o', rfl, rfl⟩ ⟨rfl, rfl, rfl, trivial⟩ (fun w m => lents_snoc (X := [_]) (x := ⟨b, a0[i], kr, rr⟩) (m.sublist (List.Sublist.cons_cons _ (List.sublist_cons_self _ _))))
  intro x hx
  rcases List.mem_append.1 hx with hx | hx
  ·exact hok x hx
  ·obtain rfl := List.mem_singleton.1 hx
   exact ⟨o1, by show a0[i].length + (List.replicate 70 165#8).length ≤ _; rw [List.length_replicate]; exact mx⟩
 ·have hie : i = a0.length := by omega
  subst hie
  rw [List.take_length] at ht
  (repeat (first | refine CW.seq ?_ | refine QW.then_n ?_ | refine CW.block ?_ | refine CW.ret ?_ | refine CW.skip ?_ | refine CW.exit ?_ | refine QW.then_x ?_ | refine QW.then_r ?_ | refine QW.block_n ?_ | refine QW.block_xe ?_ | refine QW.block_xn rfl ?_ | refine QW.block_r ?_))
  refine CW.region ?_
  refine OW.rv (RV.move rfl) rfl ?_
  refine OW.ofN (NV.bs1 rfl rfl rfl rfl rfl rfl) rfl (fun b1 => ?_)
  refine OW.ofN (NV.bs1 rfl rfl rfl rfl rfl rfl) rfl (fun b2 => ?_)
  refine OW.ofN (NV.bsN rfl rfl rfl (by decide) (by decide) rfl rfl rfl rfl) rfl (fun b3 => ?_)
  refine OW.rot3 ?_
  refine OW.appendOwn (s := 1) rfl rfl rfl rfl rfl rfl ho (fun w m => m.rdl (List.Mem.tail _ (List.Mem.head _)) (fun e => nomatch e)) rfl (by intro u hu; simp at hu; rcases hu with rfl | rfl <;> rfl) (fun e => nomatch e) (by decide) (by decide) (by simp only [i24]; omega) rfl rfl (a0.length + 2) (ls.map Lt.cell ++ ([⟨b1, [165#8], 1, []⟩, ⟨b2, [90#8], 1, []⟩] : List Lt).map Lt.cell) rfl rfl (fun ob' r' c' o' => ?_)
  refine OW.rv (RV.assign rfl) rfl ?_
  refine OW.nil ?_
  obtain ⟨b0, rfl⟩ : ∃ b, ob' = some b := by
   cases ob' with
   | some b => exact ⟨b, rfl⟩
   | none =>
    exfalso
    have q1 := o'.hn rfl
    have q2 := o'.le (by decide)
    omega
  have hcc := o'.le (by decide)
  (repeat (first | refine CW.seq ?_ | refine QW.then_n ?_ | refine CW.block ?_ | refine CW.ret ?_ | refine CW.skip ?_ | refine CW.exit ?_ | refine QW.then_x ?_ | refine QW.then_r ?_ | refine QW.block_n ?_ | refine QW.block_xe ?_ | refine QW.block_xn rfl ?_ | refine QW.block_r ?_))
  refine CW.region ?_
  refine OW.rv (RV.move rfl) rfl ?_
  refine OW.rv (RV.move rfl) rfl ?_
  refine OW.rv (RV.len rfl rfl) rfl ?_
  refine OW.rv (RV.cut_o (a0.length) rfl rfl rfl rfl rfl (by omega)) rfl ?_
  refine OW.rv (RV.assign rfl) rfl ?_
  refine OW.nil ?_
  (repeat (first | refine CW.seq ?_ | refine QW.then_n ?_ | refine CW.block ?_ | refine CW.ret ?_ | refine CW.skip ?_ | refine CW.exit ?_ | refine QW.then_x ?_ | refine QW.then_r ?_ | refine QW.block_n ?_ | refine QW.block_xe ?_ | refine QW.block_xn rfl ?_ | refine QW.block_r ?_))
  refine QW.retG (rs := [.tmp 2]) [sl (some b0) 0 a0.length c'] (lx 24 5 mk03 b0 r' [⟨b1, [165#8], 1, []⟩, ⟨b2, [90#8], 1, []⟩] ls) rfl ?_ rfl ?_ ?_ _ (.inl rfl)
  ·exact ⟨rfl, trivial⟩
  ·refine ⟨b0, c', r', _, ls, ht, hok, ?_, rfl, hcc, rfl, rfl⟩
   intro x hx
   simp only [List.mem_cons, List.not_mem_nil, or_false] at hx
   rcases hx with rfl | rfl
   ·exact one_ok _ _
   ·exact one_ok _ _
  ·intro w m
   have m2 := m.pick [0, 3, 2] 4 rfl rfl
   rw [List.append_assoc] at m2
   exact m2
theorem HLen_does (w0 : World) (N : List Ent) (b : Nat) (ob : Option Nat) (c : Nat) (r : List Value) (s : List (BitVec 32)) (rest : List (BitVec 8)) (n : Int) (hs : s.length = 8) :
  DoesG Tryd.prog 27 [ptr (some b) 0] w0 [(some b, blk (u32s s ++ [sl ob 0 rest.length c, .int .i64 n]) 56), (ob, blk (u8s rest ++ r) 5)] N (fun u G => u = .int .i64 n ∧ G = [(some b, blk (u32s s ++ [sl ob 0 rest.length c, .int .i64 n]) 56), (ob, blk (u8s rest ++ r) 5)]) := by
 refine DoesG.enter Tryd.func27 rfl Tryd.ntmps27 rfl (M := (some b, blk (u32s s ++ [sl ob 0 rest.length c, .int .i64 n]) 56) :: (ob, blk (u8s rest ++ r) 5) :: N) rfl ?_
 (repeat (first | refine CW.seq ?_ | refine QW.then_n ?_ | refine CW.block ?_ | refine CW.ret ?_ | refine CW.skip ?_ | refine CW.exit ?_ | refine QW.then_x ?_ | refine QW.then_r ?_ | refine QW.block_n ?_ | refine QW.block_xe ?_ | refine QW.block_xn rfl ?_ | refine QW.block_r ?_))
 refine CW.region ?_
 refine OW.rv (RV.assign rfl) rfl ?_
 refine OW.nil ?_
 (repeat (first | refine CW.seq ?_ | refine QW.then_n ?_ | refine CW.block ?_ | refine CW.ret ?_ | refine CW.skip ?_ | refine CW.exit ?_ | refine QW.then_x ?_ | refine QW.then_r ?_ | refine QW.block_n ?_ | refine QW.block_xe ?_ | refine QW.block_xn rfl ?_ | refine QW.block_r ?_))
 refine CW.region ?_
 refine OW.rv (RV.move rfl) rfl ?_
 refine OW.rv (RV.eqlS rfl rfl rfl) rfl ?_
 refine OW.nil ?_
 (repeat (first | refine CW.seq ?_ | refine QW.then_n ?_ | refine CW.block ?_ | refine CW.ret ?_ | refine CW.skip ?_ | refine CW.exit ?_ | refine QW.then_x ?_ | refine QW.then_r ?_ | refine QW.block_n ?_ | refine QW.block_xe ?_ | refine QW.block_xn rfl ?_ | refine QW.block_r ?_))
 refine CW.is_f rfl rfl ?_
 (repeat (first | refine CW.seq ?_ | refine QW.then_n ?_ | refine CW.block ?_ | refine CW.ret ?_ | refine CW.skip ?_ | refine CW.exit ?_ | refine QW.then_x ?_ | refine QW.then_r ?_ | refine QW.block_n ?_ | refine QW.block_xe ?_ | refine QW.block_xn rfl ?_ | refine QW.block_r ?_))
 refine CW.region ?_
 refine OW.rv (RV.move rfl) rfl ?_
 refine OW.rv (RV.nilCheck rfl) rfl ?_
 refine OW.rv (RV.field rfl rfl rfl rfl) rfl ?_
 refine OW.rv (RV.load rfl (List.Mem.head _) rfl rfl rfl (hs_at9 hs _ _)) rfl ?_
 refine OW.rv (RV.assign rfl) rfl ?_
 refine OW.nil ?_
 (repeat (first | refine CW.seq ?_ | refine QW.then_n ?_ | refine CW.block ?_ | refine CW.ret ?_ | refine CW.skip ?_ | refine CW.exit ?_ | refine QW.then_x ?_ | refine QW.then_r ?_ | refine QW.block_n ?_ | refine QW.block_xe ?_ | refine QW.block_xn rfl ?_ | refine QW.block_r ?_))
 refine QW.retG (rs := [.tmp 2]) [.int .i64 n] [(some b, blk (u32s s ++ [sl ob 0 rest.length c, .int .i64 n]) 56), (ob, blk (u8s rest ++ r) 5)] rfl ?_ rfl ?_ ?_ _ (.inl rfl)
 ·exact ⟨rfl, trivial⟩
 ·exact ⟨rfl, rfl⟩
 ·exact fun w m => m
theorem waybilllaw03_ShaFolds_does (w0 : World) (Φ : Ctx) (N : List Ent) (hΦ : ∀ w, Mem w0 w N → Φ w) (A0 : Option Addr) (c0 : Nat) (cs0 : List Value) (a0 : List (List (BitVec 8))) (va0 : View Φ A0 a0.length c0 1 cs0) (ha0 : Reps (BsRd Φ) cs0 a0)
  (hK : TabAt w0 1 constL) (hS : TabAt w0 0 startL)
  (hb : (a0.length + 2) * 24 ≤ 140737488355328) (hm : a0.flatten.length + 200 ≤ 140737488351232) :
  DoesG Tryd.prog 8 [.slice A0 a0.length c0] w0 [] N (fun v G => v = .bool true) := by
 have hm1 : ∀ t ∈ a0, t.length + 70 ≤ 140737488355328 := fun t ht => by have := mem_flat3 ht; omega
 have hJ := sjoined_eq a0 (by omega)
 have hD1 := ssum_eq3 a0 (by omega)
 generalize htx : a0.flatten = text at hJ hD1 hm
 have hF := folded_eq text (by omega)
 have hD2 := ssum_one text (by omega)
 have hC := scopied_eq text (by omega)
 have m1 := va0.mx
 refine DoesG.enter Tryd.func8 rfl Tryd.ntmps8 rfl (M := N) rfl ?_
 (repeat (first | refine CW.seq ?_ | refine QW.then_n ?_ | refine CW.block ?_ | refine CW.ret ?_ | refine CW.skip ?_ | refine CW.exit ?_ | refine QW.then_x ?_ | refine QW.then_r ?_ | refine QW.block_n ?_ | refine QW.block_xe ?_ | refine QW.block_xn rfl ?_ | refine QW.block_r ?_))
 refine CW.region ?_
 refine OW.rv (RV.assign rfl) rfl ?_
 refine OW.nil ?_
 (repeat (first | refine CW.seq ?_ | refine QW.then_n ?_ | refine CW.block ?_ | refine CW.ret ?_ | refine CW.skip ?_ | refine CW.exit ?_ | refine QW.then_x ?_ | refine QW.then_r ?_ | refine QW.block_n ?_ | refine QW.block_xe ?_ | refine QW.block_xn rfl ?_ | refine QW.block_r ?_))
 refine CW.region ?_
 refine OW.rv (RV.move rfl) rfl ?_
 refine OW.callG Tryd.call36 rfl (waybilllaw03_joined_does w0 Φ N hΦ A0 c0 cs0 a0 text va0 ha0 hJ) rfl rfl ?_
 rintro L1 M1 ⟨B, or1, kr1, rr1, o1, e1, e2⟩
 rw [e1, e2]
 clear e1 e2 L1 M1
 refine OW.mem (M' := (or1, blk (u8s text ++ rr1) 5) :: N) (fun w m => m.sublist (List.Sublist.cons_cons _ (List.sublist_append_right _ _))) ?_
 refine OW.rv (RV.assign rfl) rfl ?_
 refine OW.nil ?_
 have vt : View (fun w => Mem w0 w ((or1, blk (u8s text ++ rr1) 5) :: N)) (or1.map fun k => ⟨k, 0, none⟩) text.length kr1 1 (u8s text) := o1.view (by decide) (te := 5) (fun w q => q.sublist (List.singleton_sublist.2 (List.mem_cons_self ..)))
 (repeat (first | refine CW.seq ?_ | refine QW.then_n ?_ | refine CW.block ?_ | refine CW.ret ?_ | refine CW.skip ?_ | refine CW.exit ?_ | refine QW.then_x ?_ | refine QW.then_r ?_ | refine QW.block_n ?_ | refine QW.block_xe ?_ | refine QW.block_xn rfl ?_ | refine QW.block_r ?_))
 refine CW.region ?_
 refine OW.rv (RV.move rfl) rfl ?_
 refine OW.callG Tryd.call22 rfl (waybilllaw03_folded_does w0 _ _ (fun w m => m) (or1.map fun k => ⟨k, 0, none⟩) kr1 text (shaV text) true vt hK hS hF) rfl rfl ?_
 rintro _ G1 rfl
 refine OW.mem (M' := (or1, blk (u8s text ++ rr1) 5) :: N) (fun w m => m.appR) ?_
 refine OW.rv (RV.move rfl) rfl ?_
 refine OW.rv (RV.extract rfl rfl) rfl ?_
 refine OW.rv (RV.extract rfl rfl) rfl ?_
 refine OW.alloc (l := u8s (List.replicate 32 0#8)) rfl (by rw [← u8s_rep']; rfl) rfl (fun b4 => ?_)
 refine OW.sv (SV.storeW rfl rfl rfl (u8s_one _) rfl ((u8s_length _).trans (List.length_replicate ..)) ((u8s_length _).trans Vector.length_toList)) ?_
 refine OW.rv (RV.assign rfl) rfl ?_
 refine OW.nil ?_
 (repeat (first | refine CW.seq ?_ | refine QW.then_n ?_ | refine CW.block ?_ | refine CW.ret ?_ | refine CW.skip ?_ | refine CW.exit ?_ | refine QW.then_x ?_ | refine QW.then_r ?_ | refine QW.block_n ?_ | refine QW.block_xe ?_ | refine QW.block_xn rfl ?_ | refine QW.block_r ?_))
 refine CW.region ?_
 refine OW.rv (RV.move rfl) rfl ?_
 refine OW.rv (RV.not rfl) rfl ?_
 refine OW.nil ?_
 (repeat (first | refine CW.seq ?_ | refine QW.then_n ?_ | refine CW.block ?_ | refine CW.ret ?_ | refine CW.skip ?_ | refine CW.exit ?_ | refine QW.then_x ?_ | refine QW.then_r ?_ | refine QW.block_n ?_ | refine QW.block_xe ?_ | refine QW.block_xn rfl ?_ | refine QW.block_r ?_))
 refine CW.is_f rfl rfl ?_
 (repeat (first | refine CW.seq ?_ | refine QW.then_n ?_ | refine CW.block ?_ | refine CW.ret ?_ | refine CW.skip ?_ | refine CW.exit ?_ | refine QW.then_x ?_ | refine QW.then_r ?_ | refine QW.block_n ?_ | refine QW.block_xe ?_ | refine QW.block_xn rfl ?_ | refine QW.block_r ?_))
 refine CW.region ?_
 refine OW.callG Tryd.call30 rfl (New_does w0 _) rfl rfl ?_
 rintro L1 M1 ⟨b, e1, e2⟩
 rw [e1, e2]
 clear e1 e2 L1 M1
 refine OW.rv (RV.assign rfl) rfl ?_
 refine OW.nil ?_
 (repeat (first | refine CW.seq ?_ | refine QW.then_n ?_ | refine CW.block ?_ | refine CW.ret ?_ | refine CW.skip ?_ | refine CW.exit ?_ | refine QW.then_x ?_ | refine QW.then_r ?_ | refine QW.block_n ?_ | refine QW.block_xe ?_ | refine QW.block_xn rfl ?_ | refine QW.block_r ?_))
 refine CW.region ?_
 refine OW.rv (RV.move rfl) rfl ?_
 refine OW.rv (RV.eqlS rfl rfl rfl) rfl ?_
 refine OW.nil ?_
 (repeat (first | refine CW.seq ?_ | refine QW.then_n ?_ | refine CW.block ?_ | refine CW.ret ?_ | refine CW.skip ?_ | refine CW.exit ?_ | refine QW.then_x ?_ | refine QW.then_r ?_ | refine QW.block_n ?_ | refine QW.block_xe ?_ | refine QW.block_xn rfl ?_ | refine QW.block_r ?_))
 refine CW.is_f rfl rfl ?_
 (repeat (first | refine CW.seq ?_ | refine QW.then_n ?_ | refine CW.block ?_ | refine CW.ret ?_ | refine CW.skip ?_ | refine CW.exit ?_ | refine QW.then_x ?_ | refine QW.then_r ?_ | refine QW.block_n ?_ | refine QW.block_xe ?_ | refine QW.block_xn rfl ?_ | refine QW.block_r ?_))
 (repeat (first | refine CW.seq ?_ | refine QW.then_n ?_ | refine CW.block ?_ | refine CW.ret ?_ | refine CW.skip ?_ | refine CW.exit ?_ | refine QW.then_x ?_ | refine QW.then_r ?_ | refine QW.block_n ?_ | refine QW.block_xe ?_ | refine QW.block_xn rfl ?_ | refine QW.block_r ?_))
 refine CW.region ?_
 refine OW.rv (RV.assign rfl) rfl ?_
 refine OW.nil ?_
 (repeat (first | refine CW.seq ?_ | refine QW.then_n ?_ | refine CW.block ?_ | refine CW.ret ?_ | refine CW.skip ?_ | refine CW.exit ?_ | refine QW.then_x ?_ | refine QW.then_r ?_ | refine QW.block_n ?_ | refine QW.block_xe ?_ | refine QW.block_xn rfl ?_ | refine QW.block_r ?_))
 refine CW.loopJ (fun k L' M' => ∃ (i : Nat) (s : List (BitVec 32)) (rest : List (BitVec 8)) (n : Int) (ob : Option Nat) (c : Nat) (r : List Value), k = a0.length - i ∧ i ≤ a0.length ∧ HT s rest n (a0.take i).flatten ∧ OwnS ob rest.length c 1 (u8s rest) r ∧ L' = [(0, .slice A0 a0.length c0), (3, sl or1 0 text.length kr1), (4, ptr (some b4) 0), (6, ptr (some b) 0), (7, .int .i64 (i : Int))] ∧ M' = (some b, blk (u32s s ++ [sl ob 0 rest.length c, .int .i64 n]) 56) :: (ob, blk (u8s rest ++ r) 5) :: (some b4, blk (u8s (shaV text).toList) 39) :: (or1, blk (u8s text ++ rr1) 5) :: N) (k0 := a0.length) ⟨0, List.replicate 8 0#32, [], 0, none, 0, [], rfl, by omega, zH_HT, OwnS.nil, rfl, rfl⟩ ⟨rfl, rfl, rfl, rfl, rfl, trivial⟩ (fun w m => (m.nil_ent (blk ([] ++ []) 5)).pick [1, 0, 2] 3 rfl rfl) ?_
 rintro k L' M' ⟨i, s, rest, n, ob, c, r, rfl, hi, hT, ho, rfl, rfl⟩
 (repeat (first | refine CW.seq ?_ | refine QW.then_n ?_ | refine CW.block ?_ | refine CW.ret ?_ | refine CW.skip ?_ | refine CW.exit ?_ | refine QW.then_x ?_ | refine QW.then_r ?_ | refine QW.block_n ?_ | refine QW.block_xe ?_ | refine QW.block_xn rfl ?_ | refine QW.block_r ?_))
 refine CW.region ?_
 refine OW.rv (RV.move rfl) rfl ?_
 refine OW.rv (RV.move rfl) rfl ?_
 refine OW.rv (RV.len rfl rfl) rfl ?_
 refine OW.rv (RV.lss rfl rfl) rfl ?_
 refine OW.nil ?_
 (repeat (first | refine CW.seq ?_ | refine QW.then_n ?_ | refine CW.block ?_ | refine CW.ret ?_ | refine CW.skip ?_ | refine CW.exit ?_ | refine QW.then_x ?_ | refine QW.then_r ?_ | refine QW.block_n ?_ | refine QW.block_xe ?_ | refine QW.block_xn rfl ?_ | refine QW.block_r ?_))
 (first | refine CW.cond_t rfl ?_ | refine CW.cond_f rfl ?_ | refine CW.cond_p rfl (fun hlt => ?_) (fun hlt => ?_) | refine CW.cond_np rfl (fun hlt => ?_) (fun hlt => ?_) | refine CW.cond rfl (fun hlt => ?_) (fun hlt => ?_))
 ·have h1 : i < a0.length := by omega
  have hx : a0[i]? = some a0[i] := List.getElem?_eq_getElem h1
  obtain ⟨cs, hr, hcs⟩ := ha0.get BsRd.len hx
  obtain ⟨A1, c1, e, v1⟩ := hr
  subst e
  have hfl : (a0.take (i + 1)).flatten = (a0.take i).flatten ++ a0[i] := by rw [List.take_add_one, hx, Option.toList_some, List.flatten_append]; simp
  have hle : ((a0.take (i + 1)).flatten).length ≤ text.length := by
   have h2 : a0.flatten = (a0.take (i + 1)).flatten ++ (a0.drop (i + 1)).flatten := by rw [← List.flatten_append, List.take_append_drop]
   rw [← htx, h2, List.length_append]
   omega
  rw [hfl, List.length_append] at hle
  (repeat (first | refine CW.seq ?_ | refine QW.then_n ?_ | refine CW.block ?_ | refine CW.ret ?_ | refine CW.skip ?_ | refine CW.exit ?_ | refine QW.then_x ?_ | refine QW.then_r ?_ | refine QW.block_n ?_ | refine QW.block_xe ?_ | refine QW.block_xn rfl ?_ | refine QW.block_r ?_))
  refine CW.region ?_
  refine OW.rv (RV.move rfl) rfl ?_
  refine OW.rv (RV.move rfl) rfl ?_
  refine OW.rv (RV.move rfl) rfl ?_
  refine OW.rv (RV.idx_r (i) rfl rfl rfl rfl rfl (va0.isSome (by decide) h1) (by omega)) rfl ?_
  refine OW.rv (RV.load_at rfl rfl rfl (fun w m => va0.cell (hΦ w (m.drop 4)) (show cs0[i]? = some (.slice A1 a0[i].length c1) by have := hcs 0 _ rfl; simpa using this))) rfl ?_
  refine OW.callG Tryd.call23 rfl (waybilllaw03_copied_does w0 Φ ((some b, blk (u32s s ++ [sl ob 0 rest.length c, .int .i64 n]) 56) :: (ob, blk (u8s rest ++ r) 5) :: (some b4, blk (u8s (shaV text).toList) 39) :: (or1, blk (u8s text ++ rr1) 5) :: N) (fun w m => hΦ w (m.drop 4)) A1 c1 a0[i] a0[i] v1 (scopied_eq _ (by omega))) rfl rfl ?_
  rintro L1 M1 ⟨B2, or2, kr2, rr2, o2, e1, e2⟩
  rw [e1, e2]
  clear e1 e2 L1 M1
  refine OW.mem (M' := (or2, blk (u8s a0[i] ++ rr2) 5) :: (some b, blk (u32s s ++ [sl ob 0 rest.length c, .int .i64 n]) 56) :: (ob, blk (u8s rest ++ r) 5) :: (some b4, blk (u8s (shaV text).toList) 39) :: (or1, blk (u8s text ++ rr1) 5) :: N) (fun w m => m.sublist (List.Sublist.cons_cons _ (List.sublist_append_right _ _))) ?_
  refine OW.mem (M' := (some b, blk (u32s s ++ [sl ob 0 rest.length c, .int .i64 n]) 56) :: (ob, blk (u8s rest ++ r) 5) :: (or2, blk (u8s a0[i] ++ rr2) 5) :: (some b4, blk (u8s (shaV text).toList) 39) :: (or1, blk (u8s text ++ rr1) 5) :: N) (fun w m => m.pick [1, 2, 0] 3 rfl rfl) ?_
  have v2 : View (fun w => Mem w0 w ((or2, blk (u8s a0[i] ++ rr2) 5) :: (some b4, blk (u8s (shaV text).toList) 39) :: (or1, blk (u8s text ++ rr1) 5) :: N)) (or2.map fun k => ⟨k, 0, none⟩) a0[i].length kr2 1 (u8s a0[i]) := o2.view (by decide) (te := 5) (fun w q => q.sublist (List.singleton_sublist.2 (List.mem_cons_self ..)))
  refine OW.callG Tryd.call25 rfl (Write_does w0 _ _ (fun w m => m) hK hS b ob c r s rest n _ hT ho (or2.map fun k => ⟨k, 0, none⟩) kr2 a0[i] v2 (by omega)) rfl rfl ?_
  rintro L1 M1 ⟨ob', c', r', s', rest', n', hT', ho', e1, e2⟩
  rw [e1, e2]
  clear e1 e2 L1 M1
  refine OW.mem (M' := (some b, blk (u32s s' ++ [sl ob' 0 rest'.length c', .int .i64 n']) 56) :: (ob', blk (u8s rest' ++ r') 5) :: (some b4, blk (u8s (shaV text).toList) 39) :: (or1, blk (u8s text ++ rr1) 5) :: N) (fun w m => m.pick [0, 1] 3 rfl rfl) ?_
  refine OW.nil ?_
  (repeat (first | refine CW.seq ?_ | refine QW.then_n ?_ | refine CW.block ?_ | refine CW.ret ?_ | refine CW.skip ?_ | refine CW.exit ?_ | refine QW.then_x ?_ | refine QW.then_r ?_ | refine QW.block_n ?_ | refine QW.block_xe ?_ | refine QW.block_xn rfl ?_ | refine QW.block_r ?_))
  refine CW.region ?_
  refine OW.rv (RV.move rfl) rfl ?_
  refine OW.callG Tryd.call28 rfl (HSum_does w0 ((some b4, blk (u8s (shaV text).toList) 39) :: (or1, blk (u8s text ++ rr1) 5) :: N) hK hS b ob' c' r' s' rest' n' _ hT' ho' (by rw [List.length_append]; omega)) rfl rfl ?_
  rintro L1 M1 ⟨e1, e2⟩
  rw [e1, e2]
  clear e1 e2 L1 M1
  refine OW.nil ?_
  (repeat (first | refine CW.seq ?_ | refine QW.then_n ?_ | refine CW.block ?_ | refine CW.ret ?_ | refine CW.skip ?_ | refine CW.exit ?_ | refine QW.then_x ?_ | refine QW.then_r ?_ | refine QW.block_n ?_ | refine QW.block_xe ?_ | refine QW.block_xn rfl ?_ | refine QW.block_r ?_))
  (repeat (first | refine CW.seq ?_ | refine QW.then_n ?_ | refine CW.block ?_ | refine CW.ret ?_ | refine CW.skip ?_ | refine CW.exit ?_ | refine QW.then_x ?_ | refine QW.then_r ?_ | refine QW.block_n ?_ | refine QW.block_xe ?_ | refine QW.block_xn rfl ?_ | refine QW.block_r ?_))
  refine CW.region ?_
  refine OW.rv (RV.move rfl) rfl ?_
  refine OW.rv (RV.add rfl rfl (by omega)) rfl ?_
  refine OW.rv (RV.assign rfl) rfl ?_
  refine OW.nil ?_
  (repeat (first | refine CW.seq ?_ | refine QW.then_n ?_ | refine CW.block ?_ | refine CW.ret ?_ | refine CW.skip ?_ | refine CW.exit ?_ | refine QW.then_x ?_ | refine QW.then_r ?_ | refine QW.block_n ?_ | refine QW.block_xe ?_ | refine QW.block_xn rfl ?_ | refine QW.block_r ?_))
  exact QW.againJ (k' := a0.length - (i + 1)) (by omega) ⟨i + 1, s', rest', n', ob', c', r', rfl, by omega, by rw [hfl]; exact hT', ho', rfl, rfl⟩ ⟨rfl, rfl, rfl, rfl, rfl, trivial⟩ (fun w m => m)
 ·have hie : i = a0.length := by omega
  subst hie
  rw [List.take_length, htx] at hT
  have hX : ∀ w, Mem w0 w ((some b, blk (u32s s ++ [sl ob 0 rest.length c, .int .i64 n]) 56) :: (ob, blk (u8s rest ++ r) 5) :: (some b4, blk (u8s (shaV text).toList) 39) :: (or1, blk (u8s text ++ rr1) 5) :: N) → Φ w := fun w m => by
   have q := m.drop 4
   exact hΦ w q
  have vt2 : View (fun w => Mem w0 w ((some b, blk (u32s s ++ [sl ob 0 rest.length c, .int .i64 n]) 56) :: (ob, blk (u8s rest ++ r) 5) :: (some b4, blk (u8s (shaV text).toList) 39) :: (or1, blk (u8s text ++ rr1) 5) :: N)) (or1.map fun k => ⟨k, 0, none⟩) text.length kr1 1 (u8s text) := vt.mono fun w m => m.drop 3
  have htl : text.length ≤ 4611686018427387904 := by omega
  (repeat (first | refine CW.seq ?_ | refine QW.then_n ?_ | refine CW.block ?_ | refine CW.ret ?_ | refine CW.skip ?_ | refine CW.exit ?_ | refine QW.then_x ?_ | refine QW.then_r ?_ | refine QW.block_n ?_ | refine QW.block_xe ?_ | refine QW.block_xn rfl ?_ | refine QW.block_r ?_))
  refine CW.drawsU 27 mixed (by kernel_rfl) rfl ?_
  refine UW.rv 0 rfl (by kernel_rfl) rfl (RV.move rfl) rfl ?_
  refine UW.rv 3 rfl (by kernel_rfl) rfl (RV.loadW rfl (List.Mem.tail _ (List.Mem.tail _ (List.Mem.head _))) rfl rfl rfl rfl ((u8s_length _).trans Vector.length_toList)) rfl ?_
  refine UW.callG 1 rfl (by kernel_rfl) rfl Tryd.call18 rfl (fun N' hN' => waybilllaw03_parcel_raw w0 Φ N' (fun w m => hX w (hN' w m)) A0 c0 cs0 a0 va0 ha0 hb hm1) rfl ?_
  rintro L1 M1 ⟨b0, cp, rp, mks, ls, ht, hok, hmk, hmt, hcc, e1, e2⟩
  rw [e1, e2]
  clear e1 e2 L1 M1
  have hln : ls.length = a0.length := by rw [← ht, List.length_map]
  have hmln : mks.length = 2 := by rw [← List.length_map (f := (·.t)), hmt]; rfl
  obtain ⟨vp, rpp⟩ := lx_list (w0 := w0) (Φ := fun w => Mem w0 w (lx 24 5 mk03 b0 rp mks ls ++ ((some b, blk (u32s s ++ [sl ob 0 rest.length c, .int .i64 n]) 56) :: (ob, blk (u8s rest ++ r) 5) :: (some b4, blk (u8s (shaV text).toList) 39) :: (or1, blk (u8s text ++ rr1) 5) :: N))) (c0 := cp) hok (fun w m => m.appL) (by rw [hln, hmln]; exact hcc) (by rw [hln, hmln]; omega)
  rw [ht] at vp rpp
  refine UW.callG 2 rfl (by kernel_rfl) rfl Tryd.call19 rfl (fun N' hN' => shaSum_does w0 _ N' (fun w m => hN' w m) _ _ _ a0 (shaV text) vp rpp hK hS hD1) rfl ?_
  rintro _ G1 rfl
  refine UW.mem (M' := (some b, blk (u32s s ++ [sl ob 0 rest.length c, .int .i64 n]) 56) :: (ob, blk (u8s rest ++ r) 5) :: (some b4, blk (u8s (shaV text).toList) 39) :: (or1, blk (u8s text ++ rr1) 5) :: N) (fun w m => m.appR.appR) ?_
  refine UW.rv 4 rfl (by kernel_rfl) rfl (RV.eqA8 rfl rfl rfl rfl rfl rfl Vector.length_toList Vector.length_toList) rfl ?_
  refine UW.slot (.bool true) (by simp) ?_
  refine UW.rv 5 rfl (by kernel_rfl) rfl (RV.move rfl) rfl ?_
  refine UW.rv 6 rfl (by kernel_rfl) rfl (RV.move rfl) rfl ?_
  refine UW.rv 10 rfl (by kernel_rfl) rfl (RV.loadW rfl (List.Mem.tail _ (List.Mem.tail _ (List.Mem.head _))) rfl rfl rfl rfl ((u8s_length _).trans Vector.length_toList)) rfl ?_
  refine UW.callG 7 rfl (by kernel_rfl) rfl Tryd.call23 rfl (fun N' hN' => waybilllaw03_copied_does w0 _ N' (fun w m => hN' w m) (or1.map fun k => ⟨k, 0, none⟩) kr1 text text vt2 hC) rfl ?_
  rintro L1 M1 ⟨B3, or3, kr3, rr3, o3, e1, e2⟩
  rw [e1, e2]
  clear e1 e2 L1 M1
  refine UW.mem (M' := (or3, blk (u8s text ++ rr3) 5) :: (some b, blk (u32s s ++ [sl ob 0 rest.length c, .int .i64 n]) 56) :: (ob, blk (u8s rest ++ r) 5) :: (some b4, blk (u8s (shaV text).toList) 39) :: (or1, blk (u8s text ++ rr1) 5) :: N) (fun w m => m.sublist (List.Sublist.cons_cons _ (List.sublist_append_right _ _))) ?_
  refine UW.new 8 rfl (by kernel_rfl) rfl (NV.bs1 rfl rfl rfl rfl rfl rfl) rfl (fun b9 => ?_)
  have v3 : View (fun w => Mem w0 w ((some b9, blk [.slice (or3.map fun k => ⟨k, 0, none⟩) text.length kr3] 24) :: (or3, blk (u8s text ++ rr3) 5) :: (some b, blk (u32s s ++ [sl ob 0 rest.length c, .int .i64 n]) 56) :: (ob, blk (u8s rest ++ r) 5) :: (some b4, blk (u8s (shaV text).toList) 39) :: (or1, blk (u8s text ++ rr1) 5) :: N)) (or3.map fun k => ⟨k, 0, none⟩) text.length kr3 1 (u8s text) := o3.view (by decide) (te := 5) (fun w q => q.tail.sublist (List.singleton_sublist.2 (List.mem_cons_self ..)))
  have o9 : OwnS (some b9) ([text] : List (List (BitVec 8))).length 1 1 ([.slice (or3.map fun k => ⟨k, 0, none⟩) text.length kr3] : List Value) [] := ⟨rfl, rfl, (fun h => nomatch h), by show 1 ≤ _; decide⟩
  have v9 : View (fun w => Mem w0 w ((some b9, blk [.slice (or3.map fun k => ⟨k, 0, none⟩) text.length kr3] 24) :: (or3, blk (u8s text ++ rr3) 5) :: (some b, blk (u32s s ++ [sl ob 0 rest.length c, .int .i64 n]) 56) :: (ob, blk (u8s rest ++ r) 5) :: (some b4, blk (u8s (shaV text).toList) 39) :: (or1, blk (u8s text ++ rr1) 5) :: N)) (some ⟨b9, 0, none⟩) ([text] : List (List (BitVec 8))).length 1 1 ([.slice (or3.map fun k => ⟨k, 0, none⟩) text.length kr3] : List Value) := o9.view (by decide) (te := 24) (fun w q => q.sublist (List.singleton_sublist.2 (List.mem_cons_self ..)))
  refine UW.callG 9 rfl (by kernel_rfl) rfl Tryd.call19 rfl (fun N' hN' => shaSum_does w0 _ N' (fun w m => hN' w m) _ _ _ [text] (shaV text) v9 (Reps.one (BsRd.mk v3)) hK hS hD2) rfl ?_
  rintro _ G1 rfl
  refine UW.mem (M' := (some b, blk (u32s s ++ [sl ob 0 rest.length c, .int .i64 n]) 56) :: (ob, blk (u8s rest ++ r) 5) :: (some b4, blk (u8s (shaV text).toList) 39) :: (or1, blk (u8s text ++ rr1) 5) :: N) (fun w m => m.appR.tail.tail) ?_
  refine UW.rv 11 rfl (by kernel_rfl) rfl (RV.eqA8 rfl rfl rfl rfl rfl rfl Vector.length_toList Vector.length_toList) rfl ?_
  refine UW.slot (.bool true) (by simp) ?_
  refine UW.rv 12 rfl (by kernel_rfl) rfl (RV.pick_t rfl rfl rfl) rfl ?_
  refine UW.rv 13 rfl (by kernel_rfl) rfl (RV.move rfl) rfl ?_
  refine UW.rv 14 rfl (by kernel_rfl) rfl (RV.move rfl) rfl ?_
  refine UW.rv 16 rfl (by kernel_rfl) rfl (RV.loadW rfl (List.Mem.tail _ (List.Mem.tail _ (List.Mem.head _))) rfl rfl rfl rfl ((u8s_length _).trans Vector.length_toList)) rfl ?_
  refine UW.callG 15 rfl (by kernel_rfl) rfl Tryd.call28 rfl (fun N' hN' => DoesG.ro (R := fun v => v = .agg (u8s (shaR text)).toArray) (fun N0 => HSum_does w0 N0 hK hS b ob c r s rest n text hT ho htl) (fun w m => (hN' w m).sublist (List.Sublist.cons_cons _ (List.Sublist.cons_cons _ (List.nil_sublist _))))) rfl ?_
  rintro _ G1 rfl
  refine UW.mem (M' := (some b, blk (u32s s ++ [sl ob 0 rest.length c, .int .i64 n]) 56) :: (ob, blk (u8s rest ++ r) 5) :: (some b4, blk (u8s (shaV text).toList) 39) :: (or1, blk (u8s text ++ rr1) 5) :: N) (fun w m => m.appR) ?_
  refine UW.slot (.agg (u8s (shaV text).toList).toArray) rfl ?_
  refine UW.rv 17 rfl (by kernel_rfl) rfl (RV.eqA8 rfl rfl rfl rfl rfl rfl Vector.length_toList Vector.length_toList) rfl ?_
  refine UW.slot (.bool true) (by simp) ?_
  refine UW.rv 18 rfl (by kernel_rfl) rfl (RV.pick_t rfl rfl rfl) rfl ?_
  refine UW.rv 19 rfl (by kernel_rfl) rfl (RV.move rfl) rfl ?_
  refine UW.rv 20 rfl (by kernel_rfl) rfl (RV.move rfl) rfl ?_
  refine UW.rv 22 rfl (by kernel_rfl) rfl (RV.move rfl) rfl ?_
  refine UW.rv 23 rfl (by kernel_rfl) rfl (RV.len rfl rfl) rfl ?_
  refine UW.callG 21 rfl (by kernel_rfl) rfl Tryd.call27 rfl (fun N' hN' => DoesG.ro (R := fun v => v = .int .i64 n) (fun N0 => HLen_does w0 N0 b ob c r s rest n hT.sl) (fun w m => (hN' w m).sublist (List.Sublist.cons_cons _ (List.Sublist.cons_cons _ (List.nil_sublist _))))) rfl ?_
  rintro _ G1 rfl
  refine UW.mem (M' := (some b, blk (u32s s ++ [sl ob 0 rest.length c, .int .i64 n]) 56) :: (ob, blk (u8s rest ++ r) 5) :: (some b4, blk (u8s (shaV text).toList) 39) :: (or1, blk (u8s text ++ rr1) 5) :: N) (fun w m => m.appR) ?_
  refine UW.rv 24 rfl (by kernel_rfl) rfl (RV.eql rfl rfl) rfl ?_
  refine UW.slot (.bool true) (by rw [hT.n]; simp) ?_
  refine UW.rv 25 rfl (by kernel_rfl) rfl (RV.pick_t rfl rfl rfl) rfl ?_
  refine UW.rv 26 rfl (by kernel_rfl) rfl (RV.assign rfl) rfl ?_
  refine UW.nil (by kernel_rfl) ?_
  refine OW.nil ?_
  (repeat (first | refine CW.seq ?_ | refine QW.then_n ?_ | refine CW.block ?_ | refine CW.ret ?_ | refine CW.skip ?_ | refine CW.exit ?_ | refine QW.then_x ?_ | refine QW.then_r ?_ | refine QW.block_n ?_ | refine QW.block_xe ?_ | refine QW.block_xn rfl ?_ | refine QW.block_r ?_))
  refine QW.retG (rs := [.tmp 2]) [.bool true] [] rfl ?_ rfl ?_ ?_ _ (.inl rfl)
  ·exact ⟨rfl, trivial⟩
  ·rfl
  ·exact fun w m => m.drop 4
end Go.Fw.Tryd
