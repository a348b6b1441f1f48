/- Part of a proof: rules that its law uses. -/
import Derived.Test.YtgonajfngmeanaaDoorTy
import Derived.Test.YtgonajfngmeanaaDoorExt
import Derived.Test.YtgonajfngmeanaaDoorShaK5
import Derived.Test.YtgonajfngmeanaaDoorShaP1
namespace Go.Fw.Tryd
open Go Go.Proofs Go.Fw
set_option maxRecDepth 100000
set_option linter.unusedVariables false
set_option linter.unusedSimpArgs false
set_option maxHeartbeats 1000000
theorem waybilllaw03_copied_does (w0 : World) (Φ : Ctx) (N : List Ent) (hΦ : ∀ w, Mem w0 w N → Φ w) (A0_ : Option Addr) (c0_ : Nat) (a0 : List (BitVec 8)) (res0 : List (BitVec 8)) (va0 : View Φ A0_ a0.length c0_ 1 (u8s a0)) (hf : waybilllaw03_copied a0 = some res0) : DoesG Tryd.prog 23 [.slice A0_ a0.length c0_] w0 [] N (fun v G => ∃ B : List Ent, ∃ or0 : Option Nat, ∃ kr0 : Nat, ∃ rr0 : List Value, (OwnS or0 res0.length kr0 1 (u8s res0) rr0) ∧ v = sl or0 0 res0.length kr0 ∧ G = (or0, blk ((u8s res0) ++ rr0) 5) :: B) := by
 unfold waybilllaw03_copied at hf
 replace va0 := va0.mono (Ψ := More w0 Φ []) (fun w q => q.1)
 have m1 := va0.mx
 refine DoesG.enter Tryd.func23 rfl Tryd.ntmps23 rfl (M := (([] ++ N))) rfl ?_
 refine CW.seq (CW.region ?_)
 refine OW.rv (RV.assign rfl) rfl ?_
 refine OW.nil (QW.then_n (CW.seq (CW.region ?_)))
 refine OW.rv (RV.assign rfl) rfl ?_
 refine OW.nil (QW.then_n (CW.seq (CW.seq (CW.region ?_))))
 refine OW.rv (RV.assign rfl) rfl ?_
 refine OW.nil (QW.then_n ?_)
 obtain ⟨q2, hq3, hf⟩ := some_bind hf
 refine CW.cutJ (fun L' M' => ∃ l4 : List (BitVec 8), ∃ ob5 : Option Nat, ∃ c6 : Nat, ∃ r7 : List Value, q2 = l4 ∧ (OwnS ob5 l4.length c6 1 (u8s l4) r7) ∧ L' = [(3, sl ob5 0 l4.length c6)] ∧ M' = ((ob5, blk ((u8s l4) ++ r7) 5) :: ([] ++ N))) ?_ ?_
 ·rintro L10 M11 ⟨l4, ob5, c6, r7, e9, o8, e12, e13⟩
  rw [e12, e13]
  clear e12 e13 L10 M11
  clear hq3
  rw [e9] at hf
  clear e9
  try dsimp only at hf
  have m14 := o8.mx
  refine QW.then_n (CW.seq (CW.region ?_))
  refine OW.rv (RV.move rfl) rfl ?_
  refine OW.rv (RV.assign rfl) rfl ?_
  refine OW.nil (QW.then_n (CW.ret ?_))
  have e0 := Option.some.inj hf
  subst e0
  refine QW.retG (rs := [.tmp 2]) ([sl ob5 0 l4.length c6]) ((ob5, blk ((u8s l4) ++ r7) 5) :: []) rfl ?_ rfl ?_ ?_ _ (.inl rfl)
  ·exact ⟨rfl, trivial⟩
  ·exact ⟨[], ob5, c6, r7, o8, rfl, rfl⟩
  ·exact (fun w m => m.pick [0] 1 rfl rfl)
 ·skip
  refine CW.block ?_
  refine CW.mem (M' := ((none, blk ((u8s ([] : List (BitVec 8))) ++ []) 5) :: ([] ++ N))) (fun w m => m.nil_ent _) ?_
  refine CW.loopJ (fun k L' M' => ∃ l15 : List (BitVec 8), ∃ n20 : Nat, ∃ ob16 : Option Nat, ∃ c17 : Nat, ∃ r18 : List Value, (waybilllaw03_copied.l1 a0 k l15 n20) = some q2 ∧ (OwnS ob16 l15.length c17 1 (u8s l15) r18) ∧ (n20 ≤ 9223372036854775807) ∧ L' = [(0, .slice A0_ a0.length c0_), (3, sl ob16 0 l15.length c17), (4, .int .i64 ((n20 : Nat) : Int))] ∧ M' = ((ob16, blk ((u8s l15) ++ r18) 5) :: ([] ++ N))) (k0 := (a0.length - 0 + 2)) ⟨([] : List (BitVec 8)), 0, none, 0, [], hq3, OwnS.nil, (by omega), rfl, rfl⟩ ⟨rfl, rfl, rfl, trivial⟩ (fun w m => m.pick [0] 1 rfl rfl) ?_
  clear hq3
  rintro k22 L25 M26 ⟨l15, n20, ob16, c17, r18, hl23, o19, b21, e27, e28⟩
  rw [e27, e28]
  clear e27 e28 L25 M26
  rcases k22 with _ | k22
  ·rw [waybilllaw03_copied.l1] at hl23; cases hl23
  rw [waybilllaw03_copied.l1] at hl23
  have m29 := o19.mx
  refine CW.seq (CW.seq (CW.region ?_))
  refine OW.rv (RV.move rfl) rfl ?_
  refine OW.rv (RV.move rfl) rfl ?_
  refine OW.rv (RV.len rfl rfl) rfl ?_
  refine OW.rv (RV.lss rfl rfl) rfl ?_
  refine OW.slot (.bool (decide (n20 < a0.length))) (congrArg Value.bool (decide_eq_decide.2 (by omega))) ?_
  refine OW.nil (QW.then_n ?_)
  by_cases h30 : n20 < a0.length
  ·replace hl23 := if_t hl23 h30
   refine CW.is_t rfl (decide_eq_true h30) ?_
   refine CW.skip (QW.then_n (CW.seq (CW.block (CW.region ?_))))
   refine OW.rv (RV.move rfl) rfl ?_
   refine OW.rv (RV.move rfl) rfl ?_
   refine OW.rv (RV.move rfl) rfl ?_
   obtain ⟨x31, hx32, hl23⟩ := some_bind hl23
   have hl33 := lt_of_at hx32
   refine OW.rv (RV.idx_r (n20) rfl rfl rfl rfl rfl (va0.isSome (by decide) hl33) (by omega)) rfl ?_
   refine OW.rv (RV.load_at rfl rfl rfl (fun w m => va0.cell (More.of hΦ 1 m rfl) (u8s_at hx32))) rfl ?_
   refine OW.ofN (NV.bs1 rfl rfl rfl rfl rfl rfl) rfl (fun b34 => ?_)
   refine OW.mem (M' := (((some b34), blk ((u8s ([x31] : List (BitVec 8))) ++ []) 5) :: (ob16, blk ((u8s l15) ++ r18) 5) :: ([] ++ N))) (fun w m => by first | exact m | simpa [u8s] using m) ?_
   have o35 : OwnS (some b34) ([x31] : List (BitVec 8)).length 1 1 (u8s ([x31] : List (BitVec 8))) [] := ⟨by simp [u8s], by simp [u8s], (fun h => nomatch h), by simp⟩
   refine OW.slot (sl (some b34) 0 ([x31] : List (BitVec 8)).length 1) (rfl) ?_
   refine OW.rot1 ?_
   obtain ⟨g36, hl23⟩ := some_if hl23
   refine OW.appendOwn (s := 1) rfl rfl rfl rfl rfl rfl o19 (fun w m => m.rd0 (List.Mem.tail _ (List.Mem.head _)) (fun e => o35.nilc (by decide) e)) o35.n (u8s_one _) (o35.zeroO (by decide)) (by decide) (by decide) (by first | omega | (simp only [i5, List.length_nil]; omega)) rfl rfl ((l15 ++ ([x31] : List (BitVec 8))).length) (u8s (l15 ++ ([x31] : List (BitVec 8)))) (List.length_append ..).symm (u8s_app _ _) (fun ob37 r38 c39 o40 => ?_)
   have m41 := o40.mx
   refine OW.rv (RV.assign rfl) rfl ?_
   refine OW.nil (QW.block_n (QW.then_n (CW.region ?_)))
   refine OW.rv (RV.move rfl) rfl ?_
   refine OW.rv (RV.add rfl rfl (by omega)) rfl ?_
   refine OW.slot (.int .i64 (((n20 + 1) : Nat) : Int)) (by first | rfl | (congr 1) | (congr 1; omega)) ?_
   refine OW.rv (RV.assign rfl) rfl ?_
   refine OW.nil ?_
   exact QW.againJ (k' := k22) (Nat.lt_succ_self _) ⟨(l15 ++ ([x31] : List (BitVec 8))), (n20 + 1), ob37, c39, r38, hl23, o40, (by omega), rfl, rfl⟩ ⟨rfl, rfl, rfl, trivial⟩ (fun w m => m.pick [0] 2 rfl rfl)
  ·replace hl23 := if_f hl23 h30
   refine CW.is_f rfl (decide_eq_false h30) ?_
   refine CW.exit (QW.then_x (QW.then_x (QW.block_xe ?_)))
   exact QW.join ⟨l15, ob16, c17, r18, (Option.some.inj hl23).symm, o19, rfl, rfl⟩ ⟨rfl, trivial⟩ (fun w m => m.pick [0] 1 rfl rfl)
theorem waybilllaw03_joined_does (w0 : World) (Φ : Ctx) (N : List Ent) (hΦ : ∀ w, Mem w0 w N → Φ w) (A0_ : Option Addr) (c0_ : Nat) (cs0_ : List Value) (a0 : List (List (BitVec 8))) (res0 : List (BitVec 8)) (va0 : View Φ A0_ a0.length c0_ 1 cs0_) (ha0 : Reps (BsRd Φ) cs0_ a0) (hf : waybilllaw03_joined a0 = some res0) : DoesG Tryd.prog 36 [.slice A0_ a0.length c0_] w0 [] N (fun v G => ∃ B : List Ent, ∃ or0 : Option Nat, ∃ kr0 : Nat, ∃ rr0 : List Value, (OwnS or0 res0.length kr0 1 (u8s res0) rr0) ∧ v = sl or0 0 res0.length kr0 ∧ G = (or0, blk ((u8s res0) ++ rr0) 5) :: B) := by
 unfold waybilllaw03_joined at hf
 replace va0 := va0.mono (Ψ := More w0 Φ []) (fun w q => q.1)
 replace ha0 := ha0.mono (BsRd.mono (Ψ := More w0 Φ []) (fun w q => q.1))
 have m1 := va0.mx
 refine DoesG.enter Tryd.func36 rfl Tryd.ntmps36 rfl (M := (([] ++ N))) rfl ?_
 refine CW.seq (CW.region ?_)
 refine OW.rv (RV.assign rfl) rfl ?_
 refine OW.nil (QW.then_n (CW.seq (CW.region ?_)))
 refine OW.rv (RV.assign rfl) rfl ?_
 refine OW.nil (QW.then_n (CW.seq (CW.seq (CW.region ?_))))
 refine OW.rv (RV.assign rfl) rfl ?_
 refine OW.nil (QW.then_n ?_)
 obtain ⟨q2, hq3, hf⟩ := some_bind hf
 refine CW.cutJ (fun L' M' => ∃ l4 : List (BitVec 8), ∃ ob5 : Option Nat, ∃ c6 : Nat, ∃ r7 : List Value, q2 = l4 ∧ (OwnS ob5 l4.length c6 1 (u8s l4) r7) ∧ L' = [(3, sl ob5 0 l4.length c6)] ∧ M' = ((ob5, blk ((u8s l4) ++ r7) 5) :: ([] ++ N))) ?_ ?_
 ·rintro L10 M11 ⟨l4, ob5, c6, r7, e9, o8, e12, e13⟩
  rw [e12, e13]
  clear e12 e13 L10 M11
  clear hq3
  rw [e9] at hf
  clear e9
  try dsimp only at hf
  have m14 := o8.mx
  refine QW.then_n (CW.seq (CW.region ?_))
  refine OW.rv (RV.move rfl) rfl ?_
  refine OW.rv (RV.assign rfl) rfl ?_
  refine OW.nil (QW.then_n (CW.ret ?_))
  have e0 := Option.some.inj hf
  subst e0
  refine QW.retG (rs := [.tmp 2]) ([sl ob5 0 l4.length c6]) ((ob5, blk ((u8s l4) ++ r7) 5) :: []) rfl ?_ rfl ?_ ?_ _ (.inl rfl)
  ·exact ⟨rfl, trivial⟩
  ·exact ⟨[], ob5, c6, r7, o8, rfl, rfl⟩
  ·exact (fun w m => m.pick [0] 1 rfl rfl)
 ·skip
  refine CW.block ?_
  refine CW.mem (M' := ((none, blk ((u8s ([] : List (BitVec 8))) ++ []) 5) :: ([] ++ N))) (fun w m => m.nil_ent _) ?_
  refine CW.loopJ (fun k L' M' => ∃ l15 : List (BitVec 8), ∃ n20 : Nat, ∃ ob16 : Option Nat, ∃ c17 : Nat, ∃ r18 : List Value, (waybilllaw03_joined.l1 a0 k l15 n20) = some q2 ∧ (OwnS ob16 l15.length c17 1 (u8s l15) r18) ∧ (n20 ≤ 9223372036854775807) ∧ L' = [(0, .slice A0_ a0.length c0_), (3, sl ob16 0 l15.length c17), (4, .int .i64 ((n20 : Nat) : Int))] ∧ M' = ((ob16, blk ((u8s l15) ++ r18) 5) :: ([] ++ N))) (k0 := (a0.length - 0 + 2)) ⟨([] : List (BitVec 8)), 0, none, 0, [], hq3, OwnS.nil, (by omega), rfl, rfl⟩ ⟨rfl, rfl, rfl, trivial⟩ (fun w m => m.pick [0] 1 rfl rfl) ?_
  clear hq3
  rintro k22 L25 M26 ⟨l15, n20, ob16, c17, r18, hl23, o19, b21, e27, e28⟩
  rw [e27, e28]
  clear e27 e28 L25 M26
  rcases k22 with _ | k22
  ·rw [waybilllaw03_joined.l1] at hl23; cases hl23
  rw [waybilllaw03_joined.l1] at hl23
  have m29 := o19.mx
  refine CW.seq (CW.seq (CW.region ?_))
  refine OW.rv (RV.move rfl) rfl ?_
  refine OW.rv (RV.move rfl) rfl ?_
  refine OW.rv (RV.len rfl rfl) rfl ?_
  refine OW.rv (RV.lss rfl rfl) rfl ?_
  refine OW.slot (.bool (decide (n20 < a0.length))) (congrArg Value.bool (decide_eq_decide.2 (by omega))) ?_
  refine OW.nil (QW.then_n ?_)
  by_cases h30 : n20 < a0.length
  ·replace hl23 := if_t hl23 h30
   refine CW.is_t rfl (decide_eq_true h30) ?_
   refine CW.skip (QW.then_n (CW.seq (CW.block (CW.seq (CW.region ?_)))))
   refine OW.rv (RV.assign rfl) rfl ?_
   refine OW.nil (QW.then_n ?_)
   obtain ⟨q31, hq32, hl23⟩ := some_bind hl23
   refine CW.cutJ (fun L' M' => ∃ l33 : List (BitVec 8), ∃ ob34 : Option Nat, ∃ c35 : Nat, ∃ r36 : List Value, q31 = l33 ∧ (OwnS ob34 l33.length c35 1 (u8s l33) r36) ∧ L' = [(0, .slice A0_ a0.length c0_), (3, sl ob34 0 l33.length c35), (4, .int .i64 ((n20 : Nat) : Int))] ∧ M' = ((ob34, blk ((u8s l33) ++ r36) 5) :: ([] ++ N))) ?_ ?_
   ·rintro L39 M40 ⟨l33, ob34, c35, r36, e38, o37, e41, e42⟩
    rw [e41, e42]
    clear e41 e42 L39 M40
    clear hq32
    rw [e38] at hl23
    clear e38
    try dsimp only at hl23
    have m43 := o37.mx
    refine QW.block_n (QW.then_n (CW.region ?_))
    refine OW.rv (RV.move rfl) rfl ?_
    refine OW.rv (RV.add rfl rfl (by omega)) rfl ?_
    refine OW.slot (.int .i64 (((n20 + 1) : Nat) : Int)) (by first | rfl | (congr 1) | (congr 1; omega)) ?_
    refine OW.rv (RV.assign rfl) rfl ?_
    refine OW.nil ?_
    exact QW.againJ (k' := k22) (Nat.lt_succ_self _) ⟨l33, (n20 + 1), ob34, c35, r36, hl23, o37, (by omega), rfl, rfl⟩ ⟨rfl, rfl, rfl, trivial⟩ (fun w m => m.pick [0] 1 rfl rfl)
   ·skip
    refine CW.block ?_
    refine CW.loopJ (fun k L' M' => ∃ l44 : List (BitVec 8), ∃ n49 : Nat, ∃ ob45 : Option Nat, ∃ c46 : Nat, ∃ r47 : List Value, (waybilllaw03_joined.l2 a0 n20 k l44 n49) = some q31 ∧ (OwnS ob45 l44.length c46 1 (u8s l44) r47) ∧ (n49 ≤ 9223372036854775807) ∧ L' = [(0, .slice A0_ a0.length c0_), (3, sl ob45 0 l44.length c46), (4, .int .i64 ((n20 : Nat) : Int)), (5, .int .i64 ((n49 : Nat) : Int))] ∧ M' = ((ob45, blk ((u8s l44) ++ r47) 5) :: ([] ++ N))) (k0 := ((a0).flatten.length + 2)) ⟨l15, 0, ob16, c17, r18, hq32, o19, (by omega), rfl, rfl⟩ ⟨rfl, rfl, rfl, rfl, trivial⟩ (fun w m => m.pick [0] 1 rfl rfl) ?_
    clear hq32
    rintro k51 L54 M55 ⟨l44, n49, ob45, c46, r47, hl52, o48, b50, e56, e57⟩
    rw [e56, e57]
    clear e56 e57 L54 M55
    rcases k51 with _ | k51
    ·rw [waybilllaw03_joined.l2] at hl52; cases hl52
    rw [waybilllaw03_joined.l2] at hl52
    have m58 := o48.mx
    refine CW.seq (CW.seq (CW.region ?_))
    refine OW.rv (RV.move rfl) rfl ?_
    refine OW.rv (RV.move rfl) rfl ?_
    refine OW.rv (RV.move rfl) rfl ?_
    obtain ⟨x59, hx60, hl52⟩ := some_bind hl52
    have hl61 := lt_of_at hx60
    refine OW.rv (RV.idx_r (n20) rfl rfl rfl rfl rfl (va0.isSome (by decide) hl61) (by omega)) rfl ?_
    obtain ⟨cs62, h63, h64⟩ := ha0.get BsRd.len hx60
    obtain ⟨A65, c66, e68, v67⟩ := h63
    subst e68
    have m69 := v67.mx
    refine OW.rv (RV.load_at rfl rfl rfl (fun w m => by have := va0.load (More.of hΦ 1 m rfl) h64 0 _ rfl; simpa [Addr.add] using this)) rfl ?_
    refine OW.rv (RV.len rfl rfl) rfl ?_
    refine OW.rv (RV.lss rfl rfl) rfl ?_
    refine OW.slot (.bool (decide (n49 < x59.length))) (congrArg Value.bool (decide_eq_decide.2 (by omega))) ?_
    refine OW.nil (QW.then_n ?_)
    by_cases h70 : n49 < x59.length
    ·replace hl52 := if_t hl52 h70
     refine CW.is_t rfl (decide_eq_true h70) ?_
     refine CW.skip (QW.then_n (CW.seq (CW.block (CW.region ?_))))
     refine OW.rv (RV.move rfl) rfl ?_
     refine OW.rv (RV.move rfl) rfl ?_
     refine OW.rv (RV.move rfl) rfl ?_
     obtain ⟨x71, hx72, hl52⟩ := some_bind hl52
     have hl73 := lt_of_at hx72
     refine OW.rv (RV.idx_r (n20) rfl rfl rfl rfl rfl (va0.isSome (by decide) hl73) (by omega)) rfl ?_
     obtain ⟨cs74, h75, h76⟩ := ha0.get BsRd.len hx72
     obtain ⟨A77, c78, e80, v79⟩ := h75
     subst e80
     have m81 := v79.mx
     refine OW.rv (RV.load_at rfl rfl rfl (fun w m => by have := va0.load (More.of hΦ 1 m rfl) h76 0 _ rfl; simpa [Addr.add] using this)) rfl ?_
     refine OW.rv (RV.move rfl) rfl ?_
     obtain ⟨x82, hx83, hl52⟩ := some_bind hl52
     have hl84 := lt_of_at hx83
     refine OW.rv (RV.idx_r (n49) rfl rfl rfl rfl rfl (v79.isSome (by decide) hl84) (by omega)) rfl ?_
     refine OW.rv (RV.load_at rfl rfl rfl (fun w m => v79.cell (More.of hΦ 1 m rfl) (u8s_at hx83))) rfl ?_
     refine OW.ofN (NV.bs1 rfl rfl rfl rfl rfl rfl) rfl (fun b85 => ?_)
     refine OW.mem (M' := (((some b85), blk ((u8s ([x82] : List (BitVec 8))) ++ []) 5) :: (ob45, blk ((u8s l44) ++ r47) 5) :: ([] ++ N))) (fun w m => by first | exact m | simpa [u8s] using m) ?_
     have o86 : OwnS (some b85) ([x82] : List (BitVec 8)).length 1 1 (u8s ([x82] : List (BitVec 8))) [] := ⟨by simp [u8s], by simp [u8s], (fun h => nomatch h), by simp⟩
     refine OW.slot (sl (some b85) 0 ([x82] : List (BitVec 8)).length 1) (rfl) ?_
     refine OW.rot1 ?_
     obtain ⟨g87, hl52⟩ := some_if hl52
     refine OW.appendOwn (s := 1) rfl rfl rfl rfl rfl rfl o48 (fun w m => m.rd0 (List.Mem.tail _ (List.Mem.head _)) (fun e => o86.nilc (by decide) e)) o86.n (u8s_one _) (o86.zeroO (by decide)) (by decide) (by decide) (by first | omega | (simp only [i5, List.length_nil]; omega)) rfl rfl ((l44 ++ ([x82] : List (BitVec 8))).length) (u8s (l44 ++ ([x82] : List (BitVec 8)))) (List.length_append ..).symm (u8s_app _ _) (fun ob88 r89 c90 o91 => ?_)
     have m92 := o91.mx
     refine OW.rv (RV.assign rfl) rfl ?_
     refine OW.nil (QW.block_n (QW.then_n (CW.region ?_)))
     refine OW.rv (RV.move rfl) rfl ?_
     refine OW.rv (RV.add rfl rfl (by omega)) rfl ?_
     refine OW.slot (.int .i64 (((n49 + 1) : Nat) : Int)) (by first | rfl | (congr 1) | (congr 1; omega)) ?_
     refine OW.rv (RV.assign rfl) rfl ?_
     refine OW.nil ?_
     exact QW.againJ (k' := k51) (Nat.lt_succ_self _) ⟨(l44 ++ ([x82] : List (BitVec 8))), (n49 + 1), ob88, c90, r89, hl52, o91, (by omega), rfl, rfl⟩ ⟨rfl, rfl, rfl, rfl, trivial⟩ (fun w m => m.pick [0] 2 rfl rfl)
    ·replace hl52 := if_f hl52 h70
     refine CW.is_f rfl (decide_eq_false h70) ?_
     refine CW.exit (QW.then_x (QW.then_x (QW.block_xe ?_)))
     exact QW.join ⟨l44, ob45, c46, r47, (Option.some.inj hl52).symm, o48, rfl, rfl⟩ ⟨rfl, rfl, rfl, trivial⟩ (fun w m => m.pick [0] 1 rfl rfl)
  ·replace hl23 := if_f hl23 h30
   refine CW.is_f rfl (decide_eq_false h30) ?_
   refine CW.exit (QW.then_x (QW.then_x (QW.block_xe ?_)))
   exact QW.join ⟨l15, ob16, c17, r18, (Option.some.inj hl23).symm, o19, rfl, rfl⟩ ⟨rfl, trivial⟩ (fun w m => m.pick [0] 1 rfl rfl)
theorem waybilllaw03_which_does (w0 : World) (Φ : Ctx) (N : List Ent) (hΦ : ∀ w, Mem w0 w N → Φ w) (a0 : Int) (a1 : Int) (res0 : Int) (ba0 : -9223372036854775808 ≤ a0 ∧ a0 ≤ 9223372036854775807) (ba1 : -9223372036854775808 ≤ a1 ∧ a1 ≤ 9223372036854775807) (hf : waybilllaw03_which a0 a1 = some res0) : DoesG Tryd.prog 24 [.int .i64 a0, .int .i64 a1] w0 [] N (fun v G => (-9223372036854775808 ≤ res0 ∧ res0 ≤ 9223372036854775807) ∧ v = .int .i64 res0) := by
 unfold waybilllaw03_which at hf
 refine DoesG.enter Tryd.func24 rfl Tryd.ntmps24 rfl (M := (([] ++ N))) rfl ?_
 refine CW.seq (CW.region ?_)
 refine OW.rv (RV.assign rfl) rfl ?_
 refine OW.nil (QW.then_n (CW.seq (CW.region ?_)))
 refine OW.rv (RV.move rfl) rfl ?_
 refine OW.rv (RV.move rfl) rfl ?_
 obtain ⟨g1, hf⟩ := some_if hf
 refine OW.rv (RV.trem rfl rfl (by omega)) rfl ?_
 have b2 := And.intro (Int.lt_tmod_of_pos (a0) (show (0 : Int) < a1 by omega)) (Int.tmod_lt_of_pos (a0) (show (0 : Int) < a1 by omega))
 refine OW.slot (.int .i64 ((a0).tmod a1)) (rfl) ?_
 refine OW.rv (RV.assign rfl) rfl ?_
 refine OW.nil (QW.then_n (CW.seq (CW.seq (CW.region ?_))))
 refine OW.rv (RV.move rfl) rfl ?_
 refine OW.rv (RV.lss rfl rfl) rfl ?_
 refine OW.nil (QW.then_n ?_)
 obtain ⟨q3, hq4, hf⟩ := some_bind hf
 refine CW.cutJ (fun L' M' => ∃ z5 : Int, q3 = z5 ∧ (-9223372036854775808 ≤ z5 ∧ z5 ≤ 9223372036854775807) ∧ L' = [(5, .int .i64 z5)] ∧ M' = (([] ++ N))) ?_ ?_
 ·rintro L8 M9 ⟨z5, e7, b6, e10, e11⟩
  rw [e10, e11]
  clear e10 e11 L8 M9
  clear hq4
  rw [e7] at hf
  clear e7
  try dsimp only at hf
  refine QW.then_n (CW.seq (CW.region ?_))
  refine OW.rv (RV.move rfl) rfl ?_
  refine OW.rv (RV.assign rfl) rfl ?_
  refine OW.nil (QW.then_n (CW.ret ?_))
  have e0 := Option.some.inj hf
  subst e0
  refine QW.retG (rs := [.tmp 4]) ([.int .i64 z5]) ([]) rfl ?_ rfl ?_ ?_ _ (.inl rfl)
  ·exact ⟨rfl, trivial⟩
  ·exact ⟨(by omega), rfl⟩
  ·exact (fun w m => m)
 ·skip
  by_cases h12 : ((a0).tmod a1) < (0 : Int)
  ·replace hq4 := if_t hq4 h12
   refine CW.is_t rfl (decide_eq_true h12) ?_
   refine CW.region ?_
   refine OW.rv (RV.move rfl) rfl ?_
   refine OW.rv (RV.move rfl) rfl ?_
   obtain ⟨g13, hq4⟩ := some_if hq4
   refine OW.rv (RV.add rfl rfl (by omega)) rfl ?_
   refine OW.rv (RV.assign rfl) rfl ?_
   refine OW.nil ?_
   exact QW.join ⟨(((a0).tmod a1) + a1), (Option.some.inj hq4).symm, (by omega), rfl, rfl⟩ ⟨rfl, trivial⟩ (fun w m => m.pick [] 0 rfl rfl)
  ·replace hq4 := if_f hq4 h12
   refine CW.is_f rfl (decide_eq_false h12) ?_
   refine CW.skip ?_
   exact QW.join ⟨((a0).tmod a1), (Option.some.inj hq4).symm, (by omega), rfl, rfl⟩ ⟨rfl, trivial⟩ (fun w m => m.pick [] 0 rfl rfl)
theorem waybilllaw03_folded_does (w0 : World) (Φ : Ctx) (N : List Ent) (hΦ : ∀ w, Mem w0 w N → Φ w) (A0_ : Option Addr) (c0_ : Nat) (a0 : List (BitVec 8)) (res0 : Vector (BitVec 8) 32) (res1 : Bool) (va0 : View Φ A0_ a0.length c0_ 1 (u8s a0)) (hK : TabAt w0 1 constL) (hS : TabAt w0 0 startL) (hf : waybilllaw03_folded a0 = some (res0, res1)) : DoesG Tryd.prog 22 [.slice A0_ a0.length c0_] w0 [] N (fun v G => v = .tuple #[.agg (u8s res0.toList).toArray, .bool res1]) := by
 unfold waybilllaw03_folded at hf
 replace va0 := va0.mono (Ψ := More w0 Φ []) (fun w q => q.1)
 have m1 := va0.mx
 refine DoesG.enter Tryd.func22 rfl Tryd.ntmps22 rfl (M := (([] ++ N))) rfl ?_
 refine CW.seq (CW.region ?_)
 refine OW.alloc (l := (u8s (Vector.replicate 32 0#8).toList)) rfl (by rw [Vector.toList_replicate, ← u8s_rep']; rfl) rfl (fun b2 => ?_)
 refine OW.rv (RV.assign rfl) rfl ?_
 refine OW.nil (QW.then_n (CW.seq (CW.region ?_)))
 refine OW.rv (RV.move rfl) rfl ?_
 refine OW.rv (RV.len rfl rfl) rfl ?_
 obtain ⟨⟨x4, x5⟩, hx3, hf⟩ := some_bind hf
 try dsimp only at hf
 refine OW.callG Tryd.call45 rfl (sha_Pad_own w0 (More w0 Φ []) ((some b2, blk (u8s (Vector.replicate 32 0#8).toList) 39) :: ([] ++ N)) (fun w m => More.of hΦ 1 m rfl) ((a0.length : Nat) : Int) x4 x5 (by omega) hx3) rfl rfl ?_
 rintro L12 M13 ⟨B6, ob7, c8, r9, o10, b11, e14, e15⟩
 rw [e14, e15]
 clear e14 e15 L12 M13
 refine OW.mem (M' := ((ob7, blk ((u8s x4) ++ r9) 5) :: (some b2, blk (u8s (Vector.replicate 32 0#8).toList) 39) :: ((B6 ++ []) ++ N))) (fun w m => by have h := Mem.sinkAt (A := B6) m 1 1 rfl rfl; exact h) ?_
 have gq1 : ∀ w, More w0 Φ (B6 ++ []) w → More w0 Φ [] w := fun w q => More.mono (fun w m => (m).appR) q
 replace va0 := va0.mono gq1
 have m16 := o10.mx
 refine OW.rv (RV.move rfl) rfl ?_
 refine OW.rv (RV.extract rfl rfl) rfl ?_
 refine OW.slot (sl ob7 0 x4.length c8) (rfl) ?_
 refine OW.rv (RV.extract rfl rfl) rfl ?_
 refine OW.slot (.int .i64 ((x5 : Nat) : Int)) (rfl) ?_
 refine OW.rv (RV.assign rfl) rfl ?_
 refine OW.rv (RV.assign rfl) rfl ?_
 refine OW.nil (QW.then_n (CW.seq (CW.region ?_)))
 refine OW.rv (RV.move rfl) rfl ?_
 refine OW.rv (RV.move rfl) rfl ?_
 refine OW.mem (M' := (some b2, blk (u8s (Vector.replicate 32 0#8).toList) 39) :: (((ob7, blk ((u8s x4) ++ r9) 5) :: (B6 ++ [])) ++ N)) (fun w m => m.pick [1, 0] 2 rfl rfl) ?_
 have gq2 : ∀ w, More w0 Φ ((ob7, blk ((u8s x4) ++ r9) 5) :: (B6 ++ [])) w → More w0 Φ (B6 ++ []) w := fun w q => More.mono (fun w m => (m).tail) q
 replace va0 := va0.mono gq2
 have v19 : View (More w0 Φ ((ob7, blk ((u8s x4) ++ r9) 5) :: (B6 ++ []))) ((ob7).map fun k => ⟨k, 0, none⟩) x4.length c8 1 (u8s x4) := o10.view (by decide) (fun w q => q.2.sublist (List.singleton_sublist.2 (List.mem_cons_self ..)))
 refine OW.ofN (NV.bsN rfl rfl rfl (by decide) (by decide) rfl rfl rfl rfl) rfl (fun b17 => ?_)
 have h21 : Reps (BsRd (More w0 Φ ((ob7, blk ((u8s x4) ++ r9) 5) :: (B6 ++ [])))) (([.slice A0_ a0.length c0_] : List Value) ++ ([.slice ((ob7).map fun k => ⟨k, 0, none⟩) x4.length c8] : List Value)) [a0, x4] := by simpa using (show Reps (BsRd (More w0 Φ ((ob7, blk ((u8s x4) ++ r9) 5) :: (B6 ++ [])))) _ [a0, x4] from (.cons (BsRd.mk va0) (.cons (BsRd.mk v19) .nil)))
 refine OW.mem (M' := (((some b17), blk ((([.slice A0_ a0.length c0_] : List Value) ++ ([.slice ((ob7).map fun k => ⟨k, 0, none⟩) x4.length c8] : List Value)) ++ []) 24) :: (some b2, blk (u8s (Vector.replicate 32 0#8).toList) 39) :: (((ob7, blk ((u8s x4) ++ r9) 5) :: (B6 ++ [])) ++ N))) (fun w m => m) ?_
 have o18 : OwnS (some b17) ([a0, x4] : List (List (BitVec 8))).length 2 1 (([.slice A0_ a0.length c0_] : List Value) ++ ([.slice ((ob7).map fun k => ⟨k, 0, none⟩) x4.length c8] : List Value)) [] := ⟨by simp [BsRd], by simp [BsRd], (fun h => nomatch h), by simp⟩
 refine OW.slot (sl (some b17) 0 ([a0, x4] : List (List (BitVec 8))).length 2) (rfl) ?_
 refine OW.mem (M' := (some b2, blk (u8s (Vector.replicate 32 0#8).toList) 39) :: ((((some b17), blk ((([.slice A0_ a0.length c0_] : List Value) ++ ([.slice ((ob7).map fun k => ⟨k, 0, none⟩) x4.length c8] : List Value)) ++ []) 24) :: ((ob7, blk ((u8s x4) ++ r9) 5) :: (B6 ++ []))) ++ N)) (fun w m => m.pick [1, 0] 2 rfl rfl) ?_
 have gq3 : ∀ w, More w0 Φ (((some b17), blk ((([.slice A0_ a0.length c0_] : List Value) ++ ([.slice ((ob7).map fun k => ⟨k, 0, none⟩) x4.length c8] : List Value)) ++ []) 24) :: ((ob7, blk ((u8s x4) ++ r9) 5) :: (B6 ++ []))) w → More w0 Φ ((ob7, blk ((u8s x4) ++ r9) 5) :: (B6 ++ [])) w := fun w q => More.mono (fun w m => (m).tail) q
 replace va0 := va0.mono gq3
 replace v19 := v19.mono gq3
 replace h21 := h21.mono (BsRd.mono gq3)
 have v22 : View (More w0 Φ (((some b17), blk ((([.slice A0_ a0.length c0_] : List Value) ++ ([.slice ((ob7).map fun k => ⟨k, 0, none⟩) x4.length c8] : List Value)) ++ []) 24) :: ((ob7, blk ((u8s x4) ++ r9) 5) :: (B6 ++ [])))) (((some b17)).map fun k => ⟨k, 0, none⟩) ([a0, x4] : List (List (BitVec 8))).length 2 1 (([.slice A0_ a0.length c0_] : List Value) ++ ([.slice ((ob7).map fun k => ⟨k, 0, none⟩) x4.length c8] : List Value)) := o18.view (by decide) (fun w q => q.2.sublist (List.singleton_sublist.2 (List.mem_cons_self ..)))
 obtain ⟨x24, hx23, hf⟩ := some_bind hf
 refine OW.callG Tryd.call36 rfl (waybilllaw03_joined_does w0 (More w0 Φ (((some b17), blk ((([.slice A0_ a0.length c0_] : List Value) ++ ([.slice ((ob7).map fun k => ⟨k, 0, none⟩) x4.length c8] : List Value)) ++ []) 24) :: ((ob7, blk ((u8s x4) ++ r9) 5) :: (B6 ++ [])))) ((some b2, blk (u8s (Vector.replicate 32 0#8).toList) 39) :: ((((some b17), blk ((([.slice A0_ a0.length c0_] : List Value) ++ ([.slice ((ob7).map fun k => ⟨k, 0, none⟩) x4.length c8] : List Value)) ++ []) 24) :: ((ob7, blk ((u8s x4) ++ r9) 5) :: (B6 ++ []))) ++ N)) (fun w m => More.of hΦ 1 m rfl) (((some b17)).map fun k => ⟨k, 0, none⟩) 2 (([.slice A0_ a0.length c0_] : List Value) ++ ([.slice ((ob7).map fun k => ⟨k, 0, none⟩) x4.length c8] : List Value)) ([a0, x4] : List (List (BitVec 8))) x24 v22 h21 hx23) rfl rfl ?_
 rintro L30 M31 ⟨B25, ob26, c27, r28, o29, e32, e33⟩
 rw [e32, e33]
 clear e32 e33 L30 M31
 refine OW.mem (M' := ((ob26, blk ((u8s x24) ++ r28) 5) :: (some b2, blk (u8s (Vector.replicate 32 0#8).toList) 39) :: ((B25 ++ (((some b17), blk ((([.slice A0_ a0.length c0_] : List Value) ++ ([.slice ((ob7).map fun k => ⟨k, 0, none⟩) x4.length c8] : List Value)) ++ []) 24) :: ((ob7, blk ((u8s x4) ++ r9) 5) :: (B6 ++ [])))) ++ N))) (fun w m => by have h := Mem.sinkAt (A := B25) m 1 1 rfl rfl; exact h) ?_
 have gq4 : ∀ w, More w0 Φ (B25 ++ (((some b17), blk ((([.slice A0_ a0.length c0_] : List Value) ++ ([.slice ((ob7).map fun k => ⟨k, 0, none⟩) x4.length c8] : List Value)) ++ []) 24) :: ((ob7, blk ((u8s x4) ++ r9) 5) :: (B6 ++ [])))) w → More w0 Φ (((some b17), blk ((([.slice A0_ a0.length c0_] : List Value) ++ ([.slice ((ob7).map fun k => ⟨k, 0, none⟩) x4.length c8] : List Value)) ++ []) 24) :: ((ob7, blk ((u8s x4) ++ r9) 5) :: (B6 ++ []))) w := fun w q => More.mono (fun w m => (m).appR) q
 replace va0 := va0.mono gq4
 replace v19 := v19.mono gq4
 replace v22 := v22.mono gq4
 replace h21 := h21.mono (BsRd.mono gq4)
 have m34 := o29.mx
 refine OW.rv (RV.assign rfl) rfl ?_
 refine OW.nil (QW.then_n (CW.seq (CW.seq ?_)))
 obtain ⟨q35, hq36, hf⟩ := some_bind hf
 refine CW.cutJ (fun L' M' => ∃ p37 : Bool, q35 = p37 ∧ L' = [(2, ptr (some b2) 0), (6, sl ob26 0 x24.length c27), (40, .bool (p37))] ∧ M' = ((ob26, blk ((u8s x24) ++ r28) 5) :: (some b2, blk (u8s (Vector.replicate 32 0#8).toList) 39) :: ((B25 ++ (((some b17), blk ((([.slice A0_ a0.length c0_] : List Value) ++ ([.slice ((ob7).map fun k => ⟨k, 0, none⟩) x4.length c8] : List Value)) ++ []) 24) :: ((ob7, blk ((u8s x4) ++ r9) 5) :: (B6 ++ [])))) ++ N))) ?_ ?_
 ·rintro L39 M40 ⟨p37, e38, e41, e42⟩
  rw [e41, e42]
  clear e41 e42 L39 M40
  clear hq36
  rw [e38] at hf
  clear e38
  try dsimp only at hf
  have m43 := o29.mx
  refine QW.then_n ?_
  by_cases h44 : p37 = true
  ·replace hf := if_t hf h44
   refine CW.is_t rfl (h44) ?_
   refine CW.seq (CW.region ?_)
   refine OW.rv (RV.build0 (l := (u8s (Vector.replicate 32 0#8).toList)) rfl rfl rfl (by rw [Vector.toList_replicate, ← u8s_rep']; rfl)) rfl ?_
   refine OW.rot1 ?_
   refine OW.sv (SV.storeW rfl rfl rfl (u8s_one _) rfl ((u8s_length _).trans Vector.length_toList) ((u8s_length _).trans Vector.length_toList)) ?_
   refine OW.rv (RV.assign rfl) rfl ?_
   refine OW.nil (QW.then_n (CW.ret (QW.then_r ?_)))
   have er0 := Option.some.inj hf
   obtain ⟨e0, er1⟩ := Prod.mk.inj er0
   clear er0
   subst e0
   subst er1
   refine QW.retG (rs := [.cell 2 39, .tmp 3]) ([.agg (u8s (Vector.replicate 32 0#8).toList).toArray, .bool false]) ((some b2, blk (u8s (Vector.replicate 32 0#8).toList) 39) :: (ob26, blk ((u8s x24) ++ r28) 5) :: (B25 ++ (((some b17), blk ((([.slice A0_ a0.length c0_] : List Value) ++ ([.slice ((ob7).map fun k => ⟨k, 0, none⟩) x4.length c8] : List Value)) ++ []) 24) :: ((ob7, blk ((u8s x4) ++ r9) 5) :: (B6 ++ []))))) rfl ?_ rfl ?_ ?_ _ (.inl rfl)
   ·exact ⟨⟨_, _, _, _, rfl, (List.Mem.head _), rfl, rfl, (congrArg some ((u8s_length _).trans Vector.length_toList).symm), rfl⟩, rfl, trivial⟩
   ·exact rfl
   ·exact (fun w m => m)
  ·replace hf := if_f hf h44
   refine CW.is_f rfl (Bool.eq_false_iff.2 h44) ?_
   refine CW.skip (QW.then_n (CW.seq (CW.region ?_)))
   obtain ⟨x46, hx45, hf⟩ := some_bind hf
   refine OW.callG Tryd.call15 rfl (sha_Start_does w0 (More w0 Φ (B25 ++ (((some b17), blk ((([.slice A0_ a0.length c0_] : List Value) ++ ([.slice ((ob7).map fun k => ⟨k, 0, none⟩) x4.length c8] : List Value)) ++ []) 24) :: ((ob7, blk ((u8s x4) ++ r9) 5) :: (B6 ++ []))))) ((ob26, blk ((u8s x24) ++ r28) 5) :: (some b2, blk (u8s (Vector.replicate 32 0#8).toList) 39) :: ((B25 ++ (((some b17), blk ((([.slice A0_ a0.length c0_] : List Value) ++ ([.slice ((ob7).map fun k => ⟨k, 0, none⟩) x4.length c8] : List Value)) ++ []) 24) :: ((ob7, blk ((u8s x4) ++ r9) 5) :: (B6 ++ [])))) ++ N)) (fun w m => More.of hΦ 2 m rfl) x46 hS hx45) rfl rfl ?_
   rintro _ G47 rfl
   refine OW.mem (M' := ((ob26, blk ((u8s x24) ++ r28) 5) :: (some b2, blk (u8s (Vector.replicate 32 0#8).toList) 39) :: ((B25 ++ (((some b17), blk ((([.slice A0_ a0.length c0_] : List Value) ++ ([.slice ((ob7).map fun k => ⟨k, 0, none⟩) x4.length c8] : List Value)) ++ []) 24) :: ((ob7, blk ((u8s x4) ++ r9) 5) :: (B6 ++ [])))) ++ N))) (fun w m => m.appR) ?_
   refine OW.alloc (l := (u32s (Vector.replicate 8 0#32).toList)) rfl (by rw [Vector.toList_replicate, ← u32s_rep]; rfl) rfl (fun b49 => ?_)
   refine OW.sv (SV.storeW rfl rfl rfl (u32s_one _) rfl ((u32s_length _).trans Vector.length_toList) ((u32s_length _).trans Vector.length_toList)) ?_
   refine OW.nil (QW.then_n (CW.seq (CW.seq (CW.region ?_))))
   refine OW.rv (RV.assign rfl) rfl ?_
   refine OW.nil (QW.then_n ?_)
   obtain ⟨q50, hq51, hf⟩ := some_bind hf
   refine CW.cutJ (fun L' M' => ∃ w54 : Vector (BitVec 32) 8, ∃ B52 : List Ent, q50 = Lp.go w54 ∧ (∀ w, Mem w0 w B52 → Mem w0 w (B25 ++ (((some b17), blk ((([.slice A0_ a0.length c0_] : List Value) ++ ([.slice ((ob7).map fun k => ⟨k, 0, none⟩) x4.length c8] : List Value)) ++ []) 24) :: ((ob7, blk ((u8s x4) ++ r9) 5) :: (B6 ++ []))))) ∧ L' = [(2, ptr (some b2) 0), (7, ptr (some b49) 0)] ∧ M' = ((some b49, blk (u32s w54.toList) 23) :: (some b2, blk (u8s (Vector.replicate 32 0#8).toList) 39) :: (B52 ++ N))) ?_ ?_
   ·rintro L56 M57 ⟨w54, B52, e55, hB53, e58, e59⟩
    rw [e58, e59]
    clear e58 e59 L56 M57
    clear hq51
    rw [e55] at hf
    clear e55
    try dsimp only at hf
    refine QW.then_n (CW.seq (CW.region ?_))
    refine OW.alloc (l := (u8s (Vector.replicate 32 0#8).toList)) rfl (by rw [Vector.toList_replicate, ← u8s_rep']; rfl) rfl (fun b60 => ?_)
    refine OW.nil (QW.then_n (CW.seq (CW.seq (CW.region ?_))))
    refine OW.rv (RV.assign rfl) rfl ?_
    refine OW.nil (QW.then_n ?_)
    obtain ⟨q61, hq62, hf⟩ := some_bind hf
    refine CW.cutJ (fun L' M' => ∃ w63 : Vector (BitVec 8) 32, q61 = w63 ∧ L' = [(2, ptr (some b2) 0), (11, ptr (some b60) 0)] ∧ M' = ((some b60, blk (u8s w63.toList) 39) :: (some b2, blk (u8s (Vector.replicate 32 0#8).toList) 39) :: (B52 ++ N))) ?_ ?_
    ·rintro L65 M66 ⟨w63, e64, e67, e68⟩
     rw [e67, e68]
     clear e67 e68 L65 M66
     clear hq62
     rw [e64] at hf
     clear e64
     try dsimp only at hf
     refine QW.then_n (CW.seq (CW.region ?_))
     refine OW.rv (RV.loadW rfl (List.Mem.head _) rfl rfl rfl rfl ((u8s_length _).trans Vector.length_toList)) rfl ?_
     refine OW.rot1 ?_
     refine OW.sv (SV.storeW rfl rfl rfl (u8s_one _) rfl ((u8s_length _).trans Vector.length_toList) ((u8s_length _).trans Vector.length_toList)) ?_
     refine OW.rv (RV.assign rfl) rfl ?_
     refine OW.nil (QW.then_n (CW.ret ?_))
     have er0 := Option.some.inj hf
     obtain ⟨e0, er1⟩ := Prod.mk.inj er0
     clear er0
     subst e0
     subst er1
     refine QW.retG (rs := [.cell 2 39, .tmp 3]) ([.agg (u8s w63.toList).toArray, .bool true]) ((some b2, blk (u8s w63.toList) 39) :: (some b60, blk (u8s w63.toList) 39) :: B52) rfl ?_ rfl ?_ ?_ _ (.inl rfl)
     ·exact ⟨⟨_, _, _, _, rfl, (List.Mem.head _), rfl, rfl, (congrArg some ((u8s_length _).trans Vector.length_toList).symm), rfl⟩, rfl, trivial⟩
     ·exact rfl
     ·exact (fun w m => m)
    ·skip
     refine CW.block ?_
     refine CW.loopJ (fun k L' M' => ∃ n69 : Nat, ∃ w71 : Vector (BitVec 8) 32, (waybilllaw03_folded.l1 w54 k n69 w71) = some q61 ∧ (n69 ≤ 9223372036854775807) ∧ L' = [(2, ptr (some b2) 0), (7, ptr (some b49) 0), (11, ptr (some b60) 0), (12, .int .i64 ((n69 : Nat) : Int))] ∧ M' = ((some b60, blk (u8s w71.toList) 39) :: (some b49, blk (u32s w54.toList) 23) :: (some b2, blk (u8s (Vector.replicate 32 0#8).toList) 39) :: (B52 ++ N))) (k0 := (32 - 0 + 2)) ⟨0, (Vector.replicate 32 0#8), hq62, (by omega), rfl, rfl⟩ ⟨rfl, rfl, rfl, rfl, trivial⟩ (fun w m => m.pick [0, 1, 2] 3 rfl rfl) ?_
     clear hq62
     rintro k72 L75 M76 ⟨n69, w71, hl73, b70, e77, e78⟩
     rw [e77, e78]
     clear e77 e78 L75 M76
     rcases k72 with _ | k72
     ·rw [waybilllaw03_folded.l1] at hl73; cases hl73
     rw [waybilllaw03_folded.l1] at hl73
     refine CW.seq (CW.seq (CW.region ?_))
     refine OW.rv (RV.move rfl) rfl ?_
     refine OW.rv (RV.lss rfl rfl) rfl ?_
     refine OW.slot (.bool (decide (n69 < 32))) (congrArg Value.bool (decide_eq_decide.2 (by omega))) ?_
     refine OW.nil (QW.then_n ?_)
     by_cases h79 : n69 < 32
     ·replace hl73 := if_t hl73 h79
      refine CW.is_t rfl (decide_eq_true h79) ?_
      refine CW.skip (QW.then_n (CW.seq (CW.block (CW.region ?_))))
      refine OW.rv (RV.move rfl) rfl ?_
      refine OW.rv (RV.move rfl) rfl ?_
      refine OW.rv (RV.quo rfl rfl (by omega) (by omega) (by omega)) rfl ?_
      refine OW.slot (.int .i64 ((n69 / 4 : Nat) : Int)) (by first | rfl | (congr 1; omega)) ?_
      obtain ⟨g80, hl73⟩ := some_if hl73
      refine OW.rv (RV.idx_a ((n69 / 4)) rfl rfl rfl rfl rfl (by omega)) rfl ?_
      obtain ⟨x81, hx82, hl73⟩ := some_bind hl73
      refine OW.rv (RV.load rfl (List.Mem.tail _ (List.Mem.head _)) rfl rfl rfl (by rw [Nat.zero_add]; exact u32s_at (vat hx82))) rfl ?_
      refine OW.rv (RV.move rfl) rfl ?_
      refine OW.rv (RV.rem rfl rfl (by omega) (by omega)) rfl ?_
      refine OW.slot (.int .i64 ((n69 % 4 : Nat) : Int)) (by first | rfl | (congr 1; omega)) ?_
      refine OW.rv (RV.mul rfl rfl (by omega)) rfl ?_
      refine OW.slot (.int .i64 (((8 * (n69 % 4)) : Nat) : Int)) (by first | rfl | (congr 1) | (congr 1; omega)) ?_
      refine OW.rv (RV.sub rfl rfl (by omega)) rfl ?_
      refine OW.rv (RV.conv_i64 rfl rfl rfl) rfl ?_
      refine OW.rv (RV.shr32 (s := (BitVec.ofInt 64 ((24 : Int) - (((8 * (n69 % 4)) : Nat) : Int))).toNat) rfl (by first | rfl | exact lit32 _ rfl) rfl (by first | rfl | (simp [U64]; done))) rfl ?_
      refine OW.rv (RV.conv32_8 rfl (by first | rfl | exact lit32 _ rfl) rfl rfl) rfl ?_
      refine OW.rv (RV.idx_a (n69) rfl rfl rfl rfl rfl (by omega)) rfl ?_
      refine OW.sv (SV.store rfl rfl rfl rfl rfl (by rw [u8s_length, Vector.length_toList]; omega)) ?_
      refine OW.cells (u8s (w71.setIfInBounds n69 ((x81 >>> (BitVec.ofInt 64 ((24 : Int) - (((8 * (n69 % 4)) : Nat) : Int))).toNat).setWidth 8)).toList) (by rw [Nat.zero_add, u8s_set', vset]) ?_
      refine OW.nil (QW.block_n (QW.then_n (CW.region ?_)))
      refine OW.rv (RV.move rfl) rfl ?_
      refine OW.rv (RV.add rfl rfl (by omega)) rfl ?_
      refine OW.slot (.int .i64 (((n69 + 1) : Nat) : Int)) (by first | rfl | (congr 1) | (congr 1; omega)) ?_
      refine OW.rv (RV.assign rfl) rfl ?_
      refine OW.nil ?_
      exact QW.againJ (k' := k72) (Nat.lt_succ_self _) ⟨(n69 + 1), (w71.setIfInBounds n69 ((x81 >>> (BitVec.ofInt 64 ((24 : Int) - (((8 * (n69 % 4)) : Nat) : Int))).toNat).setWidth 8)), hl73, (by omega), rfl, rfl⟩ ⟨rfl, rfl, rfl, rfl, trivial⟩ (fun w m => m.pick [0, 1, 2] 3 rfl rfl)
     ·replace hl73 := if_f hl73 h79
      refine CW.is_f rfl (decide_eq_false h79) ?_
      refine CW.exit (QW.then_x (QW.then_x (QW.block_xe ?_)))
      exact QW.join ⟨w71, (Option.some.inj hl73).symm, rfl, rfl⟩ ⟨rfl, rfl, trivial⟩ (fun w m => m.pick [0, 2] 3 rfl rfl)
   ·skip
    refine CW.block ?_
    refine CW.mem (M' := (some b49, blk (u32s x46.toList) 23) :: (some b2, blk (u8s (Vector.replicate 32 0#8).toList) 39) :: (((ob26, blk ((u8s x24) ++ r28) 5) :: (B25 ++ (((some b17), blk ((([.slice A0_ a0.length c0_] : List Value) ++ ([.slice ((ob7).map fun k => ⟨k, 0, none⟩) x4.length c8] : List Value)) ++ []) 24) :: ((ob7, blk ((u8s x4) ++ r9) 5) :: (B6 ++ []))))) ++ N)) (fun w m => m.pick [0, 2, 1] 3 rfl rfl) ?_
    have v94 : View (More w0 Φ ((ob26, blk ((u8s x24) ++ r28) 5) :: (B25 ++ (((some b17), blk ((([.slice A0_ a0.length c0_] : List Value) ++ ([.slice ((ob7).map fun k => ⟨k, 0, none⟩) x4.length c8] : List Value)) ++ []) 24) :: ((ob7, blk ((u8s x4) ++ r9) 5) :: (B6 ++ [])))))) ((ob26).map fun k => ⟨k, 0, none⟩) x24.length c27 1 (u8s x24) := o29.view (by decide) (fun w q => q.2.sublist (List.singleton_sublist.2 (List.mem_cons_self ..)))
    refine CW.loopJ (fun k L' M' => ∃ l97 : List (BitVec 8), ∃ n101 : Nat, ∃ w103 : Vector (BitVec 32) 8, ∃ B95 : List Ent, ∃ A98 : Option Addr, ∃ c99 : Nat, (waybilllaw03_folded.l2 k l97 n101 w103) = some q50 ∧ (∀ w, Mem w0 w B95 → Mem w0 w ((ob26, blk ((u8s x24) ++ r28) 5) :: (B25 ++ (((some b17), blk ((([.slice A0_ a0.length c0_] : List Value) ++ ([.slice ((ob7).map fun k => ⟨k, 0, none⟩) x4.length c8] : List Value)) ++ []) 24) :: ((ob7, blk ((u8s x4) ++ r9) 5) :: (B6 ++ [])))))) ∧ (View (More w0 Φ B95) A98 l97.length c99 1 (u8s l97)) ∧ (n101 ≤ 9223372036854775807) ∧ L' = [(2, ptr (some b2) 0), (6, .slice A98 l97.length c99), (7, ptr (some b49) 0), (8, .int .i64 ((n101 : Nat) : Int))] ∧ M' = ((some b49, blk (u32s w103.toList) 23) :: (some b2, blk (u8s (Vector.replicate 32 0#8).toList) 39) :: (B95 ++ N))) (k0 := (x24.length - 0 + 2)) ⟨x24, 0, x46, ((ob26, blk ((u8s x24) ++ r28) 5) :: (B25 ++ (((some b17), blk ((([.slice A0_ a0.length c0_] : List Value) ++ ([.slice ((ob7).map fun k => ⟨k, 0, none⟩) x4.length c8] : List Value)) ++ []) 24) :: ((ob7, blk ((u8s x4) ++ r9) 5) :: (B6 ++ []))))), ((ob26).map fun k => ⟨k, 0, none⟩), c27, hq51, (fun w m => m), v94, (by omega), rfl, rfl⟩ ⟨rfl, rfl, rfl, rfl, trivial⟩ (fun w m => m.pick [0, 1] 2 rfl rfl) ?_
    clear hq51
    rintro k92 L105 M106 ⟨l97, n101, w103, B95, A98, c99, hl93, hB96, v100, b102, e107, e108⟩
    rw [e107, e108]
    clear e107 e108 L105 M106
    rcases k92 with _ | k92
    ·rw [waybilllaw03_folded.l2] at hl93; cases hl93
    rw [waybilllaw03_folded.l2] at hl93
    have m109 := v100.mx
    refine CW.seq (CW.seq (CW.region ?_))
    refine OW.rv (RV.move rfl) rfl ?_
    refine OW.rv (RV.move rfl) rfl ?_
    refine OW.rv (RV.len rfl rfl) rfl ?_
    refine OW.rv (RV.lss rfl rfl) rfl ?_
    refine OW.slot (.bool (decide (n101 < l97.length))) (congrArg Value.bool (decide_eq_decide.2 (by omega))) ?_
    refine OW.nil (QW.then_n ?_)
    by_cases h110 : n101 < l97.length
    ·replace hl93 := if_t hl93 h110
     refine CW.is_t rfl (decide_eq_true h110) ?_
     refine CW.skip (QW.then_n (CW.seq (CW.block (CW.seq ?_))))
     refine CW.drawsX ((some b49, blk (u32s w103.toList) 23) :: (some b2, blk (u8s (Vector.replicate 32 0#8).toList) 39) :: (B95 ++ N)) [12] (fun w m => m.pick [0, 1] 2 rfl rfl) mixed (by kernel_rfl) ?_
     refine XW.rs 0 rfl (by kernel_rfl) rfl (RV.loadW rfl (List.Mem.head _) rfl rfl rfl rfl ((u32s_length _).trans Vector.length_toList)) rfl ?_
     refine XW.rs 1 rfl (by kernel_rfl) rfl (RV.move rfl) rfl ?_
     refine XW.rs 2 rfl (by kernel_rfl) rfl (RV.move rfl) rfl ?_
     refine XW.rs 3 rfl (by kernel_rfl) rfl (RV.move rfl) rfl ?_
     refine XW.rs 4 rfl (by kernel_rfl) rfl (RV.add rfl rfl (by omega)) rfl ?_
     refine XW.slot (.int .i64 (((n101 + 64) : Nat) : Int)) (by first | rfl | (congr 1) | (congr 1; omega)) ?_
     obtain ⟨g112, hl93⟩ := some_if hl93
     obtain ⟨g113, hl93⟩ := some_if hl93
     have hle := v100.le
     refine XW.rs 5 rfl (by kernel_rfl) rfl (RV.cut_both (s := 1) (n101) ((n101 + 64)) rfl rfl rfl (by omega) (by omega) rfl rfl (by omega) (by omega)) rfl ?_
     refine XW.slot (.slice (subA A98 c99 n101 1) ((l97.take (n101 + 64)).drop n101).length (c99 - n101)) (by rw [show (((l97.take (n101 + 64)).drop n101)).length = ((n101 + 64)) - (n101) from List.length_drop.trans (by rw [List.length_take, Nat.min_eq_left (by omega)])]) ?_
     have v111 : View (More w0 Φ B95) (subA A98 c99 n101 1) ((l97.take (n101 + 64)).drop n101).length (c99 - n101) 1 (u8s ((l97.take (n101 + 64)).drop n101)) := v100.mid8 (by omega) (by omega)
     have m114 := v111.mx
     refine XWp.start (l := (u32s (Vector.replicate 8 0#32).toList)) (te := 23) (dp := 9) 11 rfl (NV.alloc rfl (by rw [Vector.toList_replicate, ← u32s_rep]; rfl)) rfl rfl ?_
     obtain ⟨x116, hx115, hl93⟩ := some_bind hl93
     refine XWp.callG 6 rfl (by kernel_rfl) rfl Tryd.call23 rfl (fun N' hN' => waybilllaw03_copied_does w0 (More w0 Φ B95) N' (fun w m => More.of hΦ 2 (hN' w m) rfl) (subA A98 c99 n101 1) (c99 - n101) ((l97.take (n101 + 64)).drop n101) x116 v111 hx115) rfl ?_
     rintro L122 M123 ⟨B117, ob118, c119, r120, o121, e124, e125⟩
     rw [e124, e125]
     clear e124 e125 L122 M123
     refine XWp.mem (M' := ((ob118, blk ((u8s x116) ++ r120) 5) :: (some b49, blk (u32s w103.toList) 23) :: (some b2, blk (u8s (Vector.replicate 32 0#8).toList) 39) :: ((B117 ++ B95) ++ N))) (fun w m => by have h := Mem.sinkAt (A := B117) m 1 2 rfl rfl; exact h) (fun w m => by have h := Mem.shrink (B := B95) (B' := (B117 ++ B95)) (List.sublist_append_right _ _) (m.pick [1, 2] 3 rfl rfl) 2 rfl; exact h) ?_
     have gq5 : ∀ w, More w0 Φ (B117 ++ B95) w → More w0 Φ B95 w := fun w q => More.mono (fun w m => (m).appR) q
     replace v100 := v100.mono gq5
     replace v111 := v111.mono gq5
     have m126 := o121.mx
     refine XWp.mem (M' := (some b49, blk (u32s w103.toList) 23) :: (some b2, blk (u8s (Vector.replicate 32 0#8).toList) 39) :: (((ob118, blk ((u8s x116) ++ r120) 5) :: (B117 ++ B95)) ++ N)) (fun w m => m.pick [1, 2, 0] 3 rfl rfl) (fun w m => by have h := Mem.shrink (B := B95) (B' := ((ob118, blk ((u8s x116) ++ r120) 5) :: (B117 ++ B95))) ((List.sublist_append_right _ _).trans (List.sublist_cons_self _ _)) (m.pick [0, 1] 2 rfl rfl) 2 rfl; exact h) ?_
     have gq6 : ∀ w, More w0 Φ ((ob118, blk ((u8s x116) ++ r120) 5) :: (B117 ++ B95)) w → More w0 Φ (B117 ++ B95) w := fun w q => More.mono (fun w m => (m).tail) q
     replace v100 := v100.mono gq6
     replace v111 := v111.mono gq6
     have v127 : View (More w0 Φ ((ob118, blk ((u8s x116) ++ r120) 5) :: (B117 ++ B95))) ((ob118).map fun k => ⟨k, 0, none⟩) x116.length c119 1 (u8s x116) := o121.view (by decide) (fun w q => q.2.sublist (List.singleton_sublist.2 (List.mem_cons_self ..)))
     obtain ⟨⟨x129, x130⟩, hx128, hl93⟩ := some_bind hl93
     try dsimp only at hl93
     refine XWp.callG 7 rfl (by kernel_rfl) rfl Tryd.call11 rfl (fun N' hN' => sha_Compress_does w0 (More w0 Φ ((ob118, blk ((u8s x116) ++ r120) 5) :: (B117 ++ B95))) N' (fun w m => More.of hΦ 2 (hN' w m) rfl) w103 ((ob118).map fun k => ⟨k, 0, none⟩) c119 x116 x129 x130 v127 hK hx128) rfl ?_
     rintro _ G132 ⟨b131, rfl⟩
     refine XWp.mem (M' := ((some b49, blk (u32s w103.toList) 23) :: (some b2, blk (u8s (Vector.replicate 32 0#8).toList) 39) :: (((ob118, blk ((u8s x116) ++ r120) 5) :: (B117 ++ B95)) ++ N))) (fun w m => m.appR) (fun w m => by have h := Mem.shrink (B := B95) (B' := ((ob118, blk ((u8s x116) ++ r120) 5) :: (B117 ++ B95))) ((List.sublist_append_right _ _).trans (List.sublist_cons_self _ _)) (m.pick [0, 1] 2 rfl rfl) 2 rfl; exact h) ?_
     refine XWp.rs 8 rfl (by kernel_rfl) rfl (RV.move rfl) rfl ?_
     refine XWp.rs 9 rfl (by kernel_rfl) rfl (RV.extract rfl rfl) rfl ?_
     refine XWp.slot (.agg (u32s x129.toList).toArray) (rfl) ?_
     refine XWp.rs 10 rfl (by kernel_rfl) rfl (RV.extract rfl rfl) rfl ?_
     refine XWp.slot (.int .i64 x130) (rfl) ?_
     refine XWp.fin (by kernel_rfl) (fun b134 => ?_)
     refine XW.sv 12 rfl (by kernel_rfl) (SV.storeW rfl rfl rfl (u32s_one _) rfl ((u32s_length _).trans Vector.length_toList) ((u32s_length _).trans Vector.length_toList)) (fun w m => by have h := Mem.shrink (B := B95) (B' := ((ob118, blk ((u8s x116) ++ r120) 5) :: (B117 ++ B95))) ((List.sublist_append_right _ _).trans (List.sublist_cons_self _ _)) (m.pick [1, 2] 3 rfl rfl) 2 rfl; exact h) ?_
     refine XW.rs 13 rfl (by kernel_rfl) rfl (RV.assign rfl) rfl ?_
     refine XW.nil (by kernel_rfl) ?_
     refine QW.then_n (CW.seq (CW.seq (CW.region ?_)))
     refine OW.rv (RV.move rfl) rfl ?_
     refine OW.rv (RV.neq rfl rfl) rfl ?_
     refine OW.nil (QW.then_n ?_)
     by_cases h135 : x130 = (0 : Int)
     ·replace hl93 := if_t hl93 h135
      refine CW.is_f rfl (congrArg (fun b => !b) (decide_eq_true h135)) ?_
      refine CW.skip (QW.then_n (CW.region ?_))
      refine OW.rv (RV.loadW rfl (List.Mem.head _) rfl rfl rfl rfl ((u32s_length _).trans Vector.length_toList)) rfl ?_
      refine OW.rot1 ?_
      refine OW.sv (SV.storeW rfl rfl rfl (u32s_one _) rfl ((u32s_length _).trans Vector.length_toList) ((u32s_length _).trans Vector.length_toList)) ?_
      refine OW.nil (QW.block_n (QW.then_n (CW.region ?_)))
      refine OW.rv (RV.move rfl) rfl ?_
      refine OW.rv (RV.add rfl rfl (by omega)) rfl ?_
      refine OW.slot (.int .i64 (((n101 + 64) : Nat) : Int)) (by first | rfl | (congr 1) | (congr 1; omega)) ?_
      refine OW.rv (RV.assign rfl) rfl ?_
      refine OW.nil ?_
      exact QW.againJ (k' := k92) (Nat.lt_succ_self _) ⟨l97, (n101 + 64), x129, ((ob118, blk ((u8s x116) ++ r120) 5) :: (B117 ++ B95)), A98, c99, hl93, (fun w m => hB96 w (((m).tail).appR)), v100, (by omega), rfl, rfl⟩ ⟨rfl, rfl, rfl, rfl, trivial⟩ (fun w m => m.pick [0, 2] 3 rfl rfl)
     ·replace hl93 := if_f hl93 h135
      refine CW.is_t rfl (congrArg (fun b => !b) (decide_eq_false h135)) ?_
      refine CW.seq (CW.region ?_)
      refine OW.rv (RV.build0 (l := (u8s (Vector.replicate 32 0#8).toList)) rfl rfl rfl (by rw [Vector.toList_replicate, ← u8s_rep']; rfl)) rfl ?_
      refine OW.rot2 ?_
      refine OW.sv (SV.storeW rfl rfl rfl (u8s_one _) rfl ((u8s_length _).trans Vector.length_toList) ((u8s_length _).trans Vector.length_toList)) ?_
      refine OW.rv (RV.assign rfl) rfl ?_
      refine OW.nil (QW.then_n (CW.ret (QW.then_r (QW.block_r (QW.then_r (QW.then_r (QW.block_r (QW.then_r ?_))))))))
      have hc := Option.some.inj hl93
      subst hc
      try dsimp only at hf
      refine QW.then_r ?_
      have er0 := Option.some.inj hf
      obtain ⟨e0, er1⟩ := Prod.mk.inj er0
      clear er0
      subst e0
      subst er1
      refine QW.retG (rs := [.cell 2 39, .tmp 3]) ([.agg (u8s (Vector.replicate 32 0#8).toList).toArray, .bool false]) ((some b2, blk (u8s (Vector.replicate 32 0#8).toList) 39) :: (some b134, blk (u32s x129.toList) 23) :: (some b49, blk (u32s w103.toList) 23) :: ((ob118, blk ((u8s x116) ++ r120) 5) :: (B117 ++ B95))) rfl ?_ rfl ?_ ?_ _ (.inl rfl)
      ·exact ⟨⟨_, _, _, _, rfl, (List.Mem.head _), rfl, rfl, (congrArg some ((u8s_length _).trans Vector.length_toList).symm), rfl⟩, rfl, trivial⟩
      ·exact rfl
      ·exact (fun w m => m)
    ·replace hl93 := if_f hl93 h110
     refine CW.is_f rfl (decide_eq_false h110) ?_
     refine CW.exit (QW.then_x (QW.then_x (QW.block_xe ?_)))
     exact QW.join ⟨w103, B95, (Option.some.inj hl93).symm, (fun w m => (hB96 w (m)).tail), rfl, rfl⟩ ⟨rfl, rfl, trivial⟩ (fun w m => m.pick [0, 1] 2 rfl rfl)
 ·skip
  refine CW.region ?_
  refine OW.rv (RV.move rfl) rfl ?_
  refine OW.rv (RV.neq rfl rfl) rfl ?_
  refine OW.slot (.bool (!decide (x5 = 0))) (congrArg (fun b => Value.bool (!b)) (decide_eq_decide.2 (by omega))) ?_
  refine OW.rv (RV.move rfl) rfl ?_
  by_cases h136 : x5 = 0
  ·replace hq36 := if_t hq36 h136
   refine OW.slot (.bool false) (congrArg Value.bool (congrArg (fun b => !b) (decide_eq_true h136))) ?_
   refine OW.want rfl ?_
   refine OW.rv (RV.move rfl) rfl ?_
   refine OW.want rfl ?_
   refine OW.rv (RV.len rfl rfl) rfl ?_
   refine OW.want rfl ?_
   refine OW.rv (RV.rem rfl rfl (by omega) (by omega)) rfl ?_
   refine OW.slot (.int .i64 ((x24.length % 64 : Nat) : Int)) (by first | rfl | (congr 1; omega)) ?_
   refine OW.want rfl ?_
   refine OW.rv (RV.neq rfl rfl) rfl ?_
   refine OW.slot (.bool (!decide ((x24.length % 64) = 0))) (congrArg (fun b => Value.bool (!b)) (decide_eq_decide.2 (by omega))) ?_
   refine OW.rv (RV.pick_f rfl rfl rfl) rfl ?_
   refine OW.rv (RV.move rfl) rfl ?_
   by_cases h137 : (x24.length % 64) = 0
   ·replace hq36 := if_t hq36 h137
    refine OW.slot (.bool false) (congrArg Value.bool (congrArg (fun b => !b) (decide_eq_true h137))) ?_
    refine OW.want rfl ?_
    refine OW.rv (RV.move rfl) rfl ?_
    refine OW.want rfl ?_
    refine OW.rv (RV.len rfl rfl) rfl ?_
    refine OW.want rfl ?_
    refine OW.rv (RV.lss rfl rfl) rfl ?_
    refine OW.slot (.bool (decide (x4.length < 9))) (congrArg Value.bool (decide_eq_decide.2 (by omega))) ?_
    refine OW.rv (RV.pick_f rfl rfl rfl) rfl ?_
    refine OW.rv (RV.move rfl) rfl ?_
    by_cases h138 : x4.length < 9
    ·replace hq36 := if_t hq36 h138
     refine OW.slot (.bool true) (congrArg Value.bool (decide_eq_true h138)) ?_
     refine OW.skip rfl rfl rfl ?_
     refine OW.skip rfl rfl rfl ?_
     refine OW.skip rfl rfl rfl ?_
     refine OW.rv (RV.pick_t rfl rfl rfl) rfl ?_
     refine OW.nil ?_
     exact QW.join ⟨true, (Option.some.inj hq36).symm, rfl, rfl⟩ ⟨rfl, rfl, rfl, trivial⟩ (fun w m => m.pick [0, 1] 2 rfl rfl)
    ·replace hq36 := if_f hq36 h138
     refine OW.slot (.bool false) (congrArg Value.bool (decide_eq_false h138)) ?_
     refine OW.want rfl ?_
     refine OW.rv (RV.move rfl) rfl ?_
     refine OW.want rfl ?_
     refine OW.rv (RV.len rfl rfl) rfl ?_
     refine OW.want rfl ?_
     refine OW.rv (RV.gtr rfl rfl) rfl ?_
     refine OW.slot (.bool (decide (72 < x4.length))) (congrArg Value.bool (decide_eq_decide.2 (by omega))) ?_
     refine OW.rv (RV.pick_f rfl rfl rfl) rfl ?_
     refine OW.nil ?_
     exact QW.join ⟨(decide (72 < x4.length)), (Option.some.inj hq36).symm, rfl, rfl⟩ ⟨rfl, rfl, rfl, trivial⟩ (fun w m => m.pick [0, 1] 2 rfl rfl)
   ·replace hq36 := if_f hq36 h137
    refine OW.slot (.bool true) (congrArg Value.bool (congrArg (fun b => !b) (decide_eq_false h137))) ?_
    refine OW.skip rfl rfl rfl ?_
    refine OW.skip rfl rfl rfl ?_
    refine OW.skip rfl rfl rfl ?_
    refine OW.rv (RV.pick_t rfl rfl rfl) rfl ?_
    refine OW.rv (RV.move rfl) rfl ?_
    refine OW.skip rfl rfl rfl ?_
    refine OW.skip rfl rfl rfl ?_
    refine OW.skip rfl rfl rfl ?_
    refine OW.rv (RV.pick_t rfl rfl rfl) rfl ?_
    refine OW.nil ?_
    exact QW.join ⟨true, (Option.some.inj hq36).symm, rfl, rfl⟩ ⟨rfl, rfl, rfl, trivial⟩ (fun w m => m.pick [0, 1] 2 rfl rfl)
  ·replace hq36 := if_f hq36 h136
   refine OW.slot (.bool true) (congrArg Value.bool (congrArg (fun b => !b) (decide_eq_false h136))) ?_
   refine OW.skip rfl rfl rfl ?_
   refine OW.skip rfl rfl rfl ?_
   refine OW.skip rfl rfl rfl ?_
   refine OW.skip rfl rfl rfl ?_
   refine OW.rv (RV.pick_t rfl rfl rfl) rfl ?_
   refine OW.rv (RV.move rfl) rfl ?_
   refine OW.skip rfl rfl rfl ?_
   refine OW.skip rfl rfl rfl ?_
   refine OW.skip rfl rfl rfl ?_
   refine OW.rv (RV.pick_t rfl rfl rfl) rfl ?_
   refine OW.rv (RV.move rfl) rfl ?_
   refine OW.skip rfl rfl rfl ?_
   refine OW.skip rfl rfl rfl ?_
   refine OW.skip rfl rfl rfl ?_
   refine OW.rv (RV.pick_t rfl rfl rfl) rfl ?_
   refine OW.nil ?_
   exact QW.join ⟨true, (Option.some.inj hq36).symm, rfl, rfl⟩ ⟨rfl, rfl, rfl, trivial⟩ (fun w m => m.pick [0, 1] 2 rfl rfl)
theorem waybilllaw03_ShaHangs_does (w0 : World) (Φ : Ctx) (N : List Ent) (hΦ : ∀ w, Mem w0 w N → Φ w) (A0_ : Option Addr) (c0_ : Nat) (a0 : List (BitVec 8)) (A1_ : Option Addr) (c1_ : Nat) (a1 : List (BitVec 8)) (a2 : Int) (res0 : Bool) (va0 : View Φ A0_ a0.length c0_ 1 (u8s a0)) (va1 : View Φ A1_ a1.length c1_ 1 (u8s a1)) (ba2 : -9223372036854775808 ≤ a2 ∧ a2 ≤ 9223372036854775807) (hK : TabAt w0 1 constL) (hS : TabAt w0 0 startL) (hf : waybilllaw03_ShaHangs a0 a1 a2 = some res0) : DoesG Tryd.prog 5 [.slice A0_ a0.length c0_, .slice A1_ a1.length c1_, .int .i64 a2] w0 [] N (fun v G => v = .bool res0) := by
 unfold waybilllaw03_ShaHangs at hf
 replace va0 := va0.mono (Ψ := More w0 Φ []) (fun w q => q.1)
 replace va1 := va1.mono (Ψ := More w0 Φ []) (fun w q => q.1)
 have m1 := va0.mx
 have m2 := va1.mx
 refine DoesG.enter Tryd.func5 rfl Tryd.ntmps5 rfl (M := (([] ++ N))) rfl ?_
 refine CW.seq (CW.region ?_)
 refine OW.rv (RV.assign rfl) rfl ?_
 refine OW.nil (QW.then_n (CW.seq (CW.region ?_)))
 refine OW.rv (RV.move rfl) rfl ?_
 obtain ⟨⟨x4, x5⟩, hx3, hf⟩ := some_bind hf
 try dsimp only at hf
 refine OW.callG Tryd.call22 rfl (waybilllaw03_folded_does w0 (More w0 Φ []) (([] ++ N)) (fun w m => More.of hΦ 0 m rfl) A0_ c0_ a0 x4 x5 va0 hK hS hx3) rfl rfl ?_
 rintro _ G6 rfl
 refine OW.mem (M' := (([] ++ N))) (fun w m => m.appR) ?_
 refine OW.rv (RV.move rfl) rfl ?_
 refine OW.rv (RV.extract rfl rfl) rfl ?_
 refine OW.slot (.agg (u8s x4.toList).toArray) (rfl) ?_
 refine OW.rv (RV.extract rfl rfl) rfl ?_
 refine OW.slot (.bool (x5)) (rfl) ?_
 refine OW.alloc (l := (u8s (Vector.replicate 32 0#8).toList)) rfl (by rw [Vector.toList_replicate, ← u8s_rep']; rfl) rfl (fun b8 => ?_)
 refine OW.sv (SV.storeW rfl rfl rfl (u8s_one _) rfl ((u8s_length _).trans Vector.length_toList) ((u8s_length _).trans Vector.length_toList)) ?_
 refine OW.rv (RV.assign rfl) rfl ?_
 refine OW.nil (QW.then_n (CW.seq (CW.region ?_)))
 refine OW.rv (RV.move rfl) rfl ?_
 obtain ⟨x10, hx9, hf⟩ := some_bind hf
 refine OW.callG Tryd.call23 rfl (waybilllaw03_copied_does w0 (More w0 Φ []) ((some b8, blk (u8s x4.toList) 39) :: ([] ++ N)) (fun w m => More.of hΦ 1 m rfl) A0_ c0_ a0 x10 va0 hx9) rfl rfl ?_
 rintro L16 M17 ⟨B11, ob12, c13, r14, o15, e18, e19⟩
 rw [e18, e19]
 clear e18 e19 L16 M17
 refine OW.mem (M' := ((ob12, blk ((u8s x10) ++ r14) 5) :: (some b8, blk (u8s x4.toList) 39) :: ((B11 ++ []) ++ N))) (fun w m => by have h := Mem.sinkAt (A := B11) m 1 1 rfl rfl; exact h) ?_
 have gq1 : ∀ w, More w0 Φ (B11 ++ []) w → More w0 Φ [] w := fun w q => More.mono (fun w m => (m).appR) q
 replace va0 := va0.mono gq1
 replace va1 := va1.mono gq1
 have m20 := o15.mx
 refine OW.mem (M' := (some b8, blk (u8s x4.toList) 39) :: (((ob12, blk ((u8s x10) ++ r14) 5) :: (B11 ++ [])) ++ N)) (fun w m => m.pick [1, 0] 2 rfl rfl) ?_
 have gq2 : ∀ w, More w0 Φ ((ob12, blk ((u8s x10) ++ r14) 5) :: (B11 ++ [])) w → More w0 Φ (B11 ++ []) w := fun w q => More.mono (fun w m => (m).tail) q
 replace va0 := va0.mono gq2
 replace va1 := va1.mono gq2
 have v23 : View (More w0 Φ ((ob12, blk ((u8s x10) ++ r14) 5) :: (B11 ++ []))) ((ob12).map fun k => ⟨k, 0, none⟩) x10.length c13 1 (u8s x10) := o15.view (by decide) (fun w q => q.2.sublist (List.singleton_sublist.2 (List.mem_cons_self ..)))
 refine OW.ofN (NV.bs1 rfl rfl rfl rfl rfl rfl) rfl (fun b21 => ?_)
 have h25 : Reps (BsRd (More w0 Φ ((ob12, blk ((u8s x10) ++ r14) 5) :: (B11 ++ [])))) (([.slice ((ob12).map fun k => ⟨k, 0, none⟩) x10.length c13] : List Value)) [x10] := Reps.one (BsRd.mk v23)
 refine OW.mem (M' := (((some b21), blk ((([.slice ((ob12).map fun k => ⟨k, 0, none⟩) x10.length c13] : List Value)) ++ []) 24) :: (some b8, blk (u8s x4.toList) 39) :: (((ob12, blk ((u8s x10) ++ r14) 5) :: (B11 ++ [])) ++ N))) (fun w m => m) ?_
 have o22 : OwnS (some b21) ([x10] : List (List (BitVec 8))).length 1 1 (([.slice ((ob12).map fun k => ⟨k, 0, none⟩) x10.length c13] : List Value)) [] := ⟨by simp [BsRd], by simp [BsRd], (fun h => nomatch h), by simp⟩
 refine OW.slot (sl (some b21) 0 ([x10] : List (List (BitVec 8))).length 1) (rfl) ?_
 refine OW.mem (M' := (some b8, blk (u8s x4.toList) 39) :: ((((some b21), blk ((([.slice ((ob12).map fun k => ⟨k, 0, none⟩) x10.length c13] : List Value)) ++ []) 24) :: ((ob12, blk ((u8s x10) ++ r14) 5) :: (B11 ++ []))) ++ N)) (fun w m => m.pick [1, 0] 2 rfl rfl) ?_
 have gq3 : ∀ w, More w0 Φ (((some b21), blk ((([.slice ((ob12).map fun k => ⟨k, 0, none⟩) x10.length c13] : List Value)) ++ []) 24) :: ((ob12, blk ((u8s x10) ++ r14) 5) :: (B11 ++ []))) w → More w0 Φ ((ob12, blk ((u8s x10) ++ r14) 5) :: (B11 ++ [])) w := fun w q => More.mono (fun w m => (m).tail) q
 replace va0 := va0.mono gq3
 replace va1 := va1.mono gq3
 replace v23 := v23.mono gq3
 replace h25 := h25.mono (BsRd.mono gq3)
 have v26 : View (More w0 Φ (((some b21), blk ((([.slice ((ob12).map fun k => ⟨k, 0, none⟩) x10.length c13] : List Value)) ++ []) 24) :: ((ob12, blk ((u8s x10) ++ r14) 5) :: (B11 ++ [])))) (((some b21)).map fun k => ⟨k, 0, none⟩) ([x10] : List (List (BitVec 8))).length 1 1 (([.slice ((ob12).map fun k => ⟨k, 0, none⟩) x10.length c13] : List Value)) := o22.view (by decide) (fun w q => q.2.sublist (List.singleton_sublist.2 (List.mem_cons_self ..)))
 obtain ⟨x28, hx27, hf⟩ := some_bind hf
 refine OW.callG Tryd.call19 rfl (shaSum_does w0 (More w0 Φ (((some b21), blk ((([.slice ((ob12).map fun k => ⟨k, 0, none⟩) x10.length c13] : List Value)) ++ []) 24) :: ((ob12, blk ((u8s x10) ++ r14) 5) :: (B11 ++ [])))) ((some b8, blk (u8s x4.toList) 39) :: ((((some b21), blk ((([.slice ((ob12).map fun k => ⟨k, 0, none⟩) x10.length c13] : List Value)) ++ []) 24) :: ((ob12, blk ((u8s x10) ++ r14) 5) :: (B11 ++ []))) ++ N)) (fun w m => More.of hΦ 1 m rfl) (((some b21)).map fun k => ⟨k, 0, none⟩) 1 (([.slice ((ob12).map fun k => ⟨k, 0, none⟩) x10.length c13] : List Value)) ([x10] : List (List (BitVec 8))) x28 v26 h25 hK hS hx27) rfl rfl ?_
 rintro _ G29 rfl
 refine OW.mem (M' := ((some b8, blk (u8s x4.toList) 39) :: ((((some b21), blk ((([.slice ((ob12).map fun k => ⟨k, 0, none⟩) x10.length c13] : List Value)) ++ []) 24) :: ((ob12, blk ((u8s x10) ++ r14) 5) :: (B11 ++ []))) ++ N))) (fun w m => m.appR) ?_
 refine OW.alloc (l := (u8s (Vector.replicate 32 0#8).toList)) rfl (by rw [Vector.toList_replicate, ← u8s_rep']; rfl) rfl (fun b31 => ?_)
 refine OW.sv (SV.storeW rfl rfl rfl (u8s_one _) rfl ((u8s_length _).trans Vector.length_toList) ((u8s_length _).trans Vector.length_toList)) ?_
 refine OW.nil (QW.then_n (CW.seq (CW.region ?_)))
 refine OW.rv (RV.move rfl) rfl ?_
 obtain ⟨x33, hx32, hf⟩ := some_bind hf
 refine OW.callG Tryd.call23 rfl (waybilllaw03_copied_does w0 (More w0 Φ (((some b21), blk ((([.slice ((ob12).map fun k => ⟨k, 0, none⟩) x10.length c13] : List Value)) ++ []) 24) :: ((ob12, blk ((u8s x10) ++ r14) 5) :: (B11 ++ [])))) ((some b31, blk (u8s x28.toList) 39) :: (some b8, blk (u8s x4.toList) 39) :: ((((some b21), blk ((([.slice ((ob12).map fun k => ⟨k, 0, none⟩) x10.length c13] : List Value)) ++ []) 24) :: ((ob12, blk ((u8s x10) ++ r14) 5) :: (B11 ++ []))) ++ N)) (fun w m => More.of hΦ 2 m rfl) A1_ c1_ a1 x33 va1 hx32) rfl rfl ?_
 rintro L39 M40 ⟨B34, ob35, c36, r37, o38, e41, e42⟩
 rw [e41, e42]
 clear e41 e42 L39 M40
 refine OW.mem (M' := ((ob35, blk ((u8s x33) ++ r37) 5) :: (some b31, blk (u8s x28.toList) 39) :: (some b8, blk (u8s x4.toList) 39) :: ((B34 ++ (((some b21), blk ((([.slice ((ob12).map fun k => ⟨k, 0, none⟩) x10.length c13] : List Value)) ++ []) 24) :: ((ob12, blk ((u8s x10) ++ r14) 5) :: (B11 ++ [])))) ++ N))) (fun w m => by have h := Mem.sinkAt (A := B34) m 1 2 rfl rfl; exact h) ?_
 have gq4 : ∀ w, More w0 Φ (B34 ++ (((some b21), blk ((([.slice ((ob12).map fun k => ⟨k, 0, none⟩) x10.length c13] : List Value)) ++ []) 24) :: ((ob12, blk ((u8s x10) ++ r14) 5) :: (B11 ++ [])))) w → More w0 Φ (((some b21), blk ((([.slice ((ob12).map fun k => ⟨k, 0, none⟩) x10.length c13] : List Value)) ++ []) 24) :: ((ob12, blk ((u8s x10) ++ r14) 5) :: (B11 ++ []))) w := fun w q => More.mono (fun w m => (m).appR) q
 replace va0 := va0.mono gq4
 replace va1 := va1.mono gq4
 replace v23 := v23.mono gq4
 replace v26 := v26.mono gq4
 replace h25 := h25.mono (BsRd.mono gq4)
 have m43 := o38.mx
 refine OW.mem (M' := (some b31, blk (u8s x28.toList) 39) :: (some b8, blk (u8s x4.toList) 39) :: (((ob35, blk ((u8s x33) ++ r37) 5) :: (B34 ++ (((some b21), blk ((([.slice ((ob12).map fun k => ⟨k, 0, none⟩) x10.length c13] : List Value)) ++ []) 24) :: ((ob12, blk ((u8s x10) ++ r14) 5) :: (B11 ++ []))))) ++ N)) (fun w m => m.pick [1, 2, 0] 3 rfl rfl) ?_
 have gq5 : ∀ w, More w0 Φ ((ob35, blk ((u8s x33) ++ r37) 5) :: (B34 ++ (((some b21), blk ((([.slice ((ob12).map fun k => ⟨k, 0, none⟩) x10.length c13] : List Value)) ++ []) 24) :: ((ob12, blk ((u8s x10) ++ r14) 5) :: (B11 ++ []))))) w → More w0 Φ (B34 ++ (((some b21), blk ((([.slice ((ob12).map fun k => ⟨k, 0, none⟩) x10.length c13] : List Value)) ++ []) 24) :: ((ob12, blk ((u8s x10) ++ r14) 5) :: (B11 ++ [])))) w := fun w q => More.mono (fun w m => (m).tail) q
 replace va0 := va0.mono gq5
 replace va1 := va1.mono gq5
 replace v23 := v23.mono gq5
 replace v26 := v26.mono gq5
 replace h25 := h25.mono (BsRd.mono gq5)
 have v46 : View (More w0 Φ ((ob35, blk ((u8s x33) ++ r37) 5) :: (B34 ++ (((some b21), blk ((([.slice ((ob12).map fun k => ⟨k, 0, none⟩) x10.length c13] : List Value)) ++ []) 24) :: ((ob12, blk ((u8s x10) ++ r14) 5) :: (B11 ++ [])))))) ((ob35).map fun k => ⟨k, 0, none⟩) x33.length c36 1 (u8s x33) := o38.view (by decide) (fun w q => q.2.sublist (List.singleton_sublist.2 (List.mem_cons_self ..)))
 refine OW.ofN (NV.bs1 rfl rfl rfl rfl rfl rfl) rfl (fun b44 => ?_)
 have h48 : Reps (BsRd (More w0 Φ ((ob35, blk ((u8s x33) ++ r37) 5) :: (B34 ++ (((some b21), blk ((([.slice ((ob12).map fun k => ⟨k, 0, none⟩) x10.length c13] : List Value)) ++ []) 24) :: ((ob12, blk ((u8s x10) ++ r14) 5) :: (B11 ++ []))))))) (([.slice ((ob35).map fun k => ⟨k, 0, none⟩) x33.length c36] : List Value)) [x33] := Reps.one (BsRd.mk v46)
 refine OW.mem (M' := (((some b44), blk ((([.slice ((ob35).map fun k => ⟨k, 0, none⟩) x33.length c36] : List Value)) ++ []) 24) :: (some b31, blk (u8s x28.toList) 39) :: (some b8, blk (u8s x4.toList) 39) :: (((ob35, blk ((u8s x33) ++ r37) 5) :: (B34 ++ (((some b21), blk ((([.slice ((ob12).map fun k => ⟨k, 0, none⟩) x10.length c13] : List Value)) ++ []) 24) :: ((ob12, blk ((u8s x10) ++ r14) 5) :: (B11 ++ []))))) ++ N))) (fun w m => m) ?_
 have o45 : OwnS (some b44) ([x33] : List (List (BitVec 8))).length 1 1 (([.slice ((ob35).map fun k => ⟨k, 0, none⟩) x33.length c36] : List Value)) [] := ⟨by simp [BsRd], by simp [BsRd], (fun h => nomatch h), by simp⟩
 refine OW.slot (sl (some b44) 0 ([x33] : List (List (BitVec 8))).length 1) (rfl) ?_
 refine OW.mem (M' := (some b31, blk (u8s x28.toList) 39) :: (some b8, blk (u8s x4.toList) 39) :: ((((some b44), blk ((([.slice ((ob35).map fun k => ⟨k, 0, none⟩) x33.length c36] : List Value)) ++ []) 24) :: ((ob35, blk ((u8s x33) ++ r37) 5) :: (B34 ++ (((some b21), blk ((([.slice ((ob12).map fun k => ⟨k, 0, none⟩) x10.length c13] : List Value)) ++ []) 24) :: ((ob12, blk ((u8s x10) ++ r14) 5) :: (B11 ++ [])))))) ++ N)) (fun w m => m.pick [1, 2, 0] 3 rfl rfl) ?_
 have gq6 : ∀ w, More w0 Φ (((some b44), blk ((([.slice ((ob35).map fun k => ⟨k, 0, none⟩) x33.length c36] : List Value)) ++ []) 24) :: ((ob35, blk ((u8s x33) ++ r37) 5) :: (B34 ++ (((some b21), blk ((([.slice ((ob12).map fun k => ⟨k, 0, none⟩) x10.length c13] : List Value)) ++ []) 24) :: ((ob12, blk ((u8s x10) ++ r14) 5) :: (B11 ++ [])))))) w → More w0 Φ ((ob35, blk ((u8s x33) ++ r37) 5) :: (B34 ++ (((some b21), blk ((([.slice ((ob12).map fun k => ⟨k, 0, none⟩) x10.length c13] : List Value)) ++ []) 24) :: ((ob12, blk ((u8s x10) ++ r14) 5) :: (B11 ++ []))))) w := fun w q => More.mono (fun w m => (m).tail) q
 replace va0 := va0.mono gq6
 replace va1 := va1.mono gq6
 replace v23 := v23.mono gq6
 replace v26 := v26.mono gq6
 replace h25 := h25.mono (BsRd.mono gq6)
 replace v46 := v46.mono gq6
 replace h48 := h48.mono (BsRd.mono gq6)
 have v49 : View (More w0 Φ (((some b44), blk ((([.slice ((ob35).map fun k => ⟨k, 0, none⟩) x33.length c36] : List Value)) ++ []) 24) :: ((ob35, blk ((u8s x33) ++ r37) 5) :: (B34 ++ (((some b21), blk ((([.slice ((ob12).map fun k => ⟨k, 0, none⟩) x10.length c13] : List Value)) ++ []) 24) :: ((ob12, blk ((u8s x10) ++ r14) 5) :: (B11 ++ []))))))) (((some b44)).map fun k => ⟨k, 0, none⟩) ([x33] : List (List (BitVec 8))).length 1 1 (([.slice ((ob35).map fun k => ⟨k, 0, none⟩) x33.length c36] : List Value)) := o45.view (by decide) (fun w q => q.2.sublist (List.singleton_sublist.2 (List.mem_cons_self ..)))
 obtain ⟨x51, hx50, hf⟩ := some_bind hf
 refine OW.callG Tryd.call19 rfl (shaSum_does w0 (More w0 Φ (((some b44), blk ((([.slice ((ob35).map fun k => ⟨k, 0, none⟩) x33.length c36] : List Value)) ++ []) 24) :: ((ob35, blk ((u8s x33) ++ r37) 5) :: (B34 ++ (((some b21), blk ((([.slice ((ob12).map fun k => ⟨k, 0, none⟩) x10.length c13] : List Value)) ++ []) 24) :: ((ob12, blk ((u8s x10) ++ r14) 5) :: (B11 ++ []))))))) ((some b31, blk (u8s x28.toList) 39) :: (some b8, blk (u8s x4.toList) 39) :: ((((some b44), blk ((([.slice ((ob35).map fun k => ⟨k, 0, none⟩) x33.length c36] : List Value)) ++ []) 24) :: ((ob35, blk ((u8s x33) ++ r37) 5) :: (B34 ++ (((some b21), blk ((([.slice ((ob12).map fun k => ⟨k, 0, none⟩) x10.length c13] : List Value)) ++ []) 24) :: ((ob12, blk ((u8s x10) ++ r14) 5) :: (B11 ++ [])))))) ++ N)) (fun w m => More.of hΦ 2 m rfl) (((some b44)).map fun k => ⟨k, 0, none⟩) 1 (([.slice ((ob35).map fun k => ⟨k, 0, none⟩) x33.length c36] : List Value)) ([x33] : List (List (BitVec 8))) x51 v49 h48 hK hS hx50) rfl rfl ?_
 rintro _ G52 rfl
 refine OW.mem (M' := ((some b31, blk (u8s x28.toList) 39) :: (some b8, blk (u8s x4.toList) 39) :: ((((some b44), blk ((([.slice ((ob35).map fun k => ⟨k, 0, none⟩) x33.length c36] : List Value)) ++ []) 24) :: ((ob35, blk ((u8s x33) ++ r37) 5) :: (B34 ++ (((some b21), blk ((([.slice ((ob12).map fun k => ⟨k, 0, none⟩) x10.length c13] : List Value)) ++ []) 24) :: ((ob12, blk ((u8s x10) ++ r14) 5) :: (B11 ++ [])))))) ++ N))) (fun w m => m.appR) ?_
 refine OW.nil (QW.then_n (CW.seq (CW.region ?_)))
 refine OW.rv (RV.move rfl) rfl ?_
 obtain ⟨x55, hx54, hf⟩ := some_bind hf
 refine OW.callG Tryd.call23 rfl (waybilllaw03_copied_does w0 (More w0 Φ (((some b44), blk ((([.slice ((ob35).map fun k => ⟨k, 0, none⟩) x33.length c36] : List Value)) ++ []) 24) :: ((ob35, blk ((u8s x33) ++ r37) 5) :: (B34 ++ (((some b21), blk ((([.slice ((ob12).map fun k => ⟨k, 0, none⟩) x10.length c13] : List Value)) ++ []) 24) :: ((ob12, blk ((u8s x10) ++ r14) 5) :: (B11 ++ []))))))) ((some b31, blk (u8s x28.toList) 39) :: (some b8, blk (u8s x4.toList) 39) :: ((((some b44), blk ((([.slice ((ob35).map fun k => ⟨k, 0, none⟩) x33.length c36] : List Value)) ++ []) 24) :: ((ob35, blk ((u8s x33) ++ r37) 5) :: (B34 ++ (((some b21), blk ((([.slice ((ob12).map fun k => ⟨k, 0, none⟩) x10.length c13] : List Value)) ++ []) 24) :: ((ob12, blk ((u8s x10) ++ r14) 5) :: (B11 ++ [])))))) ++ N)) (fun w m => More.of hΦ 2 m rfl) A0_ c0_ a0 x55 va0 hx54) rfl rfl ?_
 rintro L61 M62 ⟨B56, ob57, c58, r59, o60, e63, e64⟩
 rw [e63, e64]
 clear e63 e64 L61 M62
 refine OW.mem (M' := ((ob57, blk ((u8s x55) ++ r59) 5) :: (some b31, blk (u8s x28.toList) 39) :: (some b8, blk (u8s x4.toList) 39) :: ((B56 ++ (((some b44), blk ((([.slice ((ob35).map fun k => ⟨k, 0, none⟩) x33.length c36] : List Value)) ++ []) 24) :: ((ob35, blk ((u8s x33) ++ r37) 5) :: (B34 ++ (((some b21), blk ((([.slice ((ob12).map fun k => ⟨k, 0, none⟩) x10.length c13] : List Value)) ++ []) 24) :: ((ob12, blk ((u8s x10) ++ r14) 5) :: (B11 ++ []))))))) ++ N))) (fun w m => by have h := Mem.sinkAt (A := B56) m 1 2 rfl rfl; exact h) ?_
 have gq7 : ∀ w, More w0 Φ (B56 ++ (((some b44), blk ((([.slice ((ob35).map fun k => ⟨k, 0, none⟩) x33.length c36] : List Value)) ++ []) 24) :: ((ob35, blk ((u8s x33) ++ r37) 5) :: (B34 ++ (((some b21), blk ((([.slice ((ob12).map fun k => ⟨k, 0, none⟩) x10.length c13] : List Value)) ++ []) 24) :: ((ob12, blk ((u8s x10) ++ r14) 5) :: (B11 ++ []))))))) w → More w0 Φ (((some b44), blk ((([.slice ((ob35).map fun k => ⟨k, 0, none⟩) x33.length c36] : List Value)) ++ []) 24) :: ((ob35, blk ((u8s x33) ++ r37) 5) :: (B34 ++ (((some b21), blk ((([.slice ((ob12).map fun k => ⟨k, 0, none⟩) x10.length c13] : List Value)) ++ []) 24) :: ((ob12, blk ((u8s x10) ++ r14) 5) :: (B11 ++ [])))))) w := fun w q => More.mono (fun w m => (m).appR) q
 replace va0 := va0.mono gq7
 replace va1 := va1.mono gq7
 replace v23 := v23.mono gq7
 replace v26 := v26.mono gq7
 replace h25 := h25.mono (BsRd.mono gq7)
 replace v46 := v46.mono gq7
 replace v49 := v49.mono gq7
 replace h48 := h48.mono (BsRd.mono gq7)
 have m65 := o60.mx
 refine OW.mem (M' := (some b31, blk (u8s x28.toList) 39) :: (some b8, blk (u8s x4.toList) 39) :: (((ob57, blk ((u8s x55) ++ r59) 5) :: (B56 ++ (((some b44), blk ((([.slice ((ob35).map fun k => ⟨k, 0, none⟩) x33.length c36] : List Value)) ++ []) 24) :: ((ob35, blk ((u8s x33) ++ r37) 5) :: (B34 ++ (((some b21), blk ((([.slice ((ob12).map fun k => ⟨k, 0, none⟩) x10.length c13] : List Value)) ++ []) 24) :: ((ob12, blk ((u8s x10) ++ r14) 5) :: (B11 ++ [])))))))) ++ N)) (fun w m => m.pick [1, 2, 0] 3 rfl rfl) ?_
 have gq8 : ∀ w, More w0 Φ ((ob57, blk ((u8s x55) ++ r59) 5) :: (B56 ++ (((some b44), blk ((([.slice ((ob35).map fun k => ⟨k, 0, none⟩) x33.length c36] : List Value)) ++ []) 24) :: ((ob35, blk ((u8s x33) ++ r37) 5) :: (B34 ++ (((some b21), blk ((([.slice ((ob12).map fun k => ⟨k, 0, none⟩) x10.length c13] : List Value)) ++ []) 24) :: ((ob12, blk ((u8s x10) ++ r14) 5) :: (B11 ++ [])))))))) w → More w0 Φ (B56 ++ (((some b44), blk ((([.slice ((ob35).map fun k => ⟨k, 0, none⟩) x33.length c36] : List Value)) ++ []) 24) :: ((ob35, blk ((u8s x33) ++ r37) 5) :: (B34 ++ (((some b21), blk ((([.slice ((ob12).map fun k => ⟨k, 0, none⟩) x10.length c13] : List Value)) ++ []) 24) :: ((ob12, blk ((u8s x10) ++ r14) 5) :: (B11 ++ []))))))) w := fun w q => More.mono (fun w m => (m).tail) q
 replace va0 := va0.mono gq8
 replace va1 := va1.mono gq8
 replace v23 := v23.mono gq8
 replace v26 := v26.mono gq8
 replace h25 := h25.mono (BsRd.mono gq8)
 replace v46 := v46.mono gq8
 replace v49 := v49.mono gq8
 replace h48 := h48.mono (BsRd.mono gq8)
 have v68 : View (More w0 Φ ((ob57, blk ((u8s x55) ++ r59) 5) :: (B56 ++ (((some b44), blk ((([.slice ((ob35).map fun k => ⟨k, 0, none⟩) x33.length c36] : List Value)) ++ []) 24) :: ((ob35, blk ((u8s x33) ++ r37) 5) :: (B34 ++ (((some b21), blk ((([.slice ((ob12).map fun k => ⟨k, 0, none⟩) x10.length c13] : List Value)) ++ []) 24) :: ((ob12, blk ((u8s x10) ++ r14) 5) :: (B11 ++ []))))))))) ((ob57).map fun k => ⟨k, 0, none⟩) x55.length c58 1 (u8s x55) := o60.view (by decide) (fun w q => q.2.sublist (List.singleton_sublist.2 (List.mem_cons_self ..)))
 refine OW.ofN (NV.bs1 rfl rfl rfl rfl rfl rfl) rfl (fun b66 => ?_)
 have h70 : Reps (BsRd (More w0 Φ ((ob57, blk ((u8s x55) ++ r59) 5) :: (B56 ++ (((some b44), blk ((([.slice ((ob35).map fun k => ⟨k, 0, none⟩) x33.length c36] : List Value)) ++ []) 24) :: ((ob35, blk ((u8s x33) ++ r37) 5) :: (B34 ++ (((some b21), blk ((([.slice ((ob12).map fun k => ⟨k, 0, none⟩) x10.length c13] : List Value)) ++ []) 24) :: ((ob12, blk ((u8s x10) ++ r14) 5) :: (B11 ++ [])))))))))) (([.slice ((ob57).map fun k => ⟨k, 0, none⟩) x55.length c58] : List Value)) [x55] := Reps.one (BsRd.mk v68)
 refine OW.mem (M' := (((some b66), blk ((([.slice ((ob57).map fun k => ⟨k, 0, none⟩) x55.length c58] : List Value)) ++ []) 24) :: (some b31, blk (u8s x28.toList) 39) :: (some b8, blk (u8s x4.toList) 39) :: (((ob57, blk ((u8s x55) ++ r59) 5) :: (B56 ++ (((some b44), blk ((([.slice ((ob35).map fun k => ⟨k, 0, none⟩) x33.length c36] : List Value)) ++ []) 24) :: ((ob35, blk ((u8s x33) ++ r37) 5) :: (B34 ++ (((some b21), blk ((([.slice ((ob12).map fun k => ⟨k, 0, none⟩) x10.length c13] : List Value)) ++ []) 24) :: ((ob12, blk ((u8s x10) ++ r14) 5) :: (B11 ++ [])))))))) ++ N))) (fun w m => m) ?_
 have o67 : OwnS (some b66) ([x55] : List (List (BitVec 8))).length 1 1 (([.slice ((ob57).map fun k => ⟨k, 0, none⟩) x55.length c58] : List Value)) [] := ⟨by simp [BsRd], by simp [BsRd], (fun h => nomatch h), by simp⟩
 refine OW.slot (sl (some b66) 0 ([x55] : List (List (BitVec 8))).length 1) (rfl) ?_
 refine OW.mem (M' := (some b31, blk (u8s x28.toList) 39) :: (some b8, blk (u8s x4.toList) 39) :: ((((some b66), blk ((([.slice ((ob57).map fun k => ⟨k, 0, none⟩) x55.length c58] : List Value)) ++ []) 24) :: ((ob57, blk ((u8s x55) ++ r59) 5) :: (B56 ++ (((some b44), blk ((([.slice ((ob35).map fun k => ⟨k, 0, none⟩) x33.length c36] : List Value)) ++ []) 24) :: ((ob35, blk ((u8s x33) ++ r37) 5) :: (B34 ++ (((some b21), blk ((([.slice ((ob12).map fun k => ⟨k, 0, none⟩) x10.length c13] : List Value)) ++ []) 24) :: ((ob12, blk ((u8s x10) ++ r14) 5) :: (B11 ++ []))))))))) ++ N)) (fun w m => m.pick [1, 2, 0] 3 rfl rfl) ?_
 have gq9 : ∀ w, More w0 Φ (((some b66), blk ((([.slice ((ob57).map fun k => ⟨k, 0, none⟩) x55.length c58] : List Value)) ++ []) 24) :: ((ob57, blk ((u8s x55) ++ r59) 5) :: (B56 ++ (((some b44), blk ((([.slice ((ob35).map fun k => ⟨k, 0, none⟩) x33.length c36] : List Value)) ++ []) 24) :: ((ob35, blk ((u8s x33) ++ r37) 5) :: (B34 ++ (((some b21), blk ((([.slice ((ob12).map fun k => ⟨k, 0, none⟩) x10.length c13] : List Value)) ++ []) 24) :: ((ob12, blk ((u8s x10) ++ r14) 5) :: (B11 ++ []))))))))) w → More w0 Φ ((ob57, blk ((u8s x55) ++ r59) 5) :: (B56 ++ (((some b44), blk ((([.slice ((ob35).map fun k => ⟨k, 0, none⟩) x33.length c36] : List Value)) ++ []) 24) :: ((ob35, blk ((u8s x33) ++ r37) 5) :: (B34 ++ (((some b21), blk ((([.slice ((ob12).map fun k => ⟨k, 0, none⟩) x10.length c13] : List Value)) ++ []) 24) :: ((ob12, blk ((u8s x10) ++ r14) 5) :: (B11 ++ [])))))))) w := fun w q => More.mono (fun w m => (m).tail) q
 replace va0 := va0.mono gq9
 replace va1 := va1.mono gq9
 replace v23 := v23.mono gq9
 replace v26 := v26.mono gq9
 replace h25 := h25.mono (BsRd.mono gq9)
 replace v46 := v46.mono gq9
 replace v49 := v49.mono gq9
 replace h48 := h48.mono (BsRd.mono gq9)
 replace v68 := v68.mono gq9
 replace h70 := h70.mono (BsRd.mono gq9)
 have v71 : View (More w0 Φ (((some b66), blk ((([.slice ((ob57).map fun k => ⟨k, 0, none⟩) x55.length c58] : List Value)) ++ []) 24) :: ((ob57, blk ((u8s x55) ++ r59) 5) :: (B56 ++ (((some b44), blk ((([.slice ((ob35).map fun k => ⟨k, 0, none⟩) x33.length c36] : List Value)) ++ []) 24) :: ((ob35, blk ((u8s x33) ++ r37) 5) :: (B34 ++ (((some b21), blk ((([.slice ((ob12).map fun k => ⟨k, 0, none⟩) x10.length c13] : List Value)) ++ []) 24) :: ((ob12, blk ((u8s x10) ++ r14) 5) :: (B11 ++ [])))))))))) (((some b66)).map fun k => ⟨k, 0, none⟩) ([x55] : List (List (BitVec 8))).length 1 1 (([.slice ((ob57).map fun k => ⟨k, 0, none⟩) x55.length c58] : List Value)) := o67.view (by decide) (fun w q => q.2.sublist (List.singleton_sublist.2 (List.mem_cons_self ..)))
 obtain ⟨x73, hx72, hf⟩ := some_bind hf
 refine OW.callG Tryd.call19 rfl (shaSum_does w0 (More w0 Φ (((some b66), blk ((([.slice ((ob57).map fun k => ⟨k, 0, none⟩) x55.length c58] : List Value)) ++ []) 24) :: ((ob57, blk ((u8s x55) ++ r59) 5) :: (B56 ++ (((some b44), blk ((([.slice ((ob35).map fun k => ⟨k, 0, none⟩) x33.length c36] : List Value)) ++ []) 24) :: ((ob35, blk ((u8s x33) ++ r37) 5) :: (B34 ++ (((some b21), blk ((([.slice ((ob12).map fun k => ⟨k, 0, none⟩) x10.length c13] : List Value)) ++ []) 24) :: ((ob12, blk ((u8s x10) ++ r14) 5) :: (B11 ++ [])))))))))) ((some b31, blk (u8s x28.toList) 39) :: (some b8, blk (u8s x4.toList) 39) :: ((((some b66), blk ((([.slice ((ob57).map fun k => ⟨k, 0, none⟩) x55.length c58] : List Value)) ++ []) 24) :: ((ob57, blk ((u8s x55) ++ r59) 5) :: (B56 ++ (((some b44), blk ((([.slice ((ob35).map fun k => ⟨k, 0, none⟩) x33.length c36] : List Value)) ++ []) 24) :: ((ob35, blk ((u8s x33) ++ r37) 5) :: (B34 ++ (((some b21), blk ((([.slice ((ob12).map fun k => ⟨k, 0, none⟩) x10.length c13] : List Value)) ++ []) 24) :: ((ob12, blk ((u8s x10) ++ r14) 5) :: (B11 ++ []))))))))) ++ N)) (fun w m => More.of hΦ 2 m rfl) (((some b66)).map fun k => ⟨k, 0, none⟩) 1 (([.slice ((ob57).map fun k => ⟨k, 0, none⟩) x55.length c58] : List Value)) ([x55] : List (List (BitVec 8))) x73 v71 h70 hK hS hx72) rfl rfl ?_
 rintro _ G74 rfl
 refine OW.mem (M' := ((some b31, blk (u8s x28.toList) 39) :: (some b8, blk (u8s x4.toList) 39) :: ((((some b66), blk ((([.slice ((ob57).map fun k => ⟨k, 0, none⟩) x55.length c58] : List Value)) ++ []) 24) :: ((ob57, blk ((u8s x55) ++ r59) 5) :: (B56 ++ (((some b44), blk ((([.slice ((ob35).map fun k => ⟨k, 0, none⟩) x33.length c36] : List Value)) ++ []) 24) :: ((ob35, blk ((u8s x33) ++ r37) 5) :: (B34 ++ (((some b21), blk ((([.slice ((ob12).map fun k => ⟨k, 0, none⟩) x10.length c13] : List Value)) ++ []) 24) :: ((ob12, blk ((u8s x10) ++ r14) 5) :: (B11 ++ []))))))))) ++ N))) (fun w m => m.appR) ?_
 refine OW.alloc (l := (u8s (Vector.replicate 32 0#8).toList)) rfl (by rw [Vector.toList_replicate, ← u8s_rep']; rfl) rfl (fun b76 => ?_)
 refine OW.sv (SV.storeW rfl rfl rfl (u8s_one _) rfl ((u8s_length _).trans Vector.length_toList) ((u8s_length _).trans Vector.length_toList)) ?_
 refine OW.nil (QW.then_n (CW.seq (CW.seq ?_)))
 obtain ⟨q77, hq78, hf⟩ := some_bind hf
 refine CW.cutJ (fun L' M' => ∃ p79 : Bool, q77 = p79 ∧ L' = [(0, .slice A0_ a0.length c0_), (2, .int .i64 a2), (43, .bool (p79))] ∧ M' = (((((some b66), blk ((([.slice ((ob57).map fun k => ⟨k, 0, none⟩) x55.length c58] : List Value)) ++ []) 24) :: ((ob57, blk ((u8s x55) ++ r59) 5) :: (B56 ++ (((some b44), blk ((([.slice ((ob35).map fun k => ⟨k, 0, none⟩) x33.length c36] : List Value)) ++ []) 24) :: ((ob35, blk ((u8s x33) ++ r37) 5) :: (B34 ++ (((some b21), blk ((([.slice ((ob12).map fun k => ⟨k, 0, none⟩) x10.length c13] : List Value)) ++ []) 24) :: ((ob12, blk ((u8s x10) ++ r14) 5) :: (B11 ++ []))))))))) ++ N))) ?_ ?_
 ·rintro L81 M82 ⟨p79, e80, e83, e84⟩
  rw [e83, e84]
  clear e83 e84 L81 M82
  clear hq78
  rw [e80] at hf
  clear e80
  try dsimp only at hf
  refine QW.then_n ?_
  by_cases h85 : p79 = true
  ·replace hf := if_t hf h85
   refine CW.is_t rfl (h85) ?_
   refine CW.seq (CW.region ?_)
   refine OW.rv (RV.assign rfl) rfl ?_
   refine OW.nil (QW.then_n (CW.ret (QW.then_r ?_)))
   have e0 := Option.some.inj hf
   subst e0
   refine QW.retG (rs := [.tmp 6]) ([.bool false]) ((((some b66), blk ((([.slice ((ob57).map fun k => ⟨k, 0, none⟩) x55.length c58] : List Value)) ++ []) 24) :: ((ob57, blk ((u8s x55) ++ r59) 5) :: (B56 ++ (((some b44), blk ((([.slice ((ob35).map fun k => ⟨k, 0, none⟩) x33.length c36] : List Value)) ++ []) 24) :: ((ob35, blk ((u8s x33) ++ r37) 5) :: (B34 ++ (((some b21), blk ((([.slice ((ob12).map fun k => ⟨k, 0, none⟩) x10.length c13] : List Value)) ++ []) 24) :: ((ob12, blk ((u8s x10) ++ r14) 5) :: (B11 ++ [])))))))))) rfl ?_ rfl ?_ ?_ _ (.inl rfl)
   ·exact ⟨rfl, trivial⟩
   ·exact rfl
   ·exact (fun w m => m)
  ·replace hf := if_f hf h85
   refine CW.is_f rfl (Bool.eq_false_iff.2 h85) ?_
   refine CW.skip (QW.then_n (CW.seq (CW.seq (CW.region ?_))))
   refine OW.rv (RV.move rfl) rfl ?_
   refine OW.rv (RV.len rfl rfl) rfl ?_
   refine OW.rv (RV.eql rfl rfl) rfl ?_
   refine OW.slot (.bool (decide (a0.length = 0))) (congrArg Value.bool (decide_eq_decide.2 (by omega))) ?_
   refine OW.nil (QW.then_n ?_)
   by_cases h86 : a0.length = 0
   ·replace hf := if_t hf h86
    refine CW.is_t rfl (decide_eq_true h86) ?_
    refine CW.seq (CW.region ?_)
    refine OW.rv (RV.assign rfl) rfl ?_
    refine OW.nil (QW.then_n (CW.ret (QW.then_r ?_)))
    have e0 := Option.some.inj hf
    subst e0
    refine QW.retG (rs := [.tmp 6]) ([.bool true]) ((((some b66), blk ((([.slice ((ob57).map fun k => ⟨k, 0, none⟩) x55.length c58] : List Value)) ++ []) 24) :: ((ob57, blk ((u8s x55) ++ r59) 5) :: (B56 ++ (((some b44), blk ((([.slice ((ob35).map fun k => ⟨k, 0, none⟩) x33.length c36] : List Value)) ++ []) 24) :: ((ob35, blk ((u8s x33) ++ r37) 5) :: (B34 ++ (((some b21), blk ((([.slice ((ob12).map fun k => ⟨k, 0, none⟩) x10.length c13] : List Value)) ++ []) 24) :: ((ob12, blk ((u8s x10) ++ r14) 5) :: (B11 ++ [])))))))))) rfl ?_ rfl ?_ ?_ _ (.inl rfl)
    ·exact ⟨rfl, trivial⟩
    ·exact rfl
    ·exact (fun w m => m)
   ·replace hf := if_f hf h86
    refine CW.is_f rfl (decide_eq_false h86) ?_
    refine CW.skip (QW.then_n (CW.seq (CW.region ?_)))
    refine OW.rv (RV.move rfl) rfl ?_
    obtain ⟨x88, hx87, hf⟩ := some_bind hf
    refine OW.callG Tryd.call23 rfl (waybilllaw03_copied_does w0 (More w0 Φ (((some b66), blk ((([.slice ((ob57).map fun k => ⟨k, 0, none⟩) x55.length c58] : List Value)) ++ []) 24) :: ((ob57, blk ((u8s x55) ++ r59) 5) :: (B56 ++ (((some b44), blk ((([.slice ((ob35).map fun k => ⟨k, 0, none⟩) x33.length c36] : List Value)) ++ []) 24) :: ((ob35, blk ((u8s x33) ++ r37) 5) :: (B34 ++ (((some b21), blk ((([.slice ((ob12).map fun k => ⟨k, 0, none⟩) x10.length c13] : List Value)) ++ []) 24) :: ((ob12, blk ((u8s x10) ++ r14) 5) :: (B11 ++ [])))))))))) (((((some b66), blk ((([.slice ((ob57).map fun k => ⟨k, 0, none⟩) x55.length c58] : List Value)) ++ []) 24) :: ((ob57, blk ((u8s x55) ++ r59) 5) :: (B56 ++ (((some b44), blk ((([.slice ((ob35).map fun k => ⟨k, 0, none⟩) x33.length c36] : List Value)) ++ []) 24) :: ((ob35, blk ((u8s x33) ++ r37) 5) :: (B34 ++ (((some b21), blk ((([.slice ((ob12).map fun k => ⟨k, 0, none⟩) x10.length c13] : List Value)) ++ []) 24) :: ((ob12, blk ((u8s x10) ++ r14) 5) :: (B11 ++ []))))))))) ++ N)) (fun w m => More.of hΦ 0 m rfl) A0_ c0_ a0 x88 va0 hx87) rfl rfl ?_
    rintro L94 M95 ⟨B89, ob90, c91, r92, o93, e96, e97⟩
    rw [e96, e97]
    clear e96 e97 L94 M95
    refine OW.mem (M' := ((ob90, blk ((u8s x88) ++ r92) 5) :: ((B89 ++ (((some b66), blk ((([.slice ((ob57).map fun k => ⟨k, 0, none⟩) x55.length c58] : List Value)) ++ []) 24) :: ((ob57, blk ((u8s x55) ++ r59) 5) :: (B56 ++ (((some b44), blk ((([.slice ((ob35).map fun k => ⟨k, 0, none⟩) x33.length c36] : List Value)) ++ []) 24) :: ((ob35, blk ((u8s x33) ++ r37) 5) :: (B34 ++ (((some b21), blk ((([.slice ((ob12).map fun k => ⟨k, 0, none⟩) x10.length c13] : List Value)) ++ []) 24) :: ((ob12, blk ((u8s x10) ++ r14) 5) :: (B11 ++ [])))))))))) ++ N))) (fun w m => by have h := Mem.sinkAt (A := B89) m 1 0 rfl rfl; exact h) ?_
    have gq10 : ∀ w, More w0 Φ (B89 ++ (((some b66), blk ((([.slice ((ob57).map fun k => ⟨k, 0, none⟩) x55.length c58] : List Value)) ++ []) 24) :: ((ob57, blk ((u8s x55) ++ r59) 5) :: (B56 ++ (((some b44), blk ((([.slice ((ob35).map fun k => ⟨k, 0, none⟩) x33.length c36] : List Value)) ++ []) 24) :: ((ob35, blk ((u8s x33) ++ r37) 5) :: (B34 ++ (((some b21), blk ((([.slice ((ob12).map fun k => ⟨k, 0, none⟩) x10.length c13] : List Value)) ++ []) 24) :: ((ob12, blk ((u8s x10) ++ r14) 5) :: (B11 ++ [])))))))))) w → More w0 Φ (((some b66), blk ((([.slice ((ob57).map fun k => ⟨k, 0, none⟩) x55.length c58] : List Value)) ++ []) 24) :: ((ob57, blk ((u8s x55) ++ r59) 5) :: (B56 ++ (((some b44), blk ((([.slice ((ob35).map fun k => ⟨k, 0, none⟩) x33.length c36] : List Value)) ++ []) 24) :: ((ob35, blk ((u8s x33) ++ r37) 5) :: (B34 ++ (((some b21), blk ((([.slice ((ob12).map fun k => ⟨k, 0, none⟩) x10.length c13] : List Value)) ++ []) 24) :: ((ob12, blk ((u8s x10) ++ r14) 5) :: (B11 ++ []))))))))) w := fun w q => More.mono (fun w m => (m).appR) q
    replace va0 := va0.mono gq10
    have m98 := o93.mx
    refine OW.rv (RV.assign rfl) rfl ?_
    refine OW.nil (QW.then_n (CW.seq (CW.region ?_)))
    refine OW.rv (RV.move rfl) rfl ?_
    refine OW.rv (RV.move rfl) rfl ?_
    refine OW.rv (RV.len rfl rfl) rfl ?_
    refine OW.rv (RV.mul rfl rfl (by omega)) rfl ?_
    refine OW.slot (.int .i64 (((8 * a0.length) : Nat) : Int)) (by first | rfl | (congr 1) | (congr 1; omega)) ?_
    obtain ⟨g99, hf⟩ := some_if hf
    obtain ⟨x101, hx100, hf⟩ := some_bind hf
    refine OW.callG Tryd.call24 rfl (waybilllaw03_which_does w0 (More w0 Φ (B89 ++ (((some b66), blk ((([.slice ((ob57).map fun k => ⟨k, 0, none⟩) x55.length c58] : List Value)) ++ []) 24) :: ((ob57, blk ((u8s x55) ++ r59) 5) :: (B56 ++ (((some b44), blk ((([.slice ((ob35).map fun k => ⟨k, 0, none⟩) x33.length c36] : List Value)) ++ []) 24) :: ((ob35, blk ((u8s x33) ++ r37) 5) :: (B34 ++ (((some b21), blk ((([.slice ((ob12).map fun k => ⟨k, 0, none⟩) x10.length c13] : List Value)) ++ []) 24) :: ((ob12, blk ((u8s x10) ++ r14) 5) :: (B11 ++ []))))))))))) ((ob90, blk ((u8s x88) ++ r92) 5) :: ((B89 ++ (((some b66), blk ((([.slice ((ob57).map fun k => ⟨k, 0, none⟩) x55.length c58] : List Value)) ++ []) 24) :: ((ob57, blk ((u8s x55) ++ r59) 5) :: (B56 ++ (((some b44), blk ((([.slice ((ob35).map fun k => ⟨k, 0, none⟩) x33.length c36] : List Value)) ++ []) 24) :: ((ob35, blk ((u8s x33) ++ r37) 5) :: (B34 ++ (((some b21), blk ((([.slice ((ob12).map fun k => ⟨k, 0, none⟩) x10.length c13] : List Value)) ++ []) 24) :: ((ob12, blk ((u8s x10) ++ r14) 5) :: (B11 ++ [])))))))))) ++ N)) (fun w m => More.of hΦ 1 m rfl) a2 (((8 * a0.length) : Nat) : Int) x101 (by omega) (by omega) hx100) rfl rfl ?_
    rintro _ G103 ⟨b102, rfl⟩
    refine OW.mem (M' := ((ob90, blk ((u8s x88) ++ r92) 5) :: ((B89 ++ (((some b66), blk ((([.slice ((ob57).map fun k => ⟨k, 0, none⟩) x55.length c58] : List Value)) ++ []) 24) :: ((ob57, blk ((u8s x55) ++ r59) 5) :: (B56 ++ (((some b44), blk ((([.slice ((ob35).map fun k => ⟨k, 0, none⟩) x33.length c36] : List Value)) ++ []) 24) :: ((ob35, blk ((u8s x33) ++ r37) 5) :: (B34 ++ (((some b21), blk ((([.slice ((ob12).map fun k => ⟨k, 0, none⟩) x10.length c13] : List Value)) ++ []) 24) :: ((ob12, blk ((u8s x10) ++ r14) 5) :: (B11 ++ [])))))))))) ++ N))) (fun w m => m.appR) ?_
    refine OW.rv (RV.assign rfl) rfl ?_
    refine OW.nil (QW.then_n (CW.seq (CW.region ?_)))
    refine OW.rv (RV.move rfl) rfl ?_
    refine OW.rv (RV.move rfl) rfl ?_
    obtain ⟨g105, hf⟩ := some_if hf
    refine OW.rv (RV.quo rfl rfl (by omega) (by omega) (by omega)) rfl ?_
    refine OW.slot (.int .i64 (((x101).toNat / 8 : Nat) : Int)) (by first | rfl | (congr 1; omega)) ?_
    obtain ⟨x106, hx107, hf⟩ := some_bind hf
    have hl108 := lt_of_at hx107
    refine OW.rv (RV.idx_o (((x101).toNat / 8)) rfl rfl rfl rfl rfl (o93.isSome (by decide) hl108) (by omega)) rfl ?_
    refine OW.rv (RV.load rfl (List.Mem.head _) (o93.isSome (by decide) hl108) rfl rfl (own_at0 (u8s_at hx107))) rfl ?_
    refine OW.rv (RV.move rfl) rfl ?_
    refine OW.rv (RV.rem rfl rfl (by omega) (by omega)) rfl ?_
    refine OW.slot (.int .i64 (((x101).toNat % 8 : Nat) : Int)) (by first | rfl | (congr 1; omega)) ?_
    refine OW.rv (RV.conv_i64 rfl rfl rfl) rfl ?_
    refine OW.slot (U64 (BitVec.ofNat 64 ((x101).toNat % 8))) (congrArg U64 (BitVec.ofInt_natCast ..)) ?_
    refine OW.rv (RV.shl8 (s := (BitVec.ofNat 64 ((x101).toNat % 8)).toNat) rfl (by first | rfl | exact lit8 _ rfl) rfl (by first | rfl | (simp [U64]; done))) rfl ?_
    refine OW.rv (RV.xor8 rfl (by first | rfl | exact lit8 _ rfl) rfl (by first | rfl | exact lit8 _ rfl)) rfl ?_
    obtain ⟨x109, hx110, hf⟩ := some_bind hf
    have hl111 := lt_of_at hx110
    refine OW.rv (RV.idx_o (((x101).toNat / 8)) rfl rfl rfl rfl rfl (o93.isSome (by decide) hl111) (by omega)) rfl ?_
    refine OW.sv (SV.store rfl (o93.isSome (by decide) hl111) rfl rfl rfl (by rw [List.length_append, u8s_length]; omega)) ?_
    refine OW.cells ((u8s (x88.set ((x101).toNat / 8) (x106 ^^^ (1#8 <<< (BitVec.ofNat 64 ((x101).toNat % 8)).toNat)))) ++ r92) (by rw [Nat.zero_add, List.set_append_left _ _ (by rw [u8s_length]; omega), u8s_set']) ?_
    have o112 : OwnS ob90 (x88.set ((x101).toNat / 8) (x106 ^^^ (1#8 <<< (BitVec.ofNat 64 ((x101).toNat % 8)).toNat))).length c91 1 (u8s (x88.set ((x101).toNat / 8) (x106 ^^^ (1#8 <<< (BitVec.ofNat 64 ((x101).toNat % 8)).toNat)))) r92 := OwnS.same o93 (by simp) (by simp)
    refine OW.frame (L' := [(0, .slice A0_ a0.length c0_), (2, .int .i64 a2), (11, sl ob90 0 (x88.set ((x101).toNat / 8) (x106 ^^^ (1#8 <<< (BitVec.ofNat 64 ((x101).toNat % 8)).toNat))).length c91), (12, .int .i64 x101), (43, .bool (p79)), (44, .slice A0_ a0.length c0_), (45, .int .i64 ((a0.length : Nat) : Int)), (46, .bool (decide (a0.length = 0))), (47, .slice A0_ a0.length c0_), (48, sl ob90 0 (x88.set ((x101).toNat / 8) (x106 ^^^ (1#8 <<< (BitVec.ofNat 64 ((x101).toNat % 8)).toNat))).length c91), (49, .int .i64 a2), (50, .slice A0_ a0.length c0_), (51, .int .i64 ((a0.length : Nat) : Int)), (52, .int .i64 (((8 * a0.length) : Nat) : Int)), (53, .int .i64 x101), (54, sl ob90 0 (x88.set ((x101).toNat / 8) (x106 ^^^ (1#8 <<< (BitVec.ofNat 64 ((x101).toNat % 8)).toNat))).length c91), (55, .int .i64 x101), (56, .int .i64 (((x101).toNat / 8 : Nat) : Int)), (58, U8 x106), (59, .int .i64 x101), (60, .int .i64 (((x101).toNat % 8 : Nat) : Int)), (61, U64 (BitVec.ofNat 64 ((x101).toNat % 8))), (62, U8 (1#8 <<< (BitVec.ofNat 64 ((x101).toNat % 8)).toNat)), (63, U8 (x106 ^^^ (1#8 <<< (BitVec.ofNat 64 ((x101).toNat % 8)).toNat)))]) (fun k v h => Sub.get (L' := [(0, .slice A0_ a0.length c0_), (2, .int .i64 a2), (11, sl ob90 0 (x88.set ((x101).toNat / 8) (x106 ^^^ (1#8 <<< (BitVec.ofNat 64 ((x101).toNat % 8)).toNat))).length c91), (12, .int .i64 x101), (43, .bool (p79)), (44, .slice A0_ a0.length c0_), (45, .int .i64 ((a0.length : Nat) : Int)), (46, .bool (decide (a0.length = 0))), (47, .slice A0_ a0.length c0_), (48, sl ob90 0 (x88.set ((x101).toNat / 8) (x106 ^^^ (1#8 <<< (BitVec.ofNat 64 ((x101).toNat % 8)).toNat))).length c91), (49, .int .i64 a2), (50, .slice A0_ a0.length c0_), (51, .int .i64 ((a0.length : Nat) : Int)), (52, .int .i64 (((8 * a0.length) : Nat) : Int)), (53, .int .i64 x101), (54, sl ob90 0 (x88.set ((x101).toNat / 8) (x106 ^^^ (1#8 <<< (BitVec.ofNat 64 ((x101).toNat % 8)).toNat))).length c91), (55, .int .i64 x101), (56, .int .i64 (((x101).toNat / 8 : Nat) : Int)), (58, U8 x106), (59, .int .i64 x101), (60, .int .i64 (((x101).toNat % 8 : Nat) : Int)), (61, U64 (BitVec.ofNat 64 ((x101).toNat % 8))), (62, U8 (1#8 <<< (BitVec.ofNat 64 ((x101).toNat % 8)).toNat)), (63, U8 (x106 ^^^ (1#8 <<< (BitVec.ofNat 64 ((x101).toNat % 8)).toNat)))]) ?_ k v h) ?_
    ·exact ⟨rfl, rfl, (congrArg (fun k => some (sl ob90 0 k c91)) (List.length_set ..).symm), rfl, rfl, rfl, rfl, rfl, rfl, (congrArg (fun k => some (sl ob90 0 k c91)) (List.length_set ..).symm), rfl, rfl, rfl, rfl, rfl, (congrArg (fun k => some (sl ob90 0 k c91)) (List.length_set ..).symm), rfl, rfl, rfl, rfl, rfl, rfl, rfl, rfl, trivial⟩
    refine OW.nil (QW.then_n (CW.seq (CW.region ?_)))
    refine OW.rv (RV.move rfl) rfl ?_
    refine OW.mem (M' := (((ob90, blk ((u8s (x88.set ((x101).toNat / 8) (x106 ^^^ (1#8 <<< (BitVec.ofNat 64 ((x101).toNat % 8)).toNat)))) ++ r92) 5) :: (B89 ++ (((some b66), blk ((([.slice ((ob57).map fun k => ⟨k, 0, none⟩) x55.length c58] : List Value)) ++ []) 24) :: ((ob57, blk ((u8s x55) ++ r59) 5) :: (B56 ++ (((some b44), blk ((([.slice ((ob35).map fun k => ⟨k, 0, none⟩) x33.length c36] : List Value)) ++ []) 24) :: ((ob35, blk ((u8s x33) ++ r37) 5) :: (B34 ++ (((some b21), blk ((([.slice ((ob12).map fun k => ⟨k, 0, none⟩) x10.length c13] : List Value)) ++ []) 24) :: ((ob12, blk ((u8s x10) ++ r14) 5) :: (B11 ++ []))))))))))) ++ N)) (fun w m => m.pick [0] 1 rfl rfl) ?_
    have gq11 : ∀ w, More w0 Φ ((ob90, blk ((u8s (x88.set ((x101).toNat / 8) (x106 ^^^ (1#8 <<< (BitVec.ofNat 64 ((x101).toNat % 8)).toNat)))) ++ r92) 5) :: (B89 ++ (((some b66), blk ((([.slice ((ob57).map fun k => ⟨k, 0, none⟩) x55.length c58] : List Value)) ++ []) 24) :: ((ob57, blk ((u8s x55) ++ r59) 5) :: (B56 ++ (((some b44), blk ((([.slice ((ob35).map fun k => ⟨k, 0, none⟩) x33.length c36] : List Value)) ++ []) 24) :: ((ob35, blk ((u8s x33) ++ r37) 5) :: (B34 ++ (((some b21), blk ((([.slice ((ob12).map fun k => ⟨k, 0, none⟩) x10.length c13] : List Value)) ++ []) 24) :: ((ob12, blk ((u8s x10) ++ r14) 5) :: (B11 ++ []))))))))))) w → More w0 Φ (B89 ++ (((some b66), blk ((([.slice ((ob57).map fun k => ⟨k, 0, none⟩) x55.length c58] : List Value)) ++ []) 24) :: ((ob57, blk ((u8s x55) ++ r59) 5) :: (B56 ++ (((some b44), blk ((([.slice ((ob35).map fun k => ⟨k, 0, none⟩) x33.length c36] : List Value)) ++ []) 24) :: ((ob35, blk ((u8s x33) ++ r37) 5) :: (B34 ++ (((some b21), blk ((([.slice ((ob12).map fun k => ⟨k, 0, none⟩) x10.length c13] : List Value)) ++ []) 24) :: ((ob12, blk ((u8s x10) ++ r14) 5) :: (B11 ++ [])))))))))) w := fun w q => More.mono (fun w m => (m).tail) q
    replace va0 := va0.mono gq11
    have v113 : View (More w0 Φ ((ob90, blk ((u8s (x88.set ((x101).toNat / 8) (x106 ^^^ (1#8 <<< (BitVec.ofNat 64 ((x101).toNat % 8)).toNat)))) ++ r92) 5) :: (B89 ++ (((some b66), blk ((([.slice ((ob57).map fun k => ⟨k, 0, none⟩) x55.length c58] : List Value)) ++ []) 24) :: ((ob57, blk ((u8s x55) ++ r59) 5) :: (B56 ++ (((some b44), blk ((([.slice ((ob35).map fun k => ⟨k, 0, none⟩) x33.length c36] : List Value)) ++ []) 24) :: ((ob35, blk ((u8s x33) ++ r37) 5) :: (B34 ++ (((some b21), blk ((([.slice ((ob12).map fun k => ⟨k, 0, none⟩) x10.length c13] : List Value)) ++ []) 24) :: ((ob12, blk ((u8s x10) ++ r14) 5) :: (B11 ++ [])))))))))))) ((ob90).map fun k => ⟨k, 0, none⟩) (x88.set ((x101).toNat / 8) (x106 ^^^ (1#8 <<< (BitVec.ofNat 64 ((x101).toNat % 8)).toNat))).length c91 1 (u8s (x88.set ((x101).toNat / 8) (x106 ^^^ (1#8 <<< (BitVec.ofNat 64 ((x101).toNat % 8)).toNat)))) := o112.view (by decide) (fun w q => q.2.sublist (List.singleton_sublist.2 (List.mem_cons_self ..)))
    obtain ⟨⟨x115, x116⟩, hx114, hf⟩ := some_bind hf
    try dsimp only at hf
    refine OW.callG Tryd.call22 rfl (waybilllaw03_folded_does w0 (More w0 Φ ((ob90, blk ((u8s (x88.set ((x101).toNat / 8) (x106 ^^^ (1#8 <<< (BitVec.ofNat 64 ((x101).toNat % 8)).toNat)))) ++ r92) 5) :: (B89 ++ (((some b66), blk ((([.slice ((ob57).map fun k => ⟨k, 0, none⟩) x55.length c58] : List Value)) ++ []) 24) :: ((ob57, blk ((u8s x55) ++ r59) 5) :: (B56 ++ (((some b44), blk ((([.slice ((ob35).map fun k => ⟨k, 0, none⟩) x33.length c36] : List Value)) ++ []) 24) :: ((ob35, blk ((u8s x33) ++ r37) 5) :: (B34 ++ (((some b21), blk ((([.slice ((ob12).map fun k => ⟨k, 0, none⟩) x10.length c13] : List Value)) ++ []) 24) :: ((ob12, blk ((u8s x10) ++ r14) 5) :: (B11 ++ [])))))))))))) ((((ob90, blk ((u8s (x88.set ((x101).toNat / 8) (x106 ^^^ (1#8 <<< (BitVec.ofNat 64 ((x101).toNat % 8)).toNat)))) ++ r92) 5) :: (B89 ++ (((some b66), blk ((([.slice ((ob57).map fun k => ⟨k, 0, none⟩) x55.length c58] : List Value)) ++ []) 24) :: ((ob57, blk ((u8s x55) ++ r59) 5) :: (B56 ++ (((some b44), blk ((([.slice ((ob35).map fun k => ⟨k, 0, none⟩) x33.length c36] : List Value)) ++ []) 24) :: ((ob35, blk ((u8s x33) ++ r37) 5) :: (B34 ++ (((some b21), blk ((([.slice ((ob12).map fun k => ⟨k, 0, none⟩) x10.length c13] : List Value)) ++ []) 24) :: ((ob12, blk ((u8s x10) ++ r14) 5) :: (B11 ++ []))))))))))) ++ N)) (fun w m => More.of hΦ 0 m rfl) ((ob90).map fun k => ⟨k, 0, none⟩) c91 (x88.set ((x101).toNat / 8) (x106 ^^^ (1#8 <<< (BitVec.ofNat 64 ((x101).toNat % 8)).toNat))) x115 x116 v113 hK hS hx114) rfl rfl ?_
    rintro _ G117 rfl
    refine OW.mem (M' := ((((ob90, blk ((u8s (x88.set ((x101).toNat / 8) (x106 ^^^ (1#8 <<< (BitVec.ofNat 64 ((x101).toNat % 8)).toNat)))) ++ r92) 5) :: (B89 ++ (((some b66), blk ((([.slice ((ob57).map fun k => ⟨k, 0, none⟩) x55.length c58] : List Value)) ++ []) 24) :: ((ob57, blk ((u8s x55) ++ r59) 5) :: (B56 ++ (((some b44), blk ((([.slice ((ob35).map fun k => ⟨k, 0, none⟩) x33.length c36] : List Value)) ++ []) 24) :: ((ob35, blk ((u8s x33) ++ r37) 5) :: (B34 ++ (((some b21), blk ((([.slice ((ob12).map fun k => ⟨k, 0, none⟩) x10.length c13] : List Value)) ++ []) 24) :: ((ob12, blk ((u8s x10) ++ r14) 5) :: (B11 ++ []))))))))))) ++ N))) (fun w m => m.appR) ?_
    refine OW.rv (RV.move rfl) rfl ?_
    refine OW.rv (RV.extract rfl rfl) rfl ?_
    refine OW.slot (.agg (u8s x115.toList).toArray) (rfl) ?_
    refine OW.rv (RV.extract rfl rfl) rfl ?_
    refine OW.slot (.bool (x116)) (rfl) ?_
    refine OW.alloc (l := (u8s (Vector.replicate 32 0#8).toList)) rfl (by rw [Vector.toList_replicate, ← u8s_rep']; rfl) rfl (fun b119 => ?_)
    refine OW.sv (SV.storeW rfl rfl rfl (u8s_one _) rfl ((u8s_length _).trans Vector.length_toList) ((u8s_length _).trans Vector.length_toList)) ?_
    refine OW.rv (RV.assign rfl) rfl ?_
    refine OW.nil (QW.then_n (CW.seq ?_))
    obtain ⟨q120, hq121, hf⟩ := some_bind hf
    refine CW.cutJ (fun L' M' => ∃ p124 : Bool, ∃ B122 : List Ent, q120 = p124 ∧ (∀ w, Mem w0 w B122 → Mem w0 w ((ob90, blk ((u8s (x88.set ((x101).toNat / 8) (x106 ^^^ (1#8 <<< (BitVec.ofNat 64 ((x101).toNat % 8)).toNat)))) ++ r92) 5) :: (B89 ++ (((some b66), blk ((([.slice ((ob57).map fun k => ⟨k, 0, none⟩) x55.length c58] : List Value)) ++ []) 24) :: ((ob57, blk ((u8s x55) ++ r59) 5) :: (B56 ++ (((some b44), blk ((([.slice ((ob35).map fun k => ⟨k, 0, none⟩) x33.length c36] : List Value)) ++ []) 24) :: ((ob35, blk ((u8s x33) ++ r37) 5) :: (B34 ++ (((some b21), blk ((([.slice ((ob12).map fun k => ⟨k, 0, none⟩) x10.length c13] : List Value)) ++ []) 24) :: ((ob12, blk ((u8s x10) ++ r14) 5) :: (B11 ++ [])))))))))))) ∧ L' = [(6, .bool (p124))] ∧ M' = ((B122 ++ N))) ?_ ?_
    ·rintro L126 M127 ⟨p124, B122, e125, hB123, e128, e129⟩
     rw [e128, e129]
     clear e128 e129 L126 M127
     clear hq121
     rw [e125] at hf
     clear e125
     try dsimp only at hf
     refine QW.then_n (CW.ret ?_)
     have e0 := Option.some.inj hf
     subst e0
     refine QW.retG (rs := [.tmp 6]) ([.bool (p124)]) (B122) rfl ?_ rfl ?_ ?_ _ (.inl rfl)
     ·exact ⟨rfl, trivial⟩
     ·exact rfl
     ·exact (fun w m => m)
    ·skip
     refine CW.drawsU 9 mixed (by kernel_rfl) rfl ?_
     refine UW.rv 0 rfl (by kernel_rfl) rfl (RV.move rfl) rfl ?_
     refine UW.rv 1 rfl (by kernel_rfl) rfl (RV.move rfl) rfl ?_
     by_cases h130 : x116 = true
     ·replace hq121 := if_t hq121 h130
      refine UW.slot (.bool true) (congrArg Value.bool (h130)) ?_
      refine UW.rv 2 rfl (by kernel_rfl) rfl (RV.move rfl) rfl ?_
      refine UW.rv 5 rfl (by kernel_rfl) rfl (RV.loadW rfl (List.Mem.head _) rfl rfl rfl rfl ((u8s_length _).trans Vector.length_toList)) rfl ?_
      refine UW.new 3 rfl (by kernel_rfl) rfl (NV.bs1 rfl rfl rfl rfl rfl rfl) rfl (fun b131 => ?_)
      have h134 : Reps (BsRd (More w0 Φ ((ob90, blk ((u8s (x88.set ((x101).toNat / 8) (x106 ^^^ (1#8 <<< (BitVec.ofNat 64 ((x101).toNat % 8)).toNat)))) ++ r92) 5) :: (B89 ++ (((some b66), blk ((([.slice ((ob57).map fun k => ⟨k, 0, none⟩) x55.length c58] : List Value)) ++ []) 24) :: ((ob57, blk ((u8s x55) ++ r59) 5) :: (B56 ++ (((some b44), blk ((([.slice ((ob35).map fun k => ⟨k, 0, none⟩) x33.length c36] : List Value)) ++ []) 24) :: ((ob35, blk ((u8s x33) ++ r37) 5) :: (B34 ++ (((some b21), blk ((([.slice ((ob12).map fun k => ⟨k, 0, none⟩) x10.length c13] : List Value)) ++ []) 24) :: ((ob12, blk ((u8s x10) ++ r14) 5) :: (B11 ++ []))))))))))))) (([.slice ((ob90).map fun k => ⟨k, 0, none⟩) (x88.set ((x101).toNat / 8) (x106 ^^^ (1#8 <<< (BitVec.ofNat 64 ((x101).toNat % 8)).toNat))).length c91] : List Value)) [(x88.set ((x101).toNat / 8) (x106 ^^^ (1#8 <<< (BitVec.ofNat 64 ((x101).toNat % 8)).toNat)))] := Reps.one (BsRd.mk v113)
      refine UW.mem (M' := (((some b131), blk ((([.slice ((ob90).map fun k => ⟨k, 0, none⟩) (x88.set ((x101).toNat / 8) (x106 ^^^ (1#8 <<< (BitVec.ofNat 64 ((x101).toNat % 8)).toNat))).length c91] : List Value)) ++ []) 24) :: (some b119, blk (u8s x115.toList) 39) :: (((ob90, blk ((u8s (x88.set ((x101).toNat / 8) (x106 ^^^ (1#8 <<< (BitVec.ofNat 64 ((x101).toNat % 8)).toNat)))) ++ r92) 5) :: (B89 ++ (((some b66), blk ((([.slice ((ob57).map fun k => ⟨k, 0, none⟩) x55.length c58] : List Value)) ++ []) 24) :: ((ob57, blk ((u8s x55) ++ r59) 5) :: (B56 ++ (((some b44), blk ((([.slice ((ob35).map fun k => ⟨k, 0, none⟩) x33.length c36] : List Value)) ++ []) 24) :: ((ob35, blk ((u8s x33) ++ r37) 5) :: (B34 ++ (((some b21), blk ((([.slice ((ob12).map fun k => ⟨k, 0, none⟩) x10.length c13] : List Value)) ++ []) 24) :: ((ob12, blk ((u8s x10) ++ r14) 5) :: (B11 ++ []))))))))))) ++ N))) (fun w m => m) ?_
      have o132 : OwnS (some b131) ([(x88.set ((x101).toNat / 8) (x106 ^^^ (1#8 <<< (BitVec.ofNat 64 ((x101).toNat % 8)).toNat)))] : List (List (BitVec 8))).length 1 1 (([.slice ((ob90).map fun k => ⟨k, 0, none⟩) (x88.set ((x101).toNat / 8) (x106 ^^^ (1#8 <<< (BitVec.ofNat 64 ((x101).toNat % 8)).toNat))).length c91] : List Value)) [] := ⟨by simp [BsRd], by simp [BsRd], (fun h => nomatch h), by simp⟩
      refine UW.slot (sl (some b131) 0 ([(x88.set ((x101).toNat / 8) (x106 ^^^ (1#8 <<< (BitVec.ofNat 64 ((x101).toNat % 8)).toNat)))] : List (List (BitVec 8))).length 1) (rfl) ?_
      refine UW.mem (M' := (some b119, blk (u8s x115.toList) 39) :: ((((some b131), blk ((([.slice ((ob90).map fun k => ⟨k, 0, none⟩) (x88.set ((x101).toNat / 8) (x106 ^^^ (1#8 <<< (BitVec.ofNat 64 ((x101).toNat % 8)).toNat))).length c91] : List Value)) ++ []) 24) :: ((ob90, blk ((u8s (x88.set ((x101).toNat / 8) (x106 ^^^ (1#8 <<< (BitVec.ofNat 64 ((x101).toNat % 8)).toNat)))) ++ r92) 5) :: (B89 ++ (((some b66), blk ((([.slice ((ob57).map fun k => ⟨k, 0, none⟩) x55.length c58] : List Value)) ++ []) 24) :: ((ob57, blk ((u8s x55) ++ r59) 5) :: (B56 ++ (((some b44), blk ((([.slice ((ob35).map fun k => ⟨k, 0, none⟩) x33.length c36] : List Value)) ++ []) 24) :: ((ob35, blk ((u8s x33) ++ r37) 5) :: (B34 ++ (((some b21), blk ((([.slice ((ob12).map fun k => ⟨k, 0, none⟩) x10.length c13] : List Value)) ++ []) 24) :: ((ob12, blk ((u8s x10) ++ r14) 5) :: (B11 ++ [])))))))))))) ++ N)) (fun w m => m.pick [1, 0] 2 rfl rfl) ?_
      have gq12 : ∀ w, More w0 Φ (((some b131), blk ((([.slice ((ob90).map fun k => ⟨k, 0, none⟩) (x88.set ((x101).toNat / 8) (x106 ^^^ (1#8 <<< (BitVec.ofNat 64 ((x101).toNat % 8)).toNat))).length c91] : List Value)) ++ []) 24) :: ((ob90, blk ((u8s (x88.set ((x101).toNat / 8) (x106 ^^^ (1#8 <<< (BitVec.ofNat 64 ((x101).toNat % 8)).toNat)))) ++ r92) 5) :: (B89 ++ (((some b66), blk ((([.slice ((ob57).map fun k => ⟨k, 0, none⟩) x55.length c58] : List Value)) ++ []) 24) :: ((ob57, blk ((u8s x55) ++ r59) 5) :: (B56 ++ (((some b44), blk ((([.slice ((ob35).map fun k => ⟨k, 0, none⟩) x33.length c36] : List Value)) ++ []) 24) :: ((ob35, blk ((u8s x33) ++ r37) 5) :: (B34 ++ (((some b21), blk ((([.slice ((ob12).map fun k => ⟨k, 0, none⟩) x10.length c13] : List Value)) ++ []) 24) :: ((ob12, blk ((u8s x10) ++ r14) 5) :: (B11 ++ [])))))))))))) w → More w0 Φ ((ob90, blk ((u8s (x88.set ((x101).toNat / 8) (x106 ^^^ (1#8 <<< (BitVec.ofNat 64 ((x101).toNat % 8)).toNat)))) ++ r92) 5) :: (B89 ++ (((some b66), blk ((([.slice ((ob57).map fun k => ⟨k, 0, none⟩) x55.length c58] : List Value)) ++ []) 24) :: ((ob57, blk ((u8s x55) ++ r59) 5) :: (B56 ++ (((some b44), blk ((([.slice ((ob35).map fun k => ⟨k, 0, none⟩) x33.length c36] : List Value)) ++ []) 24) :: ((ob35, blk ((u8s x33) ++ r37) 5) :: (B34 ++ (((some b21), blk ((([.slice ((ob12).map fun k => ⟨k, 0, none⟩) x10.length c13] : List Value)) ++ []) 24) :: ((ob12, blk ((u8s x10) ++ r14) 5) :: (B11 ++ []))))))))))) w := fun w q => More.mono (fun w m => (m).tail) q
      replace va0 := va0.mono gq12
      replace v113 := v113.mono gq12
      replace h134 := h134.mono (BsRd.mono gq12)
      have v135 : View (More w0 Φ (((some b131), blk ((([.slice ((ob90).map fun k => ⟨k, 0, none⟩) (x88.set ((x101).toNat / 8) (x106 ^^^ (1#8 <<< (BitVec.ofNat 64 ((x101).toNat % 8)).toNat))).length c91] : List Value)) ++ []) 24) :: ((ob90, blk ((u8s (x88.set ((x101).toNat / 8) (x106 ^^^ (1#8 <<< (BitVec.ofNat 64 ((x101).toNat % 8)).toNat)))) ++ r92) 5) :: (B89 ++ (((some b66), blk ((([.slice ((ob57).map fun k => ⟨k, 0, none⟩) x55.length c58] : List Value)) ++ []) 24) :: ((ob57, blk ((u8s x55) ++ r59) 5) :: (B56 ++ (((some b44), blk ((([.slice ((ob35).map fun k => ⟨k, 0, none⟩) x33.length c36] : List Value)) ++ []) 24) :: ((ob35, blk ((u8s x33) ++ r37) 5) :: (B34 ++ (((some b21), blk ((([.slice ((ob12).map fun k => ⟨k, 0, none⟩) x10.length c13] : List Value)) ++ []) 24) :: ((ob12, blk ((u8s x10) ++ r14) 5) :: (B11 ++ []))))))))))))) (((some b131)).map fun k => ⟨k, 0, none⟩) ([(x88.set ((x101).toNat / 8) (x106 ^^^ (1#8 <<< (BitVec.ofNat 64 ((x101).toNat % 8)).toNat)))] : List (List (BitVec 8))).length 1 1 (([.slice ((ob90).map fun k => ⟨k, 0, none⟩) (x88.set ((x101).toNat / 8) (x106 ^^^ (1#8 <<< (BitVec.ofNat 64 ((x101).toNat % 8)).toNat))).length c91] : List Value)) := o132.view (by decide) (fun w q => q.2.sublist (List.singleton_sublist.2 (List.mem_cons_self ..)))
      obtain ⟨x137, hx136, hq121⟩ := some_bind hq121
      refine UW.callG 4 rfl (by kernel_rfl) rfl Tryd.call19 rfl (fun N' hN' => shaSum_does w0 (More w0 Φ (((some b131), blk ((([.slice ((ob90).map fun k => ⟨k, 0, none⟩) (x88.set ((x101).toNat / 8) (x106 ^^^ (1#8 <<< (BitVec.ofNat 64 ((x101).toNat % 8)).toNat))).length c91] : List Value)) ++ []) 24) :: ((ob90, blk ((u8s (x88.set ((x101).toNat / 8) (x106 ^^^ (1#8 <<< (BitVec.ofNat 64 ((x101).toNat % 8)).toNat)))) ++ r92) 5) :: (B89 ++ (((some b66), blk ((([.slice ((ob57).map fun k => ⟨k, 0, none⟩) x55.length c58] : List Value)) ++ []) 24) :: ((ob57, blk ((u8s x55) ++ r59) 5) :: (B56 ++ (((some b44), blk ((([.slice ((ob35).map fun k => ⟨k, 0, none⟩) x33.length c36] : List Value)) ++ []) 24) :: ((ob35, blk ((u8s x33) ++ r37) 5) :: (B34 ++ (((some b21), blk ((([.slice ((ob12).map fun k => ⟨k, 0, none⟩) x10.length c13] : List Value)) ++ []) 24) :: ((ob12, blk ((u8s x10) ++ r14) 5) :: (B11 ++ []))))))))))))) N' (fun w m => More.of hΦ 1 (hN' w m) rfl) (((some b131)).map fun k => ⟨k, 0, none⟩) 1 (([.slice ((ob90).map fun k => ⟨k, 0, none⟩) (x88.set ((x101).toNat / 8) (x106 ^^^ (1#8 <<< (BitVec.ofNat 64 ((x101).toNat % 8)).toNat))).length c91] : List Value)) ([(x88.set ((x101).toNat / 8) (x106 ^^^ (1#8 <<< (BitVec.ofNat 64 ((x101).toNat % 8)).toNat)))] : List (List (BitVec 8))) x137 v135 h134 hK hS hx136) rfl ?_
      rintro _ G138 rfl
      refine UW.mem (M' := ((some b119, blk (u8s x115.toList) 39) :: ((((some b131), blk ((([.slice ((ob90).map fun k => ⟨k, 0, none⟩) (x88.set ((x101).toNat / 8) (x106 ^^^ (1#8 <<< (BitVec.ofNat 64 ((x101).toNat % 8)).toNat))).length c91] : List Value)) ++ []) 24) :: ((ob90, blk ((u8s (x88.set ((x101).toNat / 8) (x106 ^^^ (1#8 <<< (BitVec.ofNat 64 ((x101).toNat % 8)).toNat)))) ++ r92) 5) :: (B89 ++ (((some b66), blk ((([.slice ((ob57).map fun k => ⟨k, 0, none⟩) x55.length c58] : List Value)) ++ []) 24) :: ((ob57, blk ((u8s x55) ++ r59) 5) :: (B56 ++ (((some b44), blk ((([.slice ((ob35).map fun k => ⟨k, 0, none⟩) x33.length c36] : List Value)) ++ []) 24) :: ((ob35, blk ((u8s x33) ++ r37) 5) :: (B34 ++ (((some b21), blk ((([.slice ((ob12).map fun k => ⟨k, 0, none⟩) x10.length c13] : List Value)) ++ []) 24) :: ((ob12, blk ((u8s x10) ++ r14) 5) :: (B11 ++ [])))))))))))) ++ N))) (fun w m => m.appR) ?_
      refine UW.rv 6 rfl (by kernel_rfl) rfl (RV.eqA8 rfl rfl rfl rfl rfl rfl (Vector.length_toList) (Vector.length_toList)) rfl ?_
      refine UW.slot (.bool (decide (x137 = x115))) (congrArg Value.bool (decide_eq_decide.2 Vector.toList_inj)) ?_
      refine UW.rv 7 rfl (by kernel_rfl) rfl (RV.pick_t rfl rfl rfl) rfl ?_
      refine UW.rv 8 rfl (by kernel_rfl) rfl (RV.assign rfl) rfl ?_
      refine UW.nil (by kernel_rfl) ?_
      refine OW.nil ?_
      exact QW.join ⟨(decide (x137 = x115)), (((some b131), blk ((([.slice ((ob90).map fun k => ⟨k, 0, none⟩) (x88.set ((x101).toNat / 8) (x106 ^^^ (1#8 <<< (BitVec.ofNat 64 ((x101).toNat % 8)).toNat))).length c91] : List Value)) ++ []) 24) :: ((ob90, blk ((u8s (x88.set ((x101).toNat / 8) (x106 ^^^ (1#8 <<< (BitVec.ofNat 64 ((x101).toNat % 8)).toNat)))) ++ r92) 5) :: (B89 ++ (((some b66), blk ((([.slice ((ob57).map fun k => ⟨k, 0, none⟩) x55.length c58] : List Value)) ++ []) 24) :: ((ob57, blk ((u8s x55) ++ r59) 5) :: (B56 ++ (((some b44), blk ((([.slice ((ob35).map fun k => ⟨k, 0, none⟩) x33.length c36] : List Value)) ++ []) 24) :: ((ob35, blk ((u8s x33) ++ r37) 5) :: (B34 ++ (((some b21), blk ((([.slice ((ob12).map fun k => ⟨k, 0, none⟩) x10.length c13] : List Value)) ++ []) 24) :: ((ob12, blk ((u8s x10) ++ r14) 5) :: (B11 ++ [])))))))))))), (Option.some.inj hq121).symm, (fun w m => (m).tail), rfl, rfl⟩ ⟨rfl, trivial⟩ (fun w m => m.pick [] 1 rfl rfl)
     ·replace hq121 := if_f hq121 h130
      refine UW.slot (.bool false) (congrArg Value.bool (Bool.eq_false_iff.2 h130)) ?_
      refine UW.skip 2 rfl (by kernel_rfl) rfl rfl ?_
      refine UW.skip 5 rfl (by kernel_rfl) rfl rfl ?_
      refine UW.skip 3 rfl (by kernel_rfl) rfl rfl ?_
      refine UW.skip 4 rfl (by kernel_rfl) rfl rfl ?_
      refine UW.skip 6 rfl (by kernel_rfl) rfl rfl ?_
      refine UW.rv 7 rfl (by kernel_rfl) rfl (RV.pick_f rfl rfl rfl) rfl ?_
      refine UW.rv 8 rfl (by kernel_rfl) rfl (RV.assign rfl) rfl ?_
      refine UW.nil (by kernel_rfl) ?_
      refine OW.nil ?_
      exact QW.join ⟨false, ((ob90, blk ((u8s (x88.set ((x101).toNat / 8) (x106 ^^^ (1#8 <<< (BitVec.ofNat 64 ((x101).toNat % 8)).toNat)))) ++ r92) 5) :: (B89 ++ (((some b66), blk ((([.slice ((ob57).map fun k => ⟨k, 0, none⟩) x55.length c58] : List Value)) ++ []) 24) :: ((ob57, blk ((u8s x55) ++ r59) 5) :: (B56 ++ (((some b44), blk ((([.slice ((ob35).map fun k => ⟨k, 0, none⟩) x33.length c36] : List Value)) ++ []) 24) :: ((ob35, blk ((u8s x33) ++ r37) 5) :: (B34 ++ (((some b21), blk ((([.slice ((ob12).map fun k => ⟨k, 0, none⟩) x10.length c13] : List Value)) ++ []) 24) :: ((ob12, blk ((u8s x10) ++ r14) 5) :: (B11 ++ []))))))))))), (Option.some.inj hq121).symm, (fun w m => m), rfl, rfl⟩ ⟨rfl, trivial⟩ (fun w m => m.pick [] 1 rfl rfl)
 ·skip
  refine CW.region ?_
  refine OW.rv (RV.move rfl) rfl ?_
  refine OW.rv (RV.not rfl) rfl ?_
  refine OW.rv (RV.move rfl) rfl ?_
  by_cases h140 : x5 = true
  ·replace hq78 := if_t hq78 h140
   refine OW.slot (.bool false) (congrArg Value.bool (congrArg (fun b => !b) (h140))) ?_
   refine OW.want rfl ?_
   refine OW.rv (RV.loadW rfl (List.Mem.tail _ (List.Mem.head _)) rfl rfl rfl rfl ((u8s_length _).trans Vector.length_toList)) rfl ?_
   refine OW.want rfl ?_
   refine OW.rv (RV.loadW rfl (List.Mem.tail _ (List.Mem.tail _ (List.Mem.head _))) rfl rfl rfl rfl ((u8s_length _).trans Vector.length_toList)) rfl ?_
   refine OW.want rfl ?_
   refine OW.rv (RV.neA8 rfl rfl rfl rfl rfl rfl (Vector.length_toList) (Vector.length_toList)) rfl ?_
   refine OW.slot (.bool (!decide (x28 = x4))) (congrArg (fun b => Value.bool (!b)) (decide_eq_decide.2 Vector.toList_inj)) ?_
   refine OW.rv (RV.pick_f rfl rfl rfl) rfl ?_
   refine OW.rv (RV.move rfl) rfl ?_
   by_cases h141 : x28 = x4
   ·replace hq78 := if_t hq78 h141
    refine OW.slot (.bool false) (congrArg Value.bool (congrArg (fun b => !b) (decide_eq_true h141))) ?_
    refine OW.want rfl ?_
    refine OW.rv (RV.loadW rfl (List.Mem.head _) rfl rfl rfl rfl ((u8s_length _).trans Vector.length_toList)) rfl ?_
    refine OW.want rfl ?_
    refine OW.rv (RV.loadW rfl (List.Mem.tail _ (List.Mem.tail _ (List.Mem.head _))) rfl rfl rfl rfl ((u8s_length _).trans Vector.length_toList)) rfl ?_
    refine OW.want rfl ?_
    refine OW.rv (RV.neA8 rfl rfl rfl rfl rfl rfl (Vector.length_toList) (Vector.length_toList)) rfl ?_
    refine OW.slot (.bool (!decide (x73 = x4))) (congrArg (fun b => Value.bool (!b)) (decide_eq_decide.2 Vector.toList_inj)) ?_
    refine OW.rv (RV.pick_f rfl rfl rfl) rfl ?_
    refine OW.nil ?_
    exact QW.join ⟨(!decide (x73 = x4)), (Option.some.inj hq78).symm, rfl, rfl⟩ ⟨rfl, rfl, rfl, trivial⟩ (fun w m => m.pick [] 3 rfl rfl)
   ·replace hq78 := if_f hq78 h141
    refine OW.slot (.bool true) (congrArg Value.bool (congrArg (fun b => !b) (decide_eq_false h141))) ?_
    refine OW.skip rfl rfl rfl ?_
    refine OW.skip rfl rfl rfl ?_
    refine OW.skip rfl rfl rfl ?_
    refine OW.rv (RV.pick_t rfl rfl rfl) rfl ?_
    refine OW.nil ?_
    exact QW.join ⟨true, (Option.some.inj hq78).symm, rfl, rfl⟩ ⟨rfl, rfl, rfl, trivial⟩ (fun w m => m.pick [] 3 rfl rfl)
  ·replace hq78 := if_f hq78 h140
   refine OW.slot (.bool true) (congrArg Value.bool (congrArg (fun b => !b) (Bool.eq_false_iff.2 h140))) ?_
   refine OW.skip rfl rfl rfl ?_
   refine OW.skip rfl rfl rfl ?_
   refine OW.skip rfl rfl rfl ?_
   refine OW.rv (RV.pick_t rfl rfl rfl) rfl ?_
   refine OW.rv (RV.move rfl) rfl ?_
   refine OW.skip rfl rfl rfl ?_
   refine OW.skip rfl rfl rfl ?_
   refine OW.skip rfl rfl rfl ?_
   refine OW.rv (RV.pick_t rfl rfl rfl) rfl ?_
   refine OW.nil ?_
   exact QW.join ⟨true, (Option.some.inj hq78).symm, rfl, rfl⟩ ⟨rfl, rfl, rfl, trivial⟩ (fun w m => m.pick [] 3 rfl rfl)
end Go.Fw.Tryd
