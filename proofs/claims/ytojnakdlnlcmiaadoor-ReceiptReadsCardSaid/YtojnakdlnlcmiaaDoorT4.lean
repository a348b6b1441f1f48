/- Part of a proof: rules that its law uses. -/
import Derived.Test.YtojnakdlnlcmiaaDoorT3
set_option linter.unusedVariables false
set_option linter.unusedSimpArgs false
set_option linter.unusedSectionVars false
set_option maxRecDepth 100000
set_option maxHeartbeats 1000000
namespace Go.Fw.Tryd
open Go Go.Proofs Go.Fw
theorem waybillref07_item_rec (w0 : World) : ∀ (kf : Nat) (Φ : Ctx) (N : List Ent) (hΦ : ∀ w, Mem w0 w N → Φ w) (A0_ : Option Addr) (c0_ : Nat) (a0 : List (BitVec 8)) (a1 : Nat) (a2 : Nat) (a3 : Nat) (res0 : It) (res1 : Nat) (res2 : Nat) (va0 : View Φ A0_ a0.length c0_ 1 (u8s a0)) (ba1 : a1 ≤ 9223372036854775807) (ba2 : a2 ≤ 9223372036854775807) (ba3 : a3 ≤ 9223372036854775807) (hf : waybillref07_item.r kf a0 a1 a2 a3 = some (res0, res1, res2)), DoesG Tryd.prog 99 [.slice A0_ a0.length c0_, .int .i64 ((a1 : Nat) : Int), .int .i64 ((a2 : Nat) : Int), .int .i64 ((a3 : Nat) : Int)] w0 [] N (fun v G => ∃ B : List Ent, ∃ cr0 : List Value, (ItRd (More w0 Φ B) cr0 res0) ∧ (res1 ≤ 9223372036854775807) ∧ (res2 ≤ 9223372036854775807) ∧ v = .tuple #[.agg cr0.toArray, .int .i64 ((res1 : Nat) : Int), .int .i64 ((res2 : Nat) : Int)] ∧ G = B) := by
 intro kf
 induction kf with
 | zero => intro Φ N hΦ A0_ c0_ a0 a1 a2 a3 res0 res1 res2 va0 ba1 ba2 ba3 hf; rw [waybillref07_item.r] at hf; cases hf
 | succ kf ih =>
  intro Φ N hΦ A0_ c0_ a0 a1 a2 a3 res0 res1 res2 va0 ba1 ba2 ba3 hf
  rw [waybillref07_item.r] at hf
  replace va0 := va0.mono (Ψ := More w0 Φ []) (fun w q => q.1)
  have m1 := va0.mx
  refine DoesG.enter Tryd.func99 rfl Tryd.ntmps99 rfl (M := (([] ++ N))) rfl (Z4 (Z2 (OW.alloc (l := [.bool false, .slice none 0 0, .slice none 0 0]) rfl rfl rfl (fun b2 => (Z0 (Z5 rfl) rfl (Z0 (Z5 rfl) rfl (Z6 (Z1 (Z4 (Z2 (Z0 (Z3 rfl) rfl (Z0 (Z3 rfl) rfl ?_))))))))))))
  refine Z0 (Z3 rfl) rfl ?_
  obtain ⟨⟨x4, x5⟩, hx3, hf⟩ := Z100 hf
  try dsimp only at hf
  refine Z12 Tryd.call124 rfl (waybillref07_head_does w0 (More w0 Φ []) ((some b2, blk [.bool false, .slice none 0 0, .slice none 0 0] 89) :: ([] ++ N)) (fun w m => Z105 hΦ 1 m rfl) A0_ c0_ a0 a1 a2 x4 x5 va0 (by omega) (by omega) hx3) rfl rfl ?_
  rintro L10 M11 ⟨B6, cs7, h8, b9, e12, e13⟩
  rw [e12, e13]
  clear e12 e13 L10 M11
  refine Z20 (M' := ((some b2, blk [.bool false, .slice none 0 0, .slice none 0 0] 89) :: ((B6 ++ []) ++ N))) (fun w m => by have h := Z113 (A := B6) m 0 1 rfl rfl; exact h) ?_
  have gq1 : ∀ w, More w0 Φ (B6 ++ []) w → More w0 Φ [] w := fun w q => More.mono (fun w m => (m).appR) q
  replace va0 := va0.mono gq1
  replace h8 := HdRd.mono (Ψ := (More w0 Φ (B6 ++ []))) (fun w q => Z128 q) _ _ h8
  have h17 := h8
  obtain ⟨e16, b14, b15⟩ := HdRd.opn h8
  subst e16
  refine Z0 (Z3 rfl) rfl (Z0 (Z17 rfl rfl) rfl (Z7 (.agg [.bool (x4.list), .int .i64 ((x4.fr : Nat) : Int), .int .i64 ((x4.to : Nat) : Int)].toArray) (rfl) (Z0 (Z17 rfl rfl) rfl (Z7 (.int .i64 ((x5 : Nat) : Int)) (rfl) (OW.alloc (l := [.bool false, .int .i64 (0 : Int), .int .i64 (0 : Int)]) rfl rfl rfl (fun b18 => ?_))))))
  refine Z28 (Z103 rfl rfl rfl (by intro u hu; simp at hu; rcases hu with rfl | rfl | rfl <;> rfl) rfl rfl rfl) ?_
  refine Z0 (Z5 rfl) rfl (Z6 (Z1 (Z4 (Z4 (Z2 (Z0 (Z3 rfl) rfl (Z0 (RV.neq rfl rfl) rfl (Z7 (.bool (!decide (x5 = 0))) (congrArg (fun b => Value.bool (!b)) (decide_eq_decide.2 (by omega))) (Z6 (Z1 ?_))))))))))
  by_cases h19 : x5 = 0
  ·replace hf := if_t hf h19
   refine Z14 rfl (congrArg (fun b => !b) (decide_eq_true h19)) (CW.skip (Z1 (Z4 (Z4 (Z2 (Z0 (Z30 rfl rfl rfl rfl) rfl (Z0 (Z29 rfl Zh rfl rfl rfl rfl) rfl (Z0 (RV.not rfl) rfl (Z6 (Z1 ?_))))))))))
   by_cases h20 : x4.list = true
   ·replace hf := if_t hf h20
    refine Z14 rfl (congrArg (fun b => !b) (h20)) (CW.skip (Z1 (Z4 (Z4 (Z2 (Z0 (Z3 rfl) rfl (Z0 (RV.geq rfl rfl) rfl (Z7 (.bool (decide (1024 ≤ a3))) (congrArg Value.bool (decide_eq_decide.2 (by omega))) (Z6 (Z1 ?_))))))))))
    by_cases h21 : 1024 ≤ a3
    ·replace hf := if_t hf h21
     refine Z13 rfl (decide_eq_true h21) (Z4 (Z2 (Z0 (Z107 (l := [.bool false, .slice none 0 0, .slice none 0 0]) (cs := [.bool false, .slice none 0 0, .slice none 0 0]) [] rfl rfl rfl rfl rfl rfl rfl) rfl (OW.rot1 ?_))))
     refine Z28 (Z103 rfl rfl rfl (by intro u hu; simp at hu; rcases hu with rfl | rfl | rfl <;> rfl) rfl rfl rfl) ?_
     refine Z0 (Z5 rfl) rfl (Z0 (Z5 rfl) rfl (Z6 (Z1 (CW.ret (Z8 ?_)))))
     have er0 := Zi hf
     obtain ⟨e0, er1⟩ := Prod.mk.inj er0
     clear er0
     obtain ⟨e1, er2⟩ := Prod.mk.inj er1
     clear er1
     subst e0
     subst e1
     subst er2
     have v22 : View (More w0 Φ (B6 ++ [])) none ([] : List (BitVec 8)).length 0 1 (u8s []) := View.nil
     have v23 : View (More w0 Φ (B6 ++ [])) none ([] : List (It)).length 0 3 [] := View.nil
     refine Z104 (rs := [.cell 8 89, .tmp 9, .tmp 10]) ([.agg [.bool false, .slice none 0 0, .slice none 0 0].toArray, .int .i64 (0 : Int), .int .i64 (74 : Int)]) ((B6 ++ [])) rfl ?_ rfl ?_ ?_ _ (.inl rfl)
     ·exact ⟨⟨_, _, _, _, rfl, Zh, rfl, rfl, rfl, rfl⟩, rfl, rfl, trivial⟩
     ·exact ⟨(B6 ++ []), [.bool false, .slice none 0 0, .slice none 0 0], (ItRd.mk v22 v23 (Reps.nil)), (by omega), (by omega), rfl, rfl⟩
     ·exact (fun w m => m.pick [] 2 rfl rfl)
    ·replace hf := if_f hf h21
     refine Z14 rfl (decide_eq_false h21) (CW.skip (Z1 (Z4 (Z2 (Z0 (Z107 (l := [.bool false, .slice none 0 0, .slice none 0 0]) (cs := [.bool true, .slice none 0 0, .slice none 0 0]) [(0, [.bool true])] rfl rfl rfl rfl rfl rfl rfl) rfl (OW.alloc (l := [.bool false, .slice none 0 0, .slice none 0 0]) rfl rfl rfl (fun b24 => ?_)))))))
     refine Z28 (Z103 rfl rfl rfl (by intro u hu; simp at hu; rcases hu with rfl | rfl | rfl <;> rfl) rfl rfl rfl) ?_
     refine Z6 (Z1 (Z4 (Z4 (Z2 (Z0 (Z30 rfl rfl rfl rfl) rfl (Z0 (Z29 rfl (List.Mem.tail _ Zh) rfl rfl rfl rfl) rfl (Z0 (Z5 rfl) rfl (Z6 (Z1 ?_)))))))))
     obtain ⟨q25, hq26, hf⟩ := Z100 hf
     refine Z115 (fun L' M' => ∃ p29 : Bool, ∃ l30 : List (BitVec 8), ∃ l35 : List (It), ∃ B27 : List Ent, ∃ ob31 : Option Nat, ∃ c32 : Nat, ∃ r33 : List Value, ∃ cs36 : List Value, ∃ ob38 : Option Nat, ∃ c39 : Nat, ∃ r40 : List Value, q25 = Lp.go (p29, l30, l35) ∧ (∀ w, Mem w0 w B27 → Mem w0 w (B6 ++ [])) ∧ (OwnS ob31 l30.length c32 1 (u8s l30) r33) ∧ (Reps (ItRd (More w0 Φ B27)) cs36 l35) ∧ (OwnS ob38 l35.length c39 3 cs36 r40) ∧ L' = [(8, ptr (some b2) 0), (11, ptr (some b18) 0), (13, ptr (some b24) 0)] ∧ M' = ((ob31, blk ((u8s l30) ++ r33) 5) :: (ob38, blk (cs36 ++ r40) 89) :: (some b24, blk [.bool (p29), sl ob31 0 l30.length c32, sl ob38 0 l35.length c39] 89) :: (some b18, blk [.bool (x4.list), .int .i64 ((x4.fr : Nat) : Int), .int .i64 ((x4.to : Nat) : Int)] 176) :: (some b2, blk [.bool false, .slice none 0 0, .slice none 0 0] 89) :: (B27 ++ N))) ?_ ?_
     ·rintro L43 M44 ⟨p29, l30, l35, B27, ob31, c32, r33, cs36, ob38, c39, r40, e42, hB28, o34, h37, o41, e45, e46⟩
      rw [e45, e46]
      clear e45 e46 L43 M44
      clear hq26
      rw [e42] at hf
      clear e42
      try dsimp only at hf
      have gq4 : ∀ w, More w0 Φ B27 w → More w0 Φ (B6 ++ []) w := fun w q => More.mono (fun w m => hB28 w (m)) q
      replace h17 := HdRd.mono gq4 _ _ h17
      have m47 := o34.mx
      have m48 := o41.mx
      refine Z1 (Z4 (CW.mem (M' := (ob38, blk (cs36 ++ r40) 89) :: (some b24, blk [.bool (p29), sl ob31 0 l30.length c32, sl ob38 0 l35.length c39] 89) :: (some b18, blk [.bool (x4.list), .int .i64 ((x4.fr : Nat) : Int), .int .i64 ((x4.to : Nat) : Int)] 176) :: (some b2, blk [.bool false, .slice none 0 0, .slice none 0 0] 89) :: (((ob31, blk ((u8s l30) ++ r33) 5) :: B27) ++ N)) (fun w m => m.pick [1, 2, 3, 4, 0] 5 rfl rfl) ?_))
      have gq5 : ∀ w, More w0 Φ ((ob31, blk ((u8s l30) ++ r33) 5) :: B27) w → More w0 Φ B27 w := fun w q => More.mono (fun w m => (m).tail) q
      replace h37 := h37.mono (ItRd.mono gq5)
      replace h17 := HdRd.mono gq5 _ _ h17
      have v49 : View (More w0 Φ ((ob31, blk ((u8s l30) ++ r33) 5) :: B27)) ((ob31).map fun k => ⟨k, 0, none⟩) l30.length c32 1 (u8s l30) := o34.view (by decide) (fun w q => q.2.sublist (List.singleton_sublist.2 (List.mem_cons_self ..)))
      refine CW.mem (M' := (some b24, blk [.bool (p29), .slice ((ob31).map fun k => ⟨k, 0, none⟩) l30.length c32, sl ob38 0 l35.length c39] 89) :: (some b18, blk [.bool (x4.list), .int .i64 ((x4.fr : Nat) : Int), .int .i64 ((x4.to : Nat) : Int)] 176) :: (some b2, blk [.bool false, .slice none 0 0, .slice none 0 0] 89) :: (((ob38, blk (cs36 ++ r40) 89) :: ((ob31, blk ((u8s l30) ++ r33) 5) :: B27)) ++ N)) (fun w m => m.pick [1, 2, 3, 0] 4 rfl rfl) ?_
      have gq6 : ∀ w, More w0 Φ ((ob38, blk (cs36 ++ r40) 89) :: ((ob31, blk ((u8s l30) ++ r33) 5) :: B27)) w → More w0 Φ ((ob31, blk ((u8s l30) ++ r33) 5) :: B27) w := fun w q => More.mono (fun w m => (m).tail) q
      replace v49 := v49.mono gq6
      replace h37 := h37.mono (ItRd.mono gq6)
      replace h17 := HdRd.mono gq6 _ _ h17
      have v50 : View (More w0 Φ ((ob38, blk (cs36 ++ r40) 89) :: ((ob31, blk ((u8s l30) ++ r33) 5) :: B27))) ((ob38).map fun k => ⟨k, 0, none⟩) l35.length c39 3 cs36 := o41.view (by decide) (fun w q => q.2.sublist (List.singleton_sublist.2 (List.mem_cons_self ..)))
      refine Z137 ((some b24, blk [.bool (p29), .slice ((ob31).map fun k => ⟨k, 0, none⟩) l30.length c32, .slice ((ob38).map fun k => ⟨k, 0, none⟩) l35.length c39] 89) :: (some b18, blk [.bool (x4.list), .int .i64 ((x4.fr : Nat) : Int), .int .i64 ((x4.to : Nat) : Int)] 176) :: (((ob38, blk (cs36 ++ r40) 89) :: ((ob31, blk ((u8s l30) ++ r33) 5) :: B27)) ++ N)) [3] (fun w m => m.pick [0, 1] 3 rfl rfl) mixed (by kernel_rfl) (Z10 0 rfl (by kernel_rfl) rfl (Z22 rfl Zh rfl rfl rfl rfl rfl) rfl (Z10 1 rfl (by kernel_rfl) rfl (Z30 rfl rfl rfl rfl) rfl (Z10 2 rfl (by kernel_rfl) rfl (Z29 rfl (List.Mem.tail _ Zh) rfl rfl rfl rfl) rfl (Z19 (M' := ((some b2, blk [.bool false, .slice none 0 0, .slice none 0 0] 89) :: (some b24, blk [.bool (p29), .slice ((ob31).map fun k => ⟨k, 0, none⟩) l30.length c32, .slice ((ob38).map fun k => ⟨k, 0, none⟩) l35.length c39] 89) :: (some b18, blk [.bool (x4.list), .int .i64 ((x4.fr : Nat) : Int), .int .i64 ((x4.to : Nat) : Int)] 176) :: (((ob38, blk (cs36 ++ r40) 89) :: ((ob31, blk ((u8s l30) ++ r33) 5) :: B27)) ++ N))) (fun w m => m.pick [2, 0, 1] 3 rfl rfl) (fun w m => m.pick [1, 2] 3 rfl rfl) ?_))))
      refine XW.sv 3 rfl (by kernel_rfl) (Z103 rfl rfl rfl (by intro u hu; simp at hu; rcases hu with rfl | rfl | rfl <;> rfl) rfl rfl rfl) (fun w m => m.pick [1, 2] 3 rfl rfl) ?_
      refine Z10 4 rfl (by kernel_rfl) rfl (Z5 rfl) rfl (Z10 5 rfl (by kernel_rfl) rfl (Z5 rfl) rfl (XW.nil (by kernel_rfl) (Z1 (CW.ret ?_))))
      have er0 := Zi hf
      obtain ⟨e0, er1⟩ := Prod.mk.inj er0
      clear er0
      obtain ⟨e1, er2⟩ := Prod.mk.inj er1
      clear er1
      subst e0
      subst e1
      subst er2
      refine Z104 (rs := [.cell 8 89, .tmp 9, .tmp 10]) ([.agg [.bool (p29), .slice ((ob31).map fun k => ⟨k, 0, none⟩) l30.length c32, .slice ((ob38).map fun k => ⟨k, 0, none⟩) l35.length c39].toArray, .int .i64 ((x4.to : Nat) : Int), .int .i64 (0 : Int)]) (((ob38, blk (cs36 ++ r40) 89) :: ((ob31, blk ((u8s l30) ++ r33) 5) :: B27))) rfl ?_ rfl ?_ ?_ _ (.inl rfl)
      ·exact ⟨⟨_, _, _, _, rfl, Zh, rfl, rfl, rfl, rfl⟩, rfl, rfl, trivial⟩
      ·exact ⟨((ob38, blk (cs36 ++ r40) 89) :: ((ob31, blk ((u8s l30) ++ r33) 5) :: B27)), [.bool (p29), .slice ((ob31).map fun k => ⟨k, 0, none⟩) l30.length c32, .slice ((ob38).map fun k => ⟨k, 0, none⟩) l35.length c39], (ItRd.mk v49 v50 h37), (by omega), (by omega), rfl, rfl⟩
      ·exact (fun w m => m.pick [] 3 rfl rfl)
     ·skip
      refine CW.block (CW.mem (M' := ((none, blk ((u8s ([] : List (BitVec 8))) ++ []) 5) :: (some b24, blk [.bool true, .slice none 0 0, .slice none 0 0] 89) :: (some b18, blk [.bool (x4.list), .int .i64 ((x4.fr : Nat) : Int), .int .i64 ((x4.to : Nat) : Int)] 176) :: (some b2, blk [.bool false, .slice none 0 0, .slice none 0 0] 89) :: ((B6 ++ []) ++ N))) (fun w m => m.nil_ent _) (CW.mem (M' := ((none, blk ([] ++ []) 89) :: (none, blk ((u8s ([] : List (BitVec 8))) ++ []) 5) :: (some b24, blk [.bool true, .slice none 0 0, .slice none 0 0] 89) :: (some b18, blk [.bool (x4.list), .int .i64 ((x4.fr : Nat) : Int), .int .i64 ((x4.to : Nat) : Int)] 176) :: (some b2, blk [.bool false, .slice none 0 0, .slice none 0 0] 89) :: ((B6 ++ []) ++ N))) (fun w m => m.nil_ent _) (Z121 (fun k L' M' => ∃ n53 : Nat, ∃ p55 : Bool, ∃ l56 : List (BitVec 8), ∃ l61 : List (It), ∃ B51 : List Ent, ∃ ob57 : Option Nat, ∃ c58 : Nat, ∃ r59 : List Value, ∃ cs62 : List Value, ∃ ob64 : Option Nat, ∃ c65 : Nat, ∃ r66 : List Value, (waybillref07_item.l1 a0 a3 (waybillref07_item.r kf) x4 k n53 p55 l56 l61) = some q25 ∧ (∀ w, Mem w0 w B51 → Mem w0 w (B6 ++ [])) ∧ (n53 ≤ 9223372036854775807) ∧ (OwnS ob57 l56.length c58 1 (u8s l56) r59) ∧ (Reps (ItRd (More w0 Φ B51)) cs62 l61) ∧ (OwnS ob64 l61.length c65 3 cs62 r66) ∧ L' = [(0, .slice A0_ a0.length c0_), (3, .int .i64 ((a3 : Nat) : Int)), (8, ptr (some b2) 0), (11, ptr (some b18) 0), (13, ptr (some b24) 0), (14, .int .i64 ((n53 : Nat) : Int))] ∧ M' = ((ob57, blk ((u8s l56) ++ r59) 5) :: (ob64, blk (cs62 ++ r66) 89) :: (some b24, blk [.bool (p55), sl ob57 0 l56.length c58, sl ob64 0 l61.length c65] 89) :: (some b18, blk [.bool (x4.list), .int .i64 ((x4.fr : Nat) : Int), .int .i64 ((x4.to : Nat) : Int)] 176) :: (some b2, blk [.bool false, .slice none 0 0, .slice none 0 0] 89) :: (B51 ++ N))) (k0 := (x4.to - x4.fr + 2)) ⟨x4.fr, true, ([] : List (BitVec 8)), ([] : List (It)), (B6 ++ []), none, 0, [], [], none, 0, [], hq26, (fun w m => m), (by omega), OwnS.nil, Reps.nil, OwnS.nil, rfl, rfl⟩ ⟨rfl, rfl, rfl, rfl, rfl, rfl, trivial⟩ (fun w m => m.pick [1, 0, 2, 3, 4] 5 rfl rfl) ?_)))
      clear hq26
      rintro k68 L71 M72 ⟨n53, p55, l56, l61, B51, ob57, c58, r59, cs62, ob64, c65, r66, hl69, hB52, b54, o60, h63, o67, e73, e74⟩
      rw [e73, e74]
      clear e73 e74 L71 M72
      rcases k68 with _ | k68
      ·rw [waybillref07_item.l1] at hl69; cases hl69
      rw [waybillref07_item.l1] at hl69
      have gq7 : ∀ w, More w0 Φ B51 w → More w0 Φ (B6 ++ []) w := fun w q => More.mono (fun w m => hB52 w (m)) q
      replace va0 := va0.mono gq7
      replace h17 := HdRd.mono gq7 _ _ h17
      have m75 := o60.mx
      have m76 := o67.mx
      refine Z4 (Z4 (Z2 (Z0 (Z3 rfl) rfl (Z0 (Z30 rfl rfl rfl rfl) rfl (Z0 (Z29 rfl (List.Mem.tail _ (List.Mem.tail _ (List.Mem.tail _ Zh))) rfl rfl rfl rfl) rfl (Z0 (RV.lss rfl rfl) rfl (Z7 (.bool (decide (n53 < x4.to))) (congrArg Value.bool (decide_eq_decide.2 (by omega))) (Z6 (Z1 ?_)))))))))
      by_cases h77 : n53 < x4.to
      ·replace hl69 := if_t hl69 h77
       refine Z13 rfl (decide_eq_true h77) (CW.skip (Z1 (CW.block (Z4 (Z2 (Z0 (Z3 rfl) rfl (Z0 (Z3 rfl) rfl (Z0 (Z30 rfl rfl rfl rfl) rfl (Z0 (Z29 rfl (List.Mem.tail _ (List.Mem.tail _ (List.Mem.tail _ Zh))) rfl rfl rfl rfl) rfl (Z0 (Z3 rfl) rfl (Z0 (RV.add rfl rfl (by omega)) rfl ?_)))))))))))
       refine Z7 (.int .i64 (((a3 + 1) : Nat) : Int)) (by first | rfl | (congr 1) | (congr 1; omega)) ?_
       obtain ⟨⟨x79, x80, x81⟩, hx78, hl69⟩ := Z100 hl69
       try dsimp only at hl69
       refine Z12 Tryd.call99 rfl (ih (More w0 Φ B51) ((ob57, blk ((u8s l56) ++ r59) 5) :: (ob64, blk (cs62 ++ r66) 89) :: (some b24, blk [.bool (p55), sl ob57 0 l56.length c58, sl ob64 0 l61.length c65] 89) :: (some b18, blk [.bool (x4.list), .int .i64 ((x4.fr : Nat) : Int), .int .i64 ((x4.to : Nat) : Int)] 176) :: (some b2, blk [.bool false, .slice none 0 0, .slice none 0 0] 89) :: (B51 ++ N)) (fun w m => Z105 hΦ 5 m rfl) A0_ c0_ a0 n53 x4.to (a3 + 1) x79 x80 x81 va0 (by omega) (by omega) (by omega) hx78) rfl rfl ?_
       rintro L87 M88 ⟨B82, cs83, h84, b85, b86, e89, e90⟩
       rw [e89, e90]
       clear e89 e90 L87 M88
       refine Z20 (M' := ((ob57, blk ((u8s l56) ++ r59) 5) :: (ob64, blk (cs62 ++ r66) 89) :: (some b24, blk [.bool (p55), sl ob57 0 l56.length c58, sl ob64 0 l61.length c65] 89) :: (some b18, blk [.bool (x4.list), .int .i64 ((x4.fr : Nat) : Int), .int .i64 ((x4.to : Nat) : Int)] 176) :: (some b2, blk [.bool false, .slice none 0 0, .slice none 0 0] 89) :: ((B82 ++ B51) ++ N))) (fun w m => by have h := Z113 (A := B82) m 0 5 rfl rfl; exact h) ?_
       have gq8 : ∀ w, More w0 Φ (B82 ++ B51) w → More w0 Φ B51 w := fun w q => More.mono (fun w m => (m).appR) q
       replace va0 := va0.mono gq8
       replace h63 := h63.mono (ItRd.mono gq8)
       replace h17 := HdRd.mono gq8 _ _ h17
       replace h84 := ItRd.mono (Ψ := (More w0 Φ (B82 ++ B51))) (fun w q => Z128 q) _ _ h84
       have h100 := h84
       obtain ⟨A91, c92, A94, c95, cs97, e99, v93, v96, h98⟩ := ItRd.opn h84
       subst e99
       have m101 := v93.mx
       have m102 := v96.mx
       have m103 := v93.mx
       have m104 := v96.mx
       refine Z0 (Z3 rfl) rfl (Z0 (Z17 rfl rfl) rfl (Z7 (.agg [.bool (x79.list), .slice A91 x79.data.length c92, .slice A94 x79.items.length c95].toArray) (rfl) (Z0 (Z17 rfl rfl) rfl (Z7 (.int .i64 ((x80 : Nat) : Int)) (rfl) (Z0 (Z17 rfl rfl) rfl (Z7 (.int .i64 ((x81 : Nat) : Int)) (rfl) (OW.alloc (l := [.bool false, .slice none 0 0, .slice none 0 0]) rfl rfl rfl (fun b105 => ?_))))))))
       refine Z28 (Z103 rfl rfl rfl (by intro u hu; simp at hu; rcases hu with rfl | rfl | rfl <;> rfl) rfl rfl rfl) ?_
       refine Z0 (Z5 rfl) rfl (Z0 (Z5 rfl) rfl (Z6 (Z1 (Z4 (Z4 (Z2 (Z0 (Z3 rfl) rfl (Z0 (RV.neq rfl rfl) rfl (Z7 (.bool (!decide (x81 = 0))) (congrArg (fun b => Value.bool (!b)) (decide_eq_decide.2 (by omega))) (Z6 (Z1 ?_)))))))))))
       by_cases h106 : x81 = 0
       ·replace hl69 := if_t hl69 h106
        refine Z14 rfl (congrArg (fun b => !b) (decide_eq_true h106)) (CW.skip (Z1 (Z4 (Z2 (Z0 (Z30 rfl rfl rfl rfl) rfl (Z0 (Z29 rfl (List.Mem.tail _ (List.Mem.tail _ (List.Mem.tail _ Zh))) rfl rfl rfl rfl) rfl (Z0 (Z22 rfl Zh rfl rfl rfl rfl rfl) rfl ?_)))))))
        refine OW.ofN (NV.bsA rfl rfl (by intro x hx; simp at hx; subst hx; exact rfl) rfl rfl rfl (by decide) (by decide) rfl) rfl (fun b107 => ?_)
        have h110 : Reps (ItRd (More w0 Φ (B82 ++ B51))) (([.bool (x79.list), .slice A91 x79.data.length c92, .slice A94 x79.items.length c95] : List Value)) [x79] := Reps.one h100
        refine Z20 (M' := (((some b107), blk ((([.bool (x79.list), .slice A91 x79.data.length c92, .slice A94 x79.items.length c95] : List Value)) ++ []) 89) :: (some b105, blk [.bool (x79.list), .slice A91 x79.data.length c92, .slice A94 x79.items.length c95] 89) :: (ob57, blk ((u8s l56) ++ r59) 5) :: (ob64, blk (cs62 ++ r66) 89) :: (some b24, blk [.bool (p55), sl ob57 0 l56.length c58, sl ob64 0 l61.length c65] 89) :: (some b18, blk [.bool (x4.list), .int .i64 ((x4.fr : Nat) : Int), .int .i64 ((x4.to : Nat) : Int)] 176) :: (some b2, blk [.bool false, .slice none 0 0, .slice none 0 0] 89) :: ((B82 ++ B51) ++ N))) (fun w m => m) ?_
        have o108 : OwnS (some b107) ([x79] : List (It)).length 1 3 (([.bool (x79.list), .slice A91 x79.data.length c92, .slice A94 x79.items.length c95] : List Value)) [] := ⟨by simp [ItRd], by simp [ItRd], (fun h => nomatch h), by simp⟩
        have mx_o108 := o108.mx
        refine Z7 (sl (some b107) 0 ([x79] : List (It)).length 1) (rfl) (OW.rot3 ?_)
        obtain ⟨g111, hl69⟩ := Z112 hl69
        have h116 := h63.app h110
        refine OW.appendOwn (s := 3) rfl rfl rfl rfl rfl rfl o67 (fun w m => m.rd0 (List.Mem.tail _ Zh) (fun e => o108.nilc (by decide) e)) o108.n (h110.cell1 ItRd.one) (o108.zeroO (by decide)) (by decide) (by decide) (by first | omega | (simp only [i89, List.length_nil]; omega)) rfl rfl ((l61 ++ ([x79] : List (It))).length) (cs62 ++ (([.bool (x79.list), .slice A91 x79.data.length c92, .slice A94 x79.items.length c95] : List Value))) (List.length_append ..).symm rfl (fun ob112 r113 c114 o115 => ?_)
        have m117 := o115.mx
        refine Z0 (Z30 rfl rfl rfl rfl) rfl (OW.rot4 (Z28 (SV.store rfl rfl rfl rfl rfl (by simp)) (OW.cells [.bool (p55), sl ob57 0 l56.length c58, sl ob112 0 (l61 ++ ([x79] : List (It))).length c114] rfl (Z6 (Z1 (Z2 (Z0 (Z3 rfl) rfl (Z0 (Z5 rfl) rfl (Z6 (Z27 ?_))))))))))
        exact Z114 (k' := k68) (Nat.lt_succ_self _) ⟨x80, (p55), l56, (l61 ++ ([x79] : List (It))), (B82 ++ B51), ob57, c58, r59, (cs62 ++ (([.bool (x79.list), .slice A91 x79.data.length c92, .slice A94 x79.items.length c95] : List Value))), ob112, c114, r113, hl69, (fun w m => hB52 w ((m).appR)), (by omega), o60, h116, o115, rfl, rfl⟩ ⟨rfl, rfl, rfl, rfl, rfl, rfl, trivial⟩ (fun w m => m.pick [4, 1, 0, 5, 6] 7 rfl rfl)
       ·replace hl69 := if_f hl69 h106
        refine Z13 rfl (congrArg (fun b => !b) (decide_eq_false h106)) (Z4 (Z2 (Z0 (Z107 (l := [.bool false, .slice none 0 0, .slice none 0 0]) (cs := [.bool false, .slice none 0 0, .slice none 0 0]) [] rfl rfl rfl rfl rfl rfl rfl) rfl (Z0 (Z3 rfl) rfl (OW.rot5 ?_)))))
        refine Z28 (Z103 rfl rfl rfl (by intro u hu; simp at hu; rcases hu with rfl | rfl | rfl <;> rfl) rfl rfl rfl) ?_
        refine Z0 (Z5 rfl) rfl (Z0 (Z5 rfl) rfl (Z6 (Z1 (CW.ret (Z8 (Z16 (Z8 (Z16 (Z8 ?_)))))))))
        have hc := Zi hl69
        subst hc
        try dsimp only at hf
        refine Z8 ?_
        have er0 := Zi hf
        obtain ⟨e0, er1⟩ := Prod.mk.inj er0
        clear er0
        obtain ⟨e1, er2⟩ := Prod.mk.inj er1
        clear er1
        subst e0
        subst e1
        subst er2
        have v118 : View (More w0 Φ (B82 ++ B51)) none ([] : List (BitVec 8)).length 0 1 (u8s []) := View.nil
        have v119 : View (More w0 Φ (B82 ++ B51)) none ([] : List (It)).length 0 3 [] := View.nil
        refine Z104 (rs := [.cell 8 89, .tmp 9, .tmp 10]) ([.agg [.bool false, .slice none 0 0, .slice none 0 0].toArray, .int .i64 (0 : Int), .int .i64 ((x81 : Nat) : Int)]) ((B82 ++ B51)) rfl ?_ rfl ?_ ?_ _ (.inl rfl)
        ·exact ⟨⟨_, _, _, _, rfl, Zh, rfl, rfl, rfl, rfl⟩, rfl, rfl, trivial⟩
        ·exact ⟨(B82 ++ B51), [.bool false, .slice none 0 0, .slice none 0 0], (ItRd.mk v118 v119 (Reps.nil)), (by omega), (by omega), rfl, rfl⟩
        ·exact (fun w m => m.pick [] 6 rfl rfl)
      ·replace hl69 := if_f hl69 h77
       refine Z14 rfl (decide_eq_false h77) (CW.exit (Z9 (Z9 (Z15 ?_))))
       exact QW.join ⟨(p55), l56, l61, B51, ob57, c58, r59, cs62, ob64, c65, r66, (Zi hl69).symm, (fun w m => hB52 w (m)), o60, h63, o67, rfl, rfl⟩ ⟨rfl, rfl, rfl, trivial⟩ (fun w m => m.pick [0, 1, 2, 3, 4] 5 rfl rfl)
   ·replace hf := if_f hf h20
    refine Z13 rfl (congrArg (fun b => !b) (Bool.eq_false_iff.2 h20)) (Z4 (Z137 ((some b18, blk [.bool (x4.list), .int .i64 ((x4.fr : Nat) : Int), .int .i64 ((x4.to : Nat) : Int)] 176) :: ((B6 ++ []) ++ N)) [10] (fun w m => m.pick [0] 2 rfl rfl) mixed (by kernel_rfl) (Z10 0 rfl (by kernel_rfl) rfl (Z3 rfl) rfl (Z10 1 rfl (by kernel_rfl) rfl (Z30 rfl rfl rfl rfl) rfl (Z10 2 rfl (by kernel_rfl) rfl (Z29 rfl Zh rfl rfl rfl rfl) rfl (Z10 3 rfl (by kernel_rfl) rfl (Z30 rfl rfl rfl rfl) rfl (Z10 4 rfl (by kernel_rfl) rfl (Z29 rfl Zh rfl rfl rfl rfl) rfl ?_)))))))
    obtain ⟨g121, hf⟩ := Z112 hf
    obtain ⟨g122, hf⟩ := Z112 hf
    have hle := va0.le
    refine Z10 5 rfl (by kernel_rfl) rfl (RV.cut_both (s := 1) (x4.fr) (x4.to) rfl rfl rfl (by omega) (by omega) rfl rfl (by omega) (by omega)) rfl (XW.slot (.slice (subA A0_ c0_ x4.fr 1) ((a0.take x4.to).drop x4.fr).length (c0_ - x4.fr)) (by rw [show (((a0.take x4.to).drop x4.fr)).length = (x4.to) - (x4.fr) from List.length_drop.trans (by rw [List.length_take, Nat.min_eq_left (by omega)])]) ?_)
    have v120 : View (More w0 Φ (B6 ++ [])) (subA A0_ c0_ x4.fr 1) ((a0.take x4.to).drop x4.fr).length (c0_ - x4.fr) 1 (u8s ((a0.take x4.to).drop x4.fr)) := va0.mid8 (by omega) (by omega)
    have m123 := v120.mx
    refine Z10 8 rfl (by kernel_rfl) rfl (Z30 rfl rfl rfl rfl) rfl (Z10 9 rfl (by kernel_rfl) rfl (Z29 rfl Zh rfl rfl rfl rfl) rfl ?_)
    obtain ⟨x125, hx124, hf⟩ := Z100 hf
    refine Z11 6 rfl (by kernel_rfl) rfl Tryd.call125 rfl (fun N' hN' => waybillref07_bytes_does w0 (More w0 Φ (B6 ++ [])) N' (fun w m => Z105 hΦ 2 (hN' w m) rfl) (subA A0_ c0_ x4.fr 1) (c0_ - x4.fr) ((a0.take x4.to).drop x4.fr) x125 v120 hx124) rfl ?_
    rintro L131 M132 ⟨B126, ob127, c128, r129, o130, e133, e134⟩
    rw [e133, e134]
    clear e133 e134 L131 M132
    refine Z19 (M' := ((ob127, blk ((u8s x125) ++ r129) 5) :: (some b18, blk [.bool (x4.list), .int .i64 ((x4.fr : Nat) : Int), .int .i64 ((x4.to : Nat) : Int)] 176) :: (some b2, blk [.bool false, .slice none 0 0, .slice none 0 0] 89) :: ((B126 ++ (B6 ++ [])) ++ N))) (fun w m => by have h := Z113 (A := B126) m 1 2 rfl rfl; exact h) (fun w m => by have h := Mem.shrink (B := (B6 ++ [])) (B' := (B126 ++ (B6 ++ []))) (List.sublist_append_right _ _) (m.pick [1] 3 rfl rfl) 1 rfl; exact h) ?_
    have gq9 : ∀ w, More w0 Φ (B126 ++ (B6 ++ [])) w → More w0 Φ (B6 ++ []) w := fun w q => More.mono (fun w m => (m).appR) q
    replace va0 := va0.mono gq9
    replace h17 := HdRd.mono gq9 _ _ h17
    replace v120 := v120.mono gq9
    have m135 := o130.mx
    refine Z10 7 rfl (by kernel_rfl) rfl (Z107 (l := [.bool false, .slice none 0 0, .slice none 0 0]) (cs := [.bool false, sl ob127 0 x125.length c128, .slice none 0 0]) [(1, [sl ob127 0 x125.length c128])] rfl rfl rfl rfl rfl rfl rfl) rfl ?_
    refine Z19 (M' := ((some b2, blk [.bool false, .slice none 0 0, .slice none 0 0] 89) :: (ob127, blk ((u8s x125) ++ r129) 5) :: (some b18, blk [.bool (x4.list), .int .i64 ((x4.fr : Nat) : Int), .int .i64 ((x4.to : Nat) : Int)] 176) :: ((B126 ++ (B6 ++ [])) ++ N))) (fun w m => m.pick [2, 0, 1] 3 rfl rfl) (fun w m => by have h := Mem.shrink (B := (B6 ++ [])) (B' := (B126 ++ (B6 ++ []))) (List.sublist_append_right _ _) (m.pick [2] 3 rfl rfl) 1 rfl; exact h) ?_
    refine XW.sv 10 rfl (by kernel_rfl) (Z103 rfl rfl rfl (by intro u hu; simp at hu; rcases hu with rfl | rfl | rfl <;> rfl) rfl rfl rfl) (fun w m => by have h := Mem.shrink (B := (B6 ++ [])) (B' := (B126 ++ (B6 ++ []))) (List.sublist_append_right _ _) (m.pick [2] 3 rfl rfl) 1 rfl; exact h) ?_
    refine Z10 11 rfl (by kernel_rfl) rfl (Z5 rfl) rfl (Z10 12 rfl (by kernel_rfl) rfl (Z5 rfl) rfl (XW.nil (by kernel_rfl) (Z1 (CW.ret (Z8 (QW.mem (M' := (some b2, blk [.bool false, sl ob127 0 x125.length c128, .slice none 0 0] 89) :: (some b18, blk [.bool (x4.list), .int .i64 ((x4.fr : Nat) : Int), .int .i64 ((x4.to : Nat) : Int)] 176) :: (((ob127, blk ((u8s x125) ++ r129) 5) :: (B126 ++ (B6 ++ []))) ++ N)) (fun w m => m.pick [0, 2, 1] 3 rfl rfl) ?_))))))
    have gq10 : ∀ w, More w0 Φ ((ob127, blk ((u8s x125) ++ r129) 5) :: (B126 ++ (B6 ++ []))) w → More w0 Φ (B126 ++ (B6 ++ [])) w := fun w q => More.mono (fun w m => (m).tail) q
    replace va0 := va0.mono gq10
    replace h17 := HdRd.mono gq10 _ _ h17
    replace v120 := v120.mono gq10
    have v136 : View (More w0 Φ ((ob127, blk ((u8s x125) ++ r129) 5) :: (B126 ++ (B6 ++ [])))) ((ob127).map fun k => ⟨k, 0, none⟩) x125.length c128 1 (u8s x125) := o130.view (by decide) (fun w q => q.2.sublist (List.singleton_sublist.2 (List.mem_cons_self ..)))
    have er0 := Zi hf
    obtain ⟨e0, er1⟩ := Prod.mk.inj er0
    clear er0
    obtain ⟨e1, er2⟩ := Prod.mk.inj er1
    clear er1
    subst e0
    subst e1
    subst er2
    have v137 : View (More w0 Φ ((ob127, blk ((u8s x125) ++ r129) 5) :: (B126 ++ (B6 ++ [])))) none ([] : List (It)).length 0 3 [] := View.nil
    refine Z104 (rs := [.cell 8 89, .tmp 9, .tmp 10]) ([.agg [.bool false, .slice ((ob127).map fun k => ⟨k, 0, none⟩) x125.length c128, .slice none 0 0].toArray, .int .i64 ((x4.to : Nat) : Int), .int .i64 (0 : Int)]) (((ob127, blk ((u8s x125) ++ r129) 5) :: (B126 ++ (B6 ++ [])))) rfl ?_ rfl ?_ ?_ _ (.inl rfl)
    ·exact ⟨⟨_, _, _, _, rfl, Zh, rfl, rfl, rfl, rfl⟩, rfl, rfl, trivial⟩
    ·exact ⟨((ob127, blk ((u8s x125) ++ r129) 5) :: (B126 ++ (B6 ++ []))), [.bool false, .slice ((ob127).map fun k => ⟨k, 0, none⟩) x125.length c128, .slice none 0 0], (ItRd.mk v136 v137 (Reps.nil)), (by omega), (by omega), rfl, rfl⟩
    ·exact (fun w m => m.pick [] 2 rfl rfl)
  ·replace hf := if_f hf h19
   refine Z13 rfl (congrArg (fun b => !b) (decide_eq_false h19)) (Z4 (Z2 (Z0 (Z107 (l := [.bool false, .slice none 0 0, .slice none 0 0]) (cs := [.bool false, .slice none 0 0, .slice none 0 0]) [] rfl rfl rfl rfl rfl rfl rfl) rfl (Z0 (Z3 rfl) rfl (OW.rot1 ?_)))))
   refine Z28 (Z103 rfl rfl rfl (by intro u hu; simp at hu; rcases hu with rfl | rfl | rfl <;> rfl) rfl rfl rfl) ?_
   refine Z0 (Z5 rfl) rfl (Z0 (Z5 rfl) rfl (Z6 (Z1 (CW.ret (Z8 ?_)))))
   have er0 := Zi hf
   obtain ⟨e0, er1⟩ := Prod.mk.inj er0
   clear er0
   obtain ⟨e1, er2⟩ := Prod.mk.inj er1
   clear er1
   subst e0
   subst e1
   subst er2
   have v138 : View (More w0 Φ (B6 ++ [])) none ([] : List (BitVec 8)).length 0 1 (u8s []) := View.nil
   have v139 : View (More w0 Φ (B6 ++ [])) none ([] : List (It)).length 0 3 [] := View.nil
   refine Z104 (rs := [.cell 8 89, .tmp 9, .tmp 10]) ([.agg [.bool false, .slice none 0 0, .slice none 0 0].toArray, .int .i64 (0 : Int), .int .i64 ((x5 : Nat) : Int)]) ((B6 ++ [])) rfl ?_ rfl ?_ ?_ _ (.inl rfl)
   ·exact ⟨⟨_, _, _, _, rfl, Zh, rfl, rfl, rfl, rfl⟩, rfl, rfl, trivial⟩
   ·exact ⟨(B6 ++ []), [.bool false, .slice none 0 0, .slice none 0 0], (ItRd.mk v138 v139 (Reps.nil)), (by omega), (by omega), rfl, rfl⟩
   ·exact (fun w m => m.pick [] 2 rfl rfl)
theorem waybillref07_item_does (w0 : World) (Φ : Ctx) (N : List Ent) (hΦ : ∀ w, Mem w0 w N → Φ w) (A0_ : Option Addr) (c0_ : Nat) (a0 : List (BitVec 8)) (a1 : Nat) (a2 : Nat) (a3 : Nat) (res0 : It) (res1 : Nat) (res2 : Nat) (va0 : View Φ A0_ a0.length c0_ 1 (u8s a0)) (ba1 : a1 ≤ 9223372036854775807) (ba2 : a2 ≤ 9223372036854775807) (ba3 : a3 ≤ 9223372036854775807) (hf : waybillref07_item a0 a1 a2 a3 = some (res0, res1, res2)) : DoesG Tryd.prog 99 [.slice A0_ a0.length c0_, .int .i64 ((a1 : Nat) : Int), .int .i64 ((a2 : Nat) : Int), .int .i64 ((a3 : Nat) : Int)] w0 [] N (fun v G => ∃ B : List Ent, ∃ cr0 : List Value, (ItRd (More w0 Φ B) cr0 res0) ∧ (res1 ≤ 9223372036854775807) ∧ (res2 ≤ 9223372036854775807) ∧ v = .tuple #[.agg cr0.toArray, .int .i64 ((res1 : Nat) : Int), .int .i64 ((res2 : Nat) : Int)] ∧ G = B) := waybillref07_item_rec w0 _ Φ N hΦ A0_ c0_ a0 a1 a2 a3 res0 res1 res2 va0 ba1 ba2 ba3 hf
theorem waybillref07_Decode_does (w0 : World) (Φ : Ctx) (N : List Ent) (hΦ : ∀ w, Mem w0 w N → Φ w) (A0_ : Option Addr) (c0_ : Nat) (a0 : List (BitVec 8)) (res0 : It) (res1 : Nat) (va0 : View Φ A0_ a0.length c0_ 1 (u8s a0)) (hf : waybillref07_Decode a0 = some (res0, res1)) : DoesG Tryd.prog 72 [.slice A0_ a0.length c0_] w0 [] N (fun v G => ∃ B : List Ent, ∃ cr0 : List Value, (ItRd (More w0 Φ B) cr0 res0) ∧ (res1 ≤ 9223372036854775807) ∧ v = .tuple #[.agg cr0.toArray, .int .i64 ((res1 : Nat) : Int)] ∧ G = B) := by
 unfold waybillref07_Decode at hf
 replace va0 := va0.mono (Ψ := More w0 Φ []) (fun w q => q.1)
 have m1 := va0.mx
 refine DoesG.enter Tryd.func72 rfl Tryd.ntmps72 rfl (M := (([] ++ N))) rfl (Z4 (Z2 (OW.alloc (l := [.bool false, .slice none 0 0, .slice none 0 0]) rfl rfl rfl (fun b2 => (Z0 (Z5 rfl) rfl (Z6 (Z1 (Z4 (Z4 (Z2 (Z0 (Z3 rfl) rfl (Z0 (RV.len rfl rfl) rfl (Z0 (RV.gtr rfl rfl) rfl ?_)))))))))))))
 refine Z7 (.bool (decide (16777216 < a0.length))) (congrArg Value.bool (decide_eq_decide.2 (by omega))) (Z6 (Z1 ?_))
 by_cases h3 : 16777216 < a0.length
 ·replace hf := if_t hf h3
  refine Z13 rfl (decide_eq_true h3) (Z4 (Z2 (Z0 (Z107 (l := [.bool false, .slice none 0 0, .slice none 0 0]) (cs := [.bool false, .slice none 0 0, .slice none 0 0]) [] rfl rfl rfl rfl rfl rfl rfl) rfl ?_)))
  refine Z28 (Z103 rfl rfl rfl (by intro u hu; simp at hu; rcases hu with rfl | rfl | rfl <;> rfl) rfl rfl rfl) ?_
  refine Z0 (Z5 rfl) rfl (Z6 (Z1 (CW.ret (Z8 ?_))))
  have er0 := Zi hf
  obtain ⟨e0, er1⟩ := Prod.mk.inj er0
  clear er0
  subst e0
  subst er1
  have v4 : View (More w0 Φ []) none ([] : List (BitVec 8)).length 0 1 (u8s []) := View.nil
  have v5 : View (More w0 Φ []) none ([] : List (It)).length 0 3 [] := View.nil
  refine Z104 (rs := [.cell 2 89, .tmp 3]) ([.agg [.bool false, .slice none 0 0, .slice none 0 0].toArray, .int .i64 (2 : Int)]) ([]) rfl ?_ rfl ?_ ?_ _ (.inl rfl)
  ·exact ⟨⟨_, _, _, _, rfl, Zh, rfl, rfl, rfl, rfl⟩, rfl, trivial⟩
  ·exact ⟨[], [.bool false, .slice none 0 0, .slice none 0 0], (ItRd.mk v4 v5 (Reps.nil)), (by omega), rfl, rfl⟩
  ·exact (fun w m => m.pick [] 1 rfl rfl)
 ·replace hf := if_f hf h3
  refine Z14 rfl (decide_eq_false h3) (CW.skip (Z1 (Z4 (Z2 (Z0 (Z3 rfl) rfl (Z0 (Z3 rfl) rfl (Z0 (RV.len rfl rfl) rfl ?_)))))))
  obtain ⟨⟨x7, x8, x9⟩, hx6, hf⟩ := Z100 hf
  try dsimp only at hf
  refine Z12 Tryd.call99 rfl (waybillref07_item_does w0 (More w0 Φ []) ((some b2, blk [.bool false, .slice none 0 0, .slice none 0 0] 89) :: ([] ++ N)) (fun w m => Z105 hΦ 1 m rfl) A0_ c0_ a0 0 a0.length 0 x7 x8 x9 va0 (by omega) (by omega) (by omega) hx6) rfl rfl ?_
  rintro L15 M16 ⟨B10, cs11, h12, b13, b14, e17, e18⟩
  rw [e17, e18]
  clear e17 e18 L15 M16
  refine Z20 (M' := ((some b2, blk [.bool false, .slice none 0 0, .slice none 0 0] 89) :: ((B10 ++ []) ++ N))) (fun w m => by have h := Z113 (A := B10) m 0 1 rfl rfl; exact h) ?_
  have gq1 : ∀ w, More w0 Φ (B10 ++ []) w → More w0 Φ [] w := fun w q => More.mono (fun w m => (m).appR) q
  replace va0 := va0.mono gq1
  replace h12 := ItRd.mono (Ψ := (More w0 Φ (B10 ++ []))) (fun w q => Z128 q) _ _ h12
  have h28 := h12
  obtain ⟨A19, c20, A22, c23, cs25, e27, v21, v24, h26⟩ := ItRd.opn h12
  subst e27
  have m29 := v21.mx
  have m30 := v24.mx
  have m31 := v21.mx
  have m32 := v24.mx
  refine Z0 (Z3 rfl) rfl (Z0 (Z17 rfl rfl) rfl (Z7 (.agg [.bool (x7.list), .slice A19 x7.data.length c20, .slice A22 x7.items.length c23].toArray) (rfl) (Z0 (Z17 rfl rfl) rfl (Z7 (.int .i64 ((x8 : Nat) : Int)) (rfl) (Z0 (Z17 rfl rfl) rfl (Z7 (.int .i64 ((x9 : Nat) : Int)) (rfl) (OW.alloc (l := [.bool false, .slice none 0 0, .slice none 0 0]) rfl rfl rfl (fun b33 => ?_))))))))
  refine Z28 (Z103 rfl rfl rfl (by intro u hu; simp at hu; rcases hu with rfl | rfl | rfl <;> rfl) rfl rfl rfl) ?_
  refine Z0 (Z5 rfl) rfl (Z0 (Z5 rfl) rfl (Z6 (Z1 (Z4 (Z4 (Z2 (Z0 (Z3 rfl) rfl (Z0 (RV.neq rfl rfl) rfl (Z7 (.bool (!decide (x9 = 0))) (congrArg (fun b => Value.bool (!b)) (decide_eq_decide.2 (by omega))) (Z6 (Z1 ?_)))))))))))
  by_cases h34 : x9 = 0
  ·replace hf := if_t hf h34
   refine Z14 rfl (congrArg (fun b => !b) (decide_eq_true h34)) (CW.skip (Z1 (Z4 (Z4 (Z2 (Z0 (Z3 rfl) rfl (Z0 (Z3 rfl) rfl (Z0 (RV.len rfl rfl) rfl (Z0 (RV.lss rfl rfl) rfl (Z7 (.bool (decide (x8 < a0.length))) (congrArg Value.bool (decide_eq_decide.2 (by omega))) (Z6 (Z1 ?_))))))))))))
   by_cases h35 : x8 < a0.length
   ·replace hf := if_t hf h35
    refine Z13 rfl (decide_eq_true h35) (Z4 (Z2 (Z0 (Z107 (l := [.bool false, .slice none 0 0, .slice none 0 0]) (cs := [.bool false, .slice none 0 0, .slice none 0 0]) [] rfl rfl rfl rfl rfl rfl rfl) rfl (OW.rot1 ?_))))
    refine Z28 (Z103 rfl rfl rfl (by intro u hu; simp at hu; rcases hu with rfl | rfl | rfl <;> rfl) rfl rfl rfl) ?_
    refine Z0 (Z5 rfl) rfl (Z6 (Z1 (CW.ret (Z8 ?_))))
    have er0 := Zi hf
    obtain ⟨e0, er1⟩ := Prod.mk.inj er0
    clear er0
    subst e0
    subst er1
    have v36 : View (More w0 Φ (B10 ++ [])) none ([] : List (BitVec 8)).length 0 1 (u8s []) := View.nil
    have v37 : View (More w0 Φ (B10 ++ [])) none ([] : List (It)).length 0 3 [] := View.nil
    refine Z104 (rs := [.cell 2 89, .tmp 3]) ([.agg [.bool false, .slice none 0 0, .slice none 0 0].toArray, .int .i64 (73 : Int)]) ((B10 ++ [])) rfl ?_ rfl ?_ ?_ _ (.inl rfl)
    ·exact ⟨⟨_, _, _, _, rfl, Zh, rfl, rfl, rfl, rfl⟩, rfl, trivial⟩
    ·exact ⟨(B10 ++ []), [.bool false, .slice none 0 0, .slice none 0 0], (ItRd.mk v36 v37 (Reps.nil)), (by omega), rfl, rfl⟩
    ·exact (fun w m => m.pick [] 2 rfl rfl)
   ·replace hf := if_f hf h35
    refine Z14 rfl (decide_eq_false h35) (CW.skip (Z1 (Z4 (Z2 (Z0 (Z22 rfl Zh rfl rfl rfl rfl rfl) rfl (OW.rot1 ?_))))))
    refine Z28 (Z103 rfl rfl rfl (by intro u hu; simp at hu; rcases hu with rfl | rfl | rfl <;> rfl) rfl rfl rfl) ?_
    refine Z0 (Z5 rfl) rfl (Z6 (Z1 (CW.ret ?_)))
    have er0 := Zi hf
    obtain ⟨e0, er1⟩ := Prod.mk.inj er0
    clear er0
    subst e0
    subst er1
    refine Z104 (rs := [.cell 2 89, .tmp 3]) ([.agg [.bool (x7.list), .slice A19 x7.data.length c20, .slice A22 x7.items.length c23].toArray, .int .i64 (0 : Int)]) ((B10 ++ [])) rfl ?_ rfl ?_ ?_ _ (.inl rfl)
    ·exact ⟨⟨_, _, _, _, rfl, Zh, rfl, rfl, rfl, rfl⟩, rfl, trivial⟩
    ·exact ⟨(B10 ++ []), [.bool (x7.list), .slice A19 x7.data.length c20, .slice A22 x7.items.length c23], h28, (by omega), rfl, rfl⟩
    ·exact (fun w m => m.pick [] 2 rfl rfl)
  ·replace hf := if_f hf h34
   refine Z13 rfl (congrArg (fun b => !b) (decide_eq_false h34)) (Z4 (Z2 (Z0 (Z107 (l := [.bool false, .slice none 0 0, .slice none 0 0]) (cs := [.bool false, .slice none 0 0, .slice none 0 0]) [] rfl rfl rfl rfl rfl rfl rfl) rfl (Z0 (Z3 rfl) rfl (OW.rot1 ?_)))))
   refine Z28 (Z103 rfl rfl rfl (by intro u hu; simp at hu; rcases hu with rfl | rfl | rfl <;> rfl) rfl rfl rfl) ?_
   refine Z0 (Z5 rfl) rfl (Z6 (Z1 (CW.ret (Z8 ?_))))
   have er0 := Zi hf
   obtain ⟨e0, er1⟩ := Prod.mk.inj er0
   clear er0
   subst e0
   subst er1
   have v38 : View (More w0 Φ (B10 ++ [])) none ([] : List (BitVec 8)).length 0 1 (u8s []) := View.nil
   have v39 : View (More w0 Φ (B10 ++ [])) none ([] : List (It)).length 0 3 [] := View.nil
   refine Z104 (rs := [.cell 2 89, .tmp 3]) ([.agg [.bool false, .slice none 0 0, .slice none 0 0].toArray, .int .i64 ((x9 : Nat) : Int)]) ((B10 ++ [])) rfl ?_ rfl ?_ ?_ _ (.inl rfl)
   ·exact ⟨⟨_, _, _, _, rfl, Zh, rfl, rfl, rfl, rfl⟩, rfl, trivial⟩
   ·exact ⟨(B10 ++ []), [.bool false, .slice none 0 0, .slice none 0 0], (ItRd.mk v38 v39 (Reps.nil)), (by omega), rfl, rfl⟩
   ·exact (fun w m => m.pick [] 2 rfl rfl)
theorem Z159 (w0 : World) (Φ : Ctx) (N : List Ent) (hΦ : ∀ w, Mem w0 w N → Φ w) (b0_ : Nat) (a0 : Sponge) (new0 : Sponge) (hf : keccak_Sponge_absorb a0 = some new0) : DoesG Tryd.prog 142 [ptr (some b0_) 0] w0 [(some b0_, blk a0.C 186)] N (fun v G => ∃ B : List Ent, v = .tuple #[] ∧ G = (some b0_, blk new0.C 186) :: B) := by
 unfold keccak_Sponge_absorb at hf
 refine DoesG.enter Tryd.func142 rfl Tryd.ntmps142 rfl (M := ((some b0_, blk a0.C 186) :: ([] ++ N))) rfl (Z4 (Z4 (Z2 (Z0 (Z3 rfl) rfl (Z0 (RV.nilCheck rfl) rfl (Z0 (Z30 rfl rfl rfl rfl) rfl (Z7 (ptr (some b0_) 26) rfl (Z0 (RV.loadAo rfl Zh rfl rfl rfl rfl (Sponge.C_part_all _) ((Z102 _).trans Zv)) rfl (Z0 (Z3 rfl) rfl ?_)))))))))
 refine Z6 (Z1 ?_)
 obtain ⟨q1, hq2, hf⟩ := Z100 hf
 refine Z115 (fun L' M' => ∃ w3 : Sponge, q1 = w3 ∧ L' = [(0, ptr (some b0_) 0)] ∧ M' = ((some b0_, blk w3.C 186) :: ([] ++ N))) ?_ ?_
 ·rintro L5 M6 ⟨w3, e4, e7, e8⟩
  rw [e7, e8]
  clear e7 e8 L5 M6
  clear hq2
  rw [e4] at hf
  clear e4
  try dsimp only at hf
  refine Z1 (Z4 (Z2 (Z0 (Z3 rfl) rfl (Z0 (Z3 rfl) rfl (Z0 (RV.nilCheck rfl) rfl (Z0 (Z30 rfl rfl rfl rfl) rfl (Z7 (ptr (some b0_) 1) rfl (Z0 (RV.loadAo rfl Zh rfl rfl rfl rfl (Sponge.C_lanes_all _) ((Z101 _).trans Zv)) rfl ?_))))))))
  obtain ⟨x10, hx9, hf⟩ := Z100 hf
  refine Z12 Tryd.call149 rfl (keccak_Permute_does w0 (More w0 Φ []) ((some b0_, blk w3.C 186) :: ([] ++ N)) (fun w m => Z105 hΦ 1 m rfl) w3.lanes x10 hx9) rfl rfl ?_
  rintro _ G11 rfl
  refine Z20 (M' := ((some b0_, blk w3.C 186) :: ([] ++ N))) (fun w m => m.appR) (Z0 (RV.nilCheck rfl) rfl (Z0 (Z30 rfl rfl rfl rfl) rfl (Z7 (ptr (some b0_) 1) rfl ?_)))
  refine Z28 (SV.storeAs rfl rfl rfl (Z118 _) rfl ((Z101 _).trans Zv) (by rw [Sponge.C_length]; first | omega | decide)) ?_
  refine OW.cells ({ w3 with lanes := x10 } : Sponge).C (Sponge.C_lanes_spl _ _) (Z6 (Z1 (Z2 (Z0 (Z3 rfl) rfl (Z0 (RV.nilCheck rfl) rfl (Z0 (Z30 rfl rfl rfl rfl) rfl (Z7 (ptr (some b0_) 162) rfl (Z28 (SV.store rfl rfl rfl rfl rfl (by rw [Sponge.C_length]; omega)) (OW.cells ({ ({ w3 with lanes := x10 } : Sponge) with held := (0 : Int) } : Sponge).C (Sponge.C_held_set _ _) ?_)))))))))
  refine Z6 ?_
  have e0 := Zi hf
  subst e0
  refine Z104 (rs := []) ([]) ((some b0_, blk ({ ({ w3 with lanes := x10 } : Sponge) with held := (0 : Int) } : Sponge).C 186) :: []) rfl ?_ rfl ?_ ?_ _ (.inr rfl)
  ·exact trivial
  ·exact ⟨[], rfl, rfl⟩
  ·exact (fun w m => m.pick [0] 1 rfl rfl)
 ·skip
  refine CW.block (Z121 (fun k L' M' => ∃ n13 : Nat, ∃ w15 : Sponge, (keccak_Sponge_absorb.l1 a0 k n13 w15) = some q1 ∧ (n13 ≤ 9223372036854775807) ∧ L' = [(0, ptr (some b0_) 0), (7, .agg (u8s a0.part.toList).toArray), (8, .int .i64 ((n13 : Nat) : Int))] ∧ M' = ((some b0_, blk w15.C 186) :: ([] ++ N))) (k0 := (136 - 0 + 2)) ⟨0, a0, hq2, (by omega), rfl, rfl⟩ ⟨rfl, rfl, rfl, trivial⟩ (fun w m => m.pick [0] 1 rfl rfl) ?_)
  clear hq2
  rintro k16 L19 M20 ⟨n13, w15, hl17, b14, e21, e22⟩
  rw [e21, e22]
  clear e21 e22 L19 M20
  rcases k16 with _ | k16
  ·rw [keccak_Sponge_absorb.l1] at hl17; cases hl17
  rw [keccak_Sponge_absorb.l1] at hl17
  refine Z4 (Z2 (Z0 (RV.lss rfl rfl) rfl (Z7 (.bool (decide (n13 < 136))) (congrArg Value.bool (decide_eq_decide.2 (by omega))) (Z6 (Z1 (Z4 ?_))))))
  by_cases h23 : n13 < 136
  ·replace hl17 := if_t hl17 h23
   refine Z13 rfl (decide_eq_true h23) (CW.skip (Z1 (Z4 (CW.block (Z4 (Z2 (Z0 (Z3 rfl) rfl ?_)))))))
   obtain ⟨x24, hx25, hl17⟩ := Z100 hl17
   have hl26 := (Vector.getElem?_eq_some_iff.1 hx25).1
   refine Z0 (RV.indexV (n13) rfl rfl rfl rfl rfl rfl rfl (by omega) (Z148 (vat hx25))) rfl (Z0 (Z5 rfl) rfl (Z0 (Z5 rfl) rfl (Z6 (Z1 (Z137 (([] ++ N)) [17] (fun w m => m.pick [] 1 rfl rfl) mixed (by kernel_rfl) (Z10 0 rfl (by kernel_rfl) rfl (Z3 rfl) rfl (Z10 1 rfl (by kernel_rfl) rfl (Z3 rfl) rfl (Z10 2 rfl (by kernel_rfl) rfl (RV.quo rfl rfl (by omega) (by omega) (by omega)) rfl ?_))))))))
   refine XW.slot (.int .i64 ((n13 / 8 : Nat) : Int)) (by first | rfl | (congr 1; omega)) (Z10 3 rfl (by kernel_rfl) rfl (RV.nilCheck rfl) rfl (Z10 4 rfl (by kernel_rfl) rfl (Z30 rfl rfl rfl rfl) rfl (XW.slot (ptr (some b0_) 1) rfl ?_)))
   obtain ⟨g27, hl17⟩ := Z112 hl17
   refine Z10 5 rfl (by kernel_rfl) rfl (Z109 ((n13 / 8)) rfl rfl rfl rfl rfl (by omega)) rfl ?_
   obtain ⟨x28, hx29, hl17⟩ := Z100 hl17
   refine XW.rv 6 rfl (by kernel_rfl) rfl (by kernel_rfl) (Z29 rfl Zh rfl rfl rfl (Sponge.C_lanes _ hx29)) rfl (Z10 7 rfl (by kernel_rfl) rfl (Z3 rfl) rfl (Z10 8 rfl (by kernel_rfl) rfl (RV.conv8_64 rfl (by first | rfl | exact lit8 _ rfl) rfl rfl) rfl (Z10 9 rfl (by kernel_rfl) rfl (Z3 rfl) rfl (Z10 10 rfl (by kernel_rfl) rfl (RV.rem rfl rfl (by omega) (by omega)) rfl (XW.slot (.int .i64 ((n13 % 8 : Nat) : Int)) (by first | rfl | (congr 1; omega)) (Z10 11 rfl (by kernel_rfl) rfl (RV.mul rfl rfl (by omega)) rfl (XW.slot (.int .i64 (((8 * (n13 % 8)) : Nat) : Int)) (by first | rfl | (congr 1) | (congr 1; omega)) ?_)))))))
   refine Z10 12 rfl (by kernel_rfl) rfl (RV.shl64 (s := (8 * (n13 % 8))) rfl (by first | rfl | exact lit64 _ rfl) rfl (by first | rfl | (congr 1))) rfl (Z10 13 rfl (by kernel_rfl) rfl (Z157 rfl (by first | rfl | exact lit64 _ rfl) rfl (by first | rfl | exact lit64 _ rfl)) rfl (Z10 14 rfl (by kernel_rfl) rfl (RV.nilCheck rfl) rfl (Z10 15 rfl (by kernel_rfl) rfl (Z30 rfl rfl rfl rfl) rfl (XW.slot (ptr (some b0_) 1) rfl (Z10 16 rfl (by kernel_rfl) rfl (Z109 ((n13 / 8)) rfl rfl rfl rfl rfl (by omega)) rfl (XW.sv 17 rfl (by kernel_rfl) (SV.store rfl rfl rfl rfl rfl (by rw [Sponge.C_length]; omega)) (fun w m => m.pick [] 1 rfl rfl) (XW.cells ({ w15 with lanes := w15.lanes.setIfInBounds (n13 / 8) (x28 ^^^ ((x24.setWidth 64) <<< (8 * (n13 % 8)))) } : Sponge).C (Sponge.C_lanes_set _ (by omega) _) ?_)))))))
   refine XW.nil (by kernel_rfl) (Z27 (Z1 (Z2 (Z0 (RV.add rfl rfl (by omega)) rfl (Z7 (.int .i64 (((n13 + 1) : Nat) : Int)) (by first | rfl | (congr 1) | (congr 1; omega)) (Z0 (Z3 rfl) rfl (Z6 ?_)))))))
   exact Z114 (k' := k16) (Nat.lt_succ_self _) ⟨(n13 + 1), ({ w15 with lanes := w15.lanes.setIfInBounds (n13 / 8) (x28 ^^^ ((x24.setWidth 64) <<< (8 * (n13 % 8)))) } : Sponge), hl17, (by omega), rfl, rfl⟩ ⟨rfl, rfl, rfl, trivial⟩ (fun w m => m.pick [0] 1 rfl rfl)
  ·replace hl17 := if_f hl17 h23
   refine Z14 rfl (decide_eq_false h23) (CW.exit (Z9 (Z9 (Z15 ?_))))
   exact QW.join ⟨w15, (Zi hl17).symm, rfl, rfl⟩ ⟨rfl, trivial⟩ (fun w m => m.pick [0] 1 rfl rfl)
theorem keccak_Sponge_Write_does (w0 : World) (Φ : Ctx) (N : List Ent) (hΦ : ∀ w, Mem w0 w N → Φ w) (b0_ : Nat) (a0 : Sponge) (A1_ : Option Addr) (c1_ : Nat) (a1 : List (BitVec 8)) (new0 : Sponge) (va1 : View Φ A1_ a1.length c1_ 1 (u8s a1)) (hf : keccak_Sponge_Write a0 a1 = some new0) : DoesG Tryd.prog 129 [ptr (some b0_) 0, .slice A1_ a1.length c1_] w0 [(some b0_, blk a0.C 186)] N (fun v G => ∃ B : List Ent, v = .tuple #[] ∧ G = (some b0_, blk new0.C 186) :: B) := by
 unfold keccak_Sponge_Write at hf
 replace va1 := va1.mono (Ψ := More w0 Φ []) (fun w q => q.1)
 have m1 := va1.mx
 refine DoesG.enter Tryd.func129 rfl Tryd.ntmps129 rfl (M := ((some b0_, blk a0.C 186) :: ([] ++ N))) rfl (Z4 (Z4 (Z2 (Z0 (Z3 rfl) rfl (Z0 (RV.eqlS rfl rfl rfl) rfl (Z6 (Z1 (Z14 rfl rfl (CW.skip (Z1 (Z4 (Z2 (Z0 (Z3 rfl) rfl ?_)))))))))))))
 refine Z0 (RV.nilCheck rfl) rfl (Z0 (Z30 rfl rfl rfl rfl) rfl (Z7 (ptr (some b0_) 163) rfl (Z0 (Z29 rfl Zh rfl rfl rfl (Sponge.C_long _)) rfl (Z0 (Z3 rfl) rfl (Z0 (RV.len rfl rfl) rfl ?_)))))
 obtain ⟨g2, hf⟩ := Z112 hf
 refine Z0 (RV.add rfl rfl (by omega)) rfl (Z0 (RV.nilCheck rfl) rfl (Z0 (Z30 rfl rfl rfl rfl) rfl (Z7 (ptr (some b0_) 163) rfl (Z28 (SV.store rfl rfl rfl rfl rfl (by rw [Sponge.C_length]; omega)) (OW.cells ({ a0 with long := (a0.long + ((a1.length : Nat) : Int)) } : Sponge).C (Sponge.C_long_set _ _) (Z6 (Z1 ?_)))))))
 obtain ⟨q3, hq4, hf⟩ := Z100 hf
 refine Z115 (fun L' M' => ∃ w7 : Sponge, ∃ B5 : List Ent, q3 = w7 ∧ (∀ w, Mem w0 w B5 → Mem w0 w []) ∧ L' = [] ∧ M' = ((some b0_, blk w7.C 186) :: (B5 ++ N))) ?_ ?_
 ·rintro L9 M10 ⟨w7, B5, e8, hB6, e11, e12⟩
  rw [e11, e12]
  clear e11 e12 L9 M10
  clear hq4
  rw [e8] at hf
  clear e8
  try dsimp only at hf
  have e0 := Zi hf
  subst e0
  refine Z104 (rs := []) ([]) ((some b0_, blk w7.C 186) :: B5) rfl ?_ rfl ?_ ?_ _ (.inr rfl)
  ·exact trivial
  ·exact ⟨B5, rfl, rfl⟩
  ·exact (fun w m => m.pick [0] 1 rfl rfl)
 ·skip
  refine CW.block (Z121 (fun k L' M' => ∃ l15 : List (BitVec 8), ∃ w19 : Sponge, ∃ B13 : List Ent, ∃ A16 : Option Addr, ∃ c17 : Nat, (keccak_Sponge_Write.l1 k l15 w19) = some q3 ∧ (∀ w, Mem w0 w B13 → Mem w0 w []) ∧ (View (More w0 Φ B13) A16 l15.length c17 1 (u8s l15)) ∧ L' = [(0, ptr (some b0_) 0), (1, .slice A16 l15.length c17)] ∧ M' = ((some b0_, blk w19.C 186) :: (B13 ++ N))) (k0 := (a1.length - 0 + 2)) ⟨a1, ({ a0 with long := (a0.long + ((a1.length : Nat) : Int)) } : Sponge), [], A1_, c1_, hq4, (fun w m => m), va1, rfl, rfl⟩ ⟨rfl, rfl, trivial⟩ (fun w m => m.pick [0] 1 rfl rfl) ?_)
  clear hq4
  rintro k20 L23 M24 ⟨l15, w19, B13, A16, c17, hl21, hB14, v18, e25, e26⟩
  rw [e25, e26]
  clear e25 e26 L23 M24
  rcases k20 with _ | k20
  ·rw [keccak_Sponge_Write.l1] at hl21; cases hl21
  rw [keccak_Sponge_Write.l1] at hl21
  have m27 := v18.mx
  refine Z4 (Z4 (Z2 (Z0 (Z3 rfl) rfl (Z0 (RV.len rfl rfl) rfl (Z0 (RV.gtr rfl rfl) rfl (Z7 (.bool (decide (0 < l15.length))) (congrArg Value.bool (decide_eq_decide.2 (by omega))) (Z6 (Z1 ?_))))))))
  by_cases h28 : 0 < l15.length
  ·replace hl21 := if_t hl21 h28
   refine Z13 rfl (decide_eq_true h28) (CW.skip (Z1 (CW.block (Z4 (Z138 9 mixed (by kernel_rfl) rfl (Z18 0 rfl (by kernel_rfl) rfl (Z3 rfl) rfl (Z18 1 rfl (by kernel_rfl) rfl (RV.nilCheck rfl) rfl (Z18 2 rfl (by kernel_rfl) rfl (Z30 rfl rfl rfl rfl) rfl (UW.slot (ptr (some b0_) 26) rfl (Z18 3 rfl (by kernel_rfl) rfl (Z3 rfl) rfl ?_))))))))))
   refine Z18 4 rfl (by kernel_rfl) rfl (RV.nilCheck rfl) rfl (Z18 5 rfl (by kernel_rfl) rfl (Z30 rfl rfl rfl rfl) rfl (UW.slot (ptr (some b0_) 162) rfl (Z18 6 rfl (by kernel_rfl) rfl (Z29 rfl Zh rfl rfl rfl (Sponge.C_held _)) rfl ?_)))
   obtain ⟨g29, hl21⟩ := Z112 hl21
   obtain ⟨g30, hl21⟩ := Z112 hl21
   refine Z18 7 rfl (by kernel_rfl) rfl (RV.arr_loS ((w19.held).toNat) rfl rfl (by omega) rfl rfl (by omega)) rfl (Z18 8 rfl (by kernel_rfl) rfl (Z3 rfl) rfl (UW.nil (by kernel_rfl) (OW.copy (ob := some b0_) (off := 26 + ((w19.held).toNat)) rfl rfl rfl rfl (fun h => nomatch h) (by rw [Sponge.C_length]; omega) (fun w m => v18.rd w (Z105 hΦ 1 m rfl)) (Z102 _) (Z129 _) (v18.zero (by decide)) rfl ?_)))
   refine OW.cells ({ w19 with part := cpV w19.part ((w19.held).toNat) (l15.take (min l15.length (136 - ((w19.held).toNat)))) } : Sponge).C (by rw [u8s_take]; exact Sponge.C_part_cpy _ (by rw [List.length_take]; omega)) ?_
   refine Z0 (Z5 rfl) rfl (Z6 (Z1 (Z4 (Z2 (Z0 (Z3 rfl) rfl (Z0 (Z3 rfl) rfl ?_))))))
   obtain ⟨g32, hl21⟩ := Z112 hl21
   refine Z0 (RV.cut_lo (s := 1) ((min l15.length (136 - ((w19.held).toNat)))) rfl rfl (by omega) rfl rfl (by omega)) rfl (Z7 (.slice (subA A16 c17 (min l15.length (136 - ((w19.held).toNat))) 1) (l15.drop (min l15.length (136 - ((w19.held).toNat)))).length (c17 - (min l15.length (136 - ((w19.held).toNat))))) (by rw [show ((l15.drop (min l15.length (136 - ((w19.held).toNat))))).length = (l15).length - ((min l15.length (136 - ((w19.held).toNat)))) from List.length_drop]) ?_)
   have v31 : View (More w0 Φ B13) (subA A16 c17 (min l15.length (136 - ((w19.held).toNat))) 1) (l15.drop (min l15.length (136 - ((w19.held).toNat)))).length (c17 - (min l15.length (136 - ((w19.held).toNat)))) 1 (u8s (l15.drop (min l15.length (136 - ((w19.held).toNat))))) := v18.lo8 (by omega)
   have m33 := v31.mx
   refine Z0 (Z5 rfl) rfl (Z6 (Z1 (Z4 (Z2 (Z0 (Z3 rfl) rfl (Z0 (RV.nilCheck rfl) rfl (Z0 (Z30 rfl rfl rfl rfl) rfl (Z7 (ptr (some b0_) 162) rfl (Z0 (Z29 rfl Zh rfl rfl rfl (Sponge.C_held _)) rfl (Z0 (Z3 rfl) rfl ?_))))))))))
   obtain ⟨g34, hl21⟩ := Z112 hl21
   refine Z0 (RV.add rfl rfl (by omega)) rfl (Z0 (RV.nilCheck rfl) rfl (Z0 (Z30 rfl rfl rfl rfl) rfl (Z7 (ptr (some b0_) 162) rfl (Z28 (SV.store rfl rfl rfl rfl rfl (by rw [Sponge.C_length]; omega)) (OW.cells ({ ({ w19 with part := cpV w19.part ((w19.held).toNat) (l15.take (min l15.length (136 - ((w19.held).toNat)))) } : Sponge) with held := (({ w19 with part := cpV w19.part ((w19.held).toNat) (l15.take (min l15.length (136 - ((w19.held).toNat)))) } : Sponge).held + (((min l15.length (136 - ((w19.held).toNat))) : Nat) : Int)) } : Sponge).C (Sponge.C_held_set _ _) (Z6 (Z1 (Z4 (Z2 (Z0 (Z3 rfl) rfl ?_))))))))))
   refine Z0 (RV.nilCheck rfl) rfl (Z0 (Z30 rfl rfl rfl rfl) rfl (Z7 (ptr (some b0_) 162) rfl (Z0 (Z29 rfl Zh rfl rfl rfl (Sponge.C_held _)) rfl (Z0 (RV.eql rfl rfl) rfl (Z6 (Z1 ?_))))))
   obtain ⟨q35, hq36, hl21⟩ := Z100 hl21
   refine Z115 (fun L' M' => ∃ w39 : Sponge, ∃ B37 : List Ent, q35 = w39 ∧ (∀ w, Mem w0 w B37 → Mem w0 w B13) ∧ L' = [(0, ptr (some b0_) 0), (1, .slice (subA A16 c17 (min l15.length (136 - ((w19.held).toNat))) 1) (l15.drop (min l15.length (136 - ((w19.held).toNat)))).length (c17 - (min l15.length (136 - ((w19.held).toNat)))))] ∧ M' = ((some b0_, blk w39.C 186) :: (B37 ++ N))) ?_ ?_
   ·rintro L41 M42 ⟨w39, B37, e40, hB38, e43, e44⟩
    rw [e43, e44]
    clear e43 e44 L41 M42
    clear hq36
    rw [e40] at hl21
    clear e40
    try dsimp only at hl21
    have gq3 : ∀ w, More w0 Φ B37 w → More w0 Φ B13 w := fun w q => More.mono (fun w m => hB38 w (m)) q
    replace v31 := v31.mono gq3
    refine Z27 ?_
    exact Z114 (k' := k20) (Nat.lt_succ_self _) ⟨(l15.drop (min l15.length (136 - ((w19.held).toNat)))), w39, B37, (subA A16 c17 (min l15.length (136 - ((w19.held).toNat))) 1), (c17 - (min l15.length (136 - ((w19.held).toNat)))), hl21, (fun w m => hB14 w (hB38 w (m))), v31, rfl, rfl⟩ ⟨rfl, rfl, trivial⟩ (fun w m => m.pick [0] 1 rfl rfl)
   ·skip
    by_cases h45 : ({ ({ w19 with part := cpV w19.part ((w19.held).toNat) (l15.take (min l15.length (136 - ((w19.held).toNat)))) } : Sponge) with held := (({ w19 with part := cpV w19.part ((w19.held).toNat) (l15.take (min l15.length (136 - ((w19.held).toNat)))) } : Sponge).held + (((min l15.length (136 - ((w19.held).toNat))) : Nat) : Int)) } : Sponge).held = (136 : Int)
    ·replace hq36 := if_t hq36 h45
     refine Z13 rfl (decide_eq_true h45) (Z2 (Z0 (Z3 rfl) rfl ?_))
     obtain ⟨x47, hx46, hq36⟩ := Z100 hq36
     refine Z12 Tryd.call142 rfl (Z159 w0 (More w0 Φ B13) ((B13 ++ N)) (fun w m => Z105 hΦ 0 m rfl) b0_ ({ ({ w19 with part := cpV w19.part ((w19.held).toNat) (l15.take (min l15.length (136 - ((w19.held).toNat)))) } : Sponge) with held := (({ w19 with part := cpV w19.part ((w19.held).toNat) (l15.take (min l15.length (136 - ((w19.held).toNat)))) } : Sponge).held + (((min l15.length (136 - ((w19.held).toNat))) : Nat) : Int)) } : Sponge) x47 hx46) rfl rfl ?_
     rintro L49 M50 ⟨B48, e51, e52⟩
     rw [e51, e52]
     clear e51 e52 L49 M50
     refine Z20 (M' := ((some b0_, blk x47.C 186) :: ((B48 ++ B13) ++ N))) (fun w m => by have h := Z113 (A := B48) m 1 0 rfl rfl; exact h) ?_
     have gq4 : ∀ w, More w0 Φ (B48 ++ B13) w → More w0 Φ B13 w := fun w q => More.mono (fun w m => (m).appR) q
     replace v31 := v31.mono gq4
     replace v18 := v18.mono gq4
     refine Z6 ?_
     exact QW.join ⟨x47, (B48 ++ B13), (Zi hq36).symm, (fun w m => (m).appR), rfl, rfl⟩ ⟨rfl, rfl, trivial⟩ (fun w m => m.pick [0] 1 rfl rfl)
    ·replace hq36 := if_f hq36 h45
     refine Z14 rfl (decide_eq_false h45) (CW.skip ?_)
     exact QW.join ⟨({ ({ w19 with part := cpV w19.part ((w19.held).toNat) (l15.take (min l15.length (136 - ((w19.held).toNat)))) } : Sponge) with held := (({ w19 with part := cpV w19.part ((w19.held).toNat) (l15.take (min l15.length (136 - ((w19.held).toNat)))) } : Sponge).held + (((min l15.length (136 - ((w19.held).toNat))) : Nat) : Int)) } : Sponge), B13, (Zi hq36).symm, (fun w m => m), rfl, rfl⟩ ⟨rfl, rfl, trivial⟩ (fun w m => m.pick [0] 1 rfl rfl)
  ·replace hl21 := if_f hl21 h28
   refine Z14 rfl (decide_eq_false h28) (CW.exit (Z9 (Z9 (Z15 ?_))))
   exact QW.join ⟨w19, B13, (Zi hl21).symm, (fun w m => hB14 w (m)), rfl, rfl⟩ trivial (fun w m => m.pick [0] 1 rfl rfl)
theorem keccak_Sponge_Sum_does (w0 : World) (Φ : Ctx) (N : List Ent) (hΦ : ∀ w, Mem w0 w N → Φ w) (b0_ : Nat) (a0 : Sponge) (res0 : Vector (BitVec 8) 32) (new0 : Sponge) (hg2 : View Φ (some ⟨2, 0, none⟩) 2 2 1 (u8s firstL)) (hf : keccak_Sponge_Sum a0 = some (res0, new0)) : DoesG Tryd.prog 130 [ptr (some b0_) 0] w0 [(some b0_, blk a0.C 186)] N (fun v G => ∃ B : List Ent, v = .agg (u8s res0.toList).toArray ∧ G = (some b0_, blk new0.C 186) :: B) := by
 unfold keccak_Sponge_Sum at hf
 replace hg2 := hg2.mono (Ψ := More w0 Φ []) (fun w q => q.1)
 refine DoesG.enter Tryd.func130 rfl Tryd.ntmps130 rfl (M := ((some b0_, blk a0.C 186) :: ([] ++ N))) rfl (Z4 (Z2 (OW.alloc (l := (u8s (Vector.replicate 32 0#8).toList)) rfl (by rw [Vector.toList_replicate, ← Z135]; rfl) rfl (fun b1 => (Z6 (Z1 (Z4 (Z4 (Z2 (Z0 (Z3 rfl) rfl (Z0 (RV.eqlS rfl rfl rfl) rfl (Z6 (Z1 (Z14 rfl rfl ?_))))))))))))))
 refine CW.skip (Z1 (Z4 (Z2 (Z0 (Z3 rfl) rfl (Z0 (RV.nilCheck rfl) rfl (Z0 (Z22 rfl (List.Mem.tail _ Zh) rfl rfl rfl rfl (Sponge.C_length _)) rfl (OW.alloc (l := (⟨0, (Vector.replicate 25 0#64), (Vector.replicate 136 0#8), 0, 0⟩ : Sponge).C) rfl (by kernel_rfl) rfl (fun b2 => (Z28 (Z103 rfl rfl rfl (Sponge.C_one _) rfl (Sponge.C_length _) (Sponge.C_length _)) (Z6 (Z1 (Z4 (Z2 (Z0 (Z30 rfl rfl rfl rfl) rfl ?_))))))))))))))
 refine Z7 (ptr (some b2) 26) rfl (Z0 (Z30 rfl rfl rfl rfl) rfl (Z7 (ptr (some b2) 162) rfl (Z0 (Z29 rfl Zh rfl rfl rfl (Sponge.C_held _)) rfl ?_)))
 obtain ⟨g3, hf⟩ := Z112 hf
 obtain ⟨g4, hf⟩ := Z112 hf
 refine Z0 (RV.arr_loS ((a0.held).toNat) rfl rfl (by omega) rfl rfl (by omega)) rfl (OW.clear (z := .int .u8 0) (b := b2) (off := 26 + ((a0.held).toNat)) rfl rfl rfl rfl rfl (by omega) (by rw [Sponge.C_length]; omega) ?_)
 refine OW.cells ({ a0 with part := cpV a0.part ((a0.held).toNat) (List.replicate (136 - ((a0.held).toNat)) 0#8) } : Sponge).C (by rw [u8s_rep0]; exact Sponge.C_part_cpy _ (by rw [List.length_replicate]; omega)) ?_
 refine Z6 (Z1 (Z4 (Z137 ((some b1, blk (u8s (Vector.replicate 32 0#8).toList) 24) :: (some b0_, blk a0.C 186) :: ([] ++ N)) [12] (fun w m => m.pick [1, 2] 3 rfl rfl) mixed (by kernel_rfl) (Z10 0 rfl (by kernel_rfl) rfl (Z30 rfl rfl rfl rfl) rfl (XW.slot (ptr (some b2) 162) rfl (XW.rv 1 rfl (by kernel_rfl) rfl (by kernel_rfl) (Z29 rfl Zh rfl rfl rfl (Sponge.C_held _)) rfl (Z10 2 rfl (by kernel_rfl) rfl (Z30 rfl rfl rfl rfl) rfl (XW.slot (ptr (some b2) 26) rfl ?_))))))))
 obtain ⟨g5, hf⟩ := Z112 hf
 obtain ⟨g6, hf⟩ := Z112 hf
 refine Z10 3 rfl (by kernel_rfl) rfl (Z109 ((({ a0 with part := cpV a0.part ((a0.held).toNat) (List.replicate (136 - ((a0.held).toNat)) 0#8) } : Sponge).held).toNat) rfl rfl (by omega) rfl rfl (by omega)) rfl ?_
 obtain ⟨x7, hx8, hf⟩ := Z100 hf
 refine XW.rv 4 rfl (by kernel_rfl) rfl (by kernel_rfl) (Z29 rfl Zh rfl rfl rfl (Sponge.C_part _ hx8)) rfl (Z10 5 rfl (by kernel_rfl) rfl (Z30 rfl rfl rfl rfl) rfl (XW.slot (ptr (some b2) 0) rfl (XW.rv 6 rfl (by kernel_rfl) rfl (by kernel_rfl) (Z29 rfl Zh rfl rfl rfl (Sponge.C_kind _)) rfl ?_)))
 obtain ⟨g9, hf⟩ := Z112 hf
 obtain ⟨x10, hx11, hf⟩ := Z100 hf
 have hl12 : (({ a0 with part := cpV a0.part ((a0.held).toNat) (List.replicate (136 - ((a0.held).toNat)) 0#8) } : Sponge).kind).toNat < 2 := Z111 hx11
 refine Z10 7 rfl (by kernel_rfl) rfl (RV.idx_arr_at (a := ⟨2, 0, none⟩) rfl rfl rfl rfl (by omega) (by omega)) rfl (XW.slot (rptr (some ⟨2, 0, none⟩) ((({ a0 with part := cpV a0.part ((a0.held).toNat) (List.replicate (136 - ((a0.held).toNat)) 0#8) } : Sponge).kind).toNat)) (congrArg (fun k => Value.pointer (some (Addr.add ⟨2, 0, none⟩ k))) (Nat.mul_one _)) (Z10 8 rfl (by kernel_rfl) rfl (Z21 rfl rfl rfl (fun w m => hg2.cell (Z105 hΦ 2 m rfl) (Z148 hx11))) rfl (Z10 9 rfl (by kernel_rfl) rfl (RV.xor8 rfl (by first | rfl | exact lit8 _ rfl) rfl (by first | rfl | exact lit8 _ rfl)) rfl (Z10 10 rfl (by kernel_rfl) rfl (Z30 rfl rfl rfl rfl) rfl (XW.slot (ptr (some b2) 26) rfl (Z10 11 rfl (by kernel_rfl) rfl (Z109 ((({ a0 with part := cpV a0.part ((a0.held).toNat) (List.replicate (136 - ((a0.held).toNat)) 0#8) } : Sponge).held).toNat) rfl rfl (by omega) rfl rfl (by omega)) rfl (XW.sv 12 rfl (by kernel_rfl) (SV.store rfl rfl rfl rfl rfl (by rw [Sponge.C_length]; omega)) (fun w m => m.pick [1, 2] 3 rfl rfl) ?_)))))))
 refine XW.cells ({ ({ a0 with part := cpV a0.part ((a0.held).toNat) (List.replicate (136 - ((a0.held).toNat)) 0#8) } : Sponge) with part := ({ a0 with part := cpV a0.part ((a0.held).toNat) (List.replicate (136 - ((a0.held).toNat)) 0#8) } : Sponge).part.setIfInBounds ((({ a0 with part := cpV a0.part ((a0.held).toNat) (List.replicate (136 - ((a0.held).toNat)) 0#8) } : Sponge).held).toNat) (x7 ^^^ x10) } : Sponge).C (Sponge.C_part_set _ (by omega) _) (XW.nil (by kernel_rfl) (Z1 (Z4 (Z2 (Z0 (Z30 rfl rfl rfl rfl) rfl (Z7 (ptr (some b2) 26) rfl (Z0 (Z109 (135) rfl rfl rfl rfl rfl (by omega)) rfl ?_)))))))
 refine Z0 (Z29 rfl Zh rfl rfl rfl (Sponge.C_part _ (Vector.getElem?_eq_getElem (by decide)))) rfl ?_
 refine Z0 (RV.xor8 rfl (by first | rfl | exact lit8 _ rfl) rfl (by first | rfl | exact lit8 _ rfl)) rfl (Z0 (Z30 rfl rfl rfl rfl) rfl (Z7 (ptr (some b2) 26) rfl (Z0 (Z109 (135) rfl rfl rfl rfl rfl (by omega)) rfl (Z28 (SV.store rfl rfl rfl rfl rfl (by rw [Sponge.C_length]; omega)) (OW.cells ({ ({ ({ a0 with part := cpV a0.part ((a0.held).toNat) (List.replicate (136 - ((a0.held).toNat)) 0#8) } : Sponge) with part := ({ a0 with part := cpV a0.part ((a0.held).toNat) (List.replicate (136 - ((a0.held).toNat)) 0#8) } : Sponge).part.setIfInBounds ((({ a0 with part := cpV a0.part ((a0.held).toNat) (List.replicate (136 - ((a0.held).toNat)) 0#8) } : Sponge).held).toNat) (x7 ^^^ x10) } : Sponge) with part := ({ ({ a0 with part := cpV a0.part ((a0.held).toNat) (List.replicate (136 - ((a0.held).toNat)) 0#8) } : Sponge) with part := ({ a0 with part := cpV a0.part ((a0.held).toNat) (List.replicate (136 - ((a0.held).toNat)) 0#8) } : Sponge).part.setIfInBounds ((({ a0 with part := cpV a0.part ((a0.held).toNat) (List.replicate (136 - ((a0.held).toNat)) 0#8) } : Sponge).held).toNat) (x7 ^^^ x10) } : Sponge).part.setIfInBounds 135 (({ ({ a0 with part := cpV a0.part ((a0.held).toNat) (List.replicate (136 - ((a0.held).toNat)) 0#8) } : Sponge) with part := ({ a0 with part := cpV a0.part ((a0.held).toNat) (List.replicate (136 - ((a0.held).toNat)) 0#8) } : Sponge).part.setIfInBounds ((({ a0 with part := cpV a0.part ((a0.held).toNat) (List.replicate (136 - ((a0.held).toNat)) 0#8) } : Sponge).held).toNat) (x7 ^^^ x10) } : Sponge).part[135] ^^^ 128#8) } : Sponge).C (Sponge.C_part_set _ (by omega) _) (Z6 (Z1 (Z4 (Z2 ?_)))))))))
 obtain ⟨x14, hx13, hf⟩ := Z100 hf
 refine Z12 Tryd.call142 rfl (Z159 w0 (More w0 Φ []) ((some b1, blk (u8s (Vector.replicate 32 0#8).toList) 24) :: (some b0_, blk a0.C 186) :: ([] ++ N)) (fun w m => Z105 hΦ 2 m rfl) b2 ({ ({ ({ a0 with part := cpV a0.part ((a0.held).toNat) (List.replicate (136 - ((a0.held).toNat)) 0#8) } : Sponge) with part := ({ a0 with part := cpV a0.part ((a0.held).toNat) (List.replicate (136 - ((a0.held).toNat)) 0#8) } : Sponge).part.setIfInBounds ((({ a0 with part := cpV a0.part ((a0.held).toNat) (List.replicate (136 - ((a0.held).toNat)) 0#8) } : Sponge).held).toNat) (x7 ^^^ x10) } : Sponge) with part := ({ ({ a0 with part := cpV a0.part ((a0.held).toNat) (List.replicate (136 - ((a0.held).toNat)) 0#8) } : Sponge) with part := ({ a0 with part := cpV a0.part ((a0.held).toNat) (List.replicate (136 - ((a0.held).toNat)) 0#8) } : Sponge).part.setIfInBounds ((({ a0 with part := cpV a0.part ((a0.held).toNat) (List.replicate (136 - ((a0.held).toNat)) 0#8) } : Sponge).held).toNat) (x7 ^^^ x10) } : Sponge).part.setIfInBounds 135 (({ ({ a0 with part := cpV a0.part ((a0.held).toNat) (List.replicate (136 - ((a0.held).toNat)) 0#8) } : Sponge) with part := ({ a0 with part := cpV a0.part ((a0.held).toNat) (List.replicate (136 - ((a0.held).toNat)) 0#8) } : Sponge).part.setIfInBounds ((({ a0 with part := cpV a0.part ((a0.held).toNat) (List.replicate (136 - ((a0.held).toNat)) 0#8) } : Sponge).held).toNat) (x7 ^^^ x10) } : Sponge).part[135] ^^^ 128#8) } : Sponge) x14 hx13) rfl rfl ?_
 rintro L16 M17 ⟨B15, e18, e19⟩
 rw [e18, e19]
 clear e18 e19 L16 M17
 refine Z20 (M' := ((some b2, blk x14.C 186) :: (some b1, blk (u8s (Vector.replicate 32 0#8).toList) 24) :: (some b0_, blk a0.C 186) :: ((B15 ++ []) ++ N))) (fun w m => by have h := Z113 (A := B15) m 1 2 rfl rfl; exact h) ?_
 have gq1 : ∀ w, More w0 Φ (B15 ++ []) w → More w0 Φ [] w := fun w q => More.mono (fun w m => (m).appR) q
 replace hg2 := hg2.mono gq1
 refine Z6 (Z1 (Z4 (Z2 (OW.alloc (l := (u8s (Vector.replicate 32 0#8).toList)) rfl (by rw [Vector.toList_replicate, ← Z135]; rfl) rfl (fun b20 => (Z6 (Z1 (Z4 (Z4 (Z2 (Z0 (Z3 rfl) rfl (Z6 (Z1 ?_)))))))))))))
 obtain ⟨q21, hq22, hf⟩ := Z100 hf
 refine Z115 (fun L' M' => ∃ w23 : Vector (BitVec 8) 32, q21 = w23 ∧ L' = [(2, ptr (some b1) 0), (4, ptr (some b20) 0)] ∧ M' = ((some b20, blk (u8s w23.toList) 24) :: (some b1, blk (u8s (Vector.replicate 32 0#8).toList) 24) :: (some b0_, blk a0.C 186) :: ((B15 ++ []) ++ N))) ?_ ?_
 ·rintro L25 M26 ⟨w23, e24, e27, e28⟩
  rw [e27, e28]
  clear e27 e28 L25 M26
  clear hq22
  rw [e24] at hf
  clear e24
  try dsimp only at hf
  refine Z1 (Z4 (Z2 (Z0 (Z22 rfl Zh rfl rfl rfl rfl ((Z102 _).trans Zv)) rfl (OW.rot1 (Z28 (Z103 rfl rfl rfl (Z129 _) rfl ((Z102 _).trans Zv) ((Z102 _).trans Zv)) (Z6 (Z1 (CW.ret ?_))))))))
  have er0 := Zi hf
  obtain ⟨e0, er1⟩ := Prod.mk.inj er0
  clear er0
  subst e0
  subst er1
  refine Z104 (rs := [.cell 2 24]) ([.agg (u8s w23.toList).toArray]) ((some b0_, blk a0.C 186) :: (B15 ++ [])) rfl ?_ rfl ?_ ?_ _ (.inl rfl)
  ·exact ⟨⟨_, _, _, _, rfl, Zh, rfl, rfl, (congrArg some ((Z102 _).trans Zv).symm), rfl⟩, trivial⟩
  ·exact ⟨(B15 ++ []), rfl, rfl⟩
  ·exact (fun w m => m.pick [2] 3 rfl rfl)
 ·skip
  refine CW.block (Z121 (fun k L' M' => ∃ n29 : Nat, ∃ w31 : Vector (BitVec 8) 32, (keccak_Sponge_Sum.l1 x14 k n29 w31) = some q21 ∧ (n29 ≤ 9223372036854775807) ∧ L' = [(2, ptr (some b1) 0), (3, ptr (some b2) 0), (4, ptr (some b20) 0), (35, .int .i64 ((n29 : Nat) : Int))] ∧ M' = ((some b20, blk (u8s w31.toList) 24) :: (some b2, blk x14.C 186) :: (some b1, blk (u8s (Vector.replicate 32 0#8).toList) 24) :: (some b0_, blk a0.C 186) :: ((B15 ++ []) ++ N))) (k0 := (32 - 0 + 2)) ⟨0, (Vector.replicate 32 0#8), hq22, (by omega), rfl, rfl⟩ ⟨rfl, rfl, rfl, rfl, trivial⟩ (fun w m => m.pick [0, 1, 2, 3] 4 rfl rfl) ?_)
  clear hq22
  rintro k32 L35 M36 ⟨n29, w31, hl33, b30, e37, e38⟩
  rw [e37, e38]
  clear e37 e38 L35 M36
  rcases k32 with _ | k32
  ·rw [keccak_Sponge_Sum.l1] at hl33; cases hl33
  rw [keccak_Sponge_Sum.l1] at hl33
  refine Z4 (Z2 (Z0 (RV.lss rfl rfl) rfl (Z7 (.bool (decide (n29 < 32))) (congrArg Value.bool (decide_eq_decide.2 (by omega))) (Z6 (Z1 (Z4 ?_))))))
  by_cases h39 : n29 < 32
  ·replace hl33 := if_t hl33 h39
   refine Z13 rfl (decide_eq_true h39) (CW.skip (Z1 (Z4 (CW.block (Z4 (Z2 (Z0 (Z3 rfl) rfl (Z0 (Z5 rfl) rfl (Z6 (Z1 (Z2 (Z0 (Z3 rfl) rfl (Z0 (Z3 rfl) rfl (Z0 (RV.quo rfl rfl (by omega) (by omega) (by omega)) rfl ?_))))))))))))))
   refine Z7 (.int .i64 ((n29 / 8 : Nat) : Int)) (by first | rfl | (congr 1; omega)) (Z0 (Z30 rfl rfl rfl rfl) rfl (Z7 (ptr (some b2) 1) rfl ?_))
   obtain ⟨g40, hl33⟩ := Z112 hl33
   refine Z0 (Z109 ((n29 / 8)) rfl rfl rfl rfl rfl (by omega)) rfl ?_
   obtain ⟨x41, hx42, hl33⟩ := Z100 hl33
   refine Z0 (Z29 rfl (List.Mem.tail _ Zh) rfl rfl rfl (Sponge.C_lanes _ hx42)) rfl (Z0 (Z3 rfl) rfl (Z0 (RV.rem rfl rfl (by omega) (by omega)) rfl (Z7 (.int .i64 ((n29 % 8 : Nat) : Int)) (by first | rfl | (congr 1; omega)) (Z0 (RV.mul rfl rfl (by omega)) rfl (Z7 (.int .i64 (((8 * (n29 % 8)) : Nat) : Int)) (by first | rfl | (congr 1) | (congr 1; omega)) (Z0 (RV.shr64 (s := (8 * (n29 % 8))) rfl (by first | rfl | exact lit64 _ rfl) rfl (by first | rfl | (congr 1))) rfl (Z0 (RV.conv64_8 rfl (by first | rfl | exact lit64 _ rfl) rfl rfl) rfl ?_)))))))
   refine Z0 (Z109 (n29) rfl rfl rfl rfl rfl (by omega)) rfl (Z28 (SV.store rfl rfl rfl rfl rfl (by rw [Z102, Zv]; omega)) (OW.cells (u8s (w31.setIfInBounds n29 ((x41 >>> (8 * (n29 % 8))).setWidth 8)).toList) (by rw [Nat.zero_add, Z163, vset]) (Z6 (Z27 (Z1 (Z2 (Z0 (RV.add rfl rfl (by omega)) rfl (Z7 (.int .i64 (((n29 + 1) : Nat) : Int)) (by first | rfl | (congr 1) | (congr 1; omega)) (Z0 (Z3 rfl) rfl (Z6 ?_))))))))))
   exact Z114 (k' := k32) (Nat.lt_succ_self _) ⟨(n29 + 1), (w31.setIfInBounds n29 ((x41 >>> (8 * (n29 % 8))).setWidth 8)), hl33, (by omega), rfl, rfl⟩ ⟨rfl, rfl, rfl, rfl, trivial⟩ (fun w m => m.pick [0, 1, 2, 3] 4 rfl rfl)
  ·replace hl33 := if_f hl33 h39
   refine Z14 rfl (decide_eq_false h39) (CW.exit (Z9 (Z9 (Z15 ?_))))
   exact QW.join ⟨w31, (Zi hl33).symm, rfl, rfl⟩ ⟨rfl, rfl, trivial⟩ (fun w m => m.pick [0, 2, 3] 4 rfl rfl)
theorem keccak_digest_does (w0 : World) (Φ : Ctx) (N : List Ent) (hΦ : ∀ w, Mem w0 w N → Φ w) (a0 : Int) (A1_ : Option Addr) (c1_ : Nat) (cs1_ : List Value) (a1 : List (List (BitVec 8))) (res0 : Vector (BitVec 8) 32) (ba0 : -9223372036854775808 ≤ a0 ∧ a0 ≤ 9223372036854775807) (va1 : View Φ A1_ a1.length c1_ 1 cs1_) (ha1 : Reps (BsRd Φ) cs1_ a1) (hg2 : View Φ (some ⟨2, 0, none⟩) 2 2 1 (u8s firstL)) (hf : keccak_digest a0 a1 = some res0) : DoesG Tryd.prog 107 [.int .i64 a0, .slice A1_ a1.length c1_] w0 [] N (fun v G => v = .agg (u8s res0.toList).toArray) := by
 unfold keccak_digest at hf
 replace va1 := va1.mono (Ψ := More w0 Φ []) (fun w q => q.1)
 replace hg2 := hg2.mono (Ψ := More w0 Φ []) (fun w q => q.1)
 replace ha1 := ha1.mono (BsRd.mono (Ψ := More w0 Φ []) (fun w q => q.1))
 have m1 := va1.mx
 refine DoesG.enter Tryd.func107 rfl Tryd.ntmps107 rfl (M := (([] ++ N))) rfl (Z4 (Z2 (OW.alloc (l := (u8s (Vector.replicate 32 0#8).toList)) rfl (by rw [Vector.toList_replicate, ← Z135]; rfl) rfl (fun b2 => (Z6 (Z1 (Z4 (Z2 (Z0 (Z3 rfl) rfl (Z0 (Z107 (l := (⟨0, (Vector.replicate 25 0#64), (Vector.replicate 136 0#8), 0, 0⟩ : Sponge).C) (cs := ({ (⟨0, (Vector.replicate 25 0#64), (Vector.replicate 136 0#8), 0, 0⟩ : Sponge) with kind := a0 } : Sponge).C) [(0, [.int .i64 a0])] rfl rfl rfl rfl rfl rfl rfl) rfl (OW.alloc (l := (⟨0, (Vector.replicate 25 0#64), (Vector.replicate 136 0#8), 0, 0⟩ : Sponge).C) rfl (by kernel_rfl) rfl (fun b3 => (Z28 (Z103 rfl rfl rfl (Sponge.C_one _) rfl (Sponge.C_length _) (Sponge.C_length _)) ?_)))))))))))))
 refine Z6 (Z1 (Z4 (Z4 (Z2 (Z0 (Z3 rfl) rfl (Z0 (RV.len rfl rfl) rfl (Z0 (Z3 rfl) rfl (Z6 (Z1 ?_)))))))))
 obtain ⟨q4, hq5, hf⟩ := Z100 hf
 refine Z115 (fun L' M' => ∃ w8 : Sponge, ∃ B6 : List Ent, q4 = w8 ∧ (∀ w, Mem w0 w B6 → Mem w0 w []) ∧ L' = [(4, ptr (some b2) 0), (5, ptr (some b3) 0)] ∧ M' = ((some b3, blk w8.C 186) :: (some b2, blk (u8s (Vector.replicate 32 0#8).toList) 24) :: (B6 ++ N))) ?_ ?_
 ·rintro L10 M11 ⟨w8, B6, e9, hB7, e12, e13⟩
  rw [e12, e13]
  clear e12 e13 L10 M11
  clear hq5
  rw [e9] at hf
  clear e9
  try dsimp only at hf
  have gq1 : ∀ w, More w0 Φ B6 w → More w0 Φ [] w := fun w q => More.mono (fun w m => hB7 w (m)) q
  replace hg2 := hg2.mono gq1
  refine Z1 (Z4 (Z2 ?_))
  obtain ⟨⟨x15, x16⟩, hx14, hf⟩ := Z100 hf
  try dsimp only at hf
  refine Z12 Tryd.call130 rfl (keccak_Sponge_Sum_does w0 (More w0 Φ B6) ((some b2, blk (u8s (Vector.replicate 32 0#8).toList) 24) :: (B6 ++ N)) (fun w m => Z105 hΦ 1 m rfl) b3 w8 x15 x16 hg2 hx14) rfl rfl ?_
  rintro L18 M19 ⟨B17, e20, e21⟩
  rw [e20, e21]
  clear e20 e21 L18 M19
  refine Z20 (M' := ((some b3, blk x16.C 186) :: (some b2, blk (u8s (Vector.replicate 32 0#8).toList) 24) :: ((B17 ++ B6) ++ N))) (fun w m => by have h := Z113 (A := B17) m 1 1 rfl rfl; exact h) ?_
  have gq2 : ∀ w, More w0 Φ (B17 ++ B6) w → More w0 Φ B6 w := fun w q => More.mono (fun w m => (m).appR) q
  replace hg2 := hg2.mono gq2
  refine OW.rot1 (Z28 (Z103 rfl rfl rfl (Z129 _) rfl ((Z102 _).trans Zv) ((Z102 _).trans Zv)) (Z6 (Z1 (CW.ret ?_))))
  have e0 := Zi hf
  subst e0
  refine Z104 (rs := [.cell 4 24]) ([.agg (u8s x15.toList).toArray]) ((some b2, blk (u8s x15.toList) 24) :: (some b3, blk x16.C 186) :: (B17 ++ B6)) rfl ?_ rfl ?_ ?_ _ (.inl rfl)
  ·exact ⟨⟨_, _, _, _, rfl, Zh, rfl, rfl, (congrArg some ((Z102 _).trans Zv).symm), rfl⟩, trivial⟩
  ·exact rfl
  ·exact (fun w m => m)
 ·skip
  refine CW.block (Z121 (fun k L' M' => ∃ n24 : Nat, ∃ w26 : Sponge, ∃ B22 : List Ent, (keccak_digest.l1 a1 k n24 w26) = some q4 ∧ (∀ w, Mem w0 w B22 → Mem w0 w []) ∧ (n24 ≤ 9223372036854775807) ∧ L' = [(4, ptr (some b2) 0), (5, ptr (some b3) 0), (10, .slice A1_ a1.length c1_), (11, .int .i64 ((a1.length : Nat) : Int)), (12, .int .i64 ((n24 : Nat) : Int))] ∧ M' = ((some b3, blk w26.C 186) :: (some b2, blk (u8s (Vector.replicate 32 0#8).toList) 24) :: (B22 ++ N))) (k0 := (a1.length - 0 + 2)) ⟨0, ({ (⟨0, (Vector.replicate 25 0#64), (Vector.replicate 136 0#8), 0, 0⟩ : Sponge) with kind := a0 } : Sponge), [], hq5, (fun w m => m), (by omega), rfl, rfl⟩ ⟨rfl, rfl, rfl, rfl, rfl, trivial⟩ (fun w m => m.pick [0, 1] 2 rfl rfl) ?_)
  clear hq5
  rintro k27 L30 M31 ⟨n24, w26, B22, hl28, hB23, b25, e32, e33⟩
  rw [e32, e33]
  clear e32 e33 L30 M31
  rcases k27 with _ | k27
  ·rw [keccak_digest.l1] at hl28; cases hl28
  rw [keccak_digest.l1] at hl28
  have gq3 : ∀ w, More w0 Φ B22 w → More w0 Φ [] w := fun w q => More.mono (fun w m => hB23 w (m)) q
  replace va1 := va1.mono gq3
  replace ha1 := ha1.mono (BsRd.mono gq3)
  replace hg2 := hg2.mono gq3
  refine Z4 (Z2 (Z0 (RV.lss rfl rfl) rfl (Z7 (.bool (decide (n24 < a1.length))) (congrArg Value.bool (decide_eq_decide.2 (by omega))) (Z6 (Z1 (Z4 ?_))))))
  by_cases h34 : n24 < a1.length
  ·replace hl28 := if_t hl28 h34
   refine Z13 rfl (decide_eq_true h34) (CW.skip (Z1 (Z4 (CW.block (Z4 (Z2 ?_))))))
   obtain ⟨x35, hx36, hl28⟩ := Z100 hl28
   have hl37 := Z111 hx36
   refine Z0 (Z131 (n24) rfl rfl rfl rfl rfl (va1.isSome (by decide) hl37) (by omega)) rfl ?_
   obtain ⟨cs38, h39, h40⟩ := ha1.get BsRd.len hx36
   obtain ⟨A41, c42, e44, v43⟩ := h39
   subst e44
   have m45 := v43.mx
   refine Z0 (Z21 rfl rfl rfl (fun w m => by have := va1.load (Z105 hΦ 2 m rfl) h40 0 _ rfl; simpa [Addr.add] using this)) rfl ?_
   refine Z0 (Z5 rfl) rfl (Z6 (Z1 (Z2 (Z0 (Z3 rfl) rfl ?_))))
   obtain ⟨x47, hx46, hl28⟩ := Z100 hl28
   refine Z12 Tryd.call129 rfl (keccak_Sponge_Write_does w0 (More w0 Φ B22) ((some b2, blk (u8s (Vector.replicate 32 0#8).toList) 24) :: (B22 ++ N)) (fun w m => Z105 hΦ 1 m rfl) b3 w26 A41 c42 x35 x47 v43 hx46) rfl rfl ?_
   rintro L49 M50 ⟨B48, e51, e52⟩
   rw [e51, e52]
   clear e51 e52 L49 M50
   refine Z20 (M' := ((some b3, blk x47.C 186) :: (some b2, blk (u8s (Vector.replicate 32 0#8).toList) 24) :: ((B48 ++ B22) ++ N))) (fun w m => by have h := Z113 (A := B48) m 1 1 rfl rfl; exact h) ?_
   have gq4 : ∀ w, More w0 Φ (B48 ++ B22) w → More w0 Φ B22 w := fun w q => More.mono (fun w m => (m).appR) q
   replace va1 := va1.mono gq4
   replace ha1 := ha1.mono (BsRd.mono gq4)
   replace v43 := v43.mono gq4
   replace hg2 := hg2.mono gq4
   refine Z6 (Z27 (Z1 (Z2 (Z0 (RV.add rfl rfl (by omega)) rfl (Z7 (.int .i64 (((n24 + 1) : Nat) : Int)) (by first | rfl | (congr 1) | (congr 1; omega)) (Z0 (Z3 rfl) rfl (Z6 ?_)))))))
   exact Z114 (k' := k27) (Nat.lt_succ_self _) ⟨(n24 + 1), x47, (B48 ++ B22), hl28, (fun w m => hB23 w ((m).appR)), (by omega), rfl, rfl⟩ ⟨rfl, rfl, rfl, rfl, rfl, trivial⟩ (fun w m => m.pick [0, 1] 2 rfl rfl)
  ·replace hl28 := if_f hl28 h34
   refine Z14 rfl (decide_eq_false h34) (CW.exit (Z9 (Z9 (Z15 ?_))))
   exact QW.join ⟨w26, B22, (Zi hl28).symm, (fun w m => hB23 w (m)), rfl, rfl⟩ ⟨rfl, rfl, trivial⟩ (fun w m => m.pick [0, 1] 2 rfl rfl)
theorem keccak_Sum_does (w0 : World) (Φ : Ctx) (N : List Ent) (hΦ : ∀ w, Mem w0 w N → Φ w) (A0_ : Option Addr) (c0_ : Nat) (cs0_ : List Value) (a0 : List (List (BitVec 8))) (res0 : Vector (BitVec 8) 32) (va0 : View Φ A0_ a0.length c0_ 1 cs0_) (ha0 : Reps (BsRd Φ) cs0_ a0) (hg2 : View Φ (some ⟨2, 0, none⟩) 2 2 1 (u8s firstL)) (hf : keccak_Sum a0 = some res0) : DoesG Tryd.prog 80 [.slice A0_ a0.length c0_] w0 [] N (fun v G => v = .agg (u8s res0.toList).toArray) := by
 unfold keccak_Sum at hf
 replace va0 := va0.mono (Ψ := More w0 Φ []) (fun w q => q.1)
 replace hg2 := hg2.mono (Ψ := More w0 Φ []) (fun w q => q.1)
 replace ha0 := ha0.mono (BsRd.mono (Ψ := More w0 Φ []) (fun w q => q.1))
 have m1 := va0.mx
 refine DoesG.enter Tryd.func80 rfl Tryd.ntmps80 rfl (M := (([] ++ N))) rfl (Z4 (Z2 (OW.alloc (l := (u8s (Vector.replicate 32 0#8).toList)) rfl (by rw [Vector.toList_replicate, ← Z135]; rfl) rfl (fun b2 => (Z6 (Z1 (Z4 (Z2 (Z0 (Z3 rfl) rfl ?_)))))))))
 obtain ⟨x4, hx3, hf⟩ := Z100 hf
 refine Z12 Tryd.call107 rfl (keccak_digest_does w0 (More w0 Φ []) ((some b2, blk (u8s (Vector.replicate 32 0#8).toList) 24) :: ([] ++ N)) (fun w m => Z105 hΦ 1 m rfl) (0 : Int) A0_ c0_ cs0_ a0 x4 (by omega) va0 ha0 hg2 hx3) rfl rfl ?_
 rintro _ G5 rfl
 refine Z20 (M' := ((some b2, blk (u8s (Vector.replicate 32 0#8).toList) 24) :: ([] ++ N))) (fun w m => m.appR) (Z28 (Z103 rfl rfl rfl (Z129 _) rfl ((Z102 _).trans Zv) ((Z102 _).trans Zv)) (Z6 (Z1 (CW.ret ?_))))
 have e0 := Zi hf
 subst e0
 refine Z104 (rs := [.cell 2 24]) ([.agg (u8s x4.toList).toArray]) ((some b2, blk (u8s x4.toList) 24) :: []) rfl ?_ rfl ?_ ?_ _ (.inl rfl)
 ·exact ⟨⟨_, _, _, _, rfl, Zh, rfl, rfl, (congrArg some ((Z102 _).trans Zv).symm), rfl⟩, trivial⟩
 ·exact rfl
 ·exact (fun w m => m)
theorem bloom_Places_does (w0 : World) (Φ : Ctx) (N : List Ent) (hΦ : ∀ w, Mem w0 w N → Φ w) (A0_ : Option Addr) (c0_ : Nat) (a0 : List (BitVec 8)) (res0 : Vector (Int) 3) (va0 : View Φ A0_ a0.length c0_ 1 (u8s a0)) (hg2 : View Φ (some ⟨2, 0, none⟩) 2 2 1 (u8s firstL)) (hf : bloom_Places a0 = some res0) : DoesG Tryd.prog 57 [.slice A0_ a0.length c0_] w0 [] N (fun v G => v = .agg (i64s res0.toList).toArray) := by
 unfold bloom_Places at hf
 replace va0 := va0.mono (Ψ := More w0 Φ []) (fun w q => q.1)
 replace hg2 := hg2.mono (Ψ := More w0 Φ []) (fun w q => q.1)
 have m1 := va0.mx
 refine DoesG.enter Tryd.func57 rfl Tryd.ntmps57 rfl (M := (([] ++ N))) rfl (Z4 (Z2 (OW.alloc (l := (i64s (Vector.replicate 3 0).toList)) rfl (by rw [Vector.toList_replicate, ← i64s_rep]; rfl) rfl (fun b2 => (Z6 (Z1 (Z4 (Z2 (Z0 (Z3 rfl) rfl (OW.ofN (NV.bs1 rfl rfl rfl rfl rfl rfl) rfl (fun b3 => ?_)))))))))))
 have h6 : Reps (BsRd (More w0 Φ [])) (([.slice A0_ a0.length c0_] : List Value)) [a0] := Reps.one (BsRd.mk va0)
 refine Z20 (M' := (((some b3), blk ((([.slice A0_ a0.length c0_] : List Value)) ++ []) 61) :: (some b2, blk (i64s (Vector.replicate 3 0).toList) 95) :: ([] ++ N))) (fun w m => m) ?_
 have o4 : OwnS (some b3) ([a0] : List (List (BitVec 8))).length 1 1 (([.slice A0_ a0.length c0_] : List Value)) [] := ⟨by simp [BsRd], by simp [BsRd], (fun h => nomatch h), by simp⟩
 have mx_o4 := o4.mx
 refine Z7 (sl (some b3) 0 ([a0] : List (List (BitVec 8))).length 1) (rfl) (Z20 (M' := (some b2, blk (i64s (Vector.replicate 3 0).toList) 95) :: ((((some b3), blk ((([.slice A0_ a0.length c0_] : List Value)) ++ []) 61) :: []) ++ N)) (fun w m => m.pick [1, 0] 2 rfl rfl) ?_)
 have gq1 : ∀ w, More w0 Φ (((some b3), blk ((([.slice A0_ a0.length c0_] : List Value)) ++ []) 61) :: []) w → More w0 Φ [] w := fun w q => More.mono (fun w m => (m).tail) q
 replace va0 := va0.mono gq1
 replace h6 := h6.mono (BsRd.mono gq1)
 replace hg2 := hg2.mono gq1
 have v7 : View (More w0 Φ (((some b3), blk ((([.slice A0_ a0.length c0_] : List Value)) ++ []) 61) :: [])) (((some b3)).map fun k => ⟨k, 0, none⟩) ([a0] : List (List (BitVec 8))).length 1 1 (([.slice A0_ a0.length c0_] : List Value)) := o4.view (by decide) (fun w q => q.2.sublist (List.singleton_sublist.2 (List.mem_cons_self ..)))
 obtain ⟨x9, hx8, hf⟩ := Z100 hf
 refine Z12 Tryd.call80 rfl (keccak_Sum_does w0 (More w0 Φ (((some b3), blk ((([.slice A0_ a0.length c0_] : List Value)) ++ []) 61) :: [])) ((some b2, blk (i64s (Vector.replicate 3 0).toList) 95) :: ((((some b3), blk ((([.slice A0_ a0.length c0_] : List Value)) ++ []) 61) :: []) ++ N)) (fun w m => Z105 hΦ 1 m rfl) (((some b3)).map fun k => ⟨k, 0, none⟩) 1 (([.slice A0_ a0.length c0_] : List Value)) ([a0] : List (List (BitVec 8))) x9 v7 h6 hg2 hx8) rfl rfl ?_
 rintro _ G10 rfl
 refine Z20 (M' := ((some b2, blk (i64s (Vector.replicate 3 0).toList) 95) :: ((((some b3), blk ((([.slice A0_ a0.length c0_] : List Value)) ++ []) 61) :: []) ++ N))) (fun w m => m.appR) (OW.alloc (l := (u8s (Vector.replicate 32 0#8).toList)) rfl (by rw [Vector.toList_replicate, ← Z135]; rfl) rfl (fun b12 => (Z28 (Z103 rfl rfl rfl (Z129 _) rfl ((Z102 _).trans Zv) ((Z102 _).trans Zv)) (Z6 (Z1 (Z4 (Z2 (OW.alloc (l := (i64s (Vector.replicate 3 0).toList)) rfl (by rw [Vector.toList_replicate, ← i64s_rep]; rfl) rfl (fun b13 => (Z6 (Z1 (Z4 (Z4 (Z2 (Z0 (Z3 rfl) rfl (Z6 (Z1 ?_)))))))))))))))))
 obtain ⟨q14, hq15, hf⟩ := Z100 hf
 refine Z115 (fun L' M' => ∃ w16 : Vector (Int) 3, q14 = w16 ∧ L' = [(2, ptr (some b2) 0), (4, ptr (some b13) 0)] ∧ M' = ((some b13, blk (i64s w16.toList) 95) :: (some b2, blk (i64s (Vector.replicate 3 0).toList) 95) :: ((((some b3), blk ((([.slice A0_ a0.length c0_] : List Value)) ++ []) 61) :: []) ++ N))) ?_ ?_
 ·rintro L18 M19 ⟨w16, e17, e20, e21⟩
  rw [e20, e21]
  clear e20 e21 L18 M19
  clear hq15
  rw [e17] at hf
  clear e17
  try dsimp only at hf
  refine Z1 (Z4 (Z2 (Z0 (Z22 rfl Zh rfl rfl rfl rfl ((Z125 _).trans Zv)) rfl (OW.rot1 (Z28 (Z103 rfl rfl rfl (i64s_one _) rfl ((Z125 _).trans Zv) ((Z125 _).trans Zv)) (Z6 (Z1 (CW.ret ?_))))))))
  have e0 := Zi hf
  subst e0
  refine Z104 (rs := [.cell 2 95]) ([.agg (i64s w16.toList).toArray]) ((some b2, blk (i64s w16.toList) 95) :: (some b13, blk (i64s w16.toList) 95) :: (((some b3), blk ((([.slice A0_ a0.length c0_] : List Value)) ++ []) 61) :: [])) rfl ?_ rfl ?_ ?_ _ (.inl rfl)
  ·exact ⟨⟨_, _, _, _, rfl, Zh, rfl, rfl, (congrArg some ((Z125 _).trans Zv).symm), rfl⟩, trivial⟩
  ·exact rfl
  ·exact (fun w m => m)
 ·skip
  refine CW.block (Z121 (fun k L' M' => ∃ n22 : Nat, ∃ w24 : Vector (Int) 3, (bloom_Places.l1 x9 k n22 w24) = some q14 ∧ (n22 ≤ 9223372036854775807) ∧ L' = [(2, ptr (some b2) 0), (3, ptr (some b12) 0), (4, ptr (some b13) 0), (9, .int .i64 ((n22 : Nat) : Int))] ∧ M' = ((some b13, blk (i64s w24.toList) 95) :: (some b12, blk (u8s x9.toList) 24) :: (some b2, blk (i64s (Vector.replicate 3 0).toList) 95) :: ((((some b3), blk ((([.slice A0_ a0.length c0_] : List Value)) ++ []) 61) :: []) ++ N))) (k0 := (3 - 0 + 2)) ⟨0, (Vector.replicate 3 0), hq15, (by omega), rfl, rfl⟩ ⟨rfl, rfl, rfl, rfl, trivial⟩ (fun w m => m.pick [0, 1, 2] 3 rfl rfl) ?_)
  clear hq15
  rintro k25 L28 M29 ⟨n22, w24, hl26, b23, e30, e31⟩
  rw [e30, e31]
  clear e30 e31 L28 M29
  rcases k25 with _ | k25
  ·rw [bloom_Places.l1] at hl26; cases hl26
  rw [bloom_Places.l1] at hl26
  refine Z4 (Z2 (Z0 (RV.lss rfl rfl) rfl (Z7 (.bool (decide (n22 < 3))) (congrArg Value.bool (decide_eq_decide.2 (by omega))) (Z6 (Z1 (Z4 ?_))))))
  by_cases h32 : n22 < 3
  ·replace hl26 := if_t hl26 h32
   refine Z13 rfl (decide_eq_true h32) (CW.skip (Z1 (Z4 (CW.block (Z4 (Z2 (Z0 (Z3 rfl) rfl (Z0 (Z5 rfl) rfl (Z6 (Z1 (Z137 ((some b12, blk (u8s x9.toList) 24) :: (some b2, blk (i64s (Vector.replicate 3 0).toList) 95) :: ((((some b3), blk ((([.slice A0_ a0.length c0_] : List Value)) ++ []) 61) :: []) ++ N)) [16] (fun w m => m.pick [1, 2] 3 rfl rfl) mixed (by kernel_rfl) (Z10 0 rfl (by kernel_rfl) rfl (Z3 rfl) rfl (Z10 1 rfl (by kernel_rfl) rfl (Z3 rfl) rfl ?_)))))))))))))
   refine Z10 2 rfl (by kernel_rfl) rfl (RV.mul rfl rfl (by omega)) rfl (XW.slot (.int .i64 (((2 * n22) : Nat) : Int)) (by first | rfl | (congr 1) | (congr 1; omega)) ?_)
   obtain ⟨g33, hl26⟩ := Z112 hl26
   refine Z10 3 rfl (by kernel_rfl) rfl (Z109 ((2 * n22)) rfl rfl rfl rfl rfl (by omega)) rfl ?_
   obtain ⟨x34, hx35, hl26⟩ := Z100 hl26
   refine Z10 4 rfl (by kernel_rfl) rfl (Z29 rfl Zh rfl rfl rfl (by rw [Nat.zero_add]; exact Z148 (vat hx35))) rfl ?_
   refine Z10 5 rfl (by kernel_rfl) rfl (Z167 rfl (by first | rfl | exact lit8 _ rfl) rfl rfl) rfl ?_
   have m36 := (x34).isLt
   refine Z10 6 rfl (by kernel_rfl) rfl (RV.mul rfl rfl (by omega)) rfl (XW.slot (.int .i64 (((256 * x34.toNat) : Nat) : Int)) (by first | rfl | (congr 1) | (congr 1; omega)) (Z10 7 rfl (by kernel_rfl) rfl (Z3 rfl) rfl (Z10 8 rfl (by kernel_rfl) rfl (RV.mul rfl rfl (by omega)) rfl (XW.slot (.int .i64 (((2 * n22) : Nat) : Int)) (by first | rfl | (congr 1) | (congr 1; omega)) (Z10 9 rfl (by kernel_rfl) rfl (RV.add rfl rfl (by omega)) rfl (XW.slot (.int .i64 ((((2 * n22) + 1) : Nat) : Int)) (by first | rfl | (congr 1) | (congr 1; omega)) ?_))))))
   obtain ⟨g37, hl26⟩ := Z112 hl26
   refine Z10 10 rfl (by kernel_rfl) rfl (Z109 (((2 * n22) + 1)) rfl rfl rfl rfl rfl (by omega)) rfl ?_
   obtain ⟨x38, hx39, hl26⟩ := Z100 hl26
   refine Z10 11 rfl (by kernel_rfl) rfl (Z29 rfl Zh rfl rfl rfl (by rw [Nat.zero_add]; exact Z148 (vat hx39))) rfl ?_
   refine Z10 12 rfl (by kernel_rfl) rfl (Z167 rfl (by first | rfl | exact lit8 _ rfl) rfl rfl) rfl ?_
   have m40 := (x38).isLt
   refine Z10 13 rfl (by kernel_rfl) rfl (RV.add rfl rfl (by omega)) rfl (XW.slot (.int .i64 ((((256 * x34.toNat) + x38.toNat) : Nat) : Int)) (by first | rfl | (congr 1) | (congr 1; omega)) (Z10 14 rfl (by kernel_rfl) rfl (RV.rem rfl rfl (by omega) (by omega)) rfl (XW.slot (.int .i64 ((((256 * x34.toNat) + x38.toNat) % 2048 : Nat) : Int)) (by first | rfl | (congr 1; omega)) (Z10 15 rfl (by kernel_rfl) rfl (Z109 (n22) rfl rfl rfl rfl rfl (by omega)) rfl (XW.sv 16 rfl (by kernel_rfl) (SV.store rfl rfl rfl rfl rfl (by rw [Z125, Zv]; omega)) (fun w m => m.pick [1, 2] 3 rfl rfl) (XW.cells (i64s (w24.setIfInBounds n22 ((((256 * x34.toNat) + x38.toNat) % 2048 : Nat) : Int)).toList) (by rw [Nat.zero_add, i64s_set, vset]) (XW.nil (by kernel_rfl) ?_)))))))
   refine Z27 (Z1 (Z2 (Z0 (RV.add rfl rfl (by omega)) rfl (Z7 (.int .i64 (((n22 + 1) : Nat) : Int)) (by first | rfl | (congr 1) | (congr 1; omega)) (Z0 (Z3 rfl) rfl (Z6 ?_))))))
   exact Z114 (k' := k25) (Nat.lt_succ_self _) ⟨(n22 + 1), (w24.setIfInBounds n22 ((((256 * x34.toNat) + x38.toNat) % 2048 : Nat) : Int)), hl26, (by omega), rfl, rfl⟩ ⟨rfl, rfl, rfl, rfl, trivial⟩ (fun w m => m.pick [0, 1, 2] 3 rfl rfl)
  ·replace hl26 := if_f hl26 h32
   refine Z14 rfl (decide_eq_false h32) (CW.exit (Z9 (Z9 (Z15 ?_))))
   exact QW.join ⟨w24, (Zi hl26).symm, rfl, rfl⟩ ⟨rfl, rfl, trivial⟩ (fun w m => m.pick [0, 2] 3 rfl rfl)
theorem bloom_set_does (w0 : World) (Φ : Ctx) (N : List Ent) (hΦ : ∀ w, Mem w0 w N → Φ w) (a0 : Vector (BitVec 8) 256) (a1 : Int) (res0 : Vector (BitVec 8) 256) (ba1 : -9223372036854775808 ≤ a1 ∧ a1 ≤ 9223372036854775807) (hf : bloom_set a0 a1 = some res0) : DoesG Tryd.prog 104 [.agg (u8s a0.toList).toArray, .int .i64 a1] w0 [] N (fun v G => v = .agg (u8s res0.toList).toArray) := by
 unfold bloom_set at hf
 refine DoesG.enter Tryd.func104 rfl Tryd.ntmps104 rfl (M := (([] ++ N))) rfl (Z4 (Z2 (Z130 rfl rfl (fun b1 => (OW.alloc (l := (u8s (Vector.replicate 256 0#8).toList)) rfl (by rw [Vector.toList_replicate, ← Z135]; rfl) rfl (fun b2 => (Z6 (Z1 (Z4 (Z137 ((some b2, blk (u8s (Vector.replicate 256 0#8).toList) 27) :: ([] ++ N)) [10] (fun w m => m.pick [0] 2 rfl rfl) mixed (by kernel_rfl) (Z10 0 rfl (by kernel_rfl) rfl (Z3 rfl) rfl ?_)))))))))))
 obtain ⟨g3, hf⟩ := Z112 hf
 refine Z10 1 rfl (by kernel_rfl) rfl (RV.quo rfl rfl (by omega) (by omega) (by omega)) rfl (XW.slot (.int .i64 (((a1).toNat / 8 : Nat) : Int)) (by first | rfl | (congr 1; omega)) (Z10 2 rfl (by kernel_rfl) rfl (RV.sub rfl rfl (by omega)) rfl ?_))
 obtain ⟨g4, hf⟩ := Z112 hf
 obtain ⟨g5, hf⟩ := Z112 hf
 refine Z10 3 rfl (by kernel_rfl) rfl (Z109 ((((255 : Int) - (((a1).toNat / 8 : Nat) : Int))).toNat) rfl rfl (by omega) rfl rfl (by omega)) rfl ?_
 obtain ⟨x6, hx7, hf⟩ := Z100 hf
 refine XW.rv 4 rfl (by kernel_rfl) rfl (by kernel_rfl) (Z29 rfl (List.Mem.tail _ Zh) rfl rfl rfl (by rw [Nat.zero_add]; exact Z148 (vat hx7))) rfl ?_
 refine Z10 5 rfl (by kernel_rfl) rfl (Z3 rfl) rfl (Z10 6 rfl (by kernel_rfl) rfl (RV.rem rfl rfl (by omega) (by omega)) rfl (XW.slot (.int .i64 (((a1).toNat % 8 : Nat) : Int)) (by first | rfl | (congr 1; omega)) (Z10 7 rfl (by kernel_rfl) rfl (RV.shl8 (s := ((a1).toNat % 8)) rfl (by first | rfl | exact lit8 _ rfl) rfl (by first | rfl | (congr 1))) rfl (Z10 8 rfl (by kernel_rfl) rfl (RV.or8 rfl (by first | rfl | exact lit8 _ rfl) rfl (by first | rfl | exact lit8 _ rfl)) rfl (Z10 9 rfl (by kernel_rfl) rfl (Z109 ((((255 : Int) - (((a1).toNat / 8 : Nat) : Int))).toNat) rfl rfl (by omega) rfl rfl (by omega)) rfl (Z19 (M' := ((some b1, blk (u8s a0.toList) 27) :: (some b2, blk (u8s (Vector.replicate 256 0#8).toList) 27) :: ([] ++ N))) (fun w m => m.pick [1, 0] 2 rfl rfl) (fun w m => m.pick [1] 2 rfl rfl) (XW.sv 10 rfl (by kernel_rfl) (SV.store rfl rfl rfl rfl rfl (by rw [Z102, Zv]; omega)) (fun w m => m.pick [1] 2 rfl rfl) ?_)))))))
 refine XW.cells (u8s (a0.setIfInBounds ((((255 : Int) - (((a1).toNat / 8 : Nat) : Int))).toNat) (x6 ||| (1#8 <<< ((a1).toNat % 8)))).toList) (by rw [Nat.zero_add, Z163, vset]) (XW.nil (by kernel_rfl) (Z1 (Z4 (Z2 (Z0 (Z22 rfl Zh rfl rfl rfl rfl ((Z102 _).trans Zv)) rfl (OW.rot1 (Z28 (Z103 rfl rfl rfl (Z129 _) rfl ((Z102 _).trans Zv) ((Z102 _).trans Zv)) (Z6 (Z1 (CW.ret ?_))))))))))
 have e0 := Zi hf
 subst e0
 refine Z104 (rs := [.cell 4 27]) ([.agg (u8s (a0.setIfInBounds ((((255 : Int) - (((a1).toNat / 8 : Nat) : Int))).toNat) (x6 ||| (1#8 <<< ((a1).toNat % 8)))).toList).toArray]) ((some b2, blk (u8s (a0.setIfInBounds ((((255 : Int) - (((a1).toNat / 8 : Nat) : Int))).toNat) (x6 ||| (1#8 <<< ((a1).toNat % 8)))).toList) 27) :: (some b1, blk (u8s (a0.setIfInBounds ((((255 : Int) - (((a1).toNat / 8 : Nat) : Int))).toNat) (x6 ||| (1#8 <<< ((a1).toNat % 8)))).toList) 27) :: []) rfl ?_ rfl ?_ ?_ _ (.inl rfl)
 ·exact ⟨⟨_, _, _, _, rfl, Zh, rfl, rfl, (congrArg some ((Z102 _).trans Zv).symm), rfl⟩, trivial⟩
 ·exact rfl
 ·exact (fun w m => m)
theorem bloom_Add_does (w0 : World) (Φ : Ctx) (N : List Ent) (hΦ : ∀ w, Mem w0 w N → Φ w) (a0 : Vector (BitVec 8) 256) (A1_ : Option Addr) (c1_ : Nat) (a1 : List (BitVec 8)) (res0 : Vector (BitVec 8) 256) (va1 : View Φ A1_ a1.length c1_ 1 (u8s a1)) (hg2 : View Φ (some ⟨2, 0, none⟩) 2 2 1 (u8s firstL)) (hf : bloom_Add a0 a1 = some res0) : DoesG Tryd.prog 78 [.agg (u8s a0.toList).toArray, .slice A1_ a1.length c1_] w0 [] N (fun v G => v = .agg (u8s res0.toList).toArray) := by
 unfold bloom_Add at hf
 replace va1 := va1.mono (Ψ := More w0 Φ []) (fun w q => q.1)
 replace hg2 := hg2.mono (Ψ := More w0 Φ []) (fun w q => q.1)
 have m1 := va1.mx
 refine DoesG.enter Tryd.func78 rfl Tryd.ntmps78 rfl (M := (([] ++ N))) rfl (Z4 (Z2 (Z130 rfl rfl (fun b2 => (OW.alloc (l := (u8s (Vector.replicate 256 0#8).toList)) rfl (by rw [Vector.toList_replicate, ← Z135]; rfl) rfl (fun b3 => (Z6 (Z1 (Z4 (Z4 (Z2 (Z0 (Z3 rfl) rfl ?_))))))))))))
 obtain ⟨x5, hx4, hf⟩ := Z100 hf
 refine Z12 Tryd.call57 rfl (bloom_Places_does w0 (More w0 Φ []) ((some b3, blk (u8s (Vector.replicate 256 0#8).toList) 27) :: (some b2, blk (u8s a0.toList) 27) :: ([] ++ N)) (fun w m => Z105 hΦ 2 m rfl) A1_ c1_ a1 x5 va1 hg2 hx4) rfl rfl ?_
 rintro _ G6 rfl
 refine Z20 (M' := ((some b3, blk (u8s (Vector.replicate 256 0#8).toList) 27) :: (some b2, blk (u8s a0.toList) 27) :: ([] ++ N))) (fun w m => m.appR) (Z0 (Z3 rfl) rfl (Z6 (Z1 ?_)))
 obtain ⟨q8, hq9, hf⟩ := Z100 hf
 refine Z115 (fun L' M' => ∃ w10 : Vector (BitVec 8) 256, q8 = w10 ∧ L' = [(2, ptr (some b2) 0), (4, ptr (some b3) 0)] ∧ M' = ((some b3, blk (u8s (Vector.replicate 256 0#8).toList) 27) :: (some b2, blk (u8s w10.toList) 27) :: ([] ++ N))) ?_ ?_
 ·rintro L12 M13 ⟨w10, e11, e14, e15⟩
  rw [e14, e15]
  clear e14 e15 L12 M13
  clear hq9
  rw [e11] at hf
  clear e11
  try dsimp only at hf
  refine Z1 (Z4 (Z2 (Z0 (Z22 rfl (List.Mem.tail _ Zh) rfl rfl rfl rfl ((Z102 _).trans Zv)) rfl (Z28 (Z103 rfl rfl rfl (Z129 _) rfl ((Z102 _).trans Zv) ((Z102 _).trans Zv)) (Z6 (Z1 (CW.ret ?_)))))))
  have e0 := Zi hf
  subst e0
  refine Z104 (rs := [.cell 4 27]) ([.agg (u8s w10.toList).toArray]) ((some b3, blk (u8s w10.toList) 27) :: (some b2, blk (u8s w10.toList) 27) :: []) rfl ?_ rfl ?_ ?_ _ (.inl rfl)
  ·exact ⟨⟨_, _, _, _, rfl, Zh, rfl, rfl, (congrArg some ((Z102 _).trans Zv).symm), rfl⟩, trivial⟩
  ·exact rfl
  ·exact (fun w m => m)
 ·skip
  refine CW.block (Z121 (fun k L' M' => ∃ n16 : Nat, ∃ w18 : Vector (BitVec 8) 256, (bloom_Add.l1 x5 k n16 w18) = some q8 ∧ (n16 ≤ 9223372036854775807) ∧ L' = [(2, ptr (some b2) 0), (4, ptr (some b3) 0), (8, .agg (i64s x5.toList).toArray), (9, .int .i64 ((n16 : Nat) : Int))] ∧ M' = ((some b3, blk (u8s (Vector.replicate 256 0#8).toList) 27) :: (some b2, blk (u8s w18.toList) 27) :: ([] ++ N))) (k0 := (3 - 0 + 2)) ⟨0, a0, hq9, (by omega), rfl, rfl⟩ ⟨rfl, rfl, rfl, rfl, trivial⟩ (fun w m => m.pick [0, 1] 2 rfl rfl) ?_)
  clear hq9
  rintro k19 L22 M23 ⟨n16, w18, hl20, b17, e24, e25⟩
  rw [e24, e25]
  clear e24 e25 L22 M23
  rcases k19 with _ | k19
  ·rw [bloom_Add.l1] at hl20; cases hl20
  rw [bloom_Add.l1] at hl20
  refine Z4 (Z2 (Z0 (RV.lss rfl rfl) rfl (Z7 (.bool (decide (n16 < 3))) (congrArg Value.bool (decide_eq_decide.2 (by omega))) (Z6 (Z1 (Z4 ?_))))))
  by_cases h26 : n16 < 3
  ·replace hl20 := if_t hl20 h26
   refine Z13 rfl (decide_eq_true h26) (CW.skip (Z1 (Z4 (CW.block (Z4 (Z2 ?_))))))
   obtain ⟨x27, hx28, hl20⟩ := Z100 hl20
   have hl29 := (Vector.getElem?_eq_some_iff.1 hx28).1
   refine Z0 (RV.indexV (n16) rfl rfl rfl rfl rfl rfl rfl (by omega) (i64s_at (vat hx28))) rfl (Z0 (Z5 rfl) rfl (Z6 (Z1 (Z2 (Z0 (Z22 rfl (List.Mem.tail _ Zh) rfl rfl rfl rfl ((Z102 _).trans Zv)) rfl (Z0 (Z3 rfl) rfl ?_))))))
   obtain ⟨g30, hl20⟩ := Z112 hl20
   obtain ⟨x32, hx31, hl20⟩ := Z100 hl20
   refine Z12 Tryd.call104 rfl (bloom_set_does w0 (More w0 Φ []) ((some b3, blk (u8s (Vector.replicate 256 0#8).toList) 27) :: (some b2, blk (u8s w18.toList) 27) :: ([] ++ N)) (fun w m => Z105 hΦ 2 m rfl) w18 x27 x32 (by omega) hx31) rfl rfl ?_
   rintro _ G33 rfl
   refine Z20 (M' := ((some b3, blk (u8s (Vector.replicate 256 0#8).toList) 27) :: (some b2, blk (u8s w18.toList) 27) :: ([] ++ N))) (fun w m => m.appR) (OW.rot1 (Z28 (Z103 rfl rfl rfl (Z129 _) rfl ((Z102 _).trans Zv) ((Z102 _).trans Zv)) (Z6 (Z27 (Z1 (Z2 (Z0 (RV.add rfl rfl (by omega)) rfl (Z7 (.int .i64 (((n16 + 1) : Nat) : Int)) (by first | rfl | (congr 1) | (congr 1; omega)) (Z0 (Z3 rfl) rfl (Z6 ?_))))))))))
   exact Z114 (k' := k19) (Nat.lt_succ_self _) ⟨(n16 + 1), x32, hl20, (by omega), rfl, rfl⟩ ⟨rfl, rfl, rfl, rfl, trivial⟩ (fun w m => m.pick [1, 0] 2 rfl rfl)
  ·replace hl20 := if_f hl20 h26
   refine Z14 rfl (decide_eq_false h26) (CW.exit (Z9 (Z9 (Z15 ?_))))
   exact QW.join ⟨w18, (Zi hl20).symm, rfl, rfl⟩ ⟨rfl, rfl, trivial⟩ (fun w m => m.pick [0, 1] 2 rfl rfl)
theorem bloom_Of_does (w0 : World) (Φ : Ctx) (N : List Ent) (hΦ : ∀ w, Mem w0 w N → Φ w) (A0_ : Option Addr) (c0_ : Nat) (cs0_ : List Value) (a0 : List (List (BitVec 8))) (res0 : Vector (BitVec 8) 256) (va0 : View Φ A0_ a0.length c0_ 1 cs0_) (ha0 : Reps (BsRd Φ) cs0_ a0) (hg2 : View Φ (some ⟨2, 0, none⟩) 2 2 1 (u8s firstL)) (hf : bloom_Of a0 = some res0) : DoesG Tryd.prog 51 [.slice A0_ a0.length c0_] w0 [] N (fun v G => v = .agg (u8s res0.toList).toArray) := by
 unfold bloom_Of at hf
 replace va0 := va0.mono (Ψ := More w0 Φ []) (fun w q => q.1)
 replace hg2 := hg2.mono (Ψ := More w0 Φ []) (fun w q => q.1)
 replace ha0 := ha0.mono (BsRd.mono (Ψ := More w0 Φ []) (fun w q => q.1))
 have m1 := va0.mx
 refine DoesG.enter Tryd.func51 rfl Tryd.ntmps51 rfl (M := (([] ++ N))) rfl (Z4 (Z2 (OW.alloc (l := (u8s (Vector.replicate 256 0#8).toList)) rfl (by rw [Vector.toList_replicate, ← Z135]; rfl) rfl (fun b2 => (Z6 (Z1 (Z4 (Z2 (OW.alloc (l := (u8s (Vector.replicate 256 0#8).toList)) rfl (by rw [Vector.toList_replicate, ← Z135]; rfl) rfl (fun b3 => (Z6 (Z1 (Z4 (Z4 (Z2 (Z0 (Z3 rfl) rfl (Z0 (RV.len rfl rfl) rfl ?_)))))))))))))))))
 refine Z0 (Z3 rfl) rfl (Z6 (Z1 ?_))
 obtain ⟨q4, hq5, hf⟩ := Z100 hf
 refine Z115 (fun L' M' => ∃ w6 : Vector (BitVec 8) 256, q4 = w6 ∧ L' = [(2, ptr (some b2) 0), (3, ptr (some b3) 0)] ∧ M' = ((some b3, blk (u8s w6.toList) 27) :: (some b2, blk (u8s (Vector.replicate 256 0#8).toList) 27) :: ([] ++ N))) ?_ ?_
 ·rintro L8 M9 ⟨w6, e7, e10, e11⟩
  rw [e10, e11]
  clear e10 e11 L8 M9
  clear hq5
  rw [e7] at hf
  clear e7
  try dsimp only at hf
  refine Z1 (Z4 (Z2 (Z0 (Z22 rfl Zh rfl rfl rfl rfl ((Z102 _).trans Zv)) rfl (OW.rot1 (Z28 (Z103 rfl rfl rfl (Z129 _) rfl ((Z102 _).trans Zv) ((Z102 _).trans Zv)) (Z6 (Z1 (CW.ret ?_))))))))
  have e0 := Zi hf
  subst e0
  refine Z104 (rs := [.cell 2 27]) ([.agg (u8s w6.toList).toArray]) ((some b2, blk (u8s w6.toList) 27) :: (some b3, blk (u8s w6.toList) 27) :: []) rfl ?_ rfl ?_ ?_ _ (.inl rfl)
  ·exact ⟨⟨_, _, _, _, rfl, Zh, rfl, rfl, (congrArg some ((Z102 _).trans Zv).symm), rfl⟩, trivial⟩
  ·exact rfl
  ·exact (fun w m => m)
 ·skip
  refine CW.block (Z121 (fun k L' M' => ∃ n12 : Nat, ∃ w14 : Vector (BitVec 8) 256, (bloom_Of.l1 a0 k n12 w14) = some q4 ∧ (n12 ≤ 9223372036854775807) ∧ L' = [(2, ptr (some b2) 0), (3, ptr (some b3) 0), (6, .slice A0_ a0.length c0_), (7, .int .i64 ((a0.length : Nat) : Int)), (8, .int .i64 ((n12 : Nat) : Int))] ∧ M' = ((some b3, blk (u8s w14.toList) 27) :: (some b2, blk (u8s (Vector.replicate 256 0#8).toList) 27) :: ([] ++ N))) (k0 := (a0.length - 0 + 2)) ⟨0, (Vector.replicate 256 0#8), hq5, (by omega), rfl, rfl⟩ ⟨rfl, rfl, rfl, rfl, rfl, trivial⟩ (fun w m => m.pick [0, 1] 2 rfl rfl) ?_)
  clear hq5
  rintro k15 L18 M19 ⟨n12, w14, hl16, b13, e20, e21⟩
  rw [e20, e21]
  clear e20 e21 L18 M19
  rcases k15 with _ | k15
  ·rw [bloom_Of.l1] at hl16; cases hl16
  rw [bloom_Of.l1] at hl16
  refine Z4 (Z2 (Z0 (RV.lss rfl rfl) rfl (Z7 (.bool (decide (n12 < a0.length))) (congrArg Value.bool (decide_eq_decide.2 (by omega))) (Z6 (Z1 (Z4 ?_))))))
  by_cases h22 : n12 < a0.length
  ·replace hl16 := if_t hl16 h22
   refine Z13 rfl (decide_eq_true h22) (CW.skip (Z1 (Z4 (CW.block (Z4 (Z2 ?_))))))
   obtain ⟨x23, hx24, hl16⟩ := Z100 hl16
   have hl25 := Z111 hx24
   refine Z0 (Z131 (n12) rfl rfl rfl rfl rfl (va0.isSome (by decide) hl25) (by omega)) rfl ?_
   obtain ⟨cs26, h27, h28⟩ := ha0.get BsRd.len hx24
   obtain ⟨A29, c30, e32, v31⟩ := h27
   subst e32
   have m33 := v31.mx
   refine Z0 (Z21 rfl rfl rfl (fun w m => by have := va0.load (Z105 hΦ 2 m rfl) h28 0 _ rfl; simpa [Addr.add] using this)) rfl ?_
   refine Z0 (Z5 rfl) rfl (Z6 (Z1 (Z2 (Z0 (Z22 rfl Zh rfl rfl rfl rfl ((Z102 _).trans Zv)) rfl (Z0 (Z3 rfl) rfl ?_)))))
   obtain ⟨x35, hx34, hl16⟩ := Z100 hl16
   refine Z12 Tryd.call78 rfl (bloom_Add_does w0 (More w0 Φ []) ((some b3, blk (u8s w14.toList) 27) :: (some b2, blk (u8s (Vector.replicate 256 0#8).toList) 27) :: ([] ++ N)) (fun w m => Z105 hΦ 2 m rfl) w14 A29 c30 x23 x35 v31 hg2 hx34) rfl rfl ?_
   rintro _ G36 rfl
   refine Z20 (M' := ((some b3, blk (u8s w14.toList) 27) :: (some b2, blk (u8s (Vector.replicate 256 0#8).toList) 27) :: ([] ++ N))) (fun w m => m.appR) (Z28 (Z103 rfl rfl rfl (Z129 _) rfl ((Z102 _).trans Zv) ((Z102 _).trans Zv)) (Z6 (Z27 (Z1 (Z2 (Z0 (RV.add rfl rfl (by omega)) rfl (Z7 (.int .i64 (((n12 + 1) : Nat) : Int)) (by first | rfl | (congr 1) | (congr 1; omega)) (Z0 (Z3 rfl) rfl (Z6 ?_)))))))))
   exact Z114 (k' := k15) (Nat.lt_succ_self _) ⟨(n12 + 1), x35, hl16, (by omega), rfl, rfl⟩ ⟨rfl, rfl, rfl, rfl, rfl, trivial⟩ (fun w m => m.pick [0, 1] 2 rfl rfl)
  ·replace hl16 := if_f hl16 h22
   refine Z14 rfl (decide_eq_false h22) (CW.exit (Z9 (Z9 (Z15 ?_))))
   exact QW.join ⟨w14, (Zi hl16).symm, rfl, rfl⟩ ⟨rfl, rfl, trivial⟩ (fun w m => m.pick [0, 1] 2 rfl rfl)
theorem waybillref02_filled_does (w0 : World) (Φ : Ctx) (N : List Ent) (hΦ : ∀ w, Mem w0 w N → Φ w) (A0_ : Option Addr) (c0_ : Nat) (a0 : List (BitVec 8)) (a1 : BitVec 8) (res0 : List (BitVec 8)) (va0 : View Φ A0_ a0.length c0_ 1 (u8s a0)) (hf : waybillref02_filled a0 a1 = some res0) : DoesG Tryd.prog 147 [.slice A0_ a0.length c0_, U8 a1] w0 [] N (fun v G => ∃ B : List Ent, ∃ or0 : Option Nat, ∃ kr0 : Nat, ∃ rr0 : List Value, (OwnS or0 res0.length kr0 1 (u8s res0) rr0) ∧ v = sl or0 0 res0.length kr0 ∧ G = (or0, blk ((u8s res0) ++ rr0) 5) :: B) := by
 unfold waybillref02_filled at hf
 replace va0 := va0.mono (Ψ := More w0 Φ []) (fun w q => q.1)
 have m1 := va0.mx
 refine DoesG.enter Tryd.func147 rfl Tryd.ntmps147 rfl (M := (([] ++ N))) rfl (Z4 (Z2 (Z0 (Z5 rfl) rfl (Z6 (Z1 (Z4 (Z2 (Z0 (Z5 rfl) rfl (Z6 (Z1 (Z4 (Z2 (Z0 (Z3 rfl) rfl (Z0 (Z3 rfl) rfl ?_))))))))))))))
 refine Z20 (M' := ((none, blk ((u8s ([] : List (BitVec 8))) ++ []) 5) :: ([] ++ N))) (fun w m => m.nil_ent _) (OW.appendOwn (s := 1) rfl rfl rfl rfl rfl rfl OwnS.nil (fun w m => va0.rd w (Z105 hΦ 1 m rfl)) va0.n (Z129 _) (va0.zero (by decide)) (by decide) (by decide) (by first | omega | (simp only [i5, List.length_nil]; omega)) rfl rfl (a0.length) (u8s a0) (Nat.zero_add _) rfl (fun ob2 r3 c4 o5 => ?_))
 have m6 := o5.mx
 refine Z0 (Z5 rfl) rfl (Z6 (Z1 (Z4 (Z2 (Z0 (Z3 rfl) rfl (Z0 (Z3 rfl) rfl (OW.ofN (NV.bs1 rfl rfl rfl rfl rfl rfl) rfl (fun b7 => (Z20 (M' := (((some b7), blk ((u8s ([a1] : List (BitVec 8))) ++ []) 5) :: (ob2, blk ((u8s a0) ++ r3) 5) :: ([] ++ N))) (fun w m => by first | exact m | simpa [u8s] using m) ?_)))))))))
 have o8 : OwnS (some b7) ([a1] : List (BitVec 8)).length 1 1 (u8s ([a1] : List (BitVec 8))) [] := ⟨by simp [u8s], by simp [u8s], (fun h => nomatch h), by simp⟩
 have mx_o8 := o8.mx
 refine Z7 (sl (some b7) 0 ([a1] : List (BitVec 8)).length 1) (rfl) (OW.rot1 ?_)
 obtain ⟨g9, hf⟩ := Z112 hf
 refine OW.appendOwn (s := 1) rfl rfl rfl rfl rfl rfl o5 (fun w m => m.rd0 (List.Mem.tail _ Zh) (fun e => o8.nilc (by decide) e)) o8.n (Z129 _) (o8.zeroO (by decide)) (by decide) (by decide) (by first | omega | (simp only [i5, List.length_nil]; omega)) rfl rfl ((a0 ++ ([a1] : List (BitVec 8))).length) (u8s (a0 ++ ([a1] : List (BitVec 8)))) (List.length_append ..).symm (u8s_app _ _) (fun ob10 r11 c12 o13 => ?_)
 have m14 := o13.mx
 refine Z0 (Z5 rfl) rfl (Z6 (Z1 (Z4 ?_)))
 obtain ⟨q15, hq16, hf⟩ := Z100 hf
 refine Z115 (fun L' M' => ∃ l17 : List (BitVec 8), ∃ ob18 : Option Nat, ∃ c19 : Nat, ∃ r20 : List Value, q15 = l17 ∧ (OwnS ob18 l17.length c19 1 (u8s l17) r20) ∧ L' = [(5, sl ob18 0 l17.length c19)] ∧ M' = ((ob18, blk ((u8s l17) ++ r20) 5) :: ([] ++ N))) ?_ ?_
 ·rintro L23 M24 ⟨l17, ob18, c19, r20, e22, o21, e25, e26⟩
  rw [e25, e26]
  clear e25 e26 L23 M24
  clear hq16
  rw [e22] at hf
  clear e22
  try dsimp only at hf
  have m27 := o21.mx
  refine Z1 (Z4 (Z2 (Z0 (Z3 rfl) rfl (Z0 (Z3 rfl) rfl (Z0 (RV.len rfl rfl) rfl (Z0 (RV.sub rfl rfl (by omega)) rfl (Z0 (Z3 rfl) rfl (Z0 (Z3 rfl) rfl (Z0 (RV.len rfl rfl) rfl ?_)))))))))
  refine Z0 (RV.sub rfl rfl (by omega)) rfl ?_
  obtain ⟨g28, hf⟩ := Z112 hf
  obtain ⟨x29, hx30, hf⟩ := Z100 hf
  have hl31 := Z111 hx30
  refine Z0 (RV.idx_o (((((l17.length : Nat) : Int) - (1 : Int))).toNat) rfl rfl (by omega) rfl rfl (o21.isSome (by decide) hl31) (by omega)) rfl (Z0 (Z29 rfl Zh (o21.isSome (by decide) hl31) rfl rfl (own_at0 (Z148 hx30))) rfl (Z0 (RV.or8 rfl (by first | rfl | exact lit8 _ rfl) rfl (by first | rfl | exact lit8 _ rfl)) rfl ?_))
  obtain ⟨x32, hx33, hf⟩ := Z100 hf
  have hl34 := Z111 hx33
  refine Z0 (RV.idx_o (((((l17.length : Nat) : Int) - (1 : Int))).toNat) rfl rfl (by omega) rfl rfl (o21.isSome (by decide) hl34) (by omega)) rfl (Z28 (SV.store rfl (o21.isSome (by decide) hl34) rfl rfl rfl (by rw [List.length_append, Z102]; omega)) ?_)
  refine OW.cells ((u8s (l17.set (((((l17.length : Nat) : Int) - (1 : Int))).toNat) (x29 ||| 128#8))) ++ r20) (by rw [Nat.zero_add, List.set_append_left _ _ (by rw [Z102]; omega)]; first | rw [Z163] | (rw [← Z163]; rfl)) ?_
  have o35 : OwnS ob18 (l17.set (((((l17.length : Nat) : Int) - (1 : Int))).toNat) (x29 ||| 128#8)).length c19 1 (u8s (l17.set (((((l17.length : Nat) : Int) - (1 : Int))).toNat) (x29 ||| 128#8))) r20 := OwnS.same o21 (by simp) (by simp)
  refine OW.frame (L' := [(5, sl ob18 0 (l17.set (((((l17.length : Nat) : Int) - (1 : Int))).toNat) (x29 ||| 128#8)).length c19), (20, sl ob18 0 (l17.set (((((l17.length : Nat) : Int) - (1 : Int))).toNat) (x29 ||| 128#8)).length c19), (21, sl ob18 0 (l17.set (((((l17.length : Nat) : Int) - (1 : Int))).toNat) (x29 ||| 128#8)).length c19), (22, .int .i64 ((l17.length : Nat) : Int)), (23, .int .i64 (((l17.length : Nat) : Int) - (1 : Int))), (24, sl ob18 0 (l17.set (((((l17.length : Nat) : Int) - (1 : Int))).toNat) (x29 ||| 128#8)).length c19), (25, sl ob18 0 (l17.set (((((l17.length : Nat) : Int) - (1 : Int))).toNat) (x29 ||| 128#8)).length c19), (26, .int .i64 ((l17.length : Nat) : Int)), (27, .int .i64 (((l17.length : Nat) : Int) - (1 : Int))), (29, U8 x29), (30, U8 (x29 ||| 128#8))]) (fun k v h => Sub.get (L' := [(5, sl ob18 0 (l17.set (((((l17.length : Nat) : Int) - (1 : Int))).toNat) (x29 ||| 128#8)).length c19), (20, sl ob18 0 (l17.set (((((l17.length : Nat) : Int) - (1 : Int))).toNat) (x29 ||| 128#8)).length c19), (21, sl ob18 0 (l17.set (((((l17.length : Nat) : Int) - (1 : Int))).toNat) (x29 ||| 128#8)).length c19), (22, .int .i64 ((l17.length : Nat) : Int)), (23, .int .i64 (((l17.length : Nat) : Int) - (1 : Int))), (24, sl ob18 0 (l17.set (((((l17.length : Nat) : Int) - (1 : Int))).toNat) (x29 ||| 128#8)).length c19), (25, sl ob18 0 (l17.set (((((l17.length : Nat) : Int) - (1 : Int))).toNat) (x29 ||| 128#8)).length c19), (26, .int .i64 ((l17.length : Nat) : Int)), (27, .int .i64 (((l17.length : Nat) : Int) - (1 : Int))), (29, U8 x29), (30, U8 (x29 ||| 128#8))]) ?_ k v h) ?_
  ·exact ⟨(congrArg (fun k => some (sl ob18 0 k c19)) (List.length_set ..).symm), (congrArg (fun k => some (sl ob18 0 k c19)) (List.length_set ..).symm), (congrArg (fun k => some (sl ob18 0 k c19)) (List.length_set ..).symm), rfl, rfl, (congrArg (fun k => some (sl ob18 0 k c19)) (List.length_set ..).symm), (congrArg (fun k => some (sl ob18 0 k c19)) (List.length_set ..).symm), rfl, rfl, rfl, rfl, trivial⟩
  refine Z6 (Z1 (Z4 (Z2 (Z0 (Z3 rfl) rfl (Z0 (Z5 rfl) rfl (Z6 (Z1 (CW.ret ?_))))))))
  have e0 := Zi hf
  subst e0
  refine Z104 (rs := [.tmp 4]) ([sl ob18 0 (l17.set (((((l17.length : Nat) : Int) - (1 : Int))).toNat) (x29 ||| 128#8)).length c19]) ((ob18, blk ((u8s (l17.set (((((l17.length : Nat) : Int) - (1 : Int))).toNat) (x29 ||| 128#8))) ++ r20) 5) :: []) rfl ?_ rfl ?_ ?_ _ (.inl rfl)
  ·exact ⟨rfl, trivial⟩
  ·exact ⟨[], ob18, c19, r20, o35, rfl, rfl⟩
  ·exact (fun w m => m.pick [0] 1 rfl rfl)
 ·skip
  refine CW.block (Z121 (fun k L' M' => ∃ l36 : List (BitVec 8), ∃ ob37 : Option Nat, ∃ c38 : Nat, ∃ r39 : List Value, (waybillref02_filled.l1 k l36) = some q15 ∧ (OwnS ob37 l36.length c38 1 (u8s l36) r39) ∧ L' = [(5, sl ob37 0 l36.length c38)] ∧ M' = ((ob37, blk ((u8s l36) ++ r39) 5) :: ([] ++ N))) (k0 := 140) ⟨(a0 ++ ([a1] : List (BitVec 8))), ob10, c12, r11, hq16, o13, rfl, rfl⟩ ⟨rfl, trivial⟩ (fun w m => m.pick [0] 2 rfl rfl) ?_)
  clear hq16
  rintro k41 L44 M45 ⟨l36, ob37, c38, r39, hl42, o40, e46, e47⟩
  rw [e46, e47]
  clear e46 e47 L44 M45
  rcases k41 with _ | k41
  ·rw [waybillref02_filled.l1] at hl42; cases hl42
  rw [waybillref02_filled.l1] at hl42
  have m48 := o40.mx
  refine Z4 (Z4 (Z2 (Z0 (Z3 rfl) rfl (Z0 (RV.len rfl rfl) rfl (Z0 (RV.rem rfl rfl (by omega) (by omega)) rfl (Z7 (.int .i64 ((l36.length % 136 : Nat) : Int)) (by first | rfl | (congr 1; omega)) (Z0 (RV.neq rfl rfl) rfl (Z7 (.bool (!decide ((l36.length % 136) = 0))) (congrArg (fun b => Value.bool (!b)) (decide_eq_decide.2 (by omega))) (Z6 (Z1 ?_))))))))))
  by_cases h49 : (l36.length % 136) = 0
  ·replace hl42 := if_t hl42 h49
   refine Z14 rfl (congrArg (fun b => !b) (decide_eq_true h49)) (CW.exit (Z9 (Z9 (Z15 ?_))))
   exact QW.join ⟨l36, ob37, c38, r39, (Zi hl42).symm, o40, rfl, rfl⟩ ⟨rfl, trivial⟩ (fun w m => m.pick [0] 1 rfl rfl)
  ·replace hl42 := if_f hl42 h49
   refine Z13 rfl (congrArg (fun b => !b) (decide_eq_false h49)) (CW.skip (Z1 (CW.block (Z2 (Z0 (Z3 rfl) rfl (OW.ofN (NV.bs1 rfl rfl rfl rfl rfl rfl) rfl (fun b50 => (Z20 (M' := (((some b50), blk ((u8s ([0#8] : List (BitVec 8))) ++ []) 5) :: (ob37, blk ((u8s l36) ++ r39) 5) :: ([] ++ N))) (fun w m => by first | exact m | simpa [u8s] using m) ?_))))))))
   have o51 : OwnS (some b50) ([0#8] : List (BitVec 8)).length 1 1 (u8s ([0#8] : List (BitVec 8))) [] := ⟨by simp [u8s], by simp [u8s], (fun h => nomatch h), by simp⟩
   have mx_o51 := o51.mx
   refine Z7 (sl (some b50) 0 ([0#8] : List (BitVec 8)).length 1) (rfl) (OW.rot1 ?_)
   obtain ⟨g52, hl42⟩ := Z112 hl42
   refine OW.appendOwn (s := 1) rfl rfl rfl rfl rfl rfl o40 (fun w m => m.rd0 (List.Mem.tail _ Zh) (fun e => o51.nilc (by decide) e)) o51.n (Z129 _) (o51.zeroO (by decide)) (by decide) (by decide) (by first | omega | (simp only [i5, List.length_nil]; omega)) rfl rfl ((l36 ++ ([0#8] : List (BitVec 8))).length) (u8s (l36 ++ ([0#8] : List (BitVec 8)))) (List.length_append ..).symm (u8s_app _ _) (fun ob53 r54 c55 o56 => ?_)
   have m57 := o56.mx
   refine Z0 (Z5 rfl) rfl (Z6 (Z27 ?_))
   exact Z114 (k' := k41) (Nat.lt_succ_self _) ⟨(l36 ++ ([0#8] : List (BitVec 8))), ob53, c55, r54, hl42, o56, rfl, rfl⟩ ⟨rfl, trivial⟩ (fun w m => m.pick [0] 2 rfl rfl)
theorem waybillref02_joined_does (w0 : World) (Φ : Ctx) (N : List Ent) (hΦ : ∀ w, Mem w0 w N → Φ w) (A0_ : Option Addr) (c0_ : Nat) (cs0_ : List Value) (a0 : List (List (BitVec 8))) (res0 : List (BitVec 8)) (va0 : View Φ A0_ a0.length c0_ 1 cs0_) (ha0 : Reps (BsRd Φ) cs0_ a0) (hf : waybillref02_joined a0 = some res0) : DoesG Tryd.prog 141 [.slice A0_ a0.length c0_] w0 [] N (fun v G => ∃ B : List Ent, ∃ or0 : Option Nat, ∃ kr0 : Nat, ∃ rr0 : List Value, (OwnS or0 res0.length kr0 1 (u8s res0) rr0) ∧ v = sl or0 0 res0.length kr0 ∧ G = (or0, blk ((u8s res0) ++ rr0) 5) :: B) := by
 unfold waybillref02_joined at hf
 replace va0 := va0.mono (Ψ := More w0 Φ []) (fun w q => q.1)
 replace ha0 := ha0.mono (BsRd.mono (Ψ := More w0 Φ []) (fun w q => q.1))
 have m1 := va0.mx
 refine DoesG.enter Tryd.func141 rfl Tryd.ntmps141 rfl (M := (([] ++ N))) rfl (Z4 (Z2 (Z0 (Z5 rfl) rfl (Z6 (Z1 (Z4 (Z2 (Z0 (Z5 rfl) rfl (Z6 (Z1 (Z4 (Z4 (Z2 (Z0 (Z5 rfl) rfl (Z6 (Z1 ?_))))))))))))))))
 obtain ⟨q2, hq3, hf⟩ := Z100 hf
 refine Z115 (fun L' M' => ∃ l4 : List (BitVec 8), ∃ ob5 : Option Nat, ∃ c6 : Nat, ∃ r7 : List Value, q2 = l4 ∧ (OwnS ob5 l4.length c6 1 (u8s l4) r7) ∧ L' = [(3, sl ob5 0 l4.length c6)] ∧ M' = ((ob5, blk ((u8s l4) ++ r7) 5) :: ([] ++ N))) ?_ ?_
 ·rintro L10 M11 ⟨l4, ob5, c6, r7, e9, o8, e12, e13⟩
  rw [e12, e13]
  clear e12 e13 L10 M11
  clear hq3
  rw [e9] at hf
  clear e9
  try dsimp only at hf
  have m14 := o8.mx
  refine Z1 (Z4 (Z2 (Z0 (Z3 rfl) rfl (Z0 (Z5 rfl) rfl (Z6 (Z1 (CW.ret ?_)))))))
  have e0 := Zi hf
  subst e0
  refine Z104 (rs := [.tmp 2]) ([sl ob5 0 l4.length c6]) ((ob5, blk ((u8s l4) ++ r7) 5) :: []) rfl ?_ rfl ?_ ?_ _ (.inl rfl)
  ·exact ⟨rfl, trivial⟩
  ·exact ⟨[], ob5, c6, r7, o8, rfl, rfl⟩
  ·exact (fun w m => m.pick [0] 1 rfl rfl)
 ·skip
  refine CW.block (CW.mem (M' := ((none, blk ((u8s ([] : List (BitVec 8))) ++ []) 5) :: ([] ++ N))) (fun w m => m.nil_ent _) (Z121 (fun k L' M' => ∃ l15 : List (BitVec 8), ∃ n20 : Nat, ∃ ob16 : Option Nat, ∃ c17 : Nat, ∃ r18 : List Value, (waybillref02_joined.l1 a0 k l15 n20) = some q2 ∧ (OwnS ob16 l15.length c17 1 (u8s l15) r18) ∧ (n20 ≤ 9223372036854775807) ∧ L' = [(0, .slice A0_ a0.length c0_), (3, sl ob16 0 l15.length c17), (4, .int .i64 ((n20 : Nat) : Int))] ∧ M' = ((ob16, blk ((u8s l15) ++ r18) 5) :: ([] ++ N))) (k0 := (a0.length - 0 + 2)) ⟨([] : List (BitVec 8)), 0, none, 0, [], hq3, OwnS.nil, (by omega), rfl, rfl⟩ ⟨rfl, rfl, rfl, trivial⟩ (fun w m => m.pick [0] 1 rfl rfl) ?_))
  clear hq3
  rintro k22 L25 M26 ⟨l15, n20, ob16, c17, r18, hl23, o19, b21, e27, e28⟩
  rw [e27, e28]
  clear e27 e28 L25 M26
  rcases k22 with _ | k22
  ·rw [waybillref02_joined.l1] at hl23; cases hl23
  rw [waybillref02_joined.l1] at hl23
  have m29 := o19.mx
  refine Z4 (Z4 (Z2 (Z0 (Z3 rfl) rfl (Z0 (Z3 rfl) rfl (Z0 (RV.len rfl rfl) rfl (Z0 (RV.lss rfl rfl) rfl (Z7 (.bool (decide (n20 < a0.length))) (congrArg Value.bool (decide_eq_decide.2 (by omega))) (Z6 (Z1 ?_)))))))))
  by_cases h30 : n20 < a0.length
  ·replace hl23 := if_t hl23 h30
   refine Z13 rfl (decide_eq_true h30) (CW.skip (Z1 (Z4 (CW.block (Z2 (Z0 (Z3 rfl) rfl (Z0 (Z3 rfl) rfl (Z0 (Z3 rfl) rfl ?_))))))))
   obtain ⟨x31, hx32, hl23⟩ := Z100 hl23
   have hl33 := Z111 hx32
   refine Z0 (Z131 (n20) rfl rfl rfl rfl rfl (va0.isSome (by decide) hl33) (by omega)) rfl ?_
   obtain ⟨cs34, h35, h36⟩ := ha0.get BsRd.len hx32
   obtain ⟨A37, c38, e40, v39⟩ := h35
   subst e40
   have m41 := v39.mx
   refine Z0 (Z21 rfl rfl rfl (fun w m => by have := va0.load (Z105 hΦ 1 m rfl) h36 0 _ rfl; simpa [Addr.add] using this)) rfl ?_
   obtain ⟨g42, hl23⟩ := Z112 hl23
   refine OW.appendOwn (s := 1) rfl rfl rfl rfl rfl rfl o19 (fun w m => v39.rd w (Z105 hΦ 1 m rfl)) v39.n (Z129 _) (v39.zero (by decide)) (by decide) (by decide) (by first | omega | (simp only [i5, List.length_nil]; omega)) rfl rfl ((l15 ++ x31).length) (u8s (l15 ++ x31)) (List.length_append ..).symm (u8s_app _ _) (fun ob43 r44 c45 o46 => ?_)
   have m47 := o46.mx
   refine Z0 (Z5 rfl) rfl (Z6 (Z27 (Z1 (Z2 (Z0 (Z3 rfl) rfl (Z0 (RV.add rfl rfl (by omega)) rfl (Z7 (.int .i64 (((n20 + 1) : Nat) : Int)) (by first | rfl | (congr 1) | (congr 1; omega)) (Z0 (Z5 rfl) rfl (Z6 ?_)))))))))
   exact Z114 (k' := k22) (Nat.lt_succ_self _) ⟨(l15 ++ x31), (n20 + 1), ob43, c45, r44, hl23, o46, (by omega), rfl, rfl⟩ ⟨rfl, rfl, rfl, trivial⟩ (fun w m => m.pick [0] 1 rfl rfl)
  ·replace hl23 := if_f hl23 h30
   refine Z14 rfl (decide_eq_false h30) (CW.exit (Z9 (Z9 (Z15 ?_))))
   exact QW.join ⟨l15, ob16, c17, r18, (Zi hl23).symm, o19, rfl, rfl⟩ ⟨rfl, trivial⟩ (fun w m => m.pick [0] 1 rfl rfl)
theorem waybillref02_Digest_does (w0 : World) (Φ : Ctx) (N : List Ent) (hΦ : ∀ w, Mem w0 w N → Φ w) (A0_ : Option Addr) (c0_ : Nat) (a0 : List (BitVec 8)) (a1 : BitVec 8) (res0 : Vector (BitVec 8) 32) (va0 : View Φ A0_ a0.length c0_ 1 (u8s a0)) (hTn : ∀ i, i < 25 → w0.cell? ⟨4, i, none⟩ = some (.int .i64 (turnsL.getD i 0))) (hRn : ∀ i, i < 24 → w0.cell? ⟨3, i, none⟩ = some (U64 (g64 roundsL i))) (hf : waybillref02_Digest a0 a1 = some res0) : DoesG Tryd.prog 140 [.slice A0_ a0.length c0_, U8 a1] w0 [] N (fun v G => v = .agg (u8s res0.toList).toArray) := by
 unfold waybillref02_Digest at hf
 replace va0 := va0.mono (Ψ := More w0 Φ []) (fun w q => q.1)
 have m1 := va0.mx
 refine DoesG.enter Tryd.func140 rfl Tryd.ntmps140 rfl (M := (([] ++ N))) rfl (Z4 (Z2 (OW.alloc (l := (u8s (Vector.replicate 32 0#8).toList)) rfl (by rw [Vector.toList_replicate, ← Z135]; rfl) rfl (fun b2 => (Z6 (Z1 (Z4 (Z2 (Z0 (Z3 rfl) rfl (Z0 (Z3 rfl) rfl ?_))))))))))
 obtain ⟨x4, hx3, hf⟩ := Z100 hf
 refine Z12 Tryd.call147 rfl (waybillref02_filled_does w0 (More w0 Φ []) ((some b2, blk (u8s (Vector.replicate 32 0#8).toList) 24) :: ([] ++ N)) (fun w m => Z105 hΦ 1 m rfl) A0_ c0_ a0 a1 x4 va0 hx3) rfl rfl ?_
 rintro L10 M11 ⟨B5, ob6, c7, r8, o9, e12, e13⟩
 rw [e12, e13]
 clear e12 e13 L10 M11
 refine Z20 (M' := ((ob6, blk ((u8s x4) ++ r8) 5) :: (some b2, blk (u8s (Vector.replicate 32 0#8).toList) 24) :: ((B5 ++ []) ++ N))) (fun w m => by have h := Z113 (A := B5) m 1 1 rfl rfl; exact h) ?_
 have gq1 : ∀ w, More w0 Φ (B5 ++ []) w → More w0 Φ [] w := fun w q => More.mono (fun w m => (m).appR) q
 replace va0 := va0.mono gq1
 have m14 := o9.mx
 refine Z0 (Z5 rfl) rfl (Z6 (Z1 (Z4 (Z2 (OW.alloc (l := (u64s (Vector.replicate 25 0#64).toList)) rfl (by rw [Vector.toList_replicate, ← Z116]; rfl) rfl (fun b15 => (Z6 (Z1 (Z4 (Z4 (Z2 (Z0 (Z5 rfl) rfl (Z6 (Z1 ?_))))))))))))))
 obtain ⟨q16, hq17, hf⟩ := Z100 hf
 refine Z115 (fun L' M' => ∃ w18 : Vector (BitVec 64) 25, q16 = w18 ∧ L' = [(4, ptr (some b2) 0), (6, ptr (some b15) 0)] ∧ M' = ((some b15, blk (u64s w18.toList) 183) :: (some b2, blk (u8s (Vector.replicate 32 0#8).toList) 24) :: ((B5 ++ []) ++ N))) ?_ ?_
 ·rintro L20 M21 ⟨w18, e19, e22, e23⟩
  rw [e22, e23]
  clear e22 e23 L20 M21
  clear hq17
  rw [e19] at hf
  clear e19
  try dsimp only at hf
  refine Z1 (Z4 (Z2 (OW.alloc (l := (u8s (Vector.replicate 32 0#8).toList)) rfl (by rw [Vector.toList_replicate, ← Z135]; rfl) rfl (fun b24 => (Z6 (Z1 (Z4 (Z4 (Z2 (Z0 (Z5 rfl) rfl (Z6 (Z1 ?_))))))))))))
  obtain ⟨q25, hq26, hf⟩ := Z100 hf
  refine Z115 (fun L' M' => ∃ w27 : Vector (BitVec 8) 32, q25 = w27 ∧ L' = [(4, ptr (some b2) 0), (9, ptr (some b24) 0)] ∧ M' = ((some b24, blk (u8s w27.toList) 24) :: (some b2, blk (u8s (Vector.replicate 32 0#8).toList) 24) :: ((B5 ++ []) ++ N))) ?_ ?_
  ·rintro L29 M30 ⟨w27, e28, e31, e32⟩
   rw [e31, e32]
   clear e31 e32 L29 M30
   clear hq26
   rw [e28] at hf
   clear e28
   try dsimp only at hf
   refine Z1 (Z4 (Z2 (Z0 (Z22 rfl Zh rfl rfl rfl rfl ((Z102 _).trans Zv)) rfl (OW.rot1 (Z28 (Z103 rfl rfl rfl (Z129 _) rfl ((Z102 _).trans Zv) ((Z102 _).trans Zv)) (Z6 (Z1 (CW.ret ?_))))))))
   have e0 := Zi hf
   subst e0
   refine Z104 (rs := [.cell 4 24]) ([.agg (u8s w27.toList).toArray]) ((some b2, blk (u8s w27.toList) 24) :: (some b24, blk (u8s w27.toList) 24) :: (B5 ++ [])) rfl ?_ rfl ?_ ?_ _ (.inl rfl)
   ·exact ⟨⟨_, _, _, _, rfl, Zh, rfl, rfl, (congrArg some ((Z102 _).trans Zv).symm), rfl⟩, trivial⟩
   ·exact rfl
   ·exact (fun w m => m)
  ·skip
   refine CW.block (Z121 (fun k L' M' => ∃ n33 : Nat, ∃ w35 : Vector (BitVec 8) 32, (waybillref02_Digest.l1 w18 k n33 w35) = some q25 ∧ (n33 ≤ 9223372036854775807) ∧ L' = [(4, ptr (some b2) 0), (6, ptr (some b15) 0), (9, ptr (some b24) 0), (10, .int .i64 ((n33 : Nat) : Int))] ∧ M' = ((some b24, blk (u8s w35.toList) 24) :: (some b15, blk (u64s w18.toList) 183) :: (some b2, blk (u8s (Vector.replicate 32 0#8).toList) 24) :: ((B5 ++ []) ++ N))) (k0 := (32 - 0 + 2)) ⟨0, (Vector.replicate 32 0#8), hq26, (by omega), rfl, rfl⟩ ⟨rfl, rfl, rfl, rfl, trivial⟩ (fun w m => m.pick [0, 1, 2] 3 rfl rfl) ?_)
   clear hq26
   rintro k36 L39 M40 ⟨n33, w35, hl37, b34, e41, e42⟩
   rw [e41, e42]
   clear e41 e42 L39 M40
   rcases k36 with _ | k36
   ·rw [waybillref02_Digest.l1] at hl37; cases hl37
   rw [waybillref02_Digest.l1] at hl37
   refine Z4 (Z4 (Z2 (Z0 (Z3 rfl) rfl (Z0 (RV.lss rfl rfl) rfl (Z7 (.bool (decide (n33 < 32))) (congrArg Value.bool (decide_eq_decide.2 (by omega))) (Z6 (Z1 ?_)))))))
   by_cases h43 : n33 < 32
   ·replace hl37 := if_t hl37 h43
    refine Z13 rfl (decide_eq_true h43) (CW.skip (Z1 (Z4 (CW.block (Z2 (Z0 (Z3 rfl) rfl (Z0 (Z3 rfl) rfl (Z0 (RV.quo rfl rfl (by omega) (by omega) (by omega)) rfl (Z7 (.int .i64 ((n33 / 8 : Nat) : Int)) (by first | rfl | (congr 1; omega)) ?_)))))))))
    obtain ⟨g44, hl37⟩ := Z112 hl37
    refine Z0 (Z109 ((n33 / 8)) rfl rfl rfl rfl rfl (by omega)) rfl ?_
    obtain ⟨x45, hx46, hl37⟩ := Z100 hl37
    refine Z0 (Z29 rfl (List.Mem.tail _ Zh) rfl rfl rfl (by rw [Nat.zero_add]; exact u64s_at (vat hx46))) rfl ?_
    refine Z0 (Z3 rfl) rfl (Z0 (RV.rem rfl rfl (by omega) (by omega)) rfl (Z7 (.int .i64 ((n33 % 8 : Nat) : Int)) (by first | rfl | (congr 1; omega)) (Z0 (RV.mul rfl rfl (by omega)) rfl (Z7 (.int .i64 (((8 * (n33 % 8)) : Nat) : Int)) (by first | rfl | (congr 1) | (congr 1; omega)) (Z0 (Z152 rfl rfl rfl) rfl (Z7 (U64 (BitVec.ofNat 64 (8 * (n33 % 8)))) (congrArg U64 (BitVec.ofInt_natCast ..)) ?_))))))
    refine Z0 (RV.shr64 (s := (BitVec.ofNat 64 (8 * (n33 % 8))).toNat) rfl (by first | rfl | exact lit64 _ rfl) rfl (by first | rfl | (simp [U64]; done))) rfl ?_
    refine Z0 (RV.conv64_8 rfl (by first | rfl | exact lit64 _ rfl) rfl rfl) rfl (Z0 (Z109 (n33) rfl rfl rfl rfl rfl (by omega)) rfl (Z28 (SV.store rfl rfl rfl rfl rfl (by rw [Z102, Zv]; omega)) (OW.cells (u8s (w35.setIfInBounds n33 ((x45 >>> (BitVec.ofNat 64 (8 * (n33 % 8))).toNat).setWidth 8)).toList) (by rw [Nat.zero_add, Z163, vset]) (Z6 (Z27 (Z1 (Z2 (Z0 (Z3 rfl) rfl (Z0 (RV.add rfl rfl (by omega)) rfl (Z7 (.int .i64 (((n33 + 1) : Nat) : Int)) (by first | rfl | (congr 1) | (congr 1; omega)) ?_))))))))))
    refine Z0 (Z5 rfl) rfl (Z6 ?_)
    exact Z114 (k' := k36) (Nat.lt_succ_self _) ⟨(n33 + 1), (w35.setIfInBounds n33 ((x45 >>> (BitVec.ofNat 64 (8 * (n33 % 8))).toNat).setWidth 8)), hl37, (by omega), rfl, rfl⟩ ⟨rfl, rfl, rfl, rfl, trivial⟩ (fun w m => m.pick [0, 1, 2] 3 rfl rfl)
   ·replace hl37 := if_f hl37 h43
    refine Z14 rfl (decide_eq_false h43) (CW.exit (Z9 (Z9 (Z15 ?_))))
    exact QW.join ⟨w35, (Zi hl37).symm, rfl, rfl⟩ ⟨rfl, rfl, trivial⟩ (fun w m => m.pick [0, 2] 3 rfl rfl)
 ·skip
  refine CW.block (Z121 (fun k L' M' => ∃ n47 : Nat, ∃ w49 : Vector (BitVec 64) 25, (waybillref02_Digest.l2 x4 k n47 w49) = some q16 ∧ (n47 ≤ 9223372036854775807) ∧ L' = [(4, ptr (some b2) 0), (5, sl ob6 0 x4.length c7), (6, ptr (some b15) 0), (7, .int .i64 ((n47 : Nat) : Int))] ∧ M' = ((some b15, blk (u64s w49.toList) 183) :: (ob6, blk ((u8s x4) ++ r8) 5) :: (some b2, blk (u8s (Vector.replicate 32 0#8).toList) 24) :: ((B5 ++ []) ++ N))) (k0 := (x4.length - 0 + 2)) ⟨0, (Vector.replicate 25 0#64), hq17, (by omega), rfl, rfl⟩ ⟨rfl, rfl, rfl, rfl, trivial⟩ (fun w m => m.pick [0, 1, 2] 3 rfl rfl) ?_)
  clear hq17
  rintro k50 L53 M54 ⟨n47, w49, hl51, b48, e55, e56⟩
  rw [e55, e56]
  clear e55 e56 L53 M54
  rcases k50 with _ | k50
  ·rw [waybillref02_Digest.l2] at hl51; cases hl51
  rw [waybillref02_Digest.l2] at hl51
  have m57 := o9.mx
  refine Z4 (Z4 (Z2 (Z0 (Z3 rfl) rfl (Z0 (Z3 rfl) rfl (Z0 (RV.len rfl rfl) rfl (Z0 (RV.lss rfl rfl) rfl (Z7 (.bool (decide (n47 < x4.length))) (congrArg Value.bool (decide_eq_decide.2 (by omega))) (Z6 (Z1 ?_)))))))))
  by_cases h58 : n47 < x4.length
  ·replace hl51 := if_t hl51 h58
   refine Z13 rfl (decide_eq_true h58) (CW.skip (Z1 (Z4 (CW.block (Z4 (Z4 (Z2 (Z0 (Z5 rfl) rfl (Z6 (Z1 ?_))))))))))
   obtain ⟨q59, hq60, hl51⟩ := Z100 hl51
   refine Z115 (fun L' M' => ∃ w61 : Vector (BitVec 64) 25, q59 = w61 ∧ L' = [(4, ptr (some b2) 0), (5, sl ob6 0 x4.length c7), (6, ptr (some b15) 0), (7, .int .i64 ((n47 : Nat) : Int))] ∧ M' = ((some b15, blk (u64s w61.toList) 183) :: (ob6, blk ((u8s x4) ++ r8) 5) :: (some b2, blk (u8s (Vector.replicate 32 0#8).toList) 24) :: ((B5 ++ []) ++ N))) ?_ ?_
   ·rintro L63 M64 ⟨w61, e62, e65, e66⟩
    rw [e65, e66]
    clear e65 e66 L63 M64
    clear hq60
    rw [e62] at hl51
    clear e62
    try dsimp only at hl51
    have m67 := o9.mx
    refine Z1 (Z2 (Z0 (Z22 rfl Zh rfl rfl rfl rfl ((Z101 _).trans Zv)) rfl ?_))
    obtain ⟨x69, hx68, hl51⟩ := Z100 hl51
    refine Z12 Tryd.call148 rfl (waybillref02_Permute_does w0 (More w0 Φ (B5 ++ [])) ((some b15, blk (u64s w61.toList) 183) :: (ob6, blk ((u8s x4) ++ r8) 5) :: (some b2, blk (u8s (Vector.replicate 32 0#8).toList) 24) :: ((B5 ++ []) ++ N)) (fun w m => Z105 hΦ 3 m rfl) w61 x69 hTn hRn hx68) rfl rfl ?_
    rintro _ G70 rfl
    refine Z20 (M' := ((some b15, blk (u64s w61.toList) 183) :: (ob6, blk ((u8s x4) ++ r8) 5) :: (some b2, blk (u8s (Vector.replicate 32 0#8).toList) 24) :: ((B5 ++ []) ++ N))) (fun w m => m.appR) (Z28 (Z103 rfl rfl rfl (Z118 _) rfl ((Z101 _).trans Zv) ((Z101 _).trans Zv)) (Z6 (Z27 (Z1 (Z2 (Z0 (Z3 rfl) rfl (Z0 (RV.add rfl rfl (by omega)) rfl (Z7 (.int .i64 (((n47 + 136) : Nat) : Int)) (by first | rfl | (congr 1) | (congr 1; omega)) (Z0 (Z5 rfl) rfl (Z6 ?_))))))))))
    exact Z114 (k' := k50) (Nat.lt_succ_self _) ⟨(n47 + 136), x69, hl51, (by omega), rfl, rfl⟩ ⟨rfl, rfl, rfl, rfl, trivial⟩ (fun w m => m.pick [0, 1, 2] 3 rfl rfl)
   ·skip
    refine CW.block (Z121 (fun k L' M' => ∃ n72 : Nat, ∃ w74 : Vector (BitVec 64) 25, (waybillref02_Digest.l3 x4 n47 k n72 w74) = some q59 ∧ (n72 ≤ 9223372036854775807) ∧ L' = [(4, ptr (some b2) 0), (5, sl ob6 0 x4.length c7), (6, ptr (some b15) 0), (7, .int .i64 ((n47 : Nat) : Int)), (8, .int .i64 ((n72 : Nat) : Int))] ∧ M' = ((some b15, blk (u64s w74.toList) 183) :: (ob6, blk ((u8s x4) ++ r8) 5) :: (some b2, blk (u8s (Vector.replicate 32 0#8).toList) 24) :: ((B5 ++ []) ++ N))) (k0 := (136 - 0 + 2)) ⟨0, w49, hq60, (by omega), rfl, rfl⟩ ⟨rfl, rfl, rfl, rfl, rfl, trivial⟩ (fun w m => m.pick [0, 1, 2] 3 rfl rfl) ?_)
    clear hq60
    rintro k75 L78 M79 ⟨n72, w74, hl76, b73, e80, e81⟩
    rw [e80, e81]
    clear e80 e81 L78 M79
    rcases k75 with _ | k75
    ·rw [waybillref02_Digest.l3] at hl76; cases hl76
    rw [waybillref02_Digest.l3] at hl76
    have m82 := o9.mx
    refine Z4 (Z4 (Z2 (Z0 (Z3 rfl) rfl (Z0 (RV.lss rfl rfl) rfl (Z7 (.bool (decide (n72 < 136))) (congrArg Value.bool (decide_eq_decide.2 (by omega))) (Z6 (Z1 ?_)))))))
    by_cases h83 : n72 < 136
    ·replace hl76 := if_t hl76 h83
     refine Z13 rfl (decide_eq_true h83) (CW.skip (Z1 (Z4 (CW.block (Z137 ((ob6, blk ((u8s x4) ++ r8) 5) :: (some b2, blk (u8s (Vector.replicate 32 0#8).toList) 24) :: ((B5 ++ []) ++ N)) [20] (fun w m => m.pick [1, 2] 3 rfl rfl) mixed (by kernel_rfl) (Z10 0 rfl (by kernel_rfl) rfl (Z3 rfl) rfl (Z10 1 rfl (by kernel_rfl) rfl (RV.quo rfl rfl (by omega) (by omega) (by omega)) rfl (XW.slot (.int .i64 ((n72 / 8 : Nat) : Int)) (by first | rfl | (congr 1; omega)) (Z10 2 rfl (by kernel_rfl) rfl (Z3 rfl) rfl (Z10 3 rfl (by kernel_rfl) rfl (RV.quo rfl rfl (by omega) (by omega) (by omega)) rfl ?_))))))))))
     refine XW.slot (.int .i64 ((n72 / 8 : Nat) : Int)) (by first | rfl | (congr 1; omega)) ?_
     obtain ⟨g84, hl76⟩ := Z112 hl76
     refine Z10 4 rfl (by kernel_rfl) rfl (Z109 ((n72 / 8)) rfl rfl rfl rfl rfl (by omega)) rfl ?_
     obtain ⟨x85, hx86, hl76⟩ := Z100 hl76
     refine XW.rv 5 rfl (by kernel_rfl) rfl (by kernel_rfl) (Z29 rfl Zh rfl rfl rfl (by rw [Nat.zero_add]; exact u64s_at (vat hx86))) rfl ?_
     refine Z10 6 rfl (by kernel_rfl) rfl (Z3 rfl) rfl (Z10 7 rfl (by kernel_rfl) rfl (Z3 rfl) rfl (Z10 8 rfl (by kernel_rfl) rfl (Z3 rfl) rfl (Z10 9 rfl (by kernel_rfl) rfl (RV.add rfl rfl (by omega)) rfl (XW.slot (.int .i64 (((n47 + n72) : Nat) : Int)) (by first | rfl | (congr 1) | (congr 1; omega)) ?_))))
     obtain ⟨x87, hx88, hl76⟩ := Z100 hl76
     have hl89 := Z111 hx88
     refine Z10 10 rfl (by kernel_rfl) rfl (RV.idx_o ((n47 + n72)) rfl rfl rfl rfl rfl (o9.isSome (by decide) hl89) (by omega)) rfl (Z10 11 rfl (by kernel_rfl) rfl (Z29 rfl Zh (o9.isSome (by decide) hl89) rfl rfl (own_at0 (Z148 hx88))) rfl (Z10 12 rfl (by kernel_rfl) rfl (RV.conv8_64 rfl (by first | rfl | exact lit8 _ rfl) rfl rfl) rfl (Z10 13 rfl (by kernel_rfl) rfl (Z3 rfl) rfl (Z10 14 rfl (by kernel_rfl) rfl (RV.rem rfl rfl (by omega) (by omega)) rfl (XW.slot (.int .i64 ((n72 % 8 : Nat) : Int)) (by first | rfl | (congr 1; omega)) (Z10 15 rfl (by kernel_rfl) rfl (RV.mul rfl rfl (by omega)) rfl (XW.slot (.int .i64 (((8 * (n72 % 8)) : Nat) : Int)) (by first | rfl | (congr 1) | (congr 1; omega)) ?_)))))))
     refine Z10 16 rfl (by kernel_rfl) rfl (Z152 rfl rfl rfl) rfl (XW.slot (U64 (BitVec.ofNat 64 (8 * (n72 % 8)))) (congrArg U64 (BitVec.ofInt_natCast ..)) ?_)
     refine Z10 17 rfl (by kernel_rfl) rfl (RV.shl64 (s := (BitVec.ofNat 64 (8 * (n72 % 8))).toNat) rfl (by first | rfl | exact lit64 _ rfl) rfl (by first | rfl | (simp [U64]; done))) rfl ?_
     refine Z10 18 rfl (by kernel_rfl) rfl (Z157 rfl (by first | rfl | exact lit64 _ rfl) rfl (by first | rfl | exact lit64 _ rfl)) rfl (Z10 19 rfl (by kernel_rfl) rfl (Z109 ((n72 / 8)) rfl rfl rfl rfl rfl (by omega)) rfl (XW.sv 20 rfl (by kernel_rfl) (SV.store rfl rfl rfl rfl rfl (by rw [Z101, Zv]; omega)) (fun w m => m.pick [1, 2] 3 rfl rfl) (XW.cells (u64s (w74.setIfInBounds (n72 / 8) (x85 ^^^ ((x87.setWidth 64) <<< (BitVec.ofNat 64 (8 * (n72 % 8))).toNat))).toList) (by rw [Nat.zero_add, Z139, vset]) (XW.nil (by kernel_rfl) (Z27 (Z1 (Z2 (Z0 (Z3 rfl) rfl (Z0 (RV.add rfl rfl (by omega)) rfl ?_)))))))))
     refine Z7 (.int .i64 (((n72 + 1) : Nat) : Int)) (by first | rfl | (congr 1) | (congr 1; omega)) (Z0 (Z5 rfl) rfl (Z6 ?_))
     exact Z114 (k' := k75) (Nat.lt_succ_self _) ⟨(n72 + 1), (w74.setIfInBounds (n72 / 8) (x85 ^^^ ((x87.setWidth 64) <<< (BitVec.ofNat 64 (8 * (n72 % 8))).toNat))), hl76, (by omega), rfl, rfl⟩ ⟨rfl, rfl, rfl, rfl, rfl, trivial⟩ (fun w m => m.pick [0, 1, 2] 3 rfl rfl)
    ·replace hl76 := if_f hl76 h83
     refine Z14 rfl (decide_eq_false h83) (CW.exit (Z9 (Z9 (Z15 ?_))))
     exact QW.join ⟨w74, (Zi hl76).symm, rfl, rfl⟩ ⟨rfl, rfl, rfl, rfl, trivial⟩ (fun w m => m.pick [0, 1, 2] 3 rfl rfl)
  ·replace hl51 := if_f hl51 h58
   refine Z14 rfl (decide_eq_false h58) (CW.exit (Z9 (Z9 (Z15 ?_))))
   exact QW.join ⟨w49, (Zi hl51).symm, rfl, rfl⟩ ⟨rfl, rfl, trivial⟩ (fun w m => m.pick [0, 2] 3 rfl rfl)
theorem waybillref02_Sum_does (w0 : World) (Φ : Ctx) (N : List Ent) (hΦ : ∀ w, Mem w0 w N → Φ w) (A0_ : Option Addr) (c0_ : Nat) (cs0_ : List Value) (a0 : List (List (BitVec 8))) (res0 : Vector (BitVec 8) 32) (va0 : View Φ A0_ a0.length c0_ 1 cs0_) (ha0 : Reps (BsRd Φ) cs0_ a0) (hTn : ∀ i, i < 25 → w0.cell? ⟨4, i, none⟩ = some (.int .i64 (turnsL.getD i 0))) (hRn : ∀ i, i < 24 → w0.cell? ⟨3, i, none⟩ = some (U64 (g64 roundsL i))) (hf : waybillref02_Sum a0 = some res0) : DoesG Tryd.prog 128 [.slice A0_ a0.length c0_] w0 [] N (fun v G => v = .agg (u8s res0.toList).toArray) := by
 unfold waybillref02_Sum at hf
 replace va0 := va0.mono (Ψ := More w0 Φ []) (fun w q => q.1)
 replace ha0 := ha0.mono (BsRd.mono (Ψ := More w0 Φ []) (fun w q => q.1))
 have m1 := va0.mx
 refine DoesG.enter Tryd.func128 rfl Tryd.ntmps128 rfl (M := (([] ++ N))) rfl (Z4 (Z2 (OW.alloc (l := (u8s (Vector.replicate 32 0#8).toList)) rfl (by rw [Vector.toList_replicate, ← Z135]; rfl) rfl (fun b2 => (Z6 (Z1 (Z4 (Z2 (Z0 (Z3 rfl) rfl ?_)))))))))
 obtain ⟨x4, hx3, hf⟩ := Z100 hf
 refine Z12 Tryd.call141 rfl (waybillref02_joined_does w0 (More w0 Φ []) ((some b2, blk (u8s (Vector.replicate 32 0#8).toList) 24) :: ([] ++ N)) (fun w m => Z105 hΦ 1 m rfl) A0_ c0_ cs0_ a0 x4 va0 ha0 hx3) rfl rfl ?_
 rintro L10 M11 ⟨B5, ob6, c7, r8, o9, e12, e13⟩
 rw [e12, e13]
 clear e12 e13 L10 M11
 refine Z20 (M' := ((ob6, blk ((u8s x4) ++ r8) 5) :: (some b2, blk (u8s (Vector.replicate 32 0#8).toList) 24) :: ((B5 ++ []) ++ N))) (fun w m => by have h := Z113 (A := B5) m 1 1 rfl rfl; exact h) ?_
 have gq1 : ∀ w, More w0 Φ (B5 ++ []) w → More w0 Φ [] w := fun w q => More.mono (fun w m => (m).appR) q
 replace va0 := va0.mono gq1
 replace ha0 := ha0.mono (BsRd.mono gq1)
 have m14 := o9.mx
 refine Z20 (M' := (some b2, blk (u8s (Vector.replicate 32 0#8).toList) 24) :: (((ob6, blk ((u8s x4) ++ r8) 5) :: (B5 ++ [])) ++ N)) (fun w m => m.pick [1, 0] 2 rfl rfl) ?_
 have gq2 : ∀ w, More w0 Φ ((ob6, blk ((u8s x4) ++ r8) 5) :: (B5 ++ [])) w → More w0 Φ (B5 ++ []) w := fun w q => More.mono (fun w m => (m).tail) q
 replace va0 := va0.mono gq2
 replace ha0 := ha0.mono (BsRd.mono gq2)
 have v15 : View (More w0 Φ ((ob6, blk ((u8s x4) ++ r8) 5) :: (B5 ++ []))) ((ob6).map fun k => ⟨k, 0, none⟩) x4.length c7 1 (u8s x4) := o9.view (by decide) (fun w q => q.2.sublist (List.singleton_sublist.2 (List.mem_cons_self ..)))
 obtain ⟨x17, hx16, hf⟩ := Z100 hf
 refine Z12 Tryd.call140 rfl (waybillref02_Digest_does w0 (More w0 Φ ((ob6, blk ((u8s x4) ++ r8) 5) :: (B5 ++ []))) ((some b2, blk (u8s (Vector.replicate 32 0#8).toList) 24) :: (((ob6, blk ((u8s x4) ++ r8) 5) :: (B5 ++ [])) ++ N)) (fun w m => Z105 hΦ 1 m rfl) ((ob6).map fun k => ⟨k, 0, none⟩) c7 x4 (1#8) x17 v15 hTn hRn hx16) rfl rfl ?_
 rintro _ G18 rfl
 refine Z20 (M' := ((some b2, blk (u8s (Vector.replicate 32 0#8).toList) 24) :: (((ob6, blk ((u8s x4) ++ r8) 5) :: (B5 ++ [])) ++ N))) (fun w m => m.appR) (Z28 (Z103 rfl rfl rfl (Z129 _) rfl ((Z102 _).trans Zv) ((Z102 _).trans Zv)) (Z6 (Z1 (CW.ret ?_))))
 have e0 := Zi hf
 subst e0
 refine Z104 (rs := [.cell 2 24]) ([.agg (u8s x17.toList).toArray]) ((some b2, blk (u8s x17.toList) 24) :: ((ob6, blk ((u8s x4) ++ r8) 5) :: (B5 ++ []))) rfl ?_ rfl ?_ ?_ _ (.inl rfl)
 ·exact ⟨⟨_, _, _, _, rfl, Zh, rfl, rfl, (congrArg some ((Z102 _).trans Zv).symm), rfl⟩, trivial⟩
 ·exact rfl
 ·exact (fun w m => m)
theorem waybillref10_Places_does (w0 : World) (Φ : Ctx) (N : List Ent) (hΦ : ∀ w, Mem w0 w N → Φ w) (A0_ : Option Addr) (c0_ : Nat) (a0 : List (BitVec 8)) (res0 : Vector (Int) 3) (va0 : View Φ A0_ a0.length c0_ 1 (u8s a0)) (hTn : ∀ i, i < 25 → w0.cell? ⟨4, i, none⟩ = some (.int .i64 (turnsL.getD i 0))) (hRn : ∀ i, i < 24 → w0.cell? ⟨3, i, none⟩ = some (U64 (g64 roundsL i))) (hf : waybillref10_Places a0 = some res0) : DoesG Tryd.prog 105 [.slice A0_ a0.length c0_] w0 [] N (fun v G => v = .agg (i64s res0.toList).toArray) := by
 unfold waybillref10_Places at hf
 replace va0 := va0.mono (Ψ := More w0 Φ []) (fun w q => q.1)
 have m1 := va0.mx
 refine DoesG.enter Tryd.func105 rfl Tryd.ntmps105 rfl (M := (([] ++ N))) rfl (Z4 (Z2 (OW.alloc (l := (i64s (Vector.replicate 3 0).toList)) rfl (by rw [Vector.toList_replicate, ← i64s_rep]; rfl) rfl (fun b2 => (Z6 (Z1 (Z4 (Z2 (Z0 (Z3 rfl) rfl (OW.ofN (NV.bs1 rfl rfl rfl rfl rfl rfl) rfl (fun b3 => ?_)))))))))))
 have h6 : Reps (BsRd (More w0 Φ [])) (([.slice A0_ a0.length c0_] : List Value)) [a0] := Reps.one (BsRd.mk va0)
 refine Z20 (M' := (((some b3), blk ((([.slice A0_ a0.length c0_] : List Value)) ++ []) 61) :: (some b2, blk (i64s (Vector.replicate 3 0).toList) 95) :: ([] ++ N))) (fun w m => m) ?_
 have o4 : OwnS (some b3) ([a0] : List (List (BitVec 8))).length 1 1 (([.slice A0_ a0.length c0_] : List Value)) [] := ⟨by simp [BsRd], by simp [BsRd], (fun h => nomatch h), by simp⟩
 have mx_o4 := o4.mx
 refine Z7 (sl (some b3) 0 ([a0] : List (List (BitVec 8))).length 1) (rfl) (Z20 (M' := (some b2, blk (i64s (Vector.replicate 3 0).toList) 95) :: ((((some b3), blk ((([.slice A0_ a0.length c0_] : List Value)) ++ []) 61) :: []) ++ N)) (fun w m => m.pick [1, 0] 2 rfl rfl) ?_)
 have gq1 : ∀ w, More w0 Φ (((some b3), blk ((([.slice A0_ a0.length c0_] : List Value)) ++ []) 61) :: []) w → More w0 Φ [] w := fun w q => More.mono (fun w m => (m).tail) q
 replace va0 := va0.mono gq1
 replace h6 := h6.mono (BsRd.mono gq1)
 have v7 : View (More w0 Φ (((some b3), blk ((([.slice A0_ a0.length c0_] : List Value)) ++ []) 61) :: [])) (((some b3)).map fun k => ⟨k, 0, none⟩) ([a0] : List (List (BitVec 8))).length 1 1 (([.slice A0_ a0.length c0_] : List Value)) := o4.view (by decide) (fun w q => q.2.sublist (List.singleton_sublist.2 (List.mem_cons_self ..)))
 obtain ⟨x9, hx8, hf⟩ := Z100 hf
 refine Z12 Tryd.call128 rfl (waybillref02_Sum_does w0 (More w0 Φ (((some b3), blk ((([.slice A0_ a0.length c0_] : List Value)) ++ []) 61) :: [])) ((some b2, blk (i64s (Vector.replicate 3 0).toList) 95) :: ((((some b3), blk ((([.slice A0_ a0.length c0_] : List Value)) ++ []) 61) :: []) ++ N)) (fun w m => Z105 hΦ 1 m rfl) (((some b3)).map fun k => ⟨k, 0, none⟩) 1 (([.slice A0_ a0.length c0_] : List Value)) ([a0] : List (List (BitVec 8))) x9 v7 h6 hTn hRn hx8) rfl rfl ?_
 rintro _ G10 rfl
 refine Z20 (M' := ((some b2, blk (i64s (Vector.replicate 3 0).toList) 95) :: ((((some b3), blk ((([.slice A0_ a0.length c0_] : List Value)) ++ []) 61) :: []) ++ N))) (fun w m => m.appR) (OW.alloc (l := (u8s (Vector.replicate 32 0#8).toList)) rfl (by rw [Vector.toList_replicate, ← Z135]; rfl) rfl (fun b12 => (Z28 (Z103 rfl rfl rfl (Z129 _) rfl ((Z102 _).trans Zv) ((Z102 _).trans Zv)) (Z6 (Z1 (Z4 (Z2 (OW.alloc (l := (i64s (Vector.replicate 3 0).toList)) rfl (by rw [Vector.toList_replicate, ← i64s_rep]; rfl) rfl (fun b13 => (Z6 (Z1 (Z4 (Z4 (Z2 (Z0 (Z5 rfl) rfl (Z6 (Z1 ?_)))))))))))))))))
 obtain ⟨q14, hq15, hf⟩ := Z100 hf
 refine Z115 (fun L' M' => ∃ w16 : Vector (Int) 3, q14 = w16 ∧ L' = [(2, ptr (some b2) 0), (4, ptr (some b13) 0)] ∧ M' = ((some b13, blk (i64s w16.toList) 95) :: (some b2, blk (i64s (Vector.replicate 3 0).toList) 95) :: ((((some b3), blk ((([.slice A0_ a0.length c0_] : List Value)) ++ []) 61) :: []) ++ N))) ?_ ?_
 ·rintro L18 M19 ⟨w16, e17, e20, e21⟩
  rw [e20, e21]
  clear e20 e21 L18 M19
  clear hq15
  rw [e17] at hf
  clear e17
  try dsimp only at hf
  refine Z1 (Z4 (Z2 (Z0 (Z22 rfl Zh rfl rfl rfl rfl ((Z125 _).trans Zv)) rfl (OW.rot1 (Z28 (Z103 rfl rfl rfl (i64s_one _) rfl ((Z125 _).trans Zv) ((Z125 _).trans Zv)) (Z6 (Z1 (CW.ret ?_))))))))
  have e0 := Zi hf
  subst e0
  refine Z104 (rs := [.cell 2 95]) ([.agg (i64s w16.toList).toArray]) ((some b2, blk (i64s w16.toList) 95) :: (some b13, blk (i64s w16.toList) 95) :: (((some b3), blk ((([.slice A0_ a0.length c0_] : List Value)) ++ []) 61) :: [])) rfl ?_ rfl ?_ ?_ _ (.inl rfl)
  ·exact ⟨⟨_, _, _, _, rfl, Zh, rfl, rfl, (congrArg some ((Z125 _).trans Zv).symm), rfl⟩, trivial⟩
  ·exact rfl
  ·exact (fun w m => m)
 ·skip
  refine CW.block (Z121 (fun k L' M' => ∃ n22 : Nat, ∃ w24 : Vector (Int) 3, (waybillref10_Places.l1 x9 k n22 w24) = some q14 ∧ (n22 ≤ 9223372036854775807) ∧ L' = [(2, ptr (some b2) 0), (3, ptr (some b12) 0), (4, ptr (some b13) 0), (5, .int .i64 ((n22 : Nat) : Int))] ∧ M' = ((some b13, blk (i64s w24.toList) 95) :: (some b12, blk (u8s x9.toList) 24) :: (some b2, blk (i64s (Vector.replicate 3 0).toList) 95) :: ((((some b3), blk ((([.slice A0_ a0.length c0_] : List Value)) ++ []) 61) :: []) ++ N))) (k0 := (3 - 0 + 2)) ⟨0, (Vector.replicate 3 0), hq15, (by omega), rfl, rfl⟩ ⟨rfl, rfl, rfl, rfl, trivial⟩ (fun w m => m.pick [0, 1, 2] 3 rfl rfl) ?_)
  clear hq15
  rintro k25 L28 M29 ⟨n22, w24, hl26, b23, e30, e31⟩
  rw [e30, e31]
  clear e30 e31 L28 M29
  rcases k25 with _ | k25
  ·rw [waybillref10_Places.l1] at hl26; cases hl26
  rw [waybillref10_Places.l1] at hl26
  refine Z4 (Z4 (Z2 (Z0 (Z3 rfl) rfl (Z0 (RV.lss rfl rfl) rfl (Z7 (.bool (decide (n22 < 3))) (congrArg Value.bool (decide_eq_decide.2 (by omega))) (Z6 (Z1 ?_)))))))
  by_cases h32 : n22 < 3
  ·replace hl26 := if_t hl26 h32
   refine Z13 rfl (decide_eq_true h32) (CW.skip (Z1 (Z4 (CW.block (Z137 ((some b12, blk (u8s x9.toList) 24) :: (some b2, blk (i64s (Vector.replicate 3 0).toList) 95) :: ((((some b3), blk ((([.slice A0_ a0.length c0_] : List Value)) ++ []) 61) :: []) ++ N)) [16] (fun w m => m.pick [1, 2] 3 rfl rfl) mixed (by kernel_rfl) (Z10 0 rfl (by kernel_rfl) rfl (Z3 rfl) rfl (Z10 1 rfl (by kernel_rfl) rfl (Z3 rfl) rfl (Z10 2 rfl (by kernel_rfl) rfl (RV.mul rfl rfl (by omega)) rfl (XW.slot (.int .i64 (((2 * n22) : Nat) : Int)) (by first | rfl | (congr 1) | (congr 1; omega)) ?_)))))))))
   obtain ⟨g33, hl26⟩ := Z112 hl26
   refine Z10 3 rfl (by kernel_rfl) rfl (Z109 ((2 * n22)) rfl rfl rfl rfl rfl (by omega)) rfl ?_
   obtain ⟨x34, hx35, hl26⟩ := Z100 hl26
   refine Z10 4 rfl (by kernel_rfl) rfl (Z29 rfl Zh rfl rfl rfl (by rw [Nat.zero_add]; exact Z148 (vat hx35))) rfl ?_
   refine Z10 5 rfl (by kernel_rfl) rfl (Z167 rfl (by first | rfl | exact lit8 _ rfl) rfl rfl) rfl ?_
   have m36 := (x34).isLt
   refine Z10 6 rfl (by kernel_rfl) rfl (RV.mul rfl rfl (by omega)) rfl (XW.slot (.int .i64 (((256 * x34.toNat) : Nat) : Int)) (by first | rfl | (congr 1) | (congr 1; omega)) (Z10 7 rfl (by kernel_rfl) rfl (Z3 rfl) rfl (Z10 8 rfl (by kernel_rfl) rfl (RV.mul rfl rfl (by omega)) rfl (XW.slot (.int .i64 (((2 * n22) : Nat) : Int)) (by first | rfl | (congr 1) | (congr 1; omega)) (Z10 9 rfl (by kernel_rfl) rfl (RV.add rfl rfl (by omega)) rfl (XW.slot (.int .i64 ((((2 * n22) + 1) : Nat) : Int)) (by first | rfl | (congr 1) | (congr 1; omega)) ?_))))))
   obtain ⟨g37, hl26⟩ := Z112 hl26
   refine Z10 10 rfl (by kernel_rfl) rfl (Z109 (((2 * n22) + 1)) rfl rfl rfl rfl rfl (by omega)) rfl ?_
   obtain ⟨x38, hx39, hl26⟩ := Z100 hl26
   refine Z10 11 rfl (by kernel_rfl) rfl (Z29 rfl Zh rfl rfl rfl (by rw [Nat.zero_add]; exact Z148 (vat hx39))) rfl ?_
   refine Z10 12 rfl (by kernel_rfl) rfl (Z167 rfl (by first | rfl | exact lit8 _ rfl) rfl rfl) rfl ?_
   have m40 := (x38).isLt
   refine Z10 13 rfl (by kernel_rfl) rfl (RV.add rfl rfl (by omega)) rfl (XW.slot (.int .i64 ((((256 * x34.toNat) + x38.toNat) : Nat) : Int)) (by first | rfl | (congr 1) | (congr 1; omega)) (Z10 14 rfl (by kernel_rfl) rfl (RV.rem rfl rfl (by omega) (by omega)) rfl (XW.slot (.int .i64 ((((256 * x34.toNat) + x38.toNat) % 2048 : Nat) : Int)) (by first | rfl | (congr 1; omega)) (Z10 15 rfl (by kernel_rfl) rfl (Z109 (n22) rfl rfl rfl rfl rfl (by omega)) rfl (XW.sv 16 rfl (by kernel_rfl) (SV.store rfl rfl rfl rfl rfl (by rw [Z125, Zv]; omega)) (fun w m => m.pick [1, 2] 3 rfl rfl) (XW.cells (i64s (w24.setIfInBounds n22 ((((256 * x34.toNat) + x38.toNat) % 2048 : Nat) : Int)).toList) (by rw [Nat.zero_add, i64s_set, vset]) (XW.nil (by kernel_rfl) ?_)))))))
   refine Z27 (Z1 (Z2 (Z0 (Z3 rfl) rfl (Z0 (RV.add rfl rfl (by omega)) rfl (Z7 (.int .i64 (((n22 + 1) : Nat) : Int)) (by first | rfl | (congr 1) | (congr 1; omega)) (Z0 (Z5 rfl) rfl (Z6 ?_)))))))
   exact Z114 (k' := k25) (Nat.lt_succ_self _) ⟨(n22 + 1), (w24.setIfInBounds n22 ((((256 * x34.toNat) + x38.toNat) % 2048 : Nat) : Int)), hl26, (by omega), rfl, rfl⟩ ⟨rfl, rfl, rfl, rfl, trivial⟩ (fun w m => m.pick [0, 1, 2] 3 rfl rfl)
  ·replace hl26 := if_f hl26 h32
   refine Z14 rfl (decide_eq_false h32) (CW.exit (Z9 (Z9 (Z15 ?_))))
   exact QW.join ⟨w24, (Zi hl26).symm, rfl, rfl⟩ ⟨rfl, rfl, trivial⟩ (fun w m => m.pick [0, 2] 3 rfl rfl)
theorem Z155 (w0 : World) (Φ : Ctx) (N : List Ent) (hΦ : ∀ w, Mem w0 w N → Φ w) (a0 : Vector (BitVec 8) 256) (a1 : Int) (res0 : Vector (BitVec 8) 256) (ba1 : -9223372036854775808 ≤ a1 ∧ a1 ≤ 9223372036854775807) (hf : waybillref10_set a0 a1 = some res0) : DoesG Tryd.prog 106 [.agg (u8s a0.toList).toArray, .int .i64 a1] w0 [] N (fun v G => v = .agg (u8s res0.toList).toArray) := by
 unfold waybillref10_set at hf
 refine DoesG.enter Tryd.func106 rfl Tryd.ntmps106 rfl (M := (([] ++ N))) rfl (Z4 (Z2 (Z130 rfl rfl (fun b1 => (OW.alloc (l := (u8s (Vector.replicate 256 0#8).toList)) rfl (by rw [Vector.toList_replicate, ← Z135]; rfl) rfl (fun b2 => (Z6 (Z1 (Z4 (Z2 (Z0 (Z3 rfl) rfl ?_)))))))))))
 obtain ⟨g3, hf⟩ := Z112 hf
 refine Z0 (RV.quo rfl rfl (by omega) (by omega) (by omega)) rfl (Z7 (.int .i64 (((a1).toNat / 8 : Nat) : Int)) (by first | rfl | (congr 1; omega)) (Z0 (RV.sub rfl rfl (by omega)) rfl (Z0 (Z3 rfl) rfl (Z0 (RV.quo rfl rfl (by omega) (by omega) (by omega)) rfl (Z7 (.int .i64 (((a1).toNat / 8 : Nat) : Int)) (by first | rfl | (congr 1; omega)) (Z0 (RV.sub rfl rfl (by omega)) rfl ?_))))))
 obtain ⟨g4, hf⟩ := Z112 hf
 obtain ⟨g5, hf⟩ := Z112 hf
 refine Z0 (Z109 ((((255 : Int) - (((a1).toNat / 8 : Nat) : Int))).toNat) rfl rfl (by omega) rfl rfl (by omega)) rfl ?_
 obtain ⟨x6, hx7, hf⟩ := Z100 hf
 refine Z0 (Z29 rfl (List.Mem.tail _ Zh) rfl rfl rfl (by rw [Nat.zero_add]; exact Z148 (vat hx7))) rfl ?_
 refine Z0 (Z3 rfl) rfl (Z0 (RV.rem rfl rfl (by omega) (by omega)) rfl (Z7 (.int .i64 (((a1).toNat % 8 : Nat) : Int)) (by first | rfl | (congr 1; omega)) (Z0 (Z152 rfl rfl rfl) rfl (Z7 (U64 (BitVec.ofNat 64 ((a1).toNat % 8))) (congrArg U64 (BitVec.ofInt_natCast ..)) ?_))))
 refine Z0 (RV.shl8 (s := (BitVec.ofNat 64 ((a1).toNat % 8)).toNat) rfl (by first | rfl | exact lit8 _ rfl) rfl (by first | rfl | (simp [U64]; done))) rfl ?_
 refine Z0 (RV.or8 rfl (by first | rfl | exact lit8 _ rfl) rfl (by first | rfl | exact lit8 _ rfl)) rfl (Z0 (Z109 ((((255 : Int) - (((a1).toNat / 8 : Nat) : Int))).toNat) rfl rfl (by omega) rfl rfl (by omega)) rfl (OW.rot1 (Z28 (SV.store rfl rfl rfl rfl rfl (by rw [Z102, Zv]; omega)) (OW.cells (u8s (a0.setIfInBounds ((((255 : Int) - (((a1).toNat / 8 : Nat) : Int))).toNat) (x6 ||| (1#8 <<< (BitVec.ofNat 64 ((a1).toNat % 8)).toNat))).toList) (by rw [Nat.zero_add, Z163, vset]) (Z6 (Z1 (Z4 (Z2 (Z0 (Z22 rfl Zh rfl rfl rfl rfl ((Z102 _).trans Zv)) rfl (OW.rot1 ?_))))))))))
 refine Z28 (Z103 rfl rfl rfl (Z129 _) rfl ((Z102 _).trans Zv) ((Z102 _).trans Zv)) (Z6 (Z1 (CW.ret ?_)))
 have e0 := Zi hf
 subst e0
 refine Z104 (rs := [.cell 4 27]) ([.agg (u8s (a0.setIfInBounds ((((255 : Int) - (((a1).toNat / 8 : Nat) : Int))).toNat) (x6 ||| (1#8 <<< (BitVec.ofNat 64 ((a1).toNat % 8)).toNat))).toList).toArray]) ((some b2, blk (u8s (a0.setIfInBounds ((((255 : Int) - (((a1).toNat / 8 : Nat) : Int))).toNat) (x6 ||| (1#8 <<< (BitVec.ofNat 64 ((a1).toNat % 8)).toNat))).toList) 27) :: (some b1, blk (u8s (a0.setIfInBounds ((((255 : Int) - (((a1).toNat / 8 : Nat) : Int))).toNat) (x6 ||| (1#8 <<< (BitVec.ofNat 64 ((a1).toNat % 8)).toNat))).toList) 27) :: []) rfl ?_ rfl ?_ ?_ _ (.inl rfl)
 ·exact ⟨⟨_, _, _, _, rfl, Zh, rfl, rfl, (congrArg some ((Z102 _).trans Zv).symm), rfl⟩, trivial⟩
 ·exact rfl
 ·exact (fun w m => m)
theorem waybillref10_Add_does (w0 : World) (Φ : Ctx) (N : List Ent) (hΦ : ∀ w, Mem w0 w N → Φ w) (a0 : Vector (BitVec 8) 256) (A1_ : Option Addr) (c1_ : Nat) (a1 : List (BitVec 8)) (res0 : Vector (BitVec 8) 256) (va1 : View Φ A1_ a1.length c1_ 1 (u8s a1)) (hTn : ∀ i, i < 25 → w0.cell? ⟨4, i, none⟩ = some (.int .i64 (turnsL.getD i 0))) (hRn : ∀ i, i < 24 → w0.cell? ⟨3, i, none⟩ = some (U64 (g64 roundsL i))) (hf : waybillref10_Add a0 a1 = some res0) : DoesG Tryd.prog 79 [.agg (u8s a0.toList).toArray, .slice A1_ a1.length c1_] w0 [] N (fun v G => v = .agg (u8s res0.toList).toArray) := by
 unfold waybillref10_Add at hf
 replace va1 := va1.mono (Ψ := More w0 Φ []) (fun w q => q.1)
 have m1 := va1.mx
 refine DoesG.enter Tryd.func79 rfl Tryd.ntmps79 rfl (M := (([] ++ N))) rfl (Z4 (Z2 (Z130 rfl rfl (fun b2 => (OW.alloc (l := (u8s (Vector.replicate 256 0#8).toList)) rfl (by rw [Vector.toList_replicate, ← Z135]; rfl) rfl (fun b3 => (Z6 (Z1 (Z4 (Z2 (Z0 (Z3 rfl) rfl ?_)))))))))))
 obtain ⟨x5, hx4, hf⟩ := Z100 hf
 refine Z12 Tryd.call105 rfl (waybillref10_Places_does w0 (More w0 Φ []) ((some b3, blk (u8s (Vector.replicate 256 0#8).toList) 27) :: (some b2, blk (u8s a0.toList) 27) :: ([] ++ N)) (fun w m => Z105 hΦ 2 m rfl) A1_ c1_ a1 x5 va1 hTn hRn hx4) rfl rfl ?_
 rintro _ G6 rfl
 refine Z20 (M' := ((some b3, blk (u8s (Vector.replicate 256 0#8).toList) 27) :: (some b2, blk (u8s a0.toList) 27) :: ([] ++ N))) (fun w m => m.appR) (OW.alloc (l := (i64s (Vector.replicate 3 0).toList)) rfl (by rw [Vector.toList_replicate, ← i64s_rep]; rfl) rfl (fun b8 => (Z28 (Z103 rfl rfl rfl (i64s_one _) rfl ((Z125 _).trans Zv) ((Z125 _).trans Zv)) (Z6 (Z1 (Z4 (Z137 ((some b8, blk (i64s x5.toList) 95) :: (some b2, blk (u8s a0.toList) 27) :: ([] ++ N)) [10] (fun w m => m.pick [0, 2] 3 rfl rfl) mixed (by kernel_rfl) (Z10 0 rfl (by kernel_rfl) rfl (Z22 rfl (List.Mem.tail _ Zh) rfl rfl rfl rfl ((Z102 _).trans Zv)) rfl (Z10 1 rfl (by kernel_rfl) rfl (Z109 (0) rfl rfl rfl rfl rfl (by omega)) rfl (Z10 2 rfl (by kernel_rfl) rfl (Z29 rfl Zh rfl rfl rfl (i64s_at (vat' (by decide)))) rfl ?_))))))))))
 refine Z10 4 rfl (by kernel_rfl) rfl (Z109 (1) rfl rfl rfl rfl rfl (by omega)) rfl (Z10 5 rfl (by kernel_rfl) rfl (Z29 rfl Zh rfl rfl rfl (i64s_at (vat' (by decide)))) rfl (Z10 7 rfl (by kernel_rfl) rfl (Z109 (2) rfl rfl rfl rfl rfl (by omega)) rfl (Z10 8 rfl (by kernel_rfl) rfl (Z29 rfl Zh rfl rfl rfl (i64s_at (vat' (by decide)))) rfl ?_)))
 obtain ⟨g9, hf⟩ := Z112 hf
 obtain ⟨x11, hx10, hf⟩ := Z100 hf
 refine Z11 3 rfl (by kernel_rfl) rfl Tryd.call106 rfl (fun N' hN' => Z155 w0 (More w0 Φ []) N' (fun w m => Z105 hΦ 3 (hN' w m) rfl) a0 (x5[0]) x11 (by omega) hx10) rfl ?_
 rintro _ G12 rfl
 refine Z19 (M' := ((some b8, blk (i64s x5.toList) 95) :: (some b3, blk (u8s (Vector.replicate 256 0#8).toList) 27) :: (some b2, blk (u8s a0.toList) 27) :: ([] ++ N))) (fun w m => m.appR) (fun w m => m.pick [0, 2] 3 rfl rfl) ?_
 obtain ⟨g14, hf⟩ := Z112 hf
 obtain ⟨x16, hx15, hf⟩ := Z100 hf
 refine Z11 6 rfl (by kernel_rfl) rfl Tryd.call106 rfl (fun N' hN' => Z155 w0 (More w0 Φ []) N' (fun w m => Z105 hΦ 3 (hN' w m) rfl) x11 (x5[1]) x16 (by omega) hx15) rfl ?_
 rintro _ G17 rfl
 refine Z19 (M' := ((some b8, blk (i64s x5.toList) 95) :: (some b3, blk (u8s (Vector.replicate 256 0#8).toList) 27) :: (some b2, blk (u8s a0.toList) 27) :: ([] ++ N))) (fun w m => m.appR) (fun w m => m.pick [0, 2] 3 rfl rfl) ?_
 obtain ⟨g19, hf⟩ := Z112 hf
 obtain ⟨x21, hx20, hf⟩ := Z100 hf
 refine Z11 9 rfl (by kernel_rfl) rfl Tryd.call106 rfl (fun N' hN' => Z155 w0 (More w0 Φ []) N' (fun w m => Z105 hΦ 3 (hN' w m) rfl) x16 (x5[2]) x21 (by omega) hx20) rfl ?_
 rintro _ G22 rfl
 refine Z19 (M' := ((some b8, blk (i64s x5.toList) 95) :: (some b3, blk (u8s (Vector.replicate 256 0#8).toList) 27) :: (some b2, blk (u8s a0.toList) 27) :: ([] ++ N))) (fun w m => m.appR) (fun w m => m.pick [0, 2] 3 rfl rfl) (Z19 (M' := ((some b3, blk (u8s (Vector.replicate 256 0#8).toList) 27) :: (some b8, blk (i64s x5.toList) 95) :: (some b2, blk (u8s a0.toList) 27) :: ([] ++ N))) (fun w m => m.pick [1, 0] 2 rfl rfl) (fun w m => m.pick [1, 2] 3 rfl rfl) (XW.sv 10 rfl (by kernel_rfl) (Z103 rfl rfl rfl (Z129 _) rfl ((Z102 _).trans Zv) ((Z102 _).trans Zv)) (fun w m => m.pick [1, 2] 3 rfl rfl) (XW.nil (by kernel_rfl) (Z1 (CW.ret ?_)))))
 have e0 := Zi hf
 subst e0
 refine Z104 (rs := [.cell 4 27]) ([.agg (u8s x21.toList).toArray]) ((some b3, blk (u8s x21.toList) 27) :: (some b8, blk (i64s x5.toList) 95) :: (some b2, blk (u8s a0.toList) 27) :: []) rfl ?_ rfl ?_ ?_ _ (.inl rfl)
 ·exact ⟨⟨_, _, _, _, rfl, Zh, rfl, rfl, (congrArg some ((Z102 _).trans Zv).symm), rfl⟩, trivial⟩
 ·exact rfl
 ·exact (fun w m => m)
theorem waybillref10_Of_does (w0 : World) (Φ : Ctx) (N : List Ent) (hΦ : ∀ w, Mem w0 w N → Φ w) (A0_ : Option Addr) (c0_ : Nat) (cs0_ : List Value) (a0 : List (List (BitVec 8))) (res0 : Vector (BitVec 8) 256) (va0 : View Φ A0_ a0.length c0_ 1 cs0_) (ha0 : Reps (BsRd Φ) cs0_ a0) (hTn : ∀ i, i < 25 → w0.cell? ⟨4, i, none⟩ = some (.int .i64 (turnsL.getD i 0))) (hRn : ∀ i, i < 24 → w0.cell? ⟨3, i, none⟩ = some (U64 (g64 roundsL i))) (hf : waybillref10_Of a0 = some res0) : DoesG Tryd.prog 53 [.slice A0_ a0.length c0_] w0 [] N (fun v G => v = .agg (u8s res0.toList).toArray) := by
 unfold waybillref10_Of at hf
 replace va0 := va0.mono (Ψ := More w0 Φ []) (fun w q => q.1)
 replace ha0 := ha0.mono (BsRd.mono (Ψ := More w0 Φ []) (fun w q => q.1))
 have m1 := va0.mx
 refine DoesG.enter Tryd.func53 rfl Tryd.ntmps53 rfl (M := (([] ++ N))) rfl (Z4 (Z2 (OW.alloc (l := (u8s (Vector.replicate 256 0#8).toList)) rfl (by rw [Vector.toList_replicate, ← Z135]; rfl) rfl (fun b2 => (Z6 (Z1 (Z4 (Z2 (OW.alloc (l := (u8s (Vector.replicate 256 0#8).toList)) rfl (by rw [Vector.toList_replicate, ← Z135]; rfl) rfl (fun b3 => (Z6 (Z1 (Z4 (Z4 (Z2 (Z0 (Z5 rfl) rfl (Z6 (Z1 ?_))))))))))))))))))
 obtain ⟨q4, hq5, hf⟩ := Z100 hf
 refine Z115 (fun L' M' => ∃ w6 : Vector (BitVec 8) 256, q4 = w6 ∧ L' = [(2, ptr (some b2) 0), (3, ptr (some b3) 0)] ∧ M' = ((some b3, blk (u8s w6.toList) 27) :: (some b2, blk (u8s (Vector.replicate 256 0#8).toList) 27) :: ([] ++ N))) ?_ ?_
 ·rintro L8 M9 ⟨w6, e7, e10, e11⟩
  rw [e10, e11]
  clear e10 e11 L8 M9
  clear hq5
  rw [e7] at hf
  clear e7
  try dsimp only at hf
  refine Z1 (Z4 (Z2 (Z0 (Z22 rfl Zh rfl rfl rfl rfl ((Z102 _).trans Zv)) rfl (OW.rot1 (Z28 (Z103 rfl rfl rfl (Z129 _) rfl ((Z102 _).trans Zv) ((Z102 _).trans Zv)) (Z6 (Z1 (CW.ret ?_))))))))
  have e0 := Zi hf
  subst e0
  refine Z104 (rs := [.cell 2 27]) ([.agg (u8s w6.toList).toArray]) ((some b2, blk (u8s w6.toList) 27) :: (some b3, blk (u8s w6.toList) 27) :: []) rfl ?_ rfl ?_ ?_ _ (.inl rfl)
  ·exact ⟨⟨_, _, _, _, rfl, Zh, rfl, rfl, (congrArg some ((Z102 _).trans Zv).symm), rfl⟩, trivial⟩
  ·exact rfl
  ·exact (fun w m => m)
 ·skip
  refine CW.block (Z121 (fun k L' M' => ∃ n12 : Nat, ∃ w14 : Vector (BitVec 8) 256, (waybillref10_Of.l1 a0 k n12 w14) = some q4 ∧ (n12 ≤ 9223372036854775807) ∧ L' = [(0, .slice A0_ a0.length c0_), (2, ptr (some b2) 0), (3, ptr (some b3) 0), (4, .int .i64 ((n12 : Nat) : Int))] ∧ M' = ((some b3, blk (u8s w14.toList) 27) :: (some b2, blk (u8s (Vector.replicate 256 0#8).toList) 27) :: ([] ++ N))) (k0 := (a0.length - 0 + 2)) ⟨0, (Vector.replicate 256 0#8), hq5, (by omega), rfl, rfl⟩ ⟨rfl, rfl, rfl, rfl, trivial⟩ (fun w m => m.pick [0, 1] 2 rfl rfl) ?_)
  clear hq5
  rintro k15 L18 M19 ⟨n12, w14, hl16, b13, e20, e21⟩
  rw [e20, e21]
  clear e20 e21 L18 M19
  rcases k15 with _ | k15
  ·rw [waybillref10_Of.l1] at hl16; cases hl16
  rw [waybillref10_Of.l1] at hl16
  refine Z4 (Z4 (Z2 (Z0 (Z3 rfl) rfl (Z0 (Z3 rfl) rfl (Z0 (RV.len rfl rfl) rfl (Z0 (RV.lss rfl rfl) rfl (Z7 (.bool (decide (n12 < a0.length))) (congrArg Value.bool (decide_eq_decide.2 (by omega))) (Z6 (Z1 ?_)))))))))
  by_cases h22 : n12 < a0.length
  ·replace hl16 := if_t hl16 h22
   refine Z13 rfl (decide_eq_true h22) (CW.skip (Z1 (Z4 (CW.block (Z137 ((some b2, blk (u8s (Vector.replicate 256 0#8).toList) 27) :: ([] ++ N)) [6] (fun w m => m.pick [1] 2 rfl rfl) mixed (by kernel_rfl) (XW.rv 0 rfl (by kernel_rfl) rfl (by kernel_rfl) (Z22 rfl Zh rfl rfl rfl rfl ((Z102 _).trans Zv)) rfl (Z10 1 rfl (by kernel_rfl) rfl (Z3 rfl) rfl (Z10 2 rfl (by kernel_rfl) rfl (Z3 rfl) rfl ?_))))))))
   obtain ⟨x23, hx24, hl16⟩ := Z100 hl16
   have hl25 := Z111 hx24
   refine Z10 3 rfl (by kernel_rfl) rfl (Z131 (n12) rfl rfl rfl rfl rfl (va0.isSome (by decide) hl25) (by omega)) rfl ?_
   obtain ⟨cs26, h27, h28⟩ := ha0.get BsRd.len hx24
   obtain ⟨A29, c30, e32, v31⟩ := h27
   subst e32
   have m33 := v31.mx
   refine Z10 4 rfl (by kernel_rfl) rfl (Z21 rfl rfl rfl (fun w m => by have := va0.load (Z105 hΦ 1 m rfl) h28 0 _ rfl; simpa [Addr.add] using this)) rfl ?_
   obtain ⟨x35, hx34, hl16⟩ := Z100 hl16
   refine Z11 5 rfl (by kernel_rfl) rfl Tryd.call79 rfl (fun N' hN' => waybillref10_Add_does w0 (More w0 Φ []) N' (fun w m => Z105 hΦ 2 (hN' w m) rfl) w14 A29 c30 x23 x35 v31 hTn hRn hx34) rfl ?_
   rintro _ G36 rfl
   refine Z19 (M' := ((some b3, blk (u8s w14.toList) 27) :: (some b2, blk (u8s (Vector.replicate 256 0#8).toList) 27) :: ([] ++ N))) (fun w m => m.appR) (fun w m => m.pick [1] 2 rfl rfl) (XW.sv 6 rfl (by kernel_rfl) (Z103 rfl rfl rfl (Z129 _) rfl ((Z102 _).trans Zv) ((Z102 _).trans Zv)) (fun w m => m.pick [1] 2 rfl rfl) (XW.nil (by kernel_rfl) (Z27 (Z1 (Z2 (Z0 (Z3 rfl) rfl (Z0 (RV.add rfl rfl (by omega)) rfl (Z7 (.int .i64 (((n12 + 1) : Nat) : Int)) (by first | rfl | (congr 1) | (congr 1; omega)) (Z0 (Z5 rfl) rfl ?_)))))))))
   refine Z6 ?_
   exact Z114 (k' := k15) (Nat.lt_succ_self _) ⟨(n12 + 1), x35, hl16, (by omega), rfl, rfl⟩ ⟨rfl, rfl, rfl, rfl, trivial⟩ (fun w m => m.pick [0, 1] 2 rfl rfl)
  ·replace hl16 := if_f hl16 h22
   refine Z14 rfl (decide_eq_false h22) (CW.exit (Z9 (Z9 (Z15 ?_))))
   exact QW.join ⟨w14, (Zi hl16).symm, rfl, rfl⟩ ⟨rfl, rfl, trivial⟩ (fun w m => m.pick [0, 1] 2 rfl rfl)
theorem receipt_BloomOf_does (w0 : World) (Φ : Ctx) (N : List Ent) (hΦ : ∀ w, Mem w0 w N → Φ w) (A0_ : Option Addr) (c0_ : Nat) (cs0_ : List Value) (a0 : List (Log)) (res0 : Vector (BitVec 8) 256) (va0 : View Φ A0_ a0.length c0_ 22 cs0_) (ha0 : Reps (LogRd Φ) cs0_ a0) (hg2 : View Φ (some ⟨2, 0, none⟩) 2 2 1 (u8s firstL)) (hf : receipt_BloomOf a0 = some res0) : DoesG Tryd.prog 28 [.slice A0_ a0.length c0_] w0 [] N (fun v G => v = .agg (u8s res0.toList).toArray) := by
 unfold receipt_BloomOf at hf
 replace va0 := va0.mono (Ψ := More w0 Φ []) (fun w q => q.1)
 replace hg2 := hg2.mono (Ψ := More w0 Φ []) (fun w q => q.1)
 replace ha0 := ha0.mono (LogRd.mono (Ψ := More w0 Φ []) (fun w q => q.1))
 have m1 := va0.mx
 refine DoesG.enter Tryd.func28 rfl Tryd.ntmps28 rfl (M := (([] ++ N))) rfl (Z4 (Z2 (OW.alloc (l := (u8s (Vector.replicate 256 0#8).toList)) rfl (by rw [Vector.toList_replicate, ← Z135]; rfl) rfl (fun b2 => (Z6 (Z1 (Z4 (Z2 (Z0 (Z5 rfl) rfl (Z6 (Z1 (Z4 (Z4 (Z2 (Z0 (Z3 rfl) rfl (Z0 (RV.len rfl rfl) rfl ?_))))))))))))))))
 refine Z0 (Z3 rfl) rfl (Z6 (Z1 ?_))
 obtain ⟨q3, hq4, hf⟩ := Z100 hf
 refine Z115 (fun L' M' => ∃ l5 : List (List (BitVec 8)), ∃ cs6 : List Value, ∃ ob8 : Option Nat, ∃ c9 : Nat, ∃ r10 : List Value, q3 = l5 ∧ (Reps (BsRd (More w0 Φ [])) cs6 l5) ∧ (OwnS ob8 l5.length c9 1 cs6 r10) ∧ L' = [(2, ptr (some b2) 0), (3, sl ob8 0 l5.length c9)] ∧ M' = ((ob8, blk (cs6 ++ r10) 61) :: (some b2, blk (u8s (Vector.replicate 256 0#8).toList) 27) :: ([] ++ N))) ?_ ?_
 ·rintro L13 M14 ⟨l5, cs6, ob8, c9, r10, e12, h7, o11, e15, e16⟩
  rw [e15, e16]
  clear e15 e16 L13 M14
  clear hq4
  rw [e12] at hf
  clear e12
  try dsimp only at hf
  have m17 := o11.mx
  refine Z1 (Z4 (Z2 (Z0 (Z3 rfl) rfl (Z20 (M' := (some b2, blk (u8s (Vector.replicate 256 0#8).toList) 27) :: (((ob8, blk (cs6 ++ r10) 61) :: []) ++ N)) (fun w m => m.pick [1, 0] 2 rfl rfl) ?_))))
  have gq1 : ∀ w, More w0 Φ ((ob8, blk (cs6 ++ r10) 61) :: []) w → More w0 Φ [] w := fun w q => More.mono (fun w m => (m).tail) q
  replace h7 := h7.mono (BsRd.mono gq1)
  replace hg2 := hg2.mono gq1
  have v18 : View (More w0 Φ ((ob8, blk (cs6 ++ r10) 61) :: [])) ((ob8).map fun k => ⟨k, 0, none⟩) l5.length c9 1 cs6 := o11.view (by decide) (fun w q => q.2.sublist (List.singleton_sublist.2 (List.mem_cons_self ..)))
  obtain ⟨x20, hx19, hf⟩ := Z100 hf
  refine Z12 Tryd.call51 rfl (bloom_Of_does w0 (More w0 Φ ((ob8, blk (cs6 ++ r10) 61) :: [])) ((some b2, blk (u8s (Vector.replicate 256 0#8).toList) 27) :: (((ob8, blk (cs6 ++ r10) 61) :: []) ++ N)) (fun w m => Z105 hΦ 1 m rfl) ((ob8).map fun k => ⟨k, 0, none⟩) c9 cs6 l5 x20 v18 h7 hg2 hx19) rfl rfl ?_
  rintro _ G21 rfl
  refine Z20 (M' := ((some b2, blk (u8s (Vector.replicate 256 0#8).toList) 27) :: (((ob8, blk (cs6 ++ r10) 61) :: []) ++ N))) (fun w m => m.appR) (Z28 (Z103 rfl rfl rfl (Z129 _) rfl ((Z102 _).trans Zv) ((Z102 _).trans Zv)) (Z6 (Z1 (CW.ret ?_))))
  have e0 := Zi hf
  subst e0
  refine Z104 (rs := [.cell 2 27]) ([.agg (u8s x20.toList).toArray]) ((some b2, blk (u8s x20.toList) 27) :: ((ob8, blk (cs6 ++ r10) 61) :: [])) rfl ?_ rfl ?_ ?_ _ (.inl rfl)
  ·exact ⟨⟨_, _, _, _, rfl, Zh, rfl, rfl, (congrArg some ((Z102 _).trans Zv).symm), rfl⟩, trivial⟩
  ·exact rfl
  ·exact (fun w m => m)
 ·skip
  refine CW.block (CW.mem (M' := ((none, blk ([] ++ []) 61) :: (some b2, blk (u8s (Vector.replicate 256 0#8).toList) 27) :: ([] ++ N))) (fun w m => m.nil_ent _) (Z121 (fun k L' M' => ∃ l23 : List (List (BitVec 8)), ∃ n30 : Nat, ∃ cs24 : List Value, ∃ ob26 : Option Nat, ∃ c27 : Nat, ∃ r28 : List Value, (receipt_BloomOf.l1 a0 k l23 n30) = some q3 ∧ (Reps (BsRd (More w0 Φ [])) cs24 l23) ∧ (OwnS ob26 l23.length c27 1 cs24 r28) ∧ (n30 ≤ 9223372036854775807) ∧ L' = [(0, .slice A0_ a0.length c0_), (2, ptr (some b2) 0), (3, sl ob26 0 l23.length c27), (7, .int .i64 ((a0.length : Nat) : Int)), (8, .int .i64 ((n30 : Nat) : Int))] ∧ M' = ((ob26, blk (cs24 ++ r28) 61) :: (some b2, blk (u8s (Vector.replicate 256 0#8).toList) 27) :: ([] ++ N))) (k0 := (a0.length - 0 + 2)) ⟨([] : List (List (BitVec 8))), 0, [], none, 0, [], hq4, Reps.nil, OwnS.nil, (by omega), rfl, rfl⟩ ⟨rfl, rfl, rfl, rfl, rfl, trivial⟩ (fun w m => m.pick [0, 1] 2 rfl rfl) ?_))
  clear hq4
  rintro k32 L35 M36 ⟨l23, n30, cs24, ob26, c27, r28, hl33, h25, o29, b31, e37, e38⟩
  rw [e37, e38]
  clear e37 e38 L35 M36
  rcases k32 with _ | k32
  ·rw [receipt_BloomOf.l1] at hl33; cases hl33
  rw [receipt_BloomOf.l1] at hl33
  have m39 := o29.mx
  refine Z4 (Z2 (Z0 (RV.lss rfl rfl) rfl (Z7 (.bool (decide (n30 < a0.length))) (congrArg Value.bool (decide_eq_decide.2 (by omega))) (Z6 (Z1 (Z4 ?_))))))
  by_cases h40 : n30 < a0.length
  ·replace hl33 := if_t hl33 h40
   refine Z13 rfl (decide_eq_true h40) (CW.skip (Z1 (Z4 (CW.block (Z4 (Z2 (Z0 (Z3 rfl) rfl (Z0 (Z5 rfl) rfl (Z6 (Z1 (Z4 (Z2 (Z0 (Z3 rfl) rfl (Z0 (Z3 rfl) rfl (Z0 (Z3 rfl) rfl ?_)))))))))))))))
   obtain ⟨x41, hx42, hl33⟩ := Z100 hl33
   have hl43 := Z111 hx42
   refine Z0 (Z117 (n30) rfl rfl rfl rfl rfl (va0.isSome (by decide) hl43) (by omega)) rfl ?_
   obtain ⟨cs44, h45, h46⟩ := ha0.get LogRd.len hx42
   have h56 := h45
   obtain ⟨A47, c48, cs50, A52, c53, e55, v49, h51, v54⟩ := LogRd.opn h45
   subst e55
   have m57 := v49.mx
   have m58 := v54.mx
   refine Z0 (Z31 rfl rfl rfl rfl) rfl (Z0 (RV.arr_all rfl rfl rfl) rfl ?_)
   refine Z7 (.slice (some ((((A0_).getD default).add (n30 * 22)).add 0)) x41.address.toList.length 20) (by rw [Zv]; try rfl) ?_
   have v59 : View (More w0 Φ []) (some ((((A0_).getD default).add (n30 * 22)).add 0)) x41.address.toList.length 20 1 (u8s x41.address.toList) := View.part va0 h46 (Z153 (⟨x41.address, .slice A47 x41.topics.length c48, .slice A52 x41.data.length c53⟩ : LogC)) (by decide)
   refine OW.ofN (NV.bs1 rfl rfl rfl rfl rfl rfl) rfl (fun b60 => ?_)
   have h63 : Reps (BsRd (More w0 Φ [])) (([.slice (some ((((A0_).getD default).add (n30 * 22)).add 0)) x41.address.toList.length 20] : List Value)) [x41.address.toList] := Reps.one (BsRd.mk v59)
   refine Z20 (M' := (((some b60), blk ((([.slice (some ((((A0_).getD default).add (n30 * 22)).add 0)) x41.address.toList.length 20] : List Value)) ++ []) 61) :: (ob26, blk (cs24 ++ r28) 61) :: (some b2, blk (u8s (Vector.replicate 256 0#8).toList) 27) :: ([] ++ N))) (fun w m => m) ?_
   have o61 : OwnS (some b60) ([x41.address.toList] : List (List (BitVec 8))).length 1 1 (([.slice (some ((((A0_).getD default).add (n30 * 22)).add 0)) x41.address.toList.length 20] : List Value)) [] := ⟨by simp [BsRd], by simp [BsRd], (fun h => nomatch h), by simp⟩
   have mx_o61 := o61.mx
   refine Z7 (sl (some b60) 0 ([x41.address.toList] : List (List (BitVec 8))).length 1) (rfl) (OW.rot1 ?_)
   obtain ⟨g64, hl33⟩ := Z112 hl33
   have h69 := h25.app h63
   refine OW.appendOwn (s := 1) rfl rfl rfl rfl rfl rfl o29 (fun w m => m.rd0 (List.Mem.tail _ Zh) (fun e => o61.nilc (by decide) e)) o61.n (h63.cell1 BsRd.one) (o61.zeroO (by decide)) (by decide) (by decide) (by first | omega | (simp only [i61, List.length_nil]; omega)) rfl rfl ((l23 ++ ([x41.address.toList] : List (List (BitVec 8)))).length) (cs24 ++ (([.slice (some ((((A0_).getD default).add (n30 * 22)).add 0)) x41.address.toList.length 20] : List Value))) (List.length_append ..).symm rfl (fun ob65 r66 c67 o68 => ?_)
   have m70 := o68.mx
   refine Z0 (Z5 rfl) rfl (Z6 (Z1 (Z4 (Z2 (Z0 (Z3 rfl) rfl (Z0 (Z3 rfl) rfl ?_))))))
   obtain ⟨x71, hx72, hl33⟩ := Z100 hl33
   have hl73 := Z111 hx72
   refine Z0 (Z117 (n30) rfl rfl rfl rfl rfl (va0.isSome (by decide) hl73) (by omega)) rfl ?_
   obtain ⟨cs74, h75, h76⟩ := ha0.get LogRd.len hx72
   have h86 := h75
   obtain ⟨A77, c78, cs80, A82, c83, e85, v79, h81, v84⟩ := LogRd.opn h75
   subst e85
   have m87 := v79.mx
   have m88 := v84.mx
   refine Z0 (Z31 rfl rfl rfl rfl) rfl (Z0 (Z21 rfl rfl rfl (fun w m => va0.load_fld (Z105 hΦ 3 m rfl) h76 (Z122 (⟨x71.address, .slice A77 x71.topics.length c78, .slice A82 x71.data.length c83⟩ : LogC)))) rfl (Z0 (RV.len rfl rfl) rfl (Z0 (Z3 rfl) rfl (Z6 (Z1 ?_)))))
   obtain ⟨q89, hq90, hl33⟩ := Z100 hl33
   refine Z115 (fun L' M' => ∃ l91 : List (List (BitVec 8)), ∃ cs92 : List Value, ∃ ob94 : Option Nat, ∃ c95 : Nat, ∃ r96 : List Value, q89 = l91 ∧ (Reps (BsRd (More w0 Φ [])) cs92 l91) ∧ (OwnS ob94 l91.length c95 1 cs92 r96) ∧ L' = [(0, .slice A0_ a0.length c0_), (2, ptr (some b2) 0), (3, sl ob94 0 l91.length c95), (7, .int .i64 ((a0.length : Nat) : Int)), (8, .int .i64 ((n30 : Nat) : Int))] ∧ M' = ((ob94, blk (cs92 ++ r96) 61) :: (some b2, blk (u8s (Vector.replicate 256 0#8).toList) 27) :: ([] ++ N))) ?_ ?_
   ·rintro L99 M100 ⟨l91, cs92, ob94, c95, r96, e98, h93, o97, e101, e102⟩
    rw [e101, e102]
    clear e101 e102 L99 M100
    clear hq90
    rw [e98] at hl33
    clear e98
    try dsimp only at hl33
    have m103 := o97.mx
    refine Z27 (Z1 (Z2 (Z0 (RV.add rfl rfl (by omega)) rfl (Z7 (.int .i64 (((n30 + 1) : Nat) : Int)) (by first | rfl | (congr 1) | (congr 1; omega)) (Z0 (Z3 rfl) rfl (Z6 ?_))))))
    exact Z114 (k' := k32) (Nat.lt_succ_self _) ⟨l91, (n30 + 1), cs92, ob94, c95, r96, hl33, h93, o97, (by omega), rfl, rfl⟩ ⟨rfl, rfl, rfl, rfl, rfl, trivial⟩ (fun w m => m.pick [0, 1] 2 rfl rfl)
   ·skip
    refine CW.block (Z121 (fun k L' M' => ∃ l104 : List (List (BitVec 8)), ∃ n111 : Nat, ∃ cs105 : List Value, ∃ ob107 : Option Nat, ∃ c108 : Nat, ∃ r109 : List Value, (receipt_BloomOf.l2 a0 n30 x71 k l104 n111) = some q89 ∧ (Reps (BsRd (More w0 Φ [])) cs105 l104) ∧ (OwnS ob107 l104.length c108 1 cs105 r109) ∧ (n111 ≤ 9223372036854775807) ∧ L' = [(0, .slice A0_ a0.length c0_), (2, ptr (some b2) 0), (3, sl ob107 0 l104.length c108), (4, .int .i64 ((n30 : Nat) : Int)), (7, .int .i64 ((a0.length : Nat) : Int)), (8, .int .i64 ((n30 : Nat) : Int)), (24, .int .i64 ((x71.topics.length : Nat) : Int)), (25, .int .i64 ((n111 : Nat) : Int))] ∧ M' = ((ob107, blk (cs105 ++ r109) 61) :: (some b2, blk (u8s (Vector.replicate 256 0#8).toList) 27) :: ([] ++ N))) (k0 := (x71.topics.length - 0 + 2)) ⟨(l23 ++ ([x41.address.toList] : List (List (BitVec 8)))), 0, (cs24 ++ (([.slice (some ((((A0_).getD default).add (n30 * 22)).add 0)) x41.address.toList.length 20] : List Value))), ob65, c67, r66, hq90, h69, o68, (by omega), rfl, rfl⟩ ⟨rfl, rfl, rfl, rfl, rfl, rfl, rfl, rfl, trivial⟩ (fun w m => m.pick [0, 2] 3 rfl rfl) ?_)
    clear hq90
    rintro k113 L116 M117 ⟨l104, n111, cs105, ob107, c108, r109, hl114, h106, o110, b112, e118, e119⟩
    rw [e118, e119]
    clear e118 e119 L116 M117
    rcases k113 with _ | k113
    ·rw [receipt_BloomOf.l2] at hl114; cases hl114
    rw [receipt_BloomOf.l2] at hl114
    have m120 := o110.mx
    refine Z4 (Z2 (Z0 (RV.lss rfl rfl) rfl (Z7 (.bool (decide (n111 < x71.topics.length))) (congrArg Value.bool (decide_eq_decide.2 (by omega))) (Z6 (Z1 (Z4 ?_))))))
    by_cases h121 : n111 < x71.topics.length
    ·replace hl114 := if_t hl114 h121
     refine Z13 rfl (decide_eq_true h121) (CW.skip (Z1 (Z4 (CW.block (Z4 (Z2 (Z0 (Z3 rfl) rfl (Z0 (Z5 rfl) rfl (Z6 (Z1 (Z2 (Z0 (Z3 rfl) rfl (Z0 (Z3 rfl) rfl (Z0 (Z3 rfl) rfl ?_))))))))))))))
     obtain ⟨x122, hx123, hl114⟩ := Z100 hl114
     have hl124 := Z111 hx123
     refine Z0 (Z117 (n30) rfl rfl rfl rfl rfl (va0.isSome (by decide) hl124) (by omega)) rfl ?_
     obtain ⟨cs125, h126, h127⟩ := ha0.get LogRd.len hx123
     have h137 := h126
     obtain ⟨A128, c129, cs131, A133, c134, e136, v130, h132, v135⟩ := LogRd.opn h126
     subst e136
     have m138 := v130.mx
     have m139 := v135.mx
     refine Z0 (Z31 rfl rfl rfl rfl) rfl (Z0 (Z21 rfl rfl rfl (fun w m => va0.load_fld (Z105 hΦ 2 m rfl) h127 (Z122 (⟨x122.address, .slice A128 x122.topics.length c129, .slice A133 x122.data.length c134⟩ : LogC)))) rfl (Z0 (Z3 rfl) rfl ?_))
     obtain ⟨x140, hx141, hl114⟩ := Z100 hl114
     have hl142 := Z111 hx141
     refine Z0 (Z117 (n111) rfl rfl rfl rfl rfl (v130.isSome (by decide) hl142) (by omega)) rfl ?_
     obtain ⟨cs143, h144, h145⟩ := h132.get Ar8Rd.len hx141
     have h144a := h144
     subst h144a
     refine Z0 (RV.arr_all rfl rfl rfl) rfl ?_
     refine Z7 (.slice (some (((A128).getD default).add (n111 * 32))) x140.toList.length 32) (by rw [Zv]; try rfl) ?_
     have v146 : View (More w0 Φ []) (some (((A128).getD default).add (n111 * 32))) x140.toList.length 32 1 (u8s x140.toList) := View.elem v130 h145 (by decide)
     refine OW.ofN (NV.bs1 rfl rfl rfl rfl rfl rfl) rfl (fun b147 => ?_)
     have h150 : Reps (BsRd (More w0 Φ [])) (([.slice (some (((A128).getD default).add (n111 * 32))) x140.toList.length 32] : List Value)) [x140.toList] := Reps.one (BsRd.mk v146)
     refine Z20 (M' := (((some b147), blk ((([.slice (some (((A128).getD default).add (n111 * 32))) x140.toList.length 32] : List Value)) ++ []) 61) :: (ob107, blk (cs105 ++ r109) 61) :: (some b2, blk (u8s (Vector.replicate 256 0#8).toList) 27) :: ([] ++ N))) (fun w m => m) ?_
     have o148 : OwnS (some b147) ([x140.toList] : List (List (BitVec 8))).length 1 1 (([.slice (some (((A128).getD default).add (n111 * 32))) x140.toList.length 32] : List Value)) [] := ⟨by simp [BsRd], by simp [BsRd], (fun h => nomatch h), by simp⟩
     have mx_o148 := o148.mx
     refine Z7 (sl (some b147) 0 ([x140.toList] : List (List (BitVec 8))).length 1) (rfl) (OW.rot1 ?_)
     obtain ⟨g151, hl114⟩ := Z112 hl114
     have h156 := h106.app h150
     refine OW.appendOwn (s := 1) rfl rfl rfl rfl rfl rfl o110 (fun w m => m.rd0 (List.Mem.tail _ Zh) (fun e => o148.nilc (by decide) e)) o148.n (h150.cell1 BsRd.one) (o148.zeroO (by decide)) (by decide) (by decide) (by first | omega | (simp only [i61, List.length_nil]; omega)) rfl rfl ((l104 ++ ([x140.toList] : List (List (BitVec 8)))).length) (cs105 ++ (([.slice (some (((A128).getD default).add (n111 * 32))) x140.toList.length 32] : List Value))) (List.length_append ..).symm rfl (fun ob152 r153 c154 o155 => ?_)
     have m157 := o155.mx
     refine Z0 (Z5 rfl) rfl (Z6 (Z27 (Z1 (Z2 (Z0 (RV.add rfl rfl (by omega)) rfl (Z7 (.int .i64 (((n111 + 1) : Nat) : Int)) (by first | rfl | (congr 1) | (congr 1; omega)) (Z0 (Z3 rfl) rfl (Z6 ?_))))))))
     exact Z114 (k' := k113) (Nat.lt_succ_self _) ⟨(l104 ++ ([x140.toList] : List (List (BitVec 8)))), (n111 + 1), (cs105 ++ (([.slice (some (((A128).getD default).add (n111 * 32))) x140.toList.length 32] : List Value))), ob152, c154, r153, hl114, h156, o155, (by omega), rfl, rfl⟩ ⟨rfl, rfl, rfl, rfl, rfl, rfl, rfl, rfl, trivial⟩ (fun w m => m.pick [0, 2] 3 rfl rfl)
    ·replace hl114 := if_f hl114 h121
     refine Z14 rfl (decide_eq_false h121) (CW.exit (Z9 (Z9 (Z15 ?_))))
     exact QW.join ⟨l104, cs105, ob107, c108, r109, (Zi hl114).symm, h106, o110, rfl, rfl⟩ ⟨rfl, rfl, rfl, rfl, rfl, trivial⟩ (fun w m => m.pick [0, 1] 2 rfl rfl)
  ·replace hl33 := if_f hl33 h40
   refine Z14 rfl (decide_eq_false h40) (CW.exit (Z9 (Z9 (Z15 ?_))))
   exact QW.join ⟨l23, cs24, ob26, c27, r28, (Zi hl33).symm, h25, o29, rfl, rfl⟩ ⟨rfl, rfl, trivial⟩ (fun w m => m.pick [0, 1] 2 rfl rfl)
theorem waybilllaw17_num_does (w0 : World) (Φ : Ctx) (N : List Ent) (hΦ : ∀ w, Mem w0 w N → Φ w) (a0 : Int) (res0 : Int) (ba0 : -9223372036854775808 ≤ a0 ∧ a0 ≤ 9223372036854775807) (hf : waybilllaw17_num a0 = some res0) : DoesG Tryd.prog 15 [.int .i64 a0] w0 [] N (fun v G => (-9223372036854775808 ≤ res0 ∧ res0 ≤ 9223372036854775807) ∧ v = .int .i64 res0) := by
 unfold waybilllaw17_num at hf
 refine DoesG.enter Tryd.func15 rfl Tryd.ntmps15 rfl (M := (([] ++ N))) rfl (Z4 (Z2 (Z0 (Z5 rfl) rfl (Z6 (Z1 (Z4 (Z2 (Z0 (Z3 rfl) rfl (Z0 (Z5 rfl) rfl (Z6 (Z1 (CW.ret ?_))))))))))))
 have e0 := Zi hf
 subst e0
 refine Z104 (rs := [.tmp 2]) ([.int .i64 a0]) ([]) rfl ?_ rfl ?_ ?_ _ (.inl rfl)
 ·exact ⟨rfl, trivial⟩
 ·exact ⟨(by omega), rfl⟩
 ·exact (fun w m => m)
theorem waybilllaw17_same_does (w0 : World) (Φ : Ctx) (N : List Ent) (hΦ : ∀ w, Mem w0 w N → Φ w) (A0_ : Option Addr) (c0_ : Nat) (a0 : List (BitVec 8)) (A1_ : Option Addr) (c1_ : Nat) (a1 : List (BitVec 8)) (res0 : Bool) (va0 : View Φ A0_ a0.length c0_ 1 (u8s a0)) (va1 : View Φ A1_ a1.length c1_ 1 (u8s a1)) (hf : waybilllaw17_same a0 a1 = some res0) : DoesG Tryd.prog 35 [.slice A0_ a0.length c0_, .slice A1_ a1.length c1_] w0 [] N (fun v G => v = .bool res0) := by
 unfold waybilllaw17_same at hf
 replace va0 := va0.mono (Ψ := More w0 Φ []) (fun w q => q.1)
 replace va1 := va1.mono (Ψ := More w0 Φ []) (fun w q => q.1)
 have m1 := va0.mx
 have m2 := va1.mx
 refine DoesG.enter Tryd.func35 rfl Tryd.ntmps35 rfl (M := (([] ++ N))) rfl (Z4 (Z2 (Z0 (Z5 rfl) rfl (Z6 (Z1 (Z4 (Z4 (Z2 (Z0 (Z3 rfl) rfl (Z0 (RV.len rfl rfl) rfl (Z0 (Z3 rfl) rfl (Z0 (RV.len rfl rfl) rfl ?_))))))))))))
 refine Z0 (RV.neq rfl rfl) rfl (Z7 (.bool (!decide (a0.length = a1.length))) (congrArg (fun b => Value.bool (!b)) (decide_eq_decide.2 (by omega))) (Z6 (Z1 ?_)))
 by_cases h3 : a0.length = a1.length
 ·replace hf := if_t hf h3
  refine Z14 rfl (congrArg (fun b => !b) (decide_eq_true h3)) (CW.skip (Z1 (Z4 (Z4 (Z2 (Z0 (Z5 rfl) rfl (Z6 (Z1 ?_))))))))
  obtain ⟨q4, hq5, hf⟩ := Z100 hf
  refine Z115 (fun L' M' => q4 = Lp.go () ∧ L' = [] ∧ M' = (([] ++ N))) ?_ ?_
  ·rintro L7 M8 ⟨e6, e9, e10⟩
   rw [e9, e10]
   clear e9 e10 L7 M8
   clear hq5
   rw [e6] at hf
   clear e6
   try dsimp only at hf
   refine Z1 (Z4 (Z2 (Z0 (Z5 rfl) rfl (Z6 (Z1 (CW.ret ?_))))))
   have e0 := Zi hf
   subst e0
   refine Z104 (rs := [.tmp 4]) ([.bool true]) ([]) rfl ?_ rfl ?_ ?_ _ (.inl rfl)
   ·exact ⟨rfl, trivial⟩
   ·exact rfl
   ·exact (fun w m => m)
  ·skip
   refine CW.block (Z121 (fun k L' M' => ∃ n11 : Nat, (waybilllaw17_same.l1 a0 a1 k n11) = some q4 ∧ (n11 ≤ 9223372036854775807) ∧ L' = [(0, .slice A0_ a0.length c0_), (1, .slice A1_ a1.length c1_), (5, .int .i64 ((n11 : Nat) : Int))] ∧ M' = (([] ++ N))) (k0 := (a0.length - 0 + 2)) ⟨0, hq5, (by omega), rfl, rfl⟩ ⟨rfl, rfl, rfl, trivial⟩ (fun w m => m.pick [] 0 rfl rfl) ?_)
   clear hq5
   rintro k13 L16 M17 ⟨n11, hl14, b12, e18, e19⟩
   rw [e18, e19]
   clear e18 e19 L16 M17
   rcases k13 with _ | k13
   ·rw [waybilllaw17_same.l1] at hl14; cases hl14
   rw [waybilllaw17_same.l1] at hl14
   refine Z4 (Z4 (Z2 (Z0 (Z3 rfl) rfl (Z0 (Z3 rfl) rfl (Z0 (RV.len rfl rfl) rfl (Z0 (RV.lss rfl rfl) rfl (Z7 (.bool (decide (n11 < a0.length))) (congrArg Value.bool (decide_eq_decide.2 (by omega))) (Z6 (Z1 ?_)))))))))
   by_cases h20 : n11 < a0.length
   ·replace hl14 := if_t hl14 h20
    refine Z13 rfl (decide_eq_true h20) (CW.skip (Z1 (Z4 (CW.block (Z4 (Z138 9 mixed (by kernel_rfl) rfl (Z18 0 rfl (by kernel_rfl) rfl (Z3 rfl) rfl (Z18 1 rfl (by kernel_rfl) rfl (Z3 rfl) rfl ?_))))))))
    obtain ⟨x21, hx22, hl14⟩ := Z100 hl14
    have hl23 := Z111 hx22
    refine Z18 2 rfl (by kernel_rfl) rfl (Z131 (n11) rfl rfl rfl rfl rfl (va0.isSome (by decide) hl23) (by omega)) rfl (Z18 3 rfl (by kernel_rfl) rfl (Z21 rfl rfl rfl (fun w m => va0.cell (Z105 hΦ 0 m rfl) (Z148 hx22))) rfl (Z18 4 rfl (by kernel_rfl) rfl (Z3 rfl) rfl (Z18 5 rfl (by kernel_rfl) rfl (Z3 rfl) rfl ?_)))
    obtain ⟨x24, hx25, hl14⟩ := Z100 hl14
    have hl26 := Z111 hx25
    refine Z18 6 rfl (by kernel_rfl) rfl (Z131 (n11) rfl rfl rfl rfl rfl (va1.isSome (by decide) hl26) (by omega)) rfl (Z18 7 rfl (by kernel_rfl) rfl (Z21 rfl rfl rfl (fun w m => va1.cell (Z105 hΦ 0 m rfl) (Z148 hx25))) rfl (Z18 8 rfl (by kernel_rfl) rfl (RV.neq8 rfl (by first | rfl | exact lit8 _ rfl) rfl (by first | rfl | exact lit8 _ rfl)) rfl (UW.nil (by kernel_rfl) (Z6 (Z1 ?_)))))
    by_cases h27 : x21 = x24
    ·replace hl14 := if_t hl14 h27
     refine Z14 rfl (congrArg (fun b => !b) (decide_eq_true h27)) (CW.skip (Z27 (Z1 (Z2 (Z0 (Z3 rfl) rfl (Z0 (RV.add rfl rfl (by omega)) rfl (Z7 (.int .i64 (((n11 + 1) : Nat) : Int)) (by first | rfl | (congr 1) | (congr 1; omega)) (Z0 (Z5 rfl) rfl (Z6 ?_)))))))))
     exact Z114 (k' := k13) (Nat.lt_succ_self _) ⟨(n11 + 1), hl14, (by omega), rfl, rfl⟩ ⟨rfl, rfl, rfl, trivial⟩ (fun w m => m.pick [] 0 rfl rfl)
    ·replace hl14 := if_f hl14 h27
     refine Z13 rfl (congrArg (fun b => !b) (decide_eq_false h27)) (Z4 (Z2 (Z0 (Z5 rfl) rfl (Z6 (Z1 (CW.ret (Z16 (Z8 (Z8 (Z16 (Z8 ?_)))))))))))
     have hc := Zi hl14
     subst hc
     try dsimp only at hf
     refine Z8 ?_
     have e0 := Zi hf
     subst e0
     refine Z104 (rs := [.tmp 4]) ([.bool false]) ([]) rfl ?_ rfl ?_ ?_ _ (.inl rfl)
     ·exact ⟨rfl, trivial⟩
     ·exact rfl
     ·exact (fun w m => m)
   ·replace hl14 := if_f hl14 h20
    refine Z14 rfl (decide_eq_false h20) (CW.exit (Z9 (Z9 (Z15 ?_))))
    exact QW.join ⟨(Zi hl14).symm, rfl, rfl⟩ trivial (fun w m => m.pick [] 0 rfl rfl)
 ·replace hf := if_f hf h3
  refine Z13 rfl (congrArg (fun b => !b) (decide_eq_false h3)) (Z4 (Z2 (Z0 (Z5 rfl) rfl (Z6 (Z1 (CW.ret (Z8 ?_)))))))
  have e0 := Zi hf
  subst e0
  refine Z104 (rs := [.tmp 4]) ([.bool false]) ([]) rfl ?_ rfl ?_ ?_ _ (.inl rfl)
  ·exact ⟨rfl, trivial⟩
  ·exact rfl
  ·exact (fun w m => m)
theorem waybilllaw17_sameLog_does (w0 : World) (Φ : Ctx) (N : List Ent) (hΦ : ∀ w, Mem w0 w N → Φ w) (cs0_ : List Value) (a0 : Log) (cs1_ : List Value) (a1 : Log) (res0 : Bool) (ha0 : LogRd Φ cs0_ a0) (ha1 : LogRd Φ cs1_ a1) (hf : waybilllaw17_sameLog a0 a1 = some res0) : DoesG Tryd.prog 76 [.agg cs0_.toArray, .agg cs1_.toArray] w0 [] N (fun v G => v = .bool res0) := by
 unfold waybilllaw17_sameLog at hf
 replace ha0 := LogRd.mono (Ψ := More w0 Φ []) (fun w q => q.1) _ _ ha0
 have h10 := ha0
 obtain ⟨A1, c2, cs4, A6, c7, e9, v3, h5, v8⟩ := LogRd.opn ha0
 subst e9
 have m11 := v3.mx
 have m12 := v8.mx
 replace ha1 := LogRd.mono (Ψ := More w0 Φ []) (fun w q => q.1) _ _ ha1
 have h22 := ha1
 obtain ⟨A13, c14, cs16, A18, c19, e21, v15, h17, v20⟩ := LogRd.opn ha1
 subst e21
 have m23 := v15.mx
 have m24 := v20.mx
 refine DoesG.enter Tryd.func76 rfl Tryd.ntmps76 rfl (M := (([] ++ N))) rfl (Z4 (Z2 (Z130 rfl rfl (fun b25 => (Z130 rfl rfl (fun b26 => (Z0 (Z5 rfl) rfl (Z6 (Z1 (Z4 (Z4 ?_)))))))))))
 obtain ⟨q27, hq28, hf⟩ := Z100 hf
 refine Z115 (fun L' M' => ∃ p29 : Bool, q27 = p29 ∧ L' = [(2, ptr (some b25) 0), (3, ptr (some b26) 0), (19, .bool (p29))] ∧ M' = ((some b26, blk (⟨a1.address, .slice A13 a1.topics.length c14, .slice A18 a1.data.length c19⟩ : LogC).C 63) :: (some b25, blk (⟨a0.address, .slice A1 a0.topics.length c2, .slice A6 a0.data.length c7⟩ : LogC).C 63) :: ([] ++ N))) ?_ ?_
 ·rintro L31 M32 ⟨p29, e30, e33, e34⟩
  rw [e33, e34]
  clear e33 e34 L31 M32
  clear hq28
  rw [e30] at hf
  clear e30
  try dsimp only at hf
  refine Z1 ?_
  by_cases h35 : p29 = true
  ·replace hf := if_t hf h35
   refine Z13 rfl (h35) (Z4 (Z2 (Z0 (Z5 rfl) rfl (Z6 (Z1 (CW.ret (Z8 ?_)))))))
   have e0 := Zi hf
   subst e0
   refine Z104 (rs := [.tmp 4]) ([.bool false]) ((some b26, blk (⟨a1.address, .slice A13 a1.topics.length c14, .slice A18 a1.data.length c19⟩ : LogC).C 63) :: (some b25, blk (⟨a0.address, .slice A1 a0.topics.length c2, .slice A6 a0.data.length c7⟩ : LogC).C 63) :: []) rfl ?_ rfl ?_ ?_ _ (.inl rfl)
   ·exact ⟨rfl, trivial⟩
   ·exact rfl
   ·exact (fun w m => m)
  ·replace hf := if_f hf h35
   refine Z14 rfl (Bool.eq_false_iff.2 h35) (CW.skip (Z1 (Z4 (Z4 (Z2 (Z0 (Z5 rfl) rfl (Z6 (Z1 ?_))))))))
   obtain ⟨q36, hq37, hf⟩ := Z100 hf
   refine Z115 (fun L' M' => q36 = Lp.go () ∧ L' = [(2, ptr (some b25) 0), (3, ptr (some b26) 0)] ∧ M' = ((some b26, blk (⟨a1.address, .slice A13 a1.topics.length c14, .slice A18 a1.data.length c19⟩ : LogC).C 63) :: (some b25, blk (⟨a0.address, .slice A1 a0.topics.length c2, .slice A6 a0.data.length c7⟩ : LogC).C 63) :: ([] ++ N))) ?_ ?_
   ·rintro L39 M40 ⟨e38, e41, e42⟩
    rw [e41, e42]
    clear e41 e42 L39 M40
    clear hq37
    rw [e38] at hf
    clear e38
    try dsimp only at hf
    refine Z1 (Z4 (Z2 (Z0 (Z30 rfl rfl rfl rfl) rfl (Z7 (ptr (some b25) 21) rfl (Z0 (Z29 rfl (List.Mem.tail _ Zh) rfl rfl rfl (LogC.C_data (⟨a0.address, .slice A1 a0.topics.length c2, .slice A6 a0.data.length c7⟩ : LogC))) rfl (Z0 (Z30 rfl rfl rfl rfl) rfl (Z7 (ptr (some b26) 21) rfl (Z0 (Z29 rfl Zh rfl rfl rfl (LogC.C_data (⟨a1.address, .slice A13 a1.topics.length c14, .slice A18 a1.data.length c19⟩ : LogC))) rfl ?_))))))))
    obtain ⟨x44, hx43, hf⟩ := Z100 hf
    refine Z12 Tryd.call35 rfl (waybilllaw17_same_does w0 (More w0 Φ []) ((some b26, blk (⟨a1.address, .slice A13 a1.topics.length c14, .slice A18 a1.data.length c19⟩ : LogC).C 63) :: (some b25, blk (⟨a0.address, .slice A1 a0.topics.length c2, .slice A6 a0.data.length c7⟩ : LogC).C 63) :: ([] ++ N)) (fun w m => Z105 hΦ 2 m rfl) A6 c7 a0.data A18 c19 a1.data x44 v8 v20 hx43) rfl rfl ?_
    rintro _ G45 rfl
    refine Z20 (M' := ((some b26, blk (⟨a1.address, .slice A13 a1.topics.length c14, .slice A18 a1.data.length c19⟩ : LogC).C 63) :: (some b25, blk (⟨a0.address, .slice A1 a0.topics.length c2, .slice A6 a0.data.length c7⟩ : LogC).C 63) :: ([] ++ N))) (fun w m => m.appR) (Z0 (Z5 rfl) rfl (Z6 (Z1 (CW.ret ?_))))
    have e0 := Zi hf
    subst e0
    refine Z104 (rs := [.tmp 4]) ([.bool (x44)]) ((some b26, blk (⟨a1.address, .slice A13 a1.topics.length c14, .slice A18 a1.data.length c19⟩ : LogC).C 63) :: (some b25, blk (⟨a0.address, .slice A1 a0.topics.length c2, .slice A6 a0.data.length c7⟩ : LogC).C 63) :: []) rfl ?_ rfl ?_ ?_ _ (.inl rfl)
    ·exact ⟨rfl, trivial⟩
    ·exact rfl
    ·exact (fun w m => m)
   ·skip
    refine CW.block (Z121 (fun k L' M' => ∃ n47 : Nat, (waybilllaw17_sameLog.l1 a0 a1 k n47) = some q36 ∧ (n47 ≤ 9223372036854775807) ∧ L' = [(2, ptr (some b25) 0), (3, ptr (some b26) 0), (5, .int .i64 ((n47 : Nat) : Int))] ∧ M' = ((some b26, blk (⟨a1.address, .slice A13 a1.topics.length c14, .slice A18 a1.data.length c19⟩ : LogC).C 63) :: (some b25, blk (⟨a0.address, .slice A1 a0.topics.length c2, .slice A6 a0.data.length c7⟩ : LogC).C 63) :: ([] ++ N))) (k0 := (a0.topics.length - 0 + 2)) ⟨0, hq37, (by omega), rfl, rfl⟩ ⟨rfl, rfl, rfl, trivial⟩ (fun w m => m.pick [0, 1] 2 rfl rfl) ?_)
    clear hq37
    rintro k49 L52 M53 ⟨n47, hl50, b48, e54, e55⟩
    rw [e54, e55]
    clear e54 e55 L52 M53
    rcases k49 with _ | k49
    ·rw [waybilllaw17_sameLog.l1] at hl50; cases hl50
    rw [waybilllaw17_sameLog.l1] at hl50
    refine Z4 (Z4 (Z2 (Z0 (Z3 rfl) rfl (Z0 (Z30 rfl rfl rfl rfl) rfl (Z7 (ptr (some b25) 20) rfl (Z0 (Z29 rfl (List.Mem.tail _ Zh) rfl rfl rfl (Z122 (⟨a0.address, .slice A1 a0.topics.length c2, .slice A6 a0.data.length c7⟩ : LogC))) rfl (Z0 (RV.len rfl rfl) rfl (Z0 (RV.lss rfl rfl) rfl (Z7 (.bool (decide (n47 < a0.topics.length))) (congrArg Value.bool (decide_eq_decide.2 (by omega))) ?_)))))))))
    refine Z6 (Z1 ?_)
    by_cases h56 : n47 < a0.topics.length
    ·replace hl50 := if_t hl50 h56
     refine Z13 rfl (decide_eq_true h56) (CW.skip (Z1 (Z4 (CW.block (Z4 (Z138 11 mixed (by kernel_rfl) rfl (Z18 0 rfl (by kernel_rfl) rfl (Z30 rfl rfl rfl rfl) rfl (UW.slot (ptr (some b25) 20) rfl (Z18 1 rfl (by kernel_rfl) rfl (Z29 rfl (List.Mem.tail _ Zh) rfl rfl rfl (Z122 (⟨a0.address, .slice A1 a0.topics.length c2, .slice A6 a0.data.length c7⟩ : LogC))) rfl (Z18 2 rfl (by kernel_rfl) rfl (Z3 rfl) rfl ?_))))))))))
     obtain ⟨x57, hx58, hl50⟩ := Z100 hl50
     have hl59 := Z111 hx58
     refine Z18 3 rfl (by kernel_rfl) rfl (Z117 (n47) rfl rfl rfl rfl rfl (v3.isSome (by decide) hl59) (by omega)) rfl ?_
     obtain ⟨cs60, h61, h62⟩ := h5.get Ar8Rd.len hx58
     have h61a := h61
     subst h61a
     refine Z18 4 rfl (by kernel_rfl) rfl (Z124 rfl rfl rfl rfl (fun w m => v3.load (Z105 hΦ 2 m rfl) h62) ((Z102 _).trans Zv)) rfl (Z18 5 rfl (by kernel_rfl) rfl (Z30 rfl rfl rfl rfl) rfl (UW.slot (ptr (some b26) 20) rfl (Z18 6 rfl (by kernel_rfl) rfl (Z29 rfl Zh rfl rfl rfl (Z122 (⟨a1.address, .slice A13 a1.topics.length c14, .slice A18 a1.data.length c19⟩ : LogC))) rfl (Z18 7 rfl (by kernel_rfl) rfl (Z3 rfl) rfl ?_))))
     obtain ⟨x63, hx64, hl50⟩ := Z100 hl50
     have hl65 := Z111 hx64
     refine Z18 8 rfl (by kernel_rfl) rfl (Z117 (n47) rfl rfl rfl rfl rfl (v15.isSome (by decide) hl65) (by omega)) rfl ?_
     obtain ⟨cs66, h67, h68⟩ := h17.get Ar8Rd.len hx64
     have h67a := h67
     subst h67a
     refine Z18 9 rfl (by kernel_rfl) rfl (Z124 rfl rfl rfl rfl (fun w m => v15.load (Z105 hΦ 2 m rfl) h68) ((Z102 _).trans Zv)) rfl (Z18 10 rfl (by kernel_rfl) rfl (RV.neA8 rfl rfl rfl rfl rfl rfl (Zv) (Zv)) rfl (UW.slot (.bool (!decide (x57 = x63))) (congrArg (fun b => Value.bool (!b)) (decide_eq_decide.2 Vector.toList_inj)) (UW.nil (by kernel_rfl) (Z6 (Z1 ?_)))))
     by_cases h69 : x57 = x63
     ·replace hl50 := if_t hl50 h69
      refine Z14 rfl (congrArg (fun b => !b) (decide_eq_true h69)) (CW.skip (Z27 (Z1 (Z2 (Z0 (Z3 rfl) rfl (Z0 (RV.add rfl rfl (by omega)) rfl (Z7 (.int .i64 (((n47 + 1) : Nat) : Int)) (by first | rfl | (congr 1) | (congr 1; omega)) (Z0 (Z5 rfl) rfl (Z6 ?_)))))))))
      exact Z114 (k' := k49) (Nat.lt_succ_self _) ⟨(n47 + 1), hl50, (by omega), rfl, rfl⟩ ⟨rfl, rfl, rfl, trivial⟩ (fun w m => m.pick [0, 1] 2 rfl rfl)
     ·replace hl50 := if_f hl50 h69
      refine Z13 rfl (congrArg (fun b => !b) (decide_eq_false h69)) (Z4 (Z2 (Z0 (Z5 rfl) rfl (Z6 (Z1 (CW.ret (Z16 (Z8 (Z8 (Z16 (Z8 ?_)))))))))))
      have hc := Zi hl50
      subst hc
      try dsimp only at hf
      refine Z8 ?_
      have e0 := Zi hf
      subst e0
      refine Z104 (rs := [.tmp 4]) ([.bool false]) ((some b26, blk (⟨a1.address, .slice A13 a1.topics.length c14, .slice A18 a1.data.length c19⟩ : LogC).C 63) :: (some b25, blk (⟨a0.address, .slice A1 a0.topics.length c2, .slice A6 a0.data.length c7⟩ : LogC).C 63) :: []) rfl ?_ rfl ?_ ?_ _ (.inl rfl)
      ·exact ⟨rfl, trivial⟩
      ·exact rfl
      ·exact (fun w m => m)
    ·replace hl50 := if_f hl50 h56
     refine Z14 rfl (decide_eq_false h56) (CW.exit (Z9 (Z9 (Z15 ?_))))
     exact QW.join ⟨(Zi hl50).symm, rfl, rfl⟩ ⟨rfl, rfl, trivial⟩ (fun w m => m.pick [0, 1] 2 rfl rfl)
 ·skip
  refine Z2 (Z0 (Z30 rfl rfl rfl rfl) rfl (Z7 (ptr (some b25) 0) rfl (Z0 (RV.loadAo rfl (List.Mem.tail _ Zh) rfl rfl rfl rfl (Z153 (⟨a0.address, .slice A1 a0.topics.length c2, .slice A6 a0.data.length c7⟩ : LogC)) ((Z102 _).trans Zv)) rfl (Z0 (Z30 rfl rfl rfl rfl) rfl (Z7 (ptr (some b26) 0) rfl (Z0 (RV.loadAo rfl Zh rfl rfl rfl rfl (Z153 (⟨a1.address, .slice A13 a1.topics.length c14, .slice A18 a1.data.length c19⟩ : LogC)) ((Z102 _).trans Zv)) rfl (Z0 (RV.neA8 rfl rfl rfl rfl rfl rfl (Zv) (Zv)) rfl ?_)))))))
  refine Z7 (.bool (!decide (a0.address = a1.address))) (congrArg (fun b => Value.bool (!b)) (decide_eq_decide.2 Vector.toList_inj)) (Z0 (Z3 rfl) rfl ?_)
  by_cases h70 : a0.address = a1.address
  ·replace hq28 := if_t hq28 h70
   refine Z7 (.bool false) (congrArg Value.bool (congrArg (fun b => !b) (decide_eq_true h70))) (Z24 rfl (Z0 (Z30 rfl rfl rfl rfl) rfl (Z7 (ptr (some b25) 20) rfl (Z24 rfl (Z0 (Z29 rfl (List.Mem.tail _ Zh) rfl rfl rfl (Z122 (⟨a0.address, .slice A1 a0.topics.length c2, .slice A6 a0.data.length c7⟩ : LogC))) rfl (Z24 rfl (Z0 (RV.len rfl rfl) rfl ?_)))))))
   refine Z24 rfl (Z0 (Z30 rfl rfl rfl rfl) rfl (Z7 (ptr (some b26) 20) rfl (Z24 rfl (Z0 (Z29 rfl Zh rfl rfl rfl (Z122 (⟨a1.address, .slice A13 a1.topics.length c14, .slice A18 a1.data.length c19⟩ : LogC))) rfl (Z24 rfl (Z0 (RV.len rfl rfl) rfl (Z24 rfl ?_)))))))
   refine Z0 (RV.neq rfl rfl) rfl (Z7 (.bool (!decide (a0.topics.length = a1.topics.length))) (congrArg (fun b => Value.bool (!b)) (decide_eq_decide.2 (by omega))) (Z0 (Z106 rfl rfl rfl) rfl (Z6 ?_)))
   exact QW.join ⟨(!decide (a0.topics.length = a1.topics.length)), (Zi hq28).symm, rfl, rfl⟩ ⟨rfl, rfl, rfl, trivial⟩ (fun w m => m.pick [0, 1] 2 rfl rfl)
  ·replace hq28 := if_f hq28 h70
   refine Z7 (.bool true) (congrArg Value.bool (congrArg (fun b => !b) (decide_eq_false h70))) (Z23 rfl rfl rfl (Z23 rfl rfl rfl (Z23 rfl rfl rfl (Z23 rfl rfl rfl (Z23 rfl rfl rfl (Z23 rfl rfl rfl (Z23 rfl rfl rfl ?_)))))))
   refine Z0 (Z108 rfl rfl rfl) rfl (Z6 ?_)
   exact QW.join ⟨true, (Zi hq28).symm, rfl, rfl⟩ ⟨rfl, rfl, rfl, trivial⟩ (fun w m => m.pick [0, 1] 2 rfl rfl)
theorem waybilllaw17_sameLogs_does (w0 : World) (Φ : Ctx) (N : List Ent) (hΦ : ∀ w, Mem w0 w N → Φ w) (A0_ : Option Addr) (c0_ : Nat) (cs0_ : List Value) (a0 : List (Log)) (A1_ : Option Addr) (c1_ : Nat) (cs1_ : List Value) (a1 : List (Log)) (res0 : Bool) (va0 : View Φ A0_ a0.length c0_ 22 cs0_) (ha0 : Reps (LogRd Φ) cs0_ a0) (va1 : View Φ A1_ a1.length c1_ 22 cs1_) (ha1 : Reps (LogRd Φ) cs1_ a1) (hf : waybilllaw17_sameLogs a0 a1 = some res0) : DoesG Tryd.prog 45 [.slice A0_ a0.length c0_, .slice A1_ a1.length c1_] w0 [] N (fun v G => v = .bool res0) := by
 unfold waybilllaw17_sameLogs at hf
 replace va0 := va0.mono (Ψ := More w0 Φ []) (fun w q => q.1)
 replace va1 := va1.mono (Ψ := More w0 Φ []) (fun w q => q.1)
 replace ha0 := ha0.mono (LogRd.mono (Ψ := More w0 Φ []) (fun w q => q.1))
 replace ha1 := ha1.mono (LogRd.mono (Ψ := More w0 Φ []) (fun w q => q.1))
 have m1 := va0.mx
 have m2 := va1.mx
 refine DoesG.enter Tryd.func45 rfl Tryd.ntmps45 rfl (M := (([] ++ N))) rfl (Z4 (Z2 (Z0 (Z5 rfl) rfl (Z6 (Z1 (Z4 (Z4 (Z2 (Z0 (Z3 rfl) rfl (Z0 (RV.len rfl rfl) rfl (Z0 (Z3 rfl) rfl (Z0 (RV.len rfl rfl) rfl ?_))))))))))))
 refine Z0 (RV.neq rfl rfl) rfl (Z7 (.bool (!decide (a0.length = a1.length))) (congrArg (fun b => Value.bool (!b)) (decide_eq_decide.2 (by omega))) (Z6 (Z1 ?_)))
 by_cases h3 : a0.length = a1.length
 ·replace hf := if_t hf h3
  refine Z14 rfl (congrArg (fun b => !b) (decide_eq_true h3)) (CW.skip (Z1 (Z4 (Z4 (Z2 (Z0 (Z5 rfl) rfl (Z6 (Z1 ?_))))))))
  obtain ⟨q4, hq5, hf⟩ := Z100 hf
  refine Z115 (fun L' M' => q4 = Lp.go () ∧ L' = [] ∧ M' = (([] ++ N))) ?_ ?_
  ·rintro L7 M8 ⟨e6, e9, e10⟩
   rw [e9, e10]
   clear e9 e10 L7 M8
   clear hq5
   rw [e6] at hf
   clear e6
   try dsimp only at hf
   refine Z1 (Z4 (Z2 (Z0 (Z5 rfl) rfl (Z6 (Z1 (CW.ret ?_))))))
   have e0 := Zi hf
   subst e0
   refine Z104 (rs := [.tmp 4]) ([.bool true]) ([]) rfl ?_ rfl ?_ ?_ _ (.inl rfl)
   ·exact ⟨rfl, trivial⟩
   ·exact rfl
   ·exact (fun w m => m)
  ·skip
   refine CW.block (Z121 (fun k L' M' => ∃ n11 : Nat, (waybilllaw17_sameLogs.l1 a0 a1 k n11) = some q4 ∧ (n11 ≤ 9223372036854775807) ∧ L' = [(0, .slice A0_ a0.length c0_), (1, .slice A1_ a1.length c1_), (5, .int .i64 ((n11 : Nat) : Int))] ∧ M' = (([] ++ N))) (k0 := (a0.length - 0 + 2)) ⟨0, hq5, (by omega), rfl, rfl⟩ ⟨rfl, rfl, rfl, trivial⟩ (fun w m => m.pick [] 0 rfl rfl) ?_)
   clear hq5
   rintro k13 L16 M17 ⟨n11, hl14, b12, e18, e19⟩
   rw [e18, e19]
   clear e18 e19 L16 M17
   rcases k13 with _ | k13
   ·rw [waybilllaw17_sameLogs.l1] at hl14; cases hl14
   rw [waybilllaw17_sameLogs.l1] at hl14
   refine Z4 (Z4 (Z2 (Z0 (Z3 rfl) rfl (Z0 (Z3 rfl) rfl (Z0 (RV.len rfl rfl) rfl (Z0 (RV.lss rfl rfl) rfl (Z7 (.bool (decide (n11 < a0.length))) (congrArg Value.bool (decide_eq_decide.2 (by omega))) (Z6 (Z1 ?_)))))))))
   by_cases h20 : n11 < a0.length
   ·replace hl14 := if_t hl14 h20
    refine Z13 rfl (decide_eq_true h20) (CW.skip (Z1 (Z4 (CW.block (Z4 (Z138 10 mixed (by kernel_rfl) rfl (Z18 0 rfl (by kernel_rfl) rfl (Z3 rfl) rfl (Z18 1 rfl (by kernel_rfl) rfl (Z3 rfl) rfl ?_))))))))
    obtain ⟨x21, hx22, hl14⟩ := Z100 hl14
    have hl23 := Z111 hx22
    refine Z18 2 rfl (by kernel_rfl) rfl (Z117 (n11) rfl rfl rfl rfl rfl (va0.isSome (by decide) hl23) (by omega)) rfl ?_
    obtain ⟨cs24, h25, h26⟩ := ha0.get LogRd.len hx22
    have h36 := h25
    obtain ⟨A27, c28, cs30, A32, c33, e35, v29, h31, v34⟩ := LogRd.opn h25
    subst e35
    have m37 := v29.mx
    have m38 := v34.mx
    refine Z18 3 rfl (by kernel_rfl) rfl (Z124 rfl rfl rfl rfl (fun w m => va0.load (Z105 hΦ 0 m rfl) h26) (LogC.C_length _)) rfl (Z18 4 rfl (by kernel_rfl) rfl (Z3 rfl) rfl (Z18 5 rfl (by kernel_rfl) rfl (Z3 rfl) rfl ?_))
    obtain ⟨x39, hx40, hl14⟩ := Z100 hl14
    have hl41 := Z111 hx40
    refine Z18 6 rfl (by kernel_rfl) rfl (Z117 (n11) rfl rfl rfl rfl rfl (va1.isSome (by decide) hl41) (by omega)) rfl ?_
    obtain ⟨cs42, h43, h44⟩ := ha1.get LogRd.len hx40
    have h54 := h43
    obtain ⟨A45, c46, cs48, A50, c51, e53, v47, h49, v52⟩ := LogRd.opn h43
    subst e53
    have m55 := v47.mx
    have m56 := v52.mx
    refine Z18 7 rfl (by kernel_rfl) rfl (Z124 rfl rfl rfl rfl (fun w m => va1.load (Z105 hΦ 0 m rfl) h44) (LogC.C_length _)) rfl ?_
    obtain ⟨x58, hx57, hl14⟩ := Z100 hl14
    refine Z25 8 rfl (by kernel_rfl) rfl Tryd.call76 rfl (fun N' hN' => waybilllaw17_sameLog_does w0 (More w0 Φ []) N' (fun w m => Z105 hΦ 0 (hN' w m) rfl) (⟨x21.address, .slice A27 x21.topics.length c28, .slice A32 x21.data.length c33⟩ : LogC).C x21 (⟨x39.address, .slice A45 x39.topics.length c46, .slice A50 x39.data.length c51⟩ : LogC).C x39 x58 h36 h54 hx57) rfl ?_
    rintro _ G59 rfl
    refine UW.mem (M' := (([] ++ N))) (fun w m => m.appR) (Z18 9 rfl (by kernel_rfl) rfl (Z5 rfl) rfl (UW.nil (by kernel_rfl) (Z6 (Z1 (Z4 (Z2 (Z0 (Z3 rfl) rfl (Z0 (RV.not rfl) rfl (Z6 (Z1 ?_))))))))))
    by_cases h61 : x58 = true
    ·replace hl14 := if_t hl14 h61
     refine Z14 rfl (congrArg (fun b => !b) (h61)) (CW.skip (Z27 (Z1 (Z2 (Z0 (Z3 rfl) rfl (Z0 (RV.add rfl rfl (by omega)) rfl (Z7 (.int .i64 (((n11 + 1) : Nat) : Int)) (by first | rfl | (congr 1) | (congr 1; omega)) (Z0 (Z5 rfl) rfl (Z6 ?_)))))))))
     exact Z114 (k' := k13) (Nat.lt_succ_self _) ⟨(n11 + 1), hl14, (by omega), rfl, rfl⟩ ⟨rfl, rfl, rfl, trivial⟩ (fun w m => m.pick [] 0 rfl rfl)
    ·replace hl14 := if_f hl14 h61
     refine Z13 rfl (congrArg (fun b => !b) (Bool.eq_false_iff.2 h61)) (Z4 (Z2 (Z0 (Z5 rfl) rfl (Z6 (Z1 (CW.ret (Z16 (Z8 (Z8 (Z16 (Z8 ?_)))))))))))
     have hc := Zi hl14
     subst hc
     try dsimp only at hf
     refine Z8 ?_
     have e0 := Zi hf
     subst e0
     refine Z104 (rs := [.tmp 4]) ([.bool false]) ([]) rfl ?_ rfl ?_ ?_ _ (.inl rfl)
     ·exact ⟨rfl, trivial⟩
     ·exact rfl
     ·exact (fun w m => m)
   ·replace hl14 := if_f hl14 h20
    refine Z14 rfl (decide_eq_false h20) (CW.exit (Z9 (Z9 (Z15 ?_))))
    exact QW.join ⟨(Zi hl14).symm, rfl, rfl⟩ trivial (fun w m => m.pick [] 0 rfl rfl)
 ·replace hf := if_f hf h3
  refine Z13 rfl (congrArg (fun b => !b) (decide_eq_false h3)) (Z4 (Z2 (Z0 (Z5 rfl) rfl (Z6 (Z1 (CW.ret (Z8 ?_)))))))
  have e0 := Zi hf
  subst e0
  refine Z104 (rs := [.tmp 4]) ([.bool false]) ([]) rfl ?_ rfl ?_ ?_ _ (.inl rfl)
  ·exact ⟨rfl, trivial⟩
  ·exact rfl
  ·exact (fun w m => m)
end Go.Fw.Tryd
