/- Part of a proof: rules that its law uses. -/
import Derived.Test.YtojnakdlnlcmiaaT3
set_option linter.unusedVariables false
set_option linter.unusedSimpArgs false
set_option linter.unusedSectionVars false
set_option maxRecDepth 100000
set_option maxHeartbeats 1000000
namespace Go.Fw.Try
open Go Go.Proofs Go.Fw
theorem receipt_LogItem_does (w0 : World) (Φ : Ctx) (N : List Ent) (hΦ : ∀ w, Mem w0 w N → Φ w) (cs0_ : List Value) (a0 : Log) (res0 : It) (res1 : Nat) (ha0 : LogRd Φ cs0_ a0) (hf : receipt_LogItem a0 = some (res0, res1)) : DoesG Try.prog 6 [.agg cs0_.toArray] w0 [] N (fun v G => ∃ B : List Ent, ∃ cr0 : List Value, (ItRd (More w0 Φ B) cr0 res0) ∧ (res1 ≤ 9223372036854775807) ∧ v = .tuple #[.agg cr0.toArray, .int .i64 ((res1 : Nat) : Int)] ∧ G = B) := by
 unfold receipt_LogItem at hf
 replace ha0 := LogRd.mono (Ψ := More w0 Φ []) (fun w q => q.1) _ _ ha0
 have h10 := ha0
 obtain ⟨A1, c2, cs4, A6, c7, e9, v3, h5, v8⟩ := LogRd.opn ha0
 subst e9
 have m11 := v3.mx
 have m12 := v8.mx
 refine DoesG.enter Try.func6 rfl Try.ntmps6 rfl (M := (([] ++ N))) rfl (Z4 (Z2 (OW.boxA rfl rfl (fun b13 => (OW.alloc (l := [.bool false, .slice none 0 0, .slice none 0 0]) rfl rfl rfl (fun b14 => (Z0 (Z5 rfl) rfl (Z6 (Z1 (Z4 (Z4 (Z2 (Z0 (Z30 rfl rfl rfl rfl) rfl (Z7 (ptr (some b13) 20) rfl ?_))))))))))))))
 refine Z0 (Z29 rfl (List.Mem.tail _ Zh) rfl rfl rfl (Z106 (⟨a0.address, .slice A1 a0.topics.length c2, .slice A6 a0.data.length c7⟩ : LogC))) rfl (Z0 (RV.len rfl rfl) rfl (Z0 (RV.gtr rfl rfl) rfl (Z7 (.bool (decide (4 < a0.topics.length))) (congrArg Value.bool (decide_eq_decide.2 (by omega))) (Z6 (Z1 ?_)))))
 by_cases h15 : 4 < a0.topics.length
 ·replace hf := if_t hf h15
  refine Z13 rfl (decide_eq_true h15) (Z4 (Z2 (Z0 (Z111 (l := [.bool false, .slice none 0 0, .slice none 0 0]) (cs := [.bool false, .slice none 0 0, .slice none 0 0]) [] rfl rfl rfl rfl rfl rfl rfl) rfl ?_)))
  refine Z28 (Z104 rfl rfl rfl (by intro u hu; simp at hu; rcases hu with rfl | rfl | rfl <;> rfl) rfl rfl rfl) ?_
  refine Z0 (Z5 rfl) rfl (Z6 (Z1 (CW.ret (Z8 ?_))))
  have er0 := Zi hf
  obtain ⟨e0, er1⟩ := Prod.mk.inj er0
  clear er0
  subst e0
  subst er1
  have v16 : View (More w0 Φ []) none ([] : List (BitVec 8)).length 0 1 (u8s []) := View.nil
  have v17 : View (More w0 Φ []) none ([] : List (It)).length 0 3 [] := View.nil
  refine Z102 (rs := [.cell 2 30, .tmp 3]) ([.agg [.bool false, .slice none 0 0, .slice none 0 0].toArray, .int .i64 (174 : Int)]) ([]) rfl ?_ rfl ?_ ?_ _ (.inl rfl)
  ·exact ⟨⟨_, _, _, _, rfl, Zh, rfl, rfl, rfl, rfl⟩, rfl, trivial⟩
  ·exact ⟨[], [.bool false, .slice none 0 0, .slice none 0 0], (ItRd.mk v16 v17 (Reps.nil)), (by omega), rfl, rfl⟩
  ·exact (fun w m => m.pick [] 2 rfl rfl)
 ·replace hf := if_f hf h15
  refine Z14 rfl (decide_eq_false h15) (CW.skip (Z1 (Z4 (Z2 (Z0 (Z5 rfl) rfl (Z6 (Z1 (Z4 (Z4 (Z2 (Z0 (Z30 rfl rfl rfl rfl) rfl (Z7 (ptr (some b13) 20) rfl (Z0 (Z29 rfl (List.Mem.tail _ Zh) rfl rfl rfl (Z106 (⟨a0.address, .slice A1 a0.topics.length c2, .slice A6 a0.data.length c7⟩ : LogC))) rfl (Z0 (RV.len rfl rfl) rfl ?_))))))))))))))
  refine Z0 (Z3 rfl) rfl (Z6 (Z1 ?_))
  obtain ⟨q18, hq19, hf⟩ := Z100 hf
  refine Z115 (fun L' M' => ∃ l22 : List (It), ∃ B20 : List Ent, ∃ cs23 : List Value, ∃ ob25 : Option Nat, ∃ c26 : Nat, ∃ r27 : List Value, q18 = l22 ∧ (∀ w, Mem w0 w B20 → Mem w0 w []) ∧ (Reps (ItRd (More w0 Φ B20)) cs23 l22) ∧ (OwnS ob25 l22.length c26 3 cs23 r27) ∧ L' = [(1, ptr (some b13) 0), (2, ptr (some b14) 0), (4, sl ob25 0 l22.length c26)] ∧ M' = ((ob25, blk (cs23 ++ r27) 30) :: (some b14, blk [.bool false, .slice none 0 0, .slice none 0 0] 30) :: (some b13, blk (⟨a0.address, .slice A1 a0.topics.length c2, .slice A6 a0.data.length c7⟩ : LogC).C 27) :: (B20 ++ N))) ?_ ?_
  ·rintro L30 M31 ⟨l22, B20, cs23, ob25, c26, r27, e29, hB21, h24, o28, e32, e33⟩
   rw [e32, e33]
   clear e32 e33 L30 M31
   clear hq19
   rw [e29] at hf
   clear e29
   try dsimp only at hf
   have gq4 : ∀ w, More w0 Φ B20 w → More w0 Φ [] w := fun w q => More.mono (fun w m => hB21 w (m)) q
   replace h10 := LogRd.mono gq4 _ _ h10
   replace v3 := v3.mono gq4
   replace h5 := h5.mono (Ar8Rd.mono gq4)
   replace v8 := v8.mono gq4
   have m34 := o28.mx
   refine Z1 (Z4 (CW.mem (M' := (some b14, blk [.bool false, .slice none 0 0, .slice none 0 0] 30) :: (some b13, blk (⟨a0.address, .slice A1 a0.topics.length c2, .slice A6 a0.data.length c7⟩ : LogC).C 27) :: (((ob25, blk (cs23 ++ r27) 30) :: B20) ++ N)) (fun w m => m.pick [1, 2, 0] 3 rfl rfl) ?_))
   have gq5 : ∀ w, More w0 Φ ((ob25, blk (cs23 ++ r27) 30) :: B20) w → More w0 Φ B20 w := fun w q => More.mono (fun w m => (m).tail) q
   replace h24 := h24.mono (ItRd.mono gq5)
   replace h10 := LogRd.mono gq5 _ _ h10
   replace v3 := v3.mono gq5
   replace h5 := h5.mono (Ar8Rd.mono gq5)
   replace v8 := v8.mono gq5
   have v35 : View (More w0 Φ ((ob25, blk (cs23 ++ r27) 30) :: B20)) ((ob25).map fun k => ⟨k, 0, none⟩) l22.length c26 3 cs23 := o28.view (by decide) (fun w q => q.2.sublist (List.singleton_sublist.2 (List.mem_cons_self ..)))
   refine CW.mem (M' := (some b14, blk [.bool false, .slice none 0 0, .slice none 0 0] 30) :: (((some b13, blk (⟨a0.address, .slice A1 a0.topics.length c2, .slice A6 a0.data.length c7⟩ : LogC).C 27) :: ((ob25, blk (cs23 ++ r27) 30) :: B20)) ++ N)) (fun w m => m.pick [0, 1] 2 rfl rfl) ?_
   have gq6 : ∀ w, More w0 Φ ((some b13, blk (⟨a0.address, .slice A1 a0.topics.length c2, .slice A6 a0.data.length c7⟩ : LogC).C 27) :: ((ob25, blk (cs23 ++ r27) 30) :: B20)) w → More w0 Φ ((ob25, blk (cs23 ++ r27) 30) :: B20) w := fun w q => More.mono (fun w m => (m).tail) q
   replace h10 := LogRd.mono gq6 _ _ h10
   replace v3 := v3.mono gq6
   replace h5 := h5.mono (Ar8Rd.mono gq6)
   replace v8 := v8.mono gq6
   replace v35 := v35.mono gq6
   replace h24 := h24.mono (ItRd.mono gq6)
   have hH36 : Held w0 (More w0 Φ ((some b13, blk (⟨a0.address, .slice A1 a0.topics.length c2, .slice A6 a0.data.length c7⟩ : LogC).C 27) :: ((ob25, blk (cs23 ++ r27) 30) :: B20))) b13 (⟨a0.address, .slice A1 a0.topics.length c2, .slice A6 a0.data.length c7⟩ : LogC).C 27 := fun w q => q.2.sublist (List.singleton_sublist.2 (List.mem_cons_self ..))
   refine CW.drawsX ((some b14, blk [.bool false, .slice none 0 0, .slice none 0 0] 30) :: (((some b13, blk (⟨a0.address, .slice A1 a0.topics.length c2, .slice A6 a0.data.length c7⟩ : LogC).C 27) :: ((ob25, blk (cs23 ++ r27) 30) :: B20)) ++ N)) [11] (fun w m => m.pick [0] 1 rfl rfl) mixed (by kernel_rfl) (Z10 0 rfl (by kernel_rfl) rfl (Z30 rfl rfl rfl rfl) rfl (XW.slot (ptr (some b13) 0) rfl (Z10 1 rfl (by kernel_rfl) rfl (RV.arr_all rfl rfl rfl) rfl ?_)))
   refine XW.slot (.slice (some ⟨b13, 0, none⟩) a0.address.toList.length 20) (by rw [Zv]; try rfl) ?_
   have v37 : View (More w0 Φ ((some b13, blk (⟨a0.address, .slice A1 a0.topics.length c2, .slice A6 a0.data.length c7⟩ : LogC).C 27) :: ((ob25, blk (cs23 ++ r27) 30) :: B20))) (some ⟨b13, 0, none⟩) a0.address.toList.length 20 1 (u8s a0.address.toList) := Held.part hH36 (Z121 (⟨a0.address, .slice A1 a0.topics.length c2, .slice A6 a0.data.length c7⟩ : LogC)) (by decide)
   refine Z10 3 rfl (by kernel_rfl) rfl (Z3 rfl) rfl (Z10 5 rfl (by kernel_rfl) rfl (Z30 rfl rfl rfl rfl) rfl (XW.slot (ptr (some b13) 21) rfl (Z10 6 rfl (by kernel_rfl) rfl (RV.loadH rfl hH36 (fun w m => Z103 hΦ 1 m rfl) rfl rfl (Z124 (⟨a0.address, .slice A1 a0.topics.length c2, .slice A6 a0.data.length c7⟩ : LogC))) rfl (XWp.start (l := [.bool false, .slice none 0 0, .slice none 0 0]) (te := 30) (dp := 7) 10 rfl (NV.alloc rfl rfl) rfl rfl ?_))))
   obtain ⟨x39, hx38, hf⟩ := Z100 hf
   refine XWp.callG 2 rfl (by kernel_rfl) rfl Try.call19 rfl (fun N' hN' => Z140 w0 (More w0 Φ ((some b13, blk (⟨a0.address, .slice A1 a0.topics.length c2, .slice A6 a0.data.length c7⟩ : LogC).C 27) :: ((ob25, blk (cs23 ++ r27) 30) :: B20))) N' (fun w m => Z103 hΦ 1 (hN' w m) rfl) (some ⟨b13, 0, none⟩) 20 a0.address.toList x39 v37 hx38) rfl ?_
   rintro L43 M44 ⟨B40, cs41, h42, e45, e46⟩
   rw [e45, e46]
   clear e45 e46 L43 M44
   refine XWp.mem (M' := ((some b14, blk [.bool false, .slice none 0 0, .slice none 0 0] 30) :: ((B40 ++ ((some b13, blk (⟨a0.address, .slice A1 a0.topics.length c2, .slice A6 a0.data.length c7⟩ : LogC).C 27) :: ((ob25, blk (cs23 ++ r27) 30) :: B20))) ++ N))) (fun w m => by have h := Z107 (A := B40) m 0 1 rfl rfl; exact h) (fun w m => by have h := Z118 (B := ((some b13, blk (⟨a0.address, .slice A1 a0.topics.length c2, .slice A6 a0.data.length c7⟩ : LogC).C 27) :: ((ob25, blk (cs23 ++ r27) 30) :: B20))) (B' := (B40 ++ ((some b13, blk (⟨a0.address, .slice A1 a0.topics.length c2, .slice A6 a0.data.length c7⟩ : LogC).C 27) :: ((ob25, blk (cs23 ++ r27) 30) :: B20)))) (List.sublist_append_right _ _) (m.pick [0] 1 rfl rfl) 1 rfl; exact h) ?_
   have gq7 : ∀ w, More w0 Φ (B40 ++ ((some b13, blk (⟨a0.address, .slice A1 a0.topics.length c2, .slice A6 a0.data.length c7⟩ : LogC).C 27) :: ((ob25, blk (cs23 ++ r27) 30) :: B20))) w → More w0 Φ ((some b13, blk (⟨a0.address, .slice A1 a0.topics.length c2, .slice A6 a0.data.length c7⟩ : LogC).C 27) :: ((ob25, blk (cs23 ++ r27) 30) :: B20)) w := fun w q => More.mono (fun w m => (m).appR) q
   replace hH36 := hH36.mono gq7
   replace h10 := LogRd.mono gq7 _ _ h10
   replace v3 := v3.mono gq7
   replace h5 := h5.mono (Ar8Rd.mono gq7)
   replace v8 := v8.mono gq7
   replace v35 := v35.mono gq7
   replace h24 := h24.mono (ItRd.mono gq7)
   replace v37 := v37.mono gq7
   replace h42 := ItRd.mono (Ψ := (More w0 Φ (B40 ++ ((some b13, blk (⟨a0.address, .slice A1 a0.topics.length c2, .slice A6 a0.data.length c7⟩ : LogC).C 27) :: ((ob25, blk (cs23 ++ r27) 30) :: B20))))) (fun w q => Z117 q) _ _ h42
   have h56 := h42
   obtain ⟨A47, c48, A50, c51, cs53, e55, v49, v52, h54⟩ := ItRd.opn h42
   subst e55
   have m57 := v49.mx
   have m58 := v52.mx
   have m59 := v49.mx
   have m60 := v52.mx
   obtain ⟨x62, hx61, hf⟩ := Z100 hf
   refine XWp.callG 4 rfl (by kernel_rfl) rfl Try.call20 rfl (fun N' hN' => rlp_List_does w0 (More w0 Φ (B40 ++ ((some b13, blk (⟨a0.address, .slice A1 a0.topics.length c2, .slice A6 a0.data.length c7⟩ : LogC).C 27) :: ((ob25, blk (cs23 ++ r27) 30) :: B20)))) N' (fun w m => Z103 hΦ 1 (hN' w m) rfl) ((ob25).map fun k => ⟨k, 0, none⟩) c26 cs23 l22 x62 v35 h24 hx61) rfl ?_
   rintro L66 M67 ⟨B63, cs64, h65, e68, e69⟩
   rw [e68, e69]
   clear e68 e69 L66 M67
   refine XWp.mem (M' := ((some b14, blk [.bool false, .slice none 0 0, .slice none 0 0] 30) :: ((B63 ++ (B40 ++ ((some b13, blk (⟨a0.address, .slice A1 a0.topics.length c2, .slice A6 a0.data.length c7⟩ : LogC).C 27) :: ((ob25, blk (cs23 ++ r27) 30) :: B20)))) ++ N))) (fun w m => by have h := Z107 (A := B63) m 0 1 rfl rfl; exact h) (fun w m => by have h := Z118 (B := ((some b13, blk (⟨a0.address, .slice A1 a0.topics.length c2, .slice A6 a0.data.length c7⟩ : LogC).C 27) :: ((ob25, blk (cs23 ++ r27) 30) :: B20))) (B' := (B63 ++ (B40 ++ ((some b13, blk (⟨a0.address, .slice A1 a0.topics.length c2, .slice A6 a0.data.length c7⟩ : LogC).C 27) :: ((ob25, blk (cs23 ++ r27) 30) :: B20))))) ((List.sublist_append_right _ _).trans (List.sublist_append_right _ _)) (m.pick [0] 1 rfl rfl) 1 rfl; exact h) ?_
   have gq8 : ∀ w, More w0 Φ (B63 ++ (B40 ++ ((some b13, blk (⟨a0.address, .slice A1 a0.topics.length c2, .slice A6 a0.data.length c7⟩ : LogC).C 27) :: ((ob25, blk (cs23 ++ r27) 30) :: B20)))) w → More w0 Φ (B40 ++ ((some b13, blk (⟨a0.address, .slice A1 a0.topics.length c2, .slice A6 a0.data.length c7⟩ : LogC).C 27) :: ((ob25, blk (cs23 ++ r27) 30) :: B20))) w := fun w q => More.mono (fun w m => (m).appR) q
   replace hH36 := hH36.mono gq8
   replace h10 := LogRd.mono gq8 _ _ h10
   replace v3 := v3.mono gq8
   replace h5 := h5.mono (Ar8Rd.mono gq8)
   replace v8 := v8.mono gq8
   replace v35 := v35.mono gq8
   replace h24 := h24.mono (ItRd.mono gq8)
   replace v37 := v37.mono gq8
   replace h56 := ItRd.mono gq8 _ _ h56
   replace v49 := v49.mono gq8
   replace v52 := v52.mono gq8
   replace h54 := h54.mono (ItRd.mono gq8)
   replace h65 := ItRd.mono (Ψ := (More w0 Φ (B63 ++ (B40 ++ ((some b13, blk (⟨a0.address, .slice A1 a0.topics.length c2, .slice A6 a0.data.length c7⟩ : LogC).C 27) :: ((ob25, blk (cs23 ++ r27) 30) :: B20)))))) (fun w q => Z117 q) _ _ h65
   have h79 := h65
   obtain ⟨A70, c71, A73, c74, cs76, e78, v72, v75, h77⟩ := ItRd.opn h65
   subst e78
   have m80 := v72.mx
   have m81 := v75.mx
   have m82 := v72.mx
   have m83 := v75.mx
   obtain ⟨x85, hx84, hf⟩ := Z100 hf
   refine XWp.callG 7 rfl (by kernel_rfl) rfl Try.call19 rfl (fun N' hN' => Z140 w0 (More w0 Φ (B63 ++ (B40 ++ ((some b13, blk (⟨a0.address, .slice A1 a0.topics.length c2, .slice A6 a0.data.length c7⟩ : LogC).C 27) :: ((ob25, blk (cs23 ++ r27) 30) :: B20))))) N' (fun w m => Z103 hΦ 1 (hN' w m) rfl) A6 c7 a0.data x85 v8 hx84) rfl ?_
   rintro L89 M90 ⟨B86, cs87, h88, e91, e92⟩
   rw [e91, e92]
   clear e91 e92 L89 M90
   refine XWp.mem (M' := ((some b14, blk [.bool false, .slice none 0 0, .slice none 0 0] 30) :: ((B86 ++ (B63 ++ (B40 ++ ((some b13, blk (⟨a0.address, .slice A1 a0.topics.length c2, .slice A6 a0.data.length c7⟩ : LogC).C 27) :: ((ob25, blk (cs23 ++ r27) 30) :: B20))))) ++ N))) (fun w m => by have h := Z107 (A := B86) m 0 1 rfl rfl; exact h) (fun w m => by have h := Z118 (B := ((some b13, blk (⟨a0.address, .slice A1 a0.topics.length c2, .slice A6 a0.data.length c7⟩ : LogC).C 27) :: ((ob25, blk (cs23 ++ r27) 30) :: B20))) (B' := (B86 ++ (B63 ++ (B40 ++ ((some b13, blk (⟨a0.address, .slice A1 a0.topics.length c2, .slice A6 a0.data.length c7⟩ : LogC).C 27) :: ((ob25, blk (cs23 ++ r27) 30) :: B20)))))) ((List.sublist_append_right _ _).trans ((List.sublist_append_right _ _).trans (List.sublist_append_right _ _))) (m.pick [0] 1 rfl rfl) 1 rfl; exact h) ?_
   have gq9 : ∀ w, More w0 Φ (B86 ++ (B63 ++ (B40 ++ ((some b13, blk (⟨a0.address, .slice A1 a0.topics.length c2, .slice A6 a0.data.length c7⟩ : LogC).C 27) :: ((ob25, blk (cs23 ++ r27) 30) :: B20))))) w → More w0 Φ (B63 ++ (B40 ++ ((some b13, blk (⟨a0.address, .slice A1 a0.topics.length c2, .slice A6 a0.data.length c7⟩ : LogC).C 27) :: ((ob25, blk (cs23 ++ r27) 30) :: B20)))) w := fun w q => More.mono (fun w m => (m).appR) q
   replace hH36 := hH36.mono gq9
   replace h10 := LogRd.mono gq9 _ _ h10
   replace v3 := v3.mono gq9
   replace h5 := h5.mono (Ar8Rd.mono gq9)
   replace v8 := v8.mono gq9
   replace v35 := v35.mono gq9
   replace h24 := h24.mono (ItRd.mono gq9)
   replace v37 := v37.mono gq9
   replace h56 := ItRd.mono gq9 _ _ h56
   replace v49 := v49.mono gq9
   replace v52 := v52.mono gq9
   replace h54 := h54.mono (ItRd.mono gq9)
   replace h79 := ItRd.mono gq9 _ _ h79
   replace v72 := v72.mono gq9
   replace v75 := v75.mono gq9
   replace h77 := h77.mono (ItRd.mono gq9)
   replace h88 := ItRd.mono (Ψ := (More w0 Φ (B86 ++ (B63 ++ (B40 ++ ((some b13, blk (⟨a0.address, .slice A1 a0.topics.length c2, .slice A6 a0.data.length c7⟩ : LogC).C 27) :: ((ob25, blk (cs23 ++ r27) 30) :: B20))))))) (fun w q => Z117 q) _ _ h88
   have h102 := h88
   obtain ⟨A93, c94, A96, c97, cs99, e101, v95, v98, h100⟩ := ItRd.opn h88
   subst e101
   have m103 := v95.mx
   have m104 := v98.mx
   have m105 := v95.mx
   have m106 := v98.mx
   refine XWp.new 8 rfl (by kernel_rfl) rfl (NV.bsA rfl rfl (by intro x hx; simp at hx; rcases hx with rfl | rfl | rfl <;> exact rfl) rfl rfl rfl (by decide) (by decide) rfl) rfl (fun b107 => ?_)
   have h110 : Reps (ItRd (More w0 Φ (B86 ++ (B63 ++ (B40 ++ ((some b13, blk (⟨a0.address, .slice A1 a0.topics.length c2, .slice A6 a0.data.length c7⟩ : LogC).C 27) :: ((ob25, blk (cs23 ++ r27) 30) :: B20))))))) (([.bool (x39.list), .slice A47 x39.data.length c48, .slice A50 x39.items.length c51] : List Value) ++ ([.bool (x62.list), .slice A70 x62.data.length c71, .slice A73 x62.items.length c74] : List Value) ++ ([.bool (x85.list), .slice A93 x85.data.length c94, .slice A96 x85.items.length c97] : List Value)) [x39, x62, x85] := by simpa using (show Reps (ItRd (More w0 Φ (B86 ++ (B63 ++ (B40 ++ ((some b13, blk (⟨a0.address, .slice A1 a0.topics.length c2, .slice A6 a0.data.length c7⟩ : LogC).C 27) :: ((ob25, blk (cs23 ++ r27) 30) :: B20))))))) _ [x39, x62, x85] from (.cons h56 (.cons h79 (.cons h102 .nil))))
   refine XWp.mem (M' := (((some b107), blk ((([.bool (x39.list), .slice A47 x39.data.length c48, .slice A50 x39.items.length c51] : List Value) ++ ([.bool (x62.list), .slice A70 x62.data.length c71, .slice A73 x62.items.length c74] : List Value) ++ ([.bool (x85.list), .slice A93 x85.data.length c94, .slice A96 x85.items.length c97] : List Value)) ++ []) 30) :: (some b14, blk [.bool false, .slice none 0 0, .slice none 0 0] 30) :: ((B86 ++ (B63 ++ (B40 ++ ((some b13, blk (⟨a0.address, .slice A1 a0.topics.length c2, .slice A6 a0.data.length c7⟩ : LogC).C 27) :: ((ob25, blk (cs23 ++ r27) 30) :: B20))))) ++ N))) (fun w m => m) (fun w m => by have h := Z118 (B := ((some b13, blk (⟨a0.address, .slice A1 a0.topics.length c2, .slice A6 a0.data.length c7⟩ : LogC).C 27) :: ((ob25, blk (cs23 ++ r27) 30) :: B20))) (B' := (B86 ++ (B63 ++ (B40 ++ ((some b13, blk (⟨a0.address, .slice A1 a0.topics.length c2, .slice A6 a0.data.length c7⟩ : LogC).C 27) :: ((ob25, blk (cs23 ++ r27) 30) :: B20)))))) ((List.sublist_append_right _ _).trans ((List.sublist_append_right _ _).trans (List.sublist_append_right _ _))) (m.pick [1] 2 rfl rfl) 1 rfl; exact h) ?_
   have o108 : OwnS (some b107) ([x39, x62, x85] : List (It)).length 3 3 (([.bool (x39.list), .slice A47 x39.data.length c48, .slice A50 x39.items.length c51] : List Value) ++ ([.bool (x62.list), .slice A70 x62.data.length c71, .slice A73 x62.items.length c74] : List Value) ++ ([.bool (x85.list), .slice A93 x85.data.length c94, .slice A96 x85.items.length c97] : List Value)) [] := ⟨by simp [ItRd], by simp [ItRd], (fun h => nomatch h), by simp⟩
   have mx_o108 := o108.mx
   refine XWp.slot (sl (some b107) 0 ([x39, x62, x85] : List (It)).length 3) (rfl) ?_
   refine XWp.mem (M' := (some b14, blk [.bool false, .slice none 0 0, .slice none 0 0] 30) :: ((((some b107), blk ((([.bool (x39.list), .slice A47 x39.data.length c48, .slice A50 x39.items.length c51] : List Value) ++ ([.bool (x62.list), .slice A70 x62.data.length c71, .slice A73 x62.items.length c74] : List Value) ++ ([.bool (x85.list), .slice A93 x85.data.length c94, .slice A96 x85.items.length c97] : List Value)) ++ []) 30) :: (B86 ++ (B63 ++ (B40 ++ ((some b13, blk (⟨a0.address, .slice A1 a0.topics.length c2, .slice A6 a0.data.length c7⟩ : LogC).C 27) :: ((ob25, blk (cs23 ++ r27) 30) :: B20)))))) ++ N)) (fun w m => m.pick [1, 0] 2 rfl rfl) (fun w m => by have h := Z118 (B := ((some b13, blk (⟨a0.address, .slice A1 a0.topics.length c2, .slice A6 a0.data.length c7⟩ : LogC).C 27) :: ((ob25, blk (cs23 ++ r27) 30) :: B20))) (B' := (((some b107), blk ((([.bool (x39.list), .slice A47 x39.data.length c48, .slice A50 x39.items.length c51] : List Value) ++ ([.bool (x62.list), .slice A70 x62.data.length c71, .slice A73 x62.items.length c74] : List Value) ++ ([.bool (x85.list), .slice A93 x85.data.length c94, .slice A96 x85.items.length c97] : List Value)) ++ []) 30) :: (B86 ++ (B63 ++ (B40 ++ ((some b13, blk (⟨a0.address, .slice A1 a0.topics.length c2, .slice A6 a0.data.length c7⟩ : LogC).C 27) :: ((ob25, blk (cs23 ++ r27) 30) :: B20))))))) ((List.sublist_append_right _ _).trans ((List.sublist_append_right _ _).trans ((List.sublist_append_right _ _).trans (List.sublist_cons_self _ _)))) (m.pick [0] 1 rfl rfl) 1 rfl; exact h) ?_
   have gq10 : ∀ w, More w0 Φ (((some b107), blk ((([.bool (x39.list), .slice A47 x39.data.length c48, .slice A50 x39.items.length c51] : List Value) ++ ([.bool (x62.list), .slice A70 x62.data.length c71, .slice A73 x62.items.length c74] : List Value) ++ ([.bool (x85.list), .slice A93 x85.data.length c94, .slice A96 x85.items.length c97] : List Value)) ++ []) 30) :: (B86 ++ (B63 ++ (B40 ++ ((some b13, blk (⟨a0.address, .slice A1 a0.topics.length c2, .slice A6 a0.data.length c7⟩ : LogC).C 27) :: ((ob25, blk (cs23 ++ r27) 30) :: B20)))))) w → More w0 Φ (B86 ++ (B63 ++ (B40 ++ ((some b13, blk (⟨a0.address, .slice A1 a0.topics.length c2, .slice A6 a0.data.length c7⟩ : LogC).C 27) :: ((ob25, blk (cs23 ++ r27) 30) :: B20))))) w := fun w q => More.mono (fun w m => (m).tail) q
   replace hH36 := hH36.mono gq10
   replace h10 := LogRd.mono gq10 _ _ h10
   replace v3 := v3.mono gq10
   replace h5 := h5.mono (Ar8Rd.mono gq10)
   replace v8 := v8.mono gq10
   replace v35 := v35.mono gq10
   replace h24 := h24.mono (ItRd.mono gq10)
   replace v37 := v37.mono gq10
   replace h56 := ItRd.mono gq10 _ _ h56
   replace v49 := v49.mono gq10
   replace v52 := v52.mono gq10
   replace h54 := h54.mono (ItRd.mono gq10)
   replace h79 := ItRd.mono gq10 _ _ h79
   replace v72 := v72.mono gq10
   replace v75 := v75.mono gq10
   replace h77 := h77.mono (ItRd.mono gq10)
   replace h102 := ItRd.mono gq10 _ _ h102
   replace v95 := v95.mono gq10
   replace v98 := v98.mono gq10
   replace h100 := h100.mono (ItRd.mono gq10)
   replace h110 := h110.mono (ItRd.mono gq10)
   have v111 : View (More w0 Φ (((some b107), blk ((([.bool (x39.list), .slice A47 x39.data.length c48, .slice A50 x39.items.length c51] : List Value) ++ ([.bool (x62.list), .slice A70 x62.data.length c71, .slice A73 x62.items.length c74] : List Value) ++ ([.bool (x85.list), .slice A93 x85.data.length c94, .slice A96 x85.items.length c97] : List Value)) ++ []) 30) :: (B86 ++ (B63 ++ (B40 ++ ((some b13, blk (⟨a0.address, .slice A1 a0.topics.length c2, .slice A6 a0.data.length c7⟩ : LogC).C 27) :: ((ob25, blk (cs23 ++ r27) 30) :: B20))))))) (((some b107)).map fun k => ⟨k, 0, none⟩) ([x39, x62, x85] : List (It)).length 3 3 (([.bool (x39.list), .slice A47 x39.data.length c48, .slice A50 x39.items.length c51] : List Value) ++ ([.bool (x62.list), .slice A70 x62.data.length c71, .slice A73 x62.items.length c74] : List Value) ++ ([.bool (x85.list), .slice A93 x85.data.length c94, .slice A96 x85.items.length c97] : List Value)) := o108.view (by decide) (fun w q => q.2.sublist (List.singleton_sublist.2 (List.mem_cons_self ..)))
   obtain ⟨x113, hx112, hf⟩ := Z100 hf
   refine XWp.callG 9 rfl (by kernel_rfl) rfl Try.call20 rfl (fun N' hN' => rlp_List_does w0 (More w0 Φ (((some b107), blk ((([.bool (x39.list), .slice A47 x39.data.length c48, .slice A50 x39.items.length c51] : List Value) ++ ([.bool (x62.list), .slice A70 x62.data.length c71, .slice A73 x62.items.length c74] : List Value) ++ ([.bool (x85.list), .slice A93 x85.data.length c94, .slice A96 x85.items.length c97] : List Value)) ++ []) 30) :: (B86 ++ (B63 ++ (B40 ++ ((some b13, blk (⟨a0.address, .slice A1 a0.topics.length c2, .slice A6 a0.data.length c7⟩ : LogC).C 27) :: ((ob25, blk (cs23 ++ r27) 30) :: B20))))))) N' (fun w m => Z103 hΦ 1 (hN' w m) rfl) (((some b107)).map fun k => ⟨k, 0, none⟩) 3 (([.bool (x39.list), .slice A47 x39.data.length c48, .slice A50 x39.items.length c51] : List Value) ++ ([.bool (x62.list), .slice A70 x62.data.length c71, .slice A73 x62.items.length c74] : List Value) ++ ([.bool (x85.list), .slice A93 x85.data.length c94, .slice A96 x85.items.length c97] : List Value)) ([x39, x62, x85] : List (It)) x113 v111 h110 hx112) rfl ?_
   rintro L117 M118 ⟨B114, cs115, h116, e119, e120⟩
   rw [e119, e120]
   clear e119 e120 L117 M118
   refine XWp.mem (M' := ((some b14, blk [.bool false, .slice none 0 0, .slice none 0 0] 30) :: ((B114 ++ (((some b107), blk ((([.bool (x39.list), .slice A47 x39.data.length c48, .slice A50 x39.items.length c51] : List Value) ++ ([.bool (x62.list), .slice A70 x62.data.length c71, .slice A73 x62.items.length c74] : List Value) ++ ([.bool (x85.list), .slice A93 x85.data.length c94, .slice A96 x85.items.length c97] : List Value)) ++ []) 30) :: (B86 ++ (B63 ++ (B40 ++ ((some b13, blk (⟨a0.address, .slice A1 a0.topics.length c2, .slice A6 a0.data.length c7⟩ : LogC).C 27) :: ((ob25, blk (cs23 ++ r27) 30) :: B20))))))) ++ N))) (fun w m => by have h := Z107 (A := B114) m 0 1 rfl rfl; exact h) (fun w m => by have h := Z118 (B := ((some b13, blk (⟨a0.address, .slice A1 a0.topics.length c2, .slice A6 a0.data.length c7⟩ : LogC).C 27) :: ((ob25, blk (cs23 ++ r27) 30) :: B20))) (B' := (B114 ++ (((some b107), blk ((([.bool (x39.list), .slice A47 x39.data.length c48, .slice A50 x39.items.length c51] : List Value) ++ ([.bool (x62.list), .slice A70 x62.data.length c71, .slice A73 x62.items.length c74] : List Value) ++ ([.bool (x85.list), .slice A93 x85.data.length c94, .slice A96 x85.items.length c97] : List Value)) ++ []) 30) :: (B86 ++ (B63 ++ (B40 ++ ((some b13, blk (⟨a0.address, .slice A1 a0.topics.length c2, .slice A6 a0.data.length c7⟩ : LogC).C 27) :: ((ob25, blk (cs23 ++ r27) 30) :: B20)))))))) ((List.sublist_append_right _ _).trans ((List.sublist_append_right _ _).trans ((List.sublist_append_right _ _).trans ((List.sublist_cons_self _ _).trans (List.sublist_append_right _ _))))) (m.pick [0] 1 rfl rfl) 1 rfl; exact h) ?_
   have gq11 : ∀ w, More w0 Φ (B114 ++ (((some b107), blk ((([.bool (x39.list), .slice A47 x39.data.length c48, .slice A50 x39.items.length c51] : List Value) ++ ([.bool (x62.list), .slice A70 x62.data.length c71, .slice A73 x62.items.length c74] : List Value) ++ ([.bool (x85.list), .slice A93 x85.data.length c94, .slice A96 x85.items.length c97] : List Value)) ++ []) 30) :: (B86 ++ (B63 ++ (B40 ++ ((some b13, blk (⟨a0.address, .slice A1 a0.topics.length c2, .slice A6 a0.data.length c7⟩ : LogC).C 27) :: ((ob25, blk (cs23 ++ r27) 30) :: B20))))))) w → More w0 Φ (((some b107), blk ((([.bool (x39.list), .slice A47 x39.data.length c48, .slice A50 x39.items.length c51] : List Value) ++ ([.bool (x62.list), .slice A70 x62.data.length c71, .slice A73 x62.items.length c74] : List Value) ++ ([.bool (x85.list), .slice A93 x85.data.length c94, .slice A96 x85.items.length c97] : List Value)) ++ []) 30) :: (B86 ++ (B63 ++ (B40 ++ ((some b13, blk (⟨a0.address, .slice A1 a0.topics.length c2, .slice A6 a0.data.length c7⟩ : LogC).C 27) :: ((ob25, blk (cs23 ++ r27) 30) :: B20)))))) w := fun w q => More.mono (fun w m => (m).appR) q
   replace hH36 := hH36.mono gq11
   replace h10 := LogRd.mono gq11 _ _ h10
   replace v3 := v3.mono gq11
   replace h5 := h5.mono (Ar8Rd.mono gq11)
   replace v8 := v8.mono gq11
   replace v35 := v35.mono gq11
   replace h24 := h24.mono (ItRd.mono gq11)
   replace v37 := v37.mono gq11
   replace h56 := ItRd.mono gq11 _ _ h56
   replace v49 := v49.mono gq11
   replace v52 := v52.mono gq11
   replace h54 := h54.mono (ItRd.mono gq11)
   replace h79 := ItRd.mono gq11 _ _ h79
   replace v72 := v72.mono gq11
   replace v75 := v75.mono gq11
   replace h77 := h77.mono (ItRd.mono gq11)
   replace h102 := ItRd.mono gq11 _ _ h102
   replace v95 := v95.mono gq11
   replace v98 := v98.mono gq11
   replace h100 := h100.mono (ItRd.mono gq11)
   replace v111 := v111.mono gq11
   replace h110 := h110.mono (ItRd.mono gq11)
   replace h116 := ItRd.mono (Ψ := (More w0 Φ (B114 ++ (((some b107), blk ((([.bool (x39.list), .slice A47 x39.data.length c48, .slice A50 x39.items.length c51] : List Value) ++ ([.bool (x62.list), .slice A70 x62.data.length c71, .slice A73 x62.items.length c74] : List Value) ++ ([.bool (x85.list), .slice A93 x85.data.length c94, .slice A96 x85.items.length c97] : List Value)) ++ []) 30) :: (B86 ++ (B63 ++ (B40 ++ ((some b13, blk (⟨a0.address, .slice A1 a0.topics.length c2, .slice A6 a0.data.length c7⟩ : LogC).C 27) :: ((ob25, blk (cs23 ++ r27) 30) :: B20))))))))) (fun w q => Z117 q) _ _ h116
   have h130 := h116
   obtain ⟨A121, c122, A124, c125, cs127, e129, v123, v126, h128⟩ := ItRd.opn h116
   subst e129
   have m131 := v123.mx
   have m132 := v126.mx
   have m133 := v123.mx
   have m134 := v126.mx
   refine XWp.fin (by kernel_rfl) (fun b135 => ?_)
   refine XW.sv 11 rfl (by kernel_rfl) (Z104 rfl rfl rfl (by intro u hu; simp at hu; rcases hu with rfl | rfl | rfl <;> rfl) rfl rfl rfl) (fun w m => by have h := Z118 (B := ((some b13, blk (⟨a0.address, .slice A1 a0.topics.length c2, .slice A6 a0.data.length c7⟩ : LogC).C 27) :: ((ob25, blk (cs23 ++ r27) 30) :: B20))) (B' := (B114 ++ (((some b107), blk ((([.bool (x39.list), .slice A47 x39.data.length c48, .slice A50 x39.items.length c51] : List Value) ++ ([.bool (x62.list), .slice A70 x62.data.length c71, .slice A73 x62.items.length c74] : List Value) ++ ([.bool (x85.list), .slice A93 x85.data.length c94, .slice A96 x85.items.length c97] : List Value)) ++ []) 30) :: (B86 ++ (B63 ++ (B40 ++ ((some b13, blk (⟨a0.address, .slice A1 a0.topics.length c2, .slice A6 a0.data.length c7⟩ : LogC).C 27) :: ((ob25, blk (cs23 ++ r27) 30) :: B20)))))))) ((List.sublist_append_right _ _).trans ((List.sublist_append_right _ _).trans ((List.sublist_append_right _ _).trans ((List.sublist_cons_self _ _).trans (List.sublist_append_right _ _))))) (m.pick [1] 2 rfl rfl) 1 rfl; exact h) ?_
   refine XW.nil (by kernel_rfl) (Z1 (Z4 (Z4 (Z2 (Z0 (Z22 rfl Zh rfl rfl rfl rfl rfl) rfl ?_)))))
   obtain ⟨⟨x137, x138⟩, hx136, hf⟩ := Z100 hf
   try dsimp only at hf
   refine Z12 Try.call21 rfl (rlp_Size_does w0 (More w0 Φ (B114 ++ (((some b107), blk ((([.bool (x39.list), .slice A47 x39.data.length c48, .slice A50 x39.items.length c51] : List Value) ++ ([.bool (x62.list), .slice A70 x62.data.length c71, .slice A73 x62.items.length c74] : List Value) ++ ([.bool (x85.list), .slice A93 x85.data.length c94, .slice A96 x85.items.length c97] : List Value)) ++ []) 30) :: (B86 ++ (B63 ++ (B40 ++ ((some b13, blk (⟨a0.address, .slice A1 a0.topics.length c2, .slice A6 a0.data.length c7⟩ : LogC).C 27) :: ((ob25, blk (cs23 ++ r27) 30) :: B20)))))))) ((some b135, blk [.bool (x113.list), .slice A121 x113.data.length c122, .slice A124 x113.items.length c125] 30) :: (some b14, blk [.bool false, .slice none 0 0, .slice none 0 0] 30) :: ((B114 ++ (((some b107), blk ((([.bool (x39.list), .slice A47 x39.data.length c48, .slice A50 x39.items.length c51] : List Value) ++ ([.bool (x62.list), .slice A70 x62.data.length c71, .slice A73 x62.items.length c74] : List Value) ++ ([.bool (x85.list), .slice A93 x85.data.length c94, .slice A96 x85.items.length c97] : List Value)) ++ []) 30) :: (B86 ++ (B63 ++ (B40 ++ ((some b13, blk (⟨a0.address, .slice A1 a0.topics.length c2, .slice A6 a0.data.length c7⟩ : LogC).C 27) :: ((ob25, blk (cs23 ++ r27) 30) :: B20))))))) ++ N)) (fun w m => Z103 hΦ 2 m rfl) [.bool (x113.list), .slice A121 x113.data.length c122, .slice A124 x113.items.length c125] x113 x137 x138 h130 hx136) rfl rfl ?_
   rintro _ G141 ⟨b139, b140, rfl⟩
   refine Z20 (M' := ((some b135, blk [.bool (x113.list), .slice A121 x113.data.length c122, .slice A124 x113.items.length c125] 30) :: (some b14, blk [.bool false, .slice none 0 0, .slice none 0 0] 30) :: ((B114 ++ (((some b107), blk ((([.bool (x39.list), .slice A47 x39.data.length c48, .slice A50 x39.items.length c51] : List Value) ++ ([.bool (x62.list), .slice A70 x62.data.length c71, .slice A73 x62.items.length c74] : List Value) ++ ([.bool (x85.list), .slice A93 x85.data.length c94, .slice A96 x85.items.length c97] : List Value)) ++ []) 30) :: (B86 ++ (B63 ++ (B40 ++ ((some b13, blk (⟨a0.address, .slice A1 a0.topics.length c2, .slice A6 a0.data.length c7⟩ : LogC).C 27) :: ((ob25, blk (cs23 ++ r27) 30) :: B20))))))) ++ N))) (fun w m => m.appR) (Z0 (Z3 rfl) rfl (Z0 (Z17 rfl rfl) rfl (Z7 (.int .i64 ((x137 : Nat) : Int)) (rfl) (Z0 (Z17 rfl rfl) rfl (Z7 (.int .i64 ((x138 : Nat) : Int)) (rfl) (Z0 (Z5 rfl) rfl (Z0 (Z5 rfl) rfl ?_)))))))
   refine Z6 (Z1 (Z4 (Z2 (Z0 (Z3 rfl) rfl (Z0 (RV.neq rfl rfl) rfl (Z7 (.bool (!decide (x138 = 0))) (congrArg (fun b => Value.bool (!b)) (decide_eq_decide.2 (by omega))) (Z6 (Z1 ?_))))))))
   by_cases h143 : x138 = 0
   ·replace hf := if_t hf h143
    refine Z14 rfl (congrArg (fun b => !b) (decide_eq_true h143)) (CW.skip (Z1 (Z4 (Z2 (Z0 (Z22 rfl Zh rfl rfl rfl rfl rfl) rfl (OW.rot1 ?_))))))
    refine Z28 (Z104 rfl rfl rfl (by intro u hu; simp at hu; rcases hu with rfl | rfl | rfl <;> rfl) rfl rfl rfl) ?_
    refine Z0 (Z5 rfl) rfl (Z6 (Z1 (CW.ret ?_)))
    have er0 := Zi hf
    obtain ⟨e0, er1⟩ := Prod.mk.inj er0
    clear er0
    subst e0
    subst er1
    refine Z102 (rs := [.cell 2 30, .tmp 3]) ([.agg [.bool (x113.list), .slice A121 x113.data.length c122, .slice A124 x113.items.length c125].toArray, .int .i64 (0 : Int)]) ((B114 ++ (((some b107), blk ((([.bool (x39.list), .slice A47 x39.data.length c48, .slice A50 x39.items.length c51] : List Value) ++ ([.bool (x62.list), .slice A70 x62.data.length c71, .slice A73 x62.items.length c74] : List Value) ++ ([.bool (x85.list), .slice A93 x85.data.length c94, .slice A96 x85.items.length c97] : List Value)) ++ []) 30) :: (B86 ++ (B63 ++ (B40 ++ ((some b13, blk (⟨a0.address, .slice A1 a0.topics.length c2, .slice A6 a0.data.length c7⟩ : LogC).C 27) :: ((ob25, blk (cs23 ++ r27) 30) :: B20)))))))) rfl ?_ rfl ?_ ?_ _ (.inl rfl)
    ·exact ⟨⟨_, _, _, _, rfl, Zh, rfl, rfl, rfl, rfl⟩, rfl, trivial⟩
    ·exact ⟨(B114 ++ (((some b107), blk ((([.bool (x39.list), .slice A47 x39.data.length c48, .slice A50 x39.items.length c51] : List Value) ++ ([.bool (x62.list), .slice A70 x62.data.length c71, .slice A73 x62.items.length c74] : List Value) ++ ([.bool (x85.list), .slice A93 x85.data.length c94, .slice A96 x85.items.length c97] : List Value)) ++ []) 30) :: (B86 ++ (B63 ++ (B40 ++ ((some b13, blk (⟨a0.address, .slice A1 a0.topics.length c2, .slice A6 a0.data.length c7⟩ : LogC).C 27) :: ((ob25, blk (cs23 ++ r27) 30) :: B20))))))), [.bool (x113.list), .slice A121 x113.data.length c122, .slice A124 x113.items.length c125], h130, (by omega), rfl, rfl⟩
    ·exact (fun w m => m.pick [] 2 rfl rfl)
   ·replace hf := if_f hf h143
    refine Z13 rfl (congrArg (fun b => !b) (decide_eq_false h143)) (Z4 (Z2 (Z0 (Z111 (l := [.bool false, .slice none 0 0, .slice none 0 0]) (cs := [.bool false, .slice none 0 0, .slice none 0 0]) [] rfl rfl rfl rfl rfl rfl rfl) rfl (Z0 (Z3 rfl) rfl (OW.rot1 ?_)))))
    refine Z28 (Z104 rfl rfl rfl (by intro u hu; simp at hu; rcases hu with rfl | rfl | rfl <;> rfl) rfl rfl rfl) ?_
    refine Z0 (Z5 rfl) rfl (Z6 (Z1 (CW.ret (Z8 ?_))))
    have er0 := Zi hf
    obtain ⟨e0, er1⟩ := Prod.mk.inj er0
    clear er0
    subst e0
    subst er1
    have v144 : View (More w0 Φ (B114 ++ (((some b107), blk ((([.bool (x39.list), .slice A47 x39.data.length c48, .slice A50 x39.items.length c51] : List Value) ++ ([.bool (x62.list), .slice A70 x62.data.length c71, .slice A73 x62.items.length c74] : List Value) ++ ([.bool (x85.list), .slice A93 x85.data.length c94, .slice A96 x85.items.length c97] : List Value)) ++ []) 30) :: (B86 ++ (B63 ++ (B40 ++ ((some b13, blk (⟨a0.address, .slice A1 a0.topics.length c2, .slice A6 a0.data.length c7⟩ : LogC).C 27) :: ((ob25, blk (cs23 ++ r27) 30) :: B20)))))))) none ([] : List (BitVec 8)).length 0 1 (u8s []) := View.nil
    have v145 : View (More w0 Φ (B114 ++ (((some b107), blk ((([.bool (x39.list), .slice A47 x39.data.length c48, .slice A50 x39.items.length c51] : List Value) ++ ([.bool (x62.list), .slice A70 x62.data.length c71, .slice A73 x62.items.length c74] : List Value) ++ ([.bool (x85.list), .slice A93 x85.data.length c94, .slice A96 x85.items.length c97] : List Value)) ++ []) 30) :: (B86 ++ (B63 ++ (B40 ++ ((some b13, blk (⟨a0.address, .slice A1 a0.topics.length c2, .slice A6 a0.data.length c7⟩ : LogC).C 27) :: ((ob25, blk (cs23 ++ r27) 30) :: B20)))))))) none ([] : List (It)).length 0 3 [] := View.nil
    refine Z102 (rs := [.cell 2 30, .tmp 3]) ([.agg [.bool false, .slice none 0 0, .slice none 0 0].toArray, .int .i64 ((x138 : Nat) : Int)]) ((B114 ++ (((some b107), blk ((([.bool (x39.list), .slice A47 x39.data.length c48, .slice A50 x39.items.length c51] : List Value) ++ ([.bool (x62.list), .slice A70 x62.data.length c71, .slice A73 x62.items.length c74] : List Value) ++ ([.bool (x85.list), .slice A93 x85.data.length c94, .slice A96 x85.items.length c97] : List Value)) ++ []) 30) :: (B86 ++ (B63 ++ (B40 ++ ((some b13, blk (⟨a0.address, .slice A1 a0.topics.length c2, .slice A6 a0.data.length c7⟩ : LogC).C 27) :: ((ob25, blk (cs23 ++ r27) 30) :: B20)))))))) rfl ?_ rfl ?_ ?_ _ (.inl rfl)
    ·exact ⟨⟨_, _, _, _, rfl, Zh, rfl, rfl, rfl, rfl⟩, rfl, trivial⟩
    ·exact ⟨(B114 ++ (((some b107), blk ((([.bool (x39.list), .slice A47 x39.data.length c48, .slice A50 x39.items.length c51] : List Value) ++ ([.bool (x62.list), .slice A70 x62.data.length c71, .slice A73 x62.items.length c74] : List Value) ++ ([.bool (x85.list), .slice A93 x85.data.length c94, .slice A96 x85.items.length c97] : List Value)) ++ []) 30) :: (B86 ++ (B63 ++ (B40 ++ ((some b13, blk (⟨a0.address, .slice A1 a0.topics.length c2, .slice A6 a0.data.length c7⟩ : LogC).C 27) :: ((ob25, blk (cs23 ++ r27) 30) :: B20))))))), [.bool false, .slice none 0 0, .slice none 0 0], (ItRd.mk v144 v145 (Reps.nil)), (by omega), rfl, rfl⟩
    ·exact (fun w m => m.pick [] 2 rfl rfl)
  ·skip
   refine CW.block (CW.mem (M' := ((none, blk ([] ++ []) 30) :: (some b14, blk [.bool false, .slice none 0 0, .slice none 0 0] 30) :: (some b13, blk (⟨a0.address, .slice A1 a0.topics.length c2, .slice A6 a0.data.length c7⟩ : LogC).C 27) :: ([] ++ N))) (fun w m => m.nil_ent _) (Z114 (fun k L' M' => ∃ l148 : List (It), ∃ n155 : Nat, ∃ B146 : List Ent, ∃ cs149 : List Value, ∃ ob151 : Option Nat, ∃ c152 : Nat, ∃ r153 : List Value, (receipt_LogItem.l1 a0 k l148 n155) = some q18 ∧ (∀ w, Mem w0 w B146 → Mem w0 w []) ∧ (Reps (ItRd (More w0 Φ B146)) cs149 l148) ∧ (OwnS ob151 l148.length c152 3 cs149 r153) ∧ (n155 ≤ 9223372036854775807) ∧ L' = [(1, ptr (some b13) 0), (2, ptr (some b14) 0), (4, sl ob151 0 l148.length c152), (16, .slice A1 a0.topics.length c2), (17, .int .i64 ((a0.topics.length : Nat) : Int)), (18, .int .i64 ((n155 : Nat) : Int))] ∧ M' = ((ob151, blk (cs149 ++ r153) 30) :: (some b14, blk [.bool false, .slice none 0 0, .slice none 0 0] 30) :: (some b13, blk (⟨a0.address, .slice A1 a0.topics.length c2, .slice A6 a0.data.length c7⟩ : LogC).C 27) :: (B146 ++ N))) (k0 := (a0.topics.length - 0 + 2)) ⟨([] : List (It)), 0, [], [], none, 0, [], hq19, (fun w m => m), Reps.nil, OwnS.nil, (by omega), rfl, rfl⟩ ⟨rfl, rfl, rfl, rfl, rfl, rfl, trivial⟩ (fun w m => m.pick [0, 1, 2] 3 rfl rfl) ?_))
   clear hq19
   rintro k157 L160 M161 ⟨l148, n155, B146, cs149, ob151, c152, r153, hl158, hB147, h150, o154, b156, e162, e163⟩
   rw [e162, e163]
   clear e162 e163 L160 M161
   rcases k157 with _ | k157
   ·rw [receipt_LogItem.l1] at hl158; cases hl158
   rw [receipt_LogItem.l1] at hl158
   have gq12 : ∀ w, More w0 Φ B146 w → More w0 Φ [] w := fun w q => More.mono (fun w m => hB147 w (m)) q
   replace v3 := v3.mono gq12
   replace h5 := h5.mono (Ar8Rd.mono gq12)
   replace h10 := LogRd.mono gq12 _ _ h10
   replace v8 := v8.mono gq12
   have m164 := o154.mx
   refine Z4 (Z2 (Z0 (RV.lss rfl rfl) rfl (Z7 (.bool (decide (n155 < a0.topics.length))) (congrArg Value.bool (decide_eq_decide.2 (by omega))) (Z6 (Z1 (Z4 ?_))))))
   by_cases h165 : n155 < a0.topics.length
   ·replace hl158 := if_t hl158 h165
    refine Z13 rfl (decide_eq_true h165) (CW.skip (Z1 (Z4 (CW.block (Z4 (Z2 ?_))))))
    obtain ⟨x166, hx167, hl158⟩ := Z100 hl158
    have hl168 := Z113 hx167
    refine Z0 (Z105 (n155) rfl rfl rfl rfl rfl (v3.isSome (by decide) hl168) (by omega)) rfl ?_
    obtain ⟨cs169, h170, h171⟩ := h5.get Ar8Rd.len hx167
    have h170a := h170
    subst h170a
    refine Z0 (Z110 rfl rfl rfl rfl (fun w m => v3.load (Z103 hΦ 3 m rfl) h171) ((Z101 _).trans Zv)) rfl (OW.alloc (l := (u8s (Vector.replicate 32 0#8).toList)) rfl (by rw [Vector.toList_replicate, ← Z135]; rfl) rfl (fun b172 => (Z28 (Z104 rfl rfl rfl (Z125 _) rfl ((Z101 _).trans Zv) ((Z101 _).trans Zv)) (Z6 (Z1 (Z2 (Z0 (Z3 rfl) rfl (Z20 (M' := (ob151, blk (cs149 ++ r153) 30) :: (some b14, blk [.bool false, .slice none 0 0, .slice none 0 0] 30) :: (some b13, blk (⟨a0.address, .slice A1 a0.topics.length c2, .slice A6 a0.data.length c7⟩ : LogC).C 27) :: (((some b172, blk (u8s x166.toList) 51) :: B146) ++ N)) (fun w m => m.pick [1, 2, 3, 0] 4 rfl rfl) ?_))))))))
    have gq13 : ∀ w, More w0 Φ ((some b172, blk (u8s x166.toList) 51) :: B146) w → More w0 Φ B146 w := fun w q => More.mono (fun w m => (m).tail) q
    replace v3 := v3.mono gq13
    replace h5 := h5.mono (Ar8Rd.mono gq13)
    replace h150 := h150.mono (ItRd.mono gq13)
    replace h10 := LogRd.mono gq13 _ _ h10
    replace v8 := v8.mono gq13
    have v173 : View (More w0 Φ ((some b172, blk (u8s x166.toList) 51) :: B146)) (some ⟨b172, 0, none⟩) x166.toList.length 32 1 (u8s x166.toList) := View.arr (w0 := w0) (te := 51) (fun w q => q.2.sublist (List.singleton_sublist.2 (List.mem_cons_self ..))) (by decide)
    refine Z0 (RV.arr_all rfl rfl rfl) rfl ?_
    refine Z7 (.slice (some ⟨b172, 0, none⟩) x166.toList.length 32) (by rw [Zv]; try rfl) ?_
    have v174 := v173
    have m175 := v174.mx
    obtain ⟨x177, hx176, hl158⟩ := Z100 hl158
    refine Z12 Try.call19 rfl (Z140 w0 (More w0 Φ ((some b172, blk (u8s x166.toList) 51) :: B146)) ((ob151, blk (cs149 ++ r153) 30) :: (some b14, blk [.bool false, .slice none 0 0, .slice none 0 0] 30) :: (some b13, blk (⟨a0.address, .slice A1 a0.topics.length c2, .slice A6 a0.data.length c7⟩ : LogC).C 27) :: (((some b172, blk (u8s x166.toList) 51) :: B146) ++ N)) (fun w m => Z103 hΦ 3 m rfl) (some ⟨b172, 0, none⟩) 32 x166.toList x177 v174 hx176) rfl rfl ?_
    rintro L181 M182 ⟨B178, cs179, h180, e183, e184⟩
    rw [e183, e184]
    clear e183 e184 L181 M182
    refine Z20 (M' := ((ob151, blk (cs149 ++ r153) 30) :: (some b14, blk [.bool false, .slice none 0 0, .slice none 0 0] 30) :: (some b13, blk (⟨a0.address, .slice A1 a0.topics.length c2, .slice A6 a0.data.length c7⟩ : LogC).C 27) :: ((B178 ++ ((some b172, blk (u8s x166.toList) 51) :: B146)) ++ N))) (fun w m => by have h := Z107 (A := B178) m 0 3 rfl rfl; exact h) ?_
    have gq14 : ∀ w, More w0 Φ (B178 ++ ((some b172, blk (u8s x166.toList) 51) :: B146)) w → More w0 Φ ((some b172, blk (u8s x166.toList) 51) :: B146) w := fun w q => More.mono (fun w m => (m).appR) q
    replace v3 := v3.mono gq14
    replace h5 := h5.mono (Ar8Rd.mono gq14)
    replace h150 := h150.mono (ItRd.mono gq14)
    replace v174 := v174.mono gq14
    replace h10 := LogRd.mono gq14 _ _ h10
    replace v8 := v8.mono gq14
    replace h180 := ItRd.mono (Ψ := (More w0 Φ (B178 ++ ((some b172, blk (u8s x166.toList) 51) :: B146)))) (fun w q => Z117 q) _ _ h180
    have h194 := h180
    obtain ⟨A185, c186, A188, c189, cs191, e193, v187, v190, h192⟩ := ItRd.opn h180
    subst e193
    have m195 := v187.mx
    have m196 := v190.mx
    have m197 := v187.mx
    have m198 := v190.mx
    refine OW.ofN (NV.bsA rfl rfl (by intro x hx; simp at hx; subst hx; exact rfl) rfl rfl rfl (by decide) (by decide) rfl) rfl (fun b199 => ?_)
    have h202 : Reps (ItRd (More w0 Φ (B178 ++ ((some b172, blk (u8s x166.toList) 51) :: B146)))) (([.bool (x177.list), .slice A185 x177.data.length c186, .slice A188 x177.items.length c189] : List Value)) [x177] := Reps.one h194
    refine Z20 (M' := (((some b199), blk ((([.bool (x177.list), .slice A185 x177.data.length c186, .slice A188 x177.items.length c189] : List Value)) ++ []) 30) :: (ob151, blk (cs149 ++ r153) 30) :: (some b14, blk [.bool false, .slice none 0 0, .slice none 0 0] 30) :: (some b13, blk (⟨a0.address, .slice A1 a0.topics.length c2, .slice A6 a0.data.length c7⟩ : LogC).C 27) :: ((B178 ++ ((some b172, blk (u8s x166.toList) 51) :: B146)) ++ N))) (fun w m => m) ?_
    have o200 : OwnS (some b199) ([x177] : List (It)).length 1 3 (([.bool (x177.list), .slice A185 x177.data.length c186, .slice A188 x177.items.length c189] : List Value)) [] := ⟨by simp [ItRd], by simp [ItRd], (fun h => nomatch h), by simp⟩
    have mx_o200 := o200.mx
    refine Z7 (sl (some b199) 0 ([x177] : List (It)).length 1) (rfl) (OW.rot1 ?_)
    obtain ⟨g203, hl158⟩ := Z116 hl158
    have h208 := h150.app h202
    refine OW.appendOwn (s := 3) rfl rfl rfl rfl rfl rfl o154 (fun w m => m.rd0 (List.Mem.tail _ Zh) (fun e => o200.nilc (by decide) e)) o200.n (h202.cell1 ItRd.one) (o200.zeroO (by decide)) (by decide) (by decide) (by first | omega | (simp only [i30, List.length_nil]; omega)) rfl rfl ((l148 ++ ([x177] : List (It))).length) (cs149 ++ (([.bool (x177.list), .slice A185 x177.data.length c186, .slice A188 x177.items.length c189] : List Value))) (List.length_append ..).symm rfl (fun ob204 r205 c206 o207 => ?_)
    have m209 := o207.mx
    refine Z0 (Z5 rfl) rfl (Z6 (Z27 (Z1 (Z2 (Z0 (RV.add rfl rfl (by omega)) rfl (Z7 (.int .i64 (((n155 + 1) : Nat) : Int)) (by first | rfl | (congr 1) | (congr 1; omega)) (Z0 (Z3 rfl) rfl (Z6 ?_))))))))
    exact Z109 (k' := k157) (Nat.lt_succ_self _) ⟨(l148 ++ ([x177] : List (It))), (n155 + 1), (B178 ++ ((some b172, blk (u8s x166.toList) 51) :: B146)), (cs149 ++ (([.bool (x177.list), .slice A185 x177.data.length c186, .slice A188 x177.items.length c189] : List Value))), ob204, c206, r205, hl158, (fun w m => hB147 w (((m).appR).tail)), h208, o207, (by omega), rfl, rfl⟩ ⟨rfl, rfl, rfl, rfl, rfl, rfl, trivial⟩ (fun w m => m.pick [0, 2, 3] 4 rfl rfl)
   ·replace hl158 := if_f hl158 h165
    refine Z14 rfl (decide_eq_false h165) (CW.exit (Z9 (Z9 (Z15 ?_))))
    exact QW.join ⟨l148, B146, cs149, ob151, c152, r153, (Zi hl158).symm, (fun w m => hB147 w (m)), h150, o154, rfl, rfl⟩ ⟨rfl, rfl, rfl, trivial⟩ (fun w m => m.pick [0, 1, 2] 3 rfl rfl)
theorem waybilllaw17_same_does (w0 : World) (Φ : Ctx) (N : List Ent) (hΦ : ∀ w, Mem w0 w N → Φ w) (A0_ : Option Addr) (c0_ : Nat) (a0 : List (BitVec 8)) (A1_ : Option Addr) (c1_ : Nat) (a1 : List (BitVec 8)) (res0 : Bool) (va0 : View Φ A0_ a0.length c0_ 1 (u8s a0)) (va1 : View Φ A1_ a1.length c1_ 1 (u8s a1)) (hf : waybilllaw17_same a0 a1 = some res0) : DoesG Try.prog 32 [.slice A0_ a0.length c0_, .slice A1_ a1.length c1_] w0 [] N (fun v G => v = .bool res0) := by
 unfold waybilllaw17_same at hf
 replace va0 := va0.mono (Ψ := More w0 Φ []) (fun w q => q.1)
 replace va1 := va1.mono (Ψ := More w0 Φ []) (fun w q => q.1)
 have m1 := va0.mx
 have m2 := va1.mx
 refine DoesG.enter Try.func32 rfl Try.ntmps32 rfl (M := (([] ++ N))) rfl (Z4 (Z2 (Z0 (Z5 rfl) rfl (Z6 (Z1 (Z4 (Z4 (Z2 (Z0 (Z3 rfl) rfl (Z0 (RV.len rfl rfl) rfl (Z0 (Z3 rfl) rfl (Z0 (RV.len rfl rfl) rfl ?_))))))))))))
 refine Z0 (RV.neq rfl rfl) rfl (Z7 (.bool (!decide (a0.length = a1.length))) (congrArg (fun b => Value.bool (!b)) (decide_eq_decide.2 (by omega))) (Z6 (Z1 ?_)))
 by_cases h3 : a0.length = a1.length
 ·replace hf := if_t hf h3
  refine Z14 rfl (congrArg (fun b => !b) (decide_eq_true h3)) (CW.skip (Z1 (Z4 (Z4 (Z2 (Z0 (Z5 rfl) rfl (Z6 (Z1 ?_))))))))
  obtain ⟨q4, hq5, hf⟩ := Z100 hf
  refine Z115 (fun L' M' => q4 = Lp.go () ∧ L' = [] ∧ M' = (([] ++ N))) ?_ ?_
  ·rintro L7 M8 ⟨e6, e9, e10⟩
   rw [e9, e10]
   clear e9 e10 L7 M8
   clear hq5
   rw [e6] at hf
   clear e6
   try dsimp only at hf
   refine Z1 (Z4 (Z2 (Z0 (Z5 rfl) rfl (Z6 (Z1 (CW.ret ?_))))))
   have e0 := Zi hf
   subst e0
   refine Z102 (rs := [.tmp 4]) ([.bool true]) ([]) rfl ?_ rfl ?_ ?_ _ (.inl rfl)
   ·exact ⟨rfl, trivial⟩
   ·exact rfl
   ·exact (fun w m => m)
  ·skip
   refine CW.block (Z114 (fun k L' M' => ∃ n11 : Nat, (waybilllaw17_same.l1 a0 a1 k n11) = some q4 ∧ (n11 ≤ 9223372036854775807) ∧ L' = [(0, .slice A0_ a0.length c0_), (1, .slice A1_ a1.length c1_), (5, .int .i64 ((n11 : Nat) : Int))] ∧ M' = (([] ++ N))) (k0 := (a0.length - 0 + 2)) ⟨0, hq5, (by omega), rfl, rfl⟩ ⟨rfl, rfl, rfl, trivial⟩ (fun w m => m.pick [] 0 rfl rfl) ?_)
   clear hq5
   rintro k13 L16 M17 ⟨n11, hl14, b12, e18, e19⟩
   rw [e18, e19]
   clear e18 e19 L16 M17
   rcases k13 with _ | k13
   ·rw [waybilllaw17_same.l1] at hl14; cases hl14
   rw [waybilllaw17_same.l1] at hl14
   refine Z4 (Z4 (Z2 (Z0 (Z3 rfl) rfl (Z0 (Z3 rfl) rfl (Z0 (RV.len rfl rfl) rfl (Z0 (RV.lss rfl rfl) rfl (Z7 (.bool (decide (n11 < a0.length))) (congrArg Value.bool (decide_eq_decide.2 (by omega))) (Z6 (Z1 ?_)))))))))
   by_cases h20 : n11 < a0.length
   ·replace hl14 := if_t hl14 h20
    refine Z13 rfl (decide_eq_true h20) (CW.skip (Z1 (Z4 (CW.block (Z4 (Z134 9 mixed (by kernel_rfl) rfl (Z18 0 rfl (by kernel_rfl) rfl (Z3 rfl) rfl (Z18 1 rfl (by kernel_rfl) rfl (Z3 rfl) rfl ?_))))))))
    obtain ⟨x21, hx22, hl14⟩ := Z100 hl14
    have hl23 := Z113 hx22
    refine Z18 2 rfl (by kernel_rfl) rfl (RV.idx_r (n11) rfl rfl rfl rfl rfl (va0.isSome (by decide) hl23) (by omega)) rfl (Z18 3 rfl (by kernel_rfl) rfl (Z21 rfl rfl rfl (fun w m => va0.cell (Z103 hΦ 0 m rfl) (u8s_at hx22))) rfl (Z18 4 rfl (by kernel_rfl) rfl (Z3 rfl) rfl (Z18 5 rfl (by kernel_rfl) rfl (Z3 rfl) rfl ?_)))
    obtain ⟨x24, hx25, hl14⟩ := Z100 hl14
    have hl26 := Z113 hx25
    refine Z18 6 rfl (by kernel_rfl) rfl (RV.idx_r (n11) rfl rfl rfl rfl rfl (va1.isSome (by decide) hl26) (by omega)) rfl (Z18 7 rfl (by kernel_rfl) rfl (Z21 rfl rfl rfl (fun w m => va1.cell (Z103 hΦ 0 m rfl) (u8s_at hx25))) rfl (Z18 8 rfl (by kernel_rfl) rfl (RV.neq8 rfl (by first | rfl | exact lit8 _ rfl) rfl (by first | rfl | exact lit8 _ rfl)) rfl (UW.nil (by kernel_rfl) (Z6 (Z1 ?_)))))
    by_cases h27 : x21 = x24
    ·replace hl14 := if_t hl14 h27
     refine Z14 rfl (congrArg (fun b => !b) (decide_eq_true h27)) (CW.skip (Z27 (Z1 (Z2 (Z0 (Z3 rfl) rfl (Z0 (RV.add rfl rfl (by omega)) rfl (Z7 (.int .i64 (((n11 + 1) : Nat) : Int)) (by first | rfl | (congr 1) | (congr 1; omega)) (Z0 (Z5 rfl) rfl (Z6 ?_)))))))))
     exact Z109 (k' := k13) (Nat.lt_succ_self _) ⟨(n11 + 1), hl14, (by omega), rfl, rfl⟩ ⟨rfl, rfl, rfl, trivial⟩ (fun w m => m.pick [] 0 rfl rfl)
    ·replace hl14 := if_f hl14 h27
     refine Z13 rfl (congrArg (fun b => !b) (decide_eq_false h27)) (Z4 (Z2 (Z0 (Z5 rfl) rfl (Z6 (Z1 (CW.ret (Z16 (Z8 (Z8 (Z16 (Z8 ?_)))))))))))
     have hc := Zi hl14
     subst hc
     try dsimp only at hf
     refine Z8 ?_
     have e0 := Zi hf
     subst e0
     refine Z102 (rs := [.tmp 4]) ([.bool false]) ([]) rfl ?_ rfl ?_ ?_ _ (.inl rfl)
     ·exact ⟨rfl, trivial⟩
     ·exact rfl
     ·exact (fun w m => m)
   ·replace hl14 := if_f hl14 h20
    refine Z14 rfl (decide_eq_false h20) (CW.exit (Z9 (Z9 (Z15 ?_))))
    exact QW.join ⟨(Zi hl14).symm, rfl, rfl⟩ trivial (fun w m => m.pick [] 0 rfl rfl)
 ·replace hf := if_f hf h3
  refine Z13 rfl (congrArg (fun b => !b) (decide_eq_false h3)) (Z4 (Z2 (Z0 (Z5 rfl) rfl (Z6 (Z1 (CW.ret (Z8 ?_)))))))
  have e0 := Zi hf
  subst e0
  refine Z102 (rs := [.tmp 4]) ([.bool false]) ([]) rfl ?_ rfl ?_ ?_ _ (.inl rfl)
  ·exact ⟨rfl, trivial⟩
  ·exact rfl
  ·exact (fun w m => m)
theorem Z129 (w0 : World) (Φ : Ctx) (N : List Ent) (hΦ : ∀ w, Mem w0 w N → Φ w) (cs0_ : List Value) (a0 : Log) (cs1_ : List Value) (a1 : Log) (res0 : Bool) (ha0 : LogRd Φ cs0_ a0) (ha1 : LogRd Φ cs1_ a1) (hf : waybilllaw17_sameLog a0 a1 = some res0) : DoesG Try.prog 15 [.agg cs0_.toArray, .agg cs1_.toArray] w0 [] N (fun v G => v = .bool res0) := by
 unfold waybilllaw17_sameLog at hf
 replace ha0 := LogRd.mono (Ψ := More w0 Φ []) (fun w q => q.1) _ _ ha0
 have h10 := ha0
 obtain ⟨A1, c2, cs4, A6, c7, e9, v3, h5, v8⟩ := LogRd.opn ha0
 subst e9
 have m11 := v3.mx
 have m12 := v8.mx
 replace ha1 := LogRd.mono (Ψ := More w0 Φ []) (fun w q => q.1) _ _ ha1
 have h22 := ha1
 obtain ⟨A13, c14, cs16, A18, c19, e21, v15, h17, v20⟩ := LogRd.opn ha1
 subst e21
 have m23 := v15.mx
 have m24 := v20.mx
 refine DoesG.enter Try.func15 rfl Try.ntmps15 rfl (M := (([] ++ N))) rfl (Z4 (Z2 (OW.boxA rfl rfl (fun b25 => (OW.boxA rfl rfl (fun b26 => (Z0 (Z5 rfl) rfl (Z6 (Z1 (Z4 (Z4 ?_)))))))))))
 obtain ⟨q27, hq28, hf⟩ := Z100 hf
 refine Z115 (fun L' M' => ∃ p29 : Bool, q27 = p29 ∧ L' = [(2, ptr (some b25) 0), (3, ptr (some b26) 0), (19, .bool (p29))] ∧ M' = ((some b26, blk (⟨a1.address, .slice A13 a1.topics.length c14, .slice A18 a1.data.length c19⟩ : LogC).C 27) :: (some b25, blk (⟨a0.address, .slice A1 a0.topics.length c2, .slice A6 a0.data.length c7⟩ : LogC).C 27) :: ([] ++ N))) ?_ ?_
 ·rintro L31 M32 ⟨p29, e30, e33, e34⟩
  rw [e33, e34]
  clear e33 e34 L31 M32
  clear hq28
  rw [e30] at hf
  clear e30
  try dsimp only at hf
  refine Z1 ?_
  by_cases h35 : p29 = true
  ·replace hf := if_t hf h35
   refine Z13 rfl (h35) (Z4 (Z2 (Z0 (Z5 rfl) rfl (Z6 (Z1 (CW.ret (Z8 ?_)))))))
   have e0 := Zi hf
   subst e0
   refine Z102 (rs := [.tmp 4]) ([.bool false]) ((some b26, blk (⟨a1.address, .slice A13 a1.topics.length c14, .slice A18 a1.data.length c19⟩ : LogC).C 27) :: (some b25, blk (⟨a0.address, .slice A1 a0.topics.length c2, .slice A6 a0.data.length c7⟩ : LogC).C 27) :: []) rfl ?_ rfl ?_ ?_ _ (.inl rfl)
   ·exact ⟨rfl, trivial⟩
   ·exact rfl
   ·exact (fun w m => m)
  ·replace hf := if_f hf h35
   refine Z14 rfl (Bool.eq_false_iff.2 h35) (CW.skip (Z1 (Z4 (Z4 (Z2 (Z0 (Z5 rfl) rfl (Z6 (Z1 ?_))))))))
   obtain ⟨q36, hq37, hf⟩ := Z100 hf
   refine Z115 (fun L' M' => q36 = Lp.go () ∧ L' = [(2, ptr (some b25) 0), (3, ptr (some b26) 0)] ∧ M' = ((some b26, blk (⟨a1.address, .slice A13 a1.topics.length c14, .slice A18 a1.data.length c19⟩ : LogC).C 27) :: (some b25, blk (⟨a0.address, .slice A1 a0.topics.length c2, .slice A6 a0.data.length c7⟩ : LogC).C 27) :: ([] ++ N))) ?_ ?_
   ·rintro L39 M40 ⟨e38, e41, e42⟩
    rw [e41, e42]
    clear e41 e42 L39 M40
    clear hq37
    rw [e38] at hf
    clear e38
    try dsimp only at hf
    refine Z1 (Z4 (Z2 (Z0 (Z30 rfl rfl rfl rfl) rfl (Z7 (ptr (some b25) 21) rfl (Z0 (Z29 rfl (List.Mem.tail _ Zh) rfl rfl rfl (Z124 (⟨a0.address, .slice A1 a0.topics.length c2, .slice A6 a0.data.length c7⟩ : LogC))) rfl (Z0 (Z30 rfl rfl rfl rfl) rfl (Z7 (ptr (some b26) 21) rfl (Z0 (Z29 rfl Zh rfl rfl rfl (Z124 (⟨a1.address, .slice A13 a1.topics.length c14, .slice A18 a1.data.length c19⟩ : LogC))) rfl ?_))))))))
    obtain ⟨x44, hx43, hf⟩ := Z100 hf
    refine Z12 Try.call32 rfl (waybilllaw17_same_does w0 (More w0 Φ []) ((some b26, blk (⟨a1.address, .slice A13 a1.topics.length c14, .slice A18 a1.data.length c19⟩ : LogC).C 27) :: (some b25, blk (⟨a0.address, .slice A1 a0.topics.length c2, .slice A6 a0.data.length c7⟩ : LogC).C 27) :: ([] ++ N)) (fun w m => Z103 hΦ 2 m rfl) A6 c7 a0.data A18 c19 a1.data x44 v8 v20 hx43) rfl rfl ?_
    rintro _ G45 rfl
    refine Z20 (M' := ((some b26, blk (⟨a1.address, .slice A13 a1.topics.length c14, .slice A18 a1.data.length c19⟩ : LogC).C 27) :: (some b25, blk (⟨a0.address, .slice A1 a0.topics.length c2, .slice A6 a0.data.length c7⟩ : LogC).C 27) :: ([] ++ N))) (fun w m => m.appR) (Z0 (Z5 rfl) rfl (Z6 (Z1 (CW.ret ?_))))
    have e0 := Zi hf
    subst e0
    refine Z102 (rs := [.tmp 4]) ([.bool (x44)]) ((some b26, blk (⟨a1.address, .slice A13 a1.topics.length c14, .slice A18 a1.data.length c19⟩ : LogC).C 27) :: (some b25, blk (⟨a0.address, .slice A1 a0.topics.length c2, .slice A6 a0.data.length c7⟩ : LogC).C 27) :: []) rfl ?_ rfl ?_ ?_ _ (.inl rfl)
    ·exact ⟨rfl, trivial⟩
    ·exact rfl
    ·exact (fun w m => m)
   ·skip
    refine CW.block (Z114 (fun k L' M' => ∃ n47 : Nat, (waybilllaw17_sameLog.l1 a0 a1 k n47) = some q36 ∧ (n47 ≤ 9223372036854775807) ∧ L' = [(2, ptr (some b25) 0), (3, ptr (some b26) 0), (5, .int .i64 ((n47 : Nat) : Int))] ∧ M' = ((some b26, blk (⟨a1.address, .slice A13 a1.topics.length c14, .slice A18 a1.data.length c19⟩ : LogC).C 27) :: (some b25, blk (⟨a0.address, .slice A1 a0.topics.length c2, .slice A6 a0.data.length c7⟩ : LogC).C 27) :: ([] ++ N))) (k0 := (a0.topics.length - 0 + 2)) ⟨0, hq37, (by omega), rfl, rfl⟩ ⟨rfl, rfl, rfl, trivial⟩ (fun w m => m.pick [0, 1] 2 rfl rfl) ?_)
    clear hq37
    rintro k49 L52 M53 ⟨n47, hl50, b48, e54, e55⟩
    rw [e54, e55]
    clear e54 e55 L52 M53
    rcases k49 with _ | k49
    ·rw [waybilllaw17_sameLog.l1] at hl50; cases hl50
    rw [waybilllaw17_sameLog.l1] at hl50
    refine Z4 (Z4 (Z2 (Z0 (Z3 rfl) rfl (Z0 (Z30 rfl rfl rfl rfl) rfl (Z7 (ptr (some b25) 20) rfl (Z0 (Z29 rfl (List.Mem.tail _ Zh) rfl rfl rfl (Z106 (⟨a0.address, .slice A1 a0.topics.length c2, .slice A6 a0.data.length c7⟩ : LogC))) rfl (Z0 (RV.len rfl rfl) rfl (Z0 (RV.lss rfl rfl) rfl (Z7 (.bool (decide (n47 < a0.topics.length))) (congrArg Value.bool (decide_eq_decide.2 (by omega))) ?_)))))))))
    refine Z6 (Z1 ?_)
    by_cases h56 : n47 < a0.topics.length
    ·replace hl50 := if_t hl50 h56
     refine Z13 rfl (decide_eq_true h56) (CW.skip (Z1 (Z4 (CW.block (Z4 (Z134 11 mixed (by kernel_rfl) rfl (Z18 0 rfl (by kernel_rfl) rfl (Z30 rfl rfl rfl rfl) rfl (UW.slot (ptr (some b25) 20) rfl (Z18 1 rfl (by kernel_rfl) rfl (Z29 rfl (List.Mem.tail _ Zh) rfl rfl rfl (Z106 (⟨a0.address, .slice A1 a0.topics.length c2, .slice A6 a0.data.length c7⟩ : LogC))) rfl (Z18 2 rfl (by kernel_rfl) rfl (Z3 rfl) rfl ?_))))))))))
     obtain ⟨x57, hx58, hl50⟩ := Z100 hl50
     have hl59 := Z113 hx58
     refine Z18 3 rfl (by kernel_rfl) rfl (Z105 (n47) rfl rfl rfl rfl rfl (v3.isSome (by decide) hl59) (by omega)) rfl ?_
     obtain ⟨cs60, h61, h62⟩ := h5.get Ar8Rd.len hx58
     have h61a := h61
     subst h61a
     refine Z18 4 rfl (by kernel_rfl) rfl (Z110 rfl rfl rfl rfl (fun w m => v3.load (Z103 hΦ 2 m rfl) h62) ((Z101 _).trans Zv)) rfl (Z18 5 rfl (by kernel_rfl) rfl (Z30 rfl rfl rfl rfl) rfl (UW.slot (ptr (some b26) 20) rfl (Z18 6 rfl (by kernel_rfl) rfl (Z29 rfl Zh rfl rfl rfl (Z106 (⟨a1.address, .slice A13 a1.topics.length c14, .slice A18 a1.data.length c19⟩ : LogC))) rfl (Z18 7 rfl (by kernel_rfl) rfl (Z3 rfl) rfl ?_))))
     obtain ⟨x63, hx64, hl50⟩ := Z100 hl50
     have hl65 := Z113 hx64
     refine Z18 8 rfl (by kernel_rfl) rfl (Z105 (n47) rfl rfl rfl rfl rfl (v15.isSome (by decide) hl65) (by omega)) rfl ?_
     obtain ⟨cs66, h67, h68⟩ := h17.get Ar8Rd.len hx64
     have h67a := h67
     subst h67a
     refine Z18 9 rfl (by kernel_rfl) rfl (Z110 rfl rfl rfl rfl (fun w m => v15.load (Z103 hΦ 2 m rfl) h68) ((Z101 _).trans Zv)) rfl (Z18 10 rfl (by kernel_rfl) rfl (RV.neA8 rfl rfl rfl rfl rfl rfl (Zv) (Zv)) rfl (UW.slot (.bool (!decide (x57 = x63))) (congrArg (fun b => Value.bool (!b)) (decide_eq_decide.2 Vector.toList_inj)) (UW.nil (by kernel_rfl) (Z6 (Z1 ?_)))))
     by_cases h69 : x57 = x63
     ·replace hl50 := if_t hl50 h69
      refine Z14 rfl (congrArg (fun b => !b) (decide_eq_true h69)) (CW.skip (Z27 (Z1 (Z2 (Z0 (Z3 rfl) rfl (Z0 (RV.add rfl rfl (by omega)) rfl (Z7 (.int .i64 (((n47 + 1) : Nat) : Int)) (by first | rfl | (congr 1) | (congr 1; omega)) (Z0 (Z5 rfl) rfl (Z6 ?_)))))))))
      exact Z109 (k' := k49) (Nat.lt_succ_self _) ⟨(n47 + 1), hl50, (by omega), rfl, rfl⟩ ⟨rfl, rfl, rfl, trivial⟩ (fun w m => m.pick [0, 1] 2 rfl rfl)
     ·replace hl50 := if_f hl50 h69
      refine Z13 rfl (congrArg (fun b => !b) (decide_eq_false h69)) (Z4 (Z2 (Z0 (Z5 rfl) rfl (Z6 (Z1 (CW.ret (Z16 (Z8 (Z8 (Z16 (Z8 ?_)))))))))))
      have hc := Zi hl50
      subst hc
      try dsimp only at hf
      refine Z8 ?_
      have e0 := Zi hf
      subst e0
      refine Z102 (rs := [.tmp 4]) ([.bool false]) ((some b26, blk (⟨a1.address, .slice A13 a1.topics.length c14, .slice A18 a1.data.length c19⟩ : LogC).C 27) :: (some b25, blk (⟨a0.address, .slice A1 a0.topics.length c2, .slice A6 a0.data.length c7⟩ : LogC).C 27) :: []) rfl ?_ rfl ?_ ?_ _ (.inl rfl)
      ·exact ⟨rfl, trivial⟩
      ·exact rfl
      ·exact (fun w m => m)
    ·replace hl50 := if_f hl50 h56
     refine Z14 rfl (decide_eq_false h56) (CW.exit (Z9 (Z9 (Z15 ?_))))
     exact QW.join ⟨(Zi hl50).symm, rfl, rfl⟩ ⟨rfl, rfl, trivial⟩ (fun w m => m.pick [0, 1] 2 rfl rfl)
 ·skip
  refine Z2 (Z0 (Z30 rfl rfl rfl rfl) rfl (Z7 (ptr (some b25) 0) rfl (Z0 (RV.loadAo rfl (List.Mem.tail _ Zh) rfl rfl rfl rfl (Z121 (⟨a0.address, .slice A1 a0.topics.length c2, .slice A6 a0.data.length c7⟩ : LogC)) ((Z101 _).trans Zv)) rfl (Z0 (Z30 rfl rfl rfl rfl) rfl (Z7 (ptr (some b26) 0) rfl (Z0 (RV.loadAo rfl Zh rfl rfl rfl rfl (Z121 (⟨a1.address, .slice A13 a1.topics.length c14, .slice A18 a1.data.length c19⟩ : LogC)) ((Z101 _).trans Zv)) rfl (Z0 (RV.neA8 rfl rfl rfl rfl rfl rfl (Zv) (Zv)) rfl ?_)))))))
  refine Z7 (.bool (!decide (a0.address = a1.address))) (congrArg (fun b => Value.bool (!b)) (decide_eq_decide.2 Vector.toList_inj)) (Z0 (Z3 rfl) rfl ?_)
  by_cases h70 : a0.address = a1.address
  ·replace hq28 := if_t hq28 h70
   refine Z7 (.bool false) (congrArg Value.bool (congrArg (fun b => !b) (decide_eq_true h70))) (Z24 rfl (Z0 (Z30 rfl rfl rfl rfl) rfl (Z7 (ptr (some b25) 20) rfl (Z24 rfl (Z0 (Z29 rfl (List.Mem.tail _ Zh) rfl rfl rfl (Z106 (⟨a0.address, .slice A1 a0.topics.length c2, .slice A6 a0.data.length c7⟩ : LogC))) rfl (Z24 rfl (Z0 (RV.len rfl rfl) rfl ?_)))))))
   refine Z24 rfl (Z0 (Z30 rfl rfl rfl rfl) rfl (Z7 (ptr (some b26) 20) rfl (Z24 rfl (Z0 (Z29 rfl Zh rfl rfl rfl (Z106 (⟨a1.address, .slice A13 a1.topics.length c14, .slice A18 a1.data.length c19⟩ : LogC))) rfl (Z24 rfl (Z0 (RV.len rfl rfl) rfl (Z24 rfl ?_)))))))
   refine Z0 (RV.neq rfl rfl) rfl (Z7 (.bool (!decide (a0.topics.length = a1.topics.length))) (congrArg (fun b => Value.bool (!b)) (decide_eq_decide.2 (by omega))) (Z0 (Z108 rfl rfl rfl) rfl (Z6 ?_)))
   exact QW.join ⟨(!decide (a0.topics.length = a1.topics.length)), (Zi hq28).symm, rfl, rfl⟩ ⟨rfl, rfl, rfl, trivial⟩ (fun w m => m.pick [0, 1] 2 rfl rfl)
  ·replace hq28 := if_f hq28 h70
   refine Z7 (.bool true) (congrArg Value.bool (congrArg (fun b => !b) (decide_eq_false h70))) (Z23 rfl rfl rfl (Z23 rfl rfl rfl (Z23 rfl rfl rfl (Z23 rfl rfl rfl (Z23 rfl rfl rfl (Z23 rfl rfl rfl (Z23 rfl rfl rfl ?_)))))))
   refine Z0 (Z112 rfl rfl rfl) rfl (Z6 ?_)
   exact QW.join ⟨true, (Zi hq28).symm, rfl, rfl⟩ ⟨rfl, rfl, rfl, trivial⟩ (fun w m => m.pick [0, 1] 2 rfl rfl)
theorem waybilllaw17_sameLogs_does (w0 : World) (Φ : Ctx) (N : List Ent) (hΦ : ∀ w, Mem w0 w N → Φ w) (A0_ : Option Addr) (c0_ : Nat) (cs0_ : List Value) (a0 : List (Log)) (A1_ : Option Addr) (c1_ : Nat) (cs1_ : List Value) (a1 : List (Log)) (res0 : Bool) (va0 : View Φ A0_ a0.length c0_ 22 cs0_) (ha0 : Reps (LogRd Φ) cs0_ a0) (va1 : View Φ A1_ a1.length c1_ 22 cs1_) (ha1 : Reps (LogRd Φ) cs1_ a1) (hf : waybilllaw17_sameLogs a0 a1 = some res0) : DoesG Try.prog 24 [.slice A0_ a0.length c0_, .slice A1_ a1.length c1_] w0 [] N (fun v G => v = .bool res0) := by
 unfold waybilllaw17_sameLogs at hf
 replace va0 := va0.mono (Ψ := More w0 Φ []) (fun w q => q.1)
 replace va1 := va1.mono (Ψ := More w0 Φ []) (fun w q => q.1)
 replace ha0 := ha0.mono (LogRd.mono (Ψ := More w0 Φ []) (fun w q => q.1))
 replace ha1 := ha1.mono (LogRd.mono (Ψ := More w0 Φ []) (fun w q => q.1))
 have m1 := va0.mx
 have m2 := va1.mx
 refine DoesG.enter Try.func24 rfl Try.ntmps24 rfl (M := (([] ++ N))) rfl (Z4 (Z2 (Z0 (Z5 rfl) rfl (Z6 (Z1 (Z4 (Z4 (Z2 (Z0 (Z3 rfl) rfl (Z0 (RV.len rfl rfl) rfl (Z0 (Z3 rfl) rfl (Z0 (RV.len rfl rfl) rfl ?_))))))))))))
 refine Z0 (RV.neq rfl rfl) rfl (Z7 (.bool (!decide (a0.length = a1.length))) (congrArg (fun b => Value.bool (!b)) (decide_eq_decide.2 (by omega))) (Z6 (Z1 ?_)))
 by_cases h3 : a0.length = a1.length
 ·replace hf := if_t hf h3
  refine Z14 rfl (congrArg (fun b => !b) (decide_eq_true h3)) (CW.skip (Z1 (Z4 (Z4 (Z2 (Z0 (Z5 rfl) rfl (Z6 (Z1 ?_))))))))
  obtain ⟨q4, hq5, hf⟩ := Z100 hf
  refine Z115 (fun L' M' => q4 = Lp.go () ∧ L' = [] ∧ M' = (([] ++ N))) ?_ ?_
  ·rintro L7 M8 ⟨e6, e9, e10⟩
   rw [e9, e10]
   clear e9 e10 L7 M8
   clear hq5
   rw [e6] at hf
   clear e6
   try dsimp only at hf
   refine Z1 (Z4 (Z2 (Z0 (Z5 rfl) rfl (Z6 (Z1 (CW.ret ?_))))))
   have e0 := Zi hf
   subst e0
   refine Z102 (rs := [.tmp 4]) ([.bool true]) ([]) rfl ?_ rfl ?_ ?_ _ (.inl rfl)
   ·exact ⟨rfl, trivial⟩
   ·exact rfl
   ·exact (fun w m => m)
  ·skip
   refine CW.block (Z114 (fun k L' M' => ∃ n11 : Nat, (waybilllaw17_sameLogs.l1 a0 a1 k n11) = some q4 ∧ (n11 ≤ 9223372036854775807) ∧ L' = [(0, .slice A0_ a0.length c0_), (1, .slice A1_ a1.length c1_), (5, .int .i64 ((n11 : Nat) : Int))] ∧ M' = (([] ++ N))) (k0 := (a0.length - 0 + 2)) ⟨0, hq5, (by omega), rfl, rfl⟩ ⟨rfl, rfl, rfl, trivial⟩ (fun w m => m.pick [] 0 rfl rfl) ?_)
   clear hq5
   rintro k13 L16 M17 ⟨n11, hl14, b12, e18, e19⟩
   rw [e18, e19]
   clear e18 e19 L16 M17
   rcases k13 with _ | k13
   ·rw [waybilllaw17_sameLogs.l1] at hl14; cases hl14
   rw [waybilllaw17_sameLogs.l1] at hl14
   refine Z4 (Z4 (Z2 (Z0 (Z3 rfl) rfl (Z0 (Z3 rfl) rfl (Z0 (RV.len rfl rfl) rfl (Z0 (RV.lss rfl rfl) rfl (Z7 (.bool (decide (n11 < a0.length))) (congrArg Value.bool (decide_eq_decide.2 (by omega))) (Z6 (Z1 ?_)))))))))
   by_cases h20 : n11 < a0.length
   ·replace hl14 := if_t hl14 h20
    refine Z13 rfl (decide_eq_true h20) (CW.skip (Z1 (Z4 (CW.block (Z4 (Z134 10 mixed (by kernel_rfl) rfl (Z18 0 rfl (by kernel_rfl) rfl (Z3 rfl) rfl (Z18 1 rfl (by kernel_rfl) rfl (Z3 rfl) rfl ?_))))))))
    obtain ⟨x21, hx22, hl14⟩ := Z100 hl14
    have hl23 := Z113 hx22
    refine Z18 2 rfl (by kernel_rfl) rfl (Z105 (n11) rfl rfl rfl rfl rfl (va0.isSome (by decide) hl23) (by omega)) rfl ?_
    obtain ⟨cs24, h25, h26⟩ := ha0.get LogRd.len hx22
    have h36 := h25
    obtain ⟨A27, c28, cs30, A32, c33, e35, v29, h31, v34⟩ := LogRd.opn h25
    subst e35
    have m37 := v29.mx
    have m38 := v34.mx
    refine Z18 3 rfl (by kernel_rfl) rfl (Z110 rfl rfl rfl rfl (fun w m => va0.load (Z103 hΦ 0 m rfl) h26) (LogC.C_length _)) rfl (Z18 4 rfl (by kernel_rfl) rfl (Z3 rfl) rfl (Z18 5 rfl (by kernel_rfl) rfl (Z3 rfl) rfl ?_))
    obtain ⟨x39, hx40, hl14⟩ := Z100 hl14
    have hl41 := Z113 hx40
    refine Z18 6 rfl (by kernel_rfl) rfl (Z105 (n11) rfl rfl rfl rfl rfl (va1.isSome (by decide) hl41) (by omega)) rfl ?_
    obtain ⟨cs42, h43, h44⟩ := ha1.get LogRd.len hx40
    have h54 := h43
    obtain ⟨A45, c46, cs48, A50, c51, e53, v47, h49, v52⟩ := LogRd.opn h43
    subst e53
    have m55 := v47.mx
    have m56 := v52.mx
    refine Z18 7 rfl (by kernel_rfl) rfl (Z110 rfl rfl rfl rfl (fun w m => va1.load (Z103 hΦ 0 m rfl) h44) (LogC.C_length _)) rfl ?_
    obtain ⟨x58, hx57, hl14⟩ := Z100 hl14
    refine Z25 8 rfl (by kernel_rfl) rfl Try.call15 rfl (fun N' hN' => Z129 w0 (More w0 Φ []) N' (fun w m => Z103 hΦ 0 (hN' w m) rfl) (⟨x21.address, .slice A27 x21.topics.length c28, .slice A32 x21.data.length c33⟩ : LogC).C x21 (⟨x39.address, .slice A45 x39.topics.length c46, .slice A50 x39.data.length c51⟩ : LogC).C x39 x58 h36 h54 hx57) rfl ?_
    rintro _ G59 rfl
    refine UW.mem (M' := (([] ++ N))) (fun w m => m.appR) (Z18 9 rfl (by kernel_rfl) rfl (Z5 rfl) rfl (UW.nil (by kernel_rfl) (Z6 (Z1 (Z4 (Z2 (Z0 (Z3 rfl) rfl (Z0 (RV.not rfl) rfl (Z6 (Z1 ?_))))))))))
    by_cases h61 : x58 = true
    ·replace hl14 := if_t hl14 h61
     refine Z14 rfl (congrArg (fun b => !b) (h61)) (CW.skip (Z27 (Z1 (Z2 (Z0 (Z3 rfl) rfl (Z0 (RV.add rfl rfl (by omega)) rfl (Z7 (.int .i64 (((n11 + 1) : Nat) : Int)) (by first | rfl | (congr 1) | (congr 1; omega)) (Z0 (Z5 rfl) rfl (Z6 ?_)))))))))
     exact Z109 (k' := k13) (Nat.lt_succ_self _) ⟨(n11 + 1), hl14, (by omega), rfl, rfl⟩ ⟨rfl, rfl, rfl, trivial⟩ (fun w m => m.pick [] 0 rfl rfl)
    ·replace hl14 := if_f hl14 h61
     refine Z13 rfl (congrArg (fun b => !b) (Bool.eq_false_iff.2 h61)) (Z4 (Z2 (Z0 (Z5 rfl) rfl (Z6 (Z1 (CW.ret (Z16 (Z8 (Z8 (Z16 (Z8 ?_)))))))))))
     have hc := Zi hl14
     subst hc
     try dsimp only at hf
     refine Z8 ?_
     have e0 := Zi hf
     subst e0
     refine Z102 (rs := [.tmp 4]) ([.bool false]) ([]) rfl ?_ rfl ?_ ?_ _ (.inl rfl)
     ·exact ⟨rfl, trivial⟩
     ·exact rfl
     ·exact (fun w m => m)
   ·replace hl14 := if_f hl14 h20
    refine Z14 rfl (decide_eq_false h20) (CW.exit (Z9 (Z9 (Z15 ?_))))
    exact QW.join ⟨(Zi hl14).symm, rfl, rfl⟩ trivial (fun w m => m.pick [] 0 rfl rfl)
 ·replace hf := if_f hf h3
  refine Z13 rfl (congrArg (fun b => !b) (decide_eq_false h3)) (Z4 (Z2 (Z0 (Z5 rfl) rfl (Z6 (Z1 (CW.ret (Z8 ?_)))))))
  have e0 := Zi hf
  subst e0
  refine Z102 (rs := [.tmp 4]) ([.bool false]) ([]) rfl ?_ rfl ?_ ?_ _ (.inl rfl)
  ·exact ⟨rfl, trivial⟩
  ·exact rfl
  ·exact (fun w m => m)
theorem Z127 (w0 : World) (Φ : Ctx) (N : List Ent) (hΦ : ∀ w, Mem w0 w N → Φ w) (b0_ : Nat) (a0 : Rdr) (a1 : Int) (new0 : Rdr) (ba1 : -9223372036854775808 ≤ a1 ∧ a1 ≤ 9223372036854775807) (hf : waybill_receipt_reader_refuse a0 a1 = some new0) : DoesG Try.prog 44 [ptr (some b0_) 0, .int .i64 a1] w0 [(some b0_, blk a0.C 62)] N (fun v G => ∃ B : List Ent, v = .tuple #[] ∧ G = (some b0_, blk new0.C 62) :: B) := by
 unfold waybill_receipt_reader_refuse at hf
 refine DoesG.enter Try.func44 rfl Try.ntmps44 rfl (M := ((some b0_, blk a0.C 62) :: ([] ++ N))) rfl (Z4 (Z2 (Z0 (Z3 rfl) rfl (Z0 (RV.nilCheck rfl) rfl (Z0 (Z30 rfl rfl rfl rfl) rfl (Z7 (ptr (some b0_) 0) rfl (Z0 (Z29 rfl Zh rfl rfl rfl (Rdr.C_err _)) rfl (Z0 (RV.eql rfl rfl) rfl ?_))))))))
 refine Z6 (Z1 ?_)
 obtain ⟨q1, hq2, hf⟩ := Z100 hf
 refine Z115 (fun L' M' => ∃ w3 : Rdr, q1 = w3 ∧ L' = [] ∧ M' = ((some b0_, blk w3.C 62) :: ([] ++ N))) ?_ ?_
 ·rintro L5 M6 ⟨w3, e4, e7, e8⟩
  rw [e7, e8]
  clear e7 e8 L5 M6
  clear hq2
  rw [e4] at hf
  clear e4
  try dsimp only at hf
  have e0 := Zi hf
  subst e0
  refine Z102 (rs := []) ([]) ((some b0_, blk w3.C 62) :: []) rfl ?_ rfl ?_ ?_ _ (.inr rfl)
  ·exact trivial
  ·exact ⟨[], rfl, rfl⟩
  ·exact (fun w m => m.pick [0] 1 rfl rfl)
 ·skip
  by_cases h9 : a0.err = (0 : Int)
  ·replace hq2 := if_t hq2 h9
   refine Z13 rfl (decide_eq_true h9) (Z2 (Z0 (Z3 rfl) rfl (Z0 (Z3 rfl) rfl (Z0 (RV.nilCheck rfl) rfl (Z0 (Z30 rfl rfl rfl rfl) rfl (Z7 (ptr (some b0_) 0) rfl (Z28 (SV.store rfl rfl rfl rfl rfl (by rw [Rdr.C_length]; omega)) ?_)))))))
   refine OW.cells ({ a0 with err := a1 } : Rdr).C (Rdr.C_err_set _ _) (Z6 ?_)
   exact QW.join ⟨({ a0 with err := a1 } : Rdr), (Zi hq2).symm, rfl, rfl⟩ trivial (fun w m => m.pick [0] 1 rfl rfl)
  ·replace hq2 := if_f hq2 h9
   refine Z14 rfl (decide_eq_false h9) (CW.skip ?_)
   exact QW.join ⟨a0, (Zi hq2).symm, rfl, rfl⟩ trivial (fun w m => m.pick [0] 1 rfl rfl)
theorem Z130 (w0 : World) (Φ : Ctx) (N : List Ent) (hΦ : ∀ w, Mem w0 w N → Φ w) (b0_ : Nat) (a0 : Rdr) (cs1_ : List Value) (a1 : It) (res0 : List (It)) (new0 : Rdr) (ha1 : ItRd Φ cs1_ a1) (hf : waybill_receipt_reader_list a0 a1 = some (res0, new0)) : DoesG Try.prog 26 [ptr (some b0_) 0, .agg cs1_.toArray] w0 [(some b0_, blk a0.C 62)] N (fun v G => ∃ B : List Ent, ∃ cr0 : List Value, ∃ or0 : Option Nat, ∃ kr0 : Nat, ∃ rr0 : List Value, (Reps (ItRd (More w0 Φ B)) cr0 res0) ∧ (OwnS or0 res0.length kr0 3 cr0 rr0) ∧ v = sl or0 0 res0.length kr0 ∧ G = (or0, blk (cr0 ++ rr0) 30) :: (some b0_, blk new0.C 62) :: B) := by
 unfold waybill_receipt_reader_list at hf
 replace ha1 := ItRd.mono (Ψ := More w0 Φ []) (fun w q => q.1) _ _ ha1
 have h10 := ha1
 obtain ⟨A1, c2, A4, c5, cs7, e9, v3, v6, h8⟩ := ItRd.opn ha1
 subst e9
 have m11 := v3.mx
 have m12 := v6.mx
 refine DoesG.enter Try.func26 rfl Try.ntmps26 rfl (M := ((some b0_, blk a0.C 62) :: ([] ++ N))) rfl (Z4 (Z2 (OW.boxA rfl rfl (fun b13 => (Z0 (Z5 rfl) rfl (Z6 (Z1 (Z4 (Z4 (Z2 (Z0 (Z3 rfl) rfl (Z0 (RV.nilCheck rfl) rfl (Z0 (Z30 rfl rfl rfl rfl) rfl ?_)))))))))))))
 refine Z7 (ptr (some b0_) 0) rfl (Z0 (Z29 rfl (List.Mem.tail _ Zh) rfl rfl rfl (Rdr.C_err _)) rfl (Z0 (RV.neq rfl rfl) rfl (Z6 (Z1 ?_))))
 by_cases h14 : a0.err = (0 : Int)
 ·replace hf := if_t hf h14
  refine Z14 rfl (congrArg (fun b => !b) (decide_eq_true h14)) (CW.skip (Z1 (Z4 (Z2 (Z0 (Z22 rfl Zh rfl rfl rfl rfl rfl) rfl ?_)))))
  obtain ⟨⟨x16, x17⟩, hx15, hf⟩ := Z100 hf
  try dsimp only at hf
  refine Z12 Try.call43 rfl (rlp_GetList_does w0 (More w0 Φ []) ((some b13, blk [.bool (a1.list), .slice A1 a1.data.length c2, .slice A4 a1.items.length c5] 30) :: (some b0_, blk a0.C 62) :: ([] ++ N)) (fun w m => Z103 hΦ 2 m rfl) [.bool (a1.list), .slice A1 a1.data.length c2, .slice A4 a1.items.length c5] a1 x16 x17 h10 hx15) rfl rfl ?_
  rintro L26 M27 ⟨B18, cs19, ob21, c22, r23, h20, o24, b25, e28, e29⟩
  rw [e28, e29]
  clear e28 e29 L26 M27
  refine Z20 (M' := ((ob21, blk (cs19 ++ r23) 30) :: (some b13, blk [.bool (a1.list), .slice A1 a1.data.length c2, .slice A4 a1.items.length c5] 30) :: (some b0_, blk a0.C 62) :: ((B18 ++ []) ++ N))) (fun w m => by have h := Z107 (A := B18) m 1 2 rfl rfl; exact h) ?_
  have gq1 : ∀ w, More w0 Φ (B18 ++ []) w → More w0 Φ [] w := fun w q => More.mono (fun w m => (m).appR) q
  replace h10 := ItRd.mono gq1 _ _ h10
  replace v3 := v3.mono gq1
  replace v6 := v6.mono gq1
  replace h8 := h8.mono (ItRd.mono gq1)
  replace h20 := h20.mono (ItRd.mono (Ψ := (More w0 Φ (B18 ++ []))) (fun w q => Z117 q))
  have m30 := o24.mx
  refine Z0 (Z3 rfl) rfl (Z0 (Z17 rfl rfl) rfl (Z7 (sl ob21 0 x16.length c22) (rfl) (Z0 (Z17 rfl rfl) rfl (Z7 (.int .i64 ((x17 : Nat) : Int)) (rfl) (Z0 (Z5 rfl) rfl (Z0 (Z5 rfl) rfl (Z6 (Z1 (Z4 (Z4 (Z2 ?_)))))))))))
  refine Z0 (Z3 rfl) rfl (Z0 (RV.neq rfl rfl) rfl (Z7 (.bool (!decide (x17 = 0))) (congrArg (fun b => Value.bool (!b)) (decide_eq_decide.2 (by omega))) (Z6 (Z1 ?_))))
  obtain ⟨q31, hq32, hf⟩ := Z100 hf
  refine Z115 (fun L' M' => ∃ w35 : Rdr, ∃ B33 : List Ent, q31 = w35 ∧ (∀ w, Mem w0 w B33 → Mem w0 w (B18 ++ [])) ∧ L' = [(5, sl ob21 0 x16.length c22)] ∧ M' = ((ob21, blk (cs19 ++ r23) 30) :: (some b0_, blk w35.C 62) :: (B33 ++ N))) ?_ ?_
  ·rintro L37 M38 ⟨w35, B33, e36, hB34, e39, e40⟩
   rw [e39, e40]
   clear e39 e40 L37 M38
   clear hq32
   rw [e36] at hf
   clear e36
   try dsimp only at hf
   have gq2 : ∀ w, More w0 Φ B33 w → More w0 Φ (B18 ++ []) w := fun w q => More.mono (fun w m => hB34 w (m)) q
   replace h20 := h20.mono (ItRd.mono gq2)
   have m41 := o24.mx
   refine Z1 (Z4 (Z2 (Z0 (Z3 rfl) rfl (Z0 (Z5 rfl) rfl (Z6 (Z1 (CW.ret ?_)))))))
   have er0 := Zi hf
   obtain ⟨e0, er1⟩ := Prod.mk.inj er0
   clear er0
   subst e0
   subst er1
   refine Z102 (rs := [.tmp 4]) ([sl ob21 0 x16.length c22]) ((ob21, blk (cs19 ++ r23) 30) :: (some b0_, blk w35.C 62) :: B33) rfl ?_ rfl ?_ ?_ _ (.inl rfl)
   ·exact ⟨rfl, trivial⟩
   ·exact ⟨B33, cs19, ob21, c22, r23, h20, o24, rfl, rfl⟩
   ·exact (fun w m => m.pick [0, 1] 2 rfl rfl)
  ·skip
   by_cases h42 : x17 = 0
   ·replace hq32 := if_t hq32 h42
    refine Z14 rfl (congrArg (fun b => !b) (decide_eq_true h42)) (CW.skip ?_)
    exact QW.join ⟨a0, (B18 ++ []), (Zi hq32).symm, (fun w m => m), rfl, rfl⟩ ⟨rfl, trivial⟩ (fun w m => m.pick [0, 2] 3 rfl rfl)
   ·replace hq32 := if_f hq32 h42
    refine Z13 rfl (congrArg (fun b => !b) (decide_eq_false h42)) (Z2 (Z0 (Z3 rfl) rfl ?_))
    obtain ⟨x44, hx43, hq32⟩ := Z100 hq32
    refine Z20 (M' := ((some b0_, blk a0.C 62) :: (ob21, blk (cs19 ++ r23) 30) :: (some b13, blk [.bool (a1.list), .slice A1 a1.data.length c2, .slice A4 a1.items.length c5] 30) :: ((B18 ++ []) ++ N))) (fun w m => m.pick [2, 0, 1] 3 rfl rfl) (Z12 Try.call44 rfl (Z127 w0 (More w0 Φ (B18 ++ [])) ((ob21, blk (cs19 ++ r23) 30) :: (some b13, blk [.bool (a1.list), .slice A1 a1.data.length c2, .slice A4 a1.items.length c5] 30) :: ((B18 ++ []) ++ N)) (fun w m => Z103 hΦ 2 m rfl) b0_ a0 (172 : Int) x44 (by omega) hx43) rfl rfl ?_)
    rintro L46 M47 ⟨B45, e48, e49⟩
    rw [e48, e49]
    clear e48 e49 L46 M47
    refine Z20 (M' := ((some b0_, blk x44.C 62) :: (ob21, blk (cs19 ++ r23) 30) :: (some b13, blk [.bool (a1.list), .slice A1 a1.data.length c2, .slice A4 a1.items.length c5] 30) :: ((B45 ++ (B18 ++ [])) ++ N))) (fun w m => by have h := Z107 (A := B45) m 1 2 rfl rfl; exact h) ?_
    have gq3 : ∀ w, More w0 Φ (B45 ++ (B18 ++ [])) w → More w0 Φ (B18 ++ []) w := fun w q => More.mono (fun w m => (m).appR) q
    replace h10 := ItRd.mono gq3 _ _ h10
    replace v3 := v3.mono gq3
    replace v6 := v6.mono gq3
    replace h8 := h8.mono (ItRd.mono gq3)
    replace h20 := h20.mono (ItRd.mono gq3)
    refine Z6 ?_
    exact QW.join ⟨x44, (B45 ++ (B18 ++ [])), (Zi hq32).symm, (fun w m => (m).appR), rfl, rfl⟩ ⟨rfl, trivial⟩ (fun w m => m.pick [1, 0] 3 rfl rfl)
 ·replace hf := if_f hf h14
  refine Z13 rfl (congrArg (fun b => !b) (decide_eq_false h14)) (Z4 (Z2 (Z0 (Z5 rfl) rfl (Z6 (Z1 (CW.ret (Z8 (QW.mem (M' := ((none, blk ([] ++ []) 30) :: (some b13, blk [.bool (a1.list), .slice A1 a1.data.length c2, .slice A4 a1.items.length c5] 30) :: (some b0_, blk a0.C 62) :: ([] ++ N))) (fun w m => m.nil_ent _) ?_))))))))
  have er0 := Zi hf
  obtain ⟨e0, er1⟩ := Prod.mk.inj er0
  clear er0
  subst e0
  subst er1
  refine Z102 (rs := [.tmp 4]) ([sl none 0 ([] : List (It)).length 0]) ((none, blk ([] ++ []) 30) :: (some b0_, blk a0.C 62) :: []) rfl ?_ rfl ?_ ?_ _ (.inl rfl)
  ·exact ⟨rfl, trivial⟩
  ·exact ⟨[], [], none, 0, [], Reps.nil, OwnS.nil, rfl, rfl⟩
  ·exact (fun w m => m.pick [0, 2] 3 rfl rfl)
theorem Z120 (w0 : World) (Φ : Ctx) (N : List Ent) (hΦ : ∀ w, Mem w0 w N → Φ w) (b0_ : Nat) (a0 : Rdr) (cs1_ : List Value) (a1 : It) (a2 : Int) (res0 : List (BitVec 8)) (new0 : Rdr) (ha1 : ItRd Φ cs1_ a1) (ba2 : -9223372036854775808 ≤ a2 ∧ a2 ≤ 9223372036854775807) (hf : waybill_receipt_reader_text a0 a1 a2 = some (res0, new0)) : DoesG Try.prog 27 [ptr (some b0_) 0, .agg cs1_.toArray, .int .i64 a2] w0 [(some b0_, blk a0.C 62)] N (fun v G => ∃ B : List Ent, ∃ or0 : Option Nat, ∃ kr0 : Nat, ∃ rr0 : List Value, (OwnS or0 res0.length kr0 1 (u8s res0) rr0) ∧ v = sl or0 0 res0.length kr0 ∧ G = (or0, blk ((u8s res0) ++ rr0) 5) :: (some b0_, blk new0.C 62) :: B) := by
 unfold waybill_receipt_reader_text at hf
 replace ha1 := ItRd.mono (Ψ := More w0 Φ []) (fun w q => q.1) _ _ ha1
 have h10 := ha1
 obtain ⟨A1, c2, A4, c5, cs7, e9, v3, v6, h8⟩ := ItRd.opn ha1
 subst e9
 have m11 := v3.mx
 have m12 := v6.mx
 refine DoesG.enter Try.func27 rfl Try.ntmps27 rfl (M := ((some b0_, blk a0.C 62) :: ([] ++ N))) rfl (Z4 (Z2 (OW.boxA rfl rfl (fun b13 => (Z0 (Z5 rfl) rfl (Z6 (Z1 (Z4 (Z4 (Z2 (Z0 (Z3 rfl) rfl (Z0 (RV.nilCheck rfl) rfl (Z0 (Z30 rfl rfl rfl rfl) rfl ?_)))))))))))))
 refine Z7 (ptr (some b0_) 0) rfl (Z0 (Z29 rfl (List.Mem.tail _ Zh) rfl rfl rfl (Rdr.C_err _)) rfl (Z0 (RV.neq rfl rfl) rfl (Z6 (Z1 ?_))))
 by_cases h14 : a0.err = (0 : Int)
 ·replace hf := if_t hf h14
  refine Z14 rfl (congrArg (fun b => !b) (decide_eq_true h14)) (CW.skip (Z1 (Z4 (Z2 (Z0 (Z22 rfl Zh rfl rfl rfl rfl rfl) rfl ?_)))))
  obtain ⟨⟨x16, x17⟩, hx15, hf⟩ := Z100 hf
  try dsimp only at hf
  refine Z12 Try.call45 rfl (rlp_GetText_does w0 (More w0 Φ []) ((some b13, blk [.bool (a1.list), .slice A1 a1.data.length c2, .slice A4 a1.items.length c5] 30) :: (some b0_, blk a0.C 62) :: ([] ++ N)) (fun w m => Z103 hΦ 2 m rfl) [.bool (a1.list), .slice A1 a1.data.length c2, .slice A4 a1.items.length c5] a1 x16 x17 h10 hx15) rfl rfl ?_
  rintro L24 M25 ⟨B18, ob19, c20, r21, o22, b23, e26, e27⟩
  rw [e26, e27]
  clear e26 e27 L24 M25
  refine Z20 (M' := ((ob19, blk ((u8s x16) ++ r21) 5) :: (some b13, blk [.bool (a1.list), .slice A1 a1.data.length c2, .slice A4 a1.items.length c5] 30) :: (some b0_, blk a0.C 62) :: ((B18 ++ []) ++ N))) (fun w m => by have h := Z107 (A := B18) m 1 2 rfl rfl; exact h) ?_
  have gq1 : ∀ w, More w0 Φ (B18 ++ []) w → More w0 Φ [] w := fun w q => More.mono (fun w m => (m).appR) q
  replace h10 := ItRd.mono gq1 _ _ h10
  replace v3 := v3.mono gq1
  replace v6 := v6.mono gq1
  replace h8 := h8.mono (ItRd.mono gq1)
  have m28 := o22.mx
  refine Z0 (Z3 rfl) rfl (Z0 (Z17 rfl rfl) rfl (Z7 (sl ob19 0 x16.length c20) (rfl) (Z0 (Z17 rfl rfl) rfl (Z7 (.int .i64 ((x17 : Nat) : Int)) (rfl) (Z0 (Z5 rfl) rfl (Z0 (Z5 rfl) rfl (Z6 (Z1 (Z4 (Z4 ?_))))))))))
  obtain ⟨q29, hq30, hf⟩ := Z100 hf
  refine Z115 (fun L' M' => ∃ p31 : Bool, q29 = p31 ∧ L' = [(0, ptr (some b0_) 0), (7, sl ob19 0 x16.length c20), (30, .bool (p31))] ∧ M' = ((ob19, blk ((u8s x16) ++ r21) 5) :: (some b0_, blk a0.C 62) :: ((B18 ++ []) ++ N))) ?_ ?_
  ·rintro L33 M34 ⟨p31, e32, e35, e36⟩
   rw [e35, e36]
   clear e35 e36 L33 M34
   clear hq30
   rw [e32] at hf
   clear e32
   try dsimp only at hf
   have m37 := o22.mx
   refine Z1 ?_
   by_cases h38 : p31 = true
   ·replace hf := if_t hf h38
    refine Z13 rfl (h38) (Z4 (Z2 (Z0 (Z3 rfl) rfl ?_)))
    obtain ⟨x40, hx39, hf⟩ := Z100 hf
    refine Z20 (M' := ((some b0_, blk a0.C 62) :: (ob19, blk ((u8s x16) ++ r21) 5) :: ((B18 ++ []) ++ N))) (fun w m => m.pick [1, 0] 2 rfl rfl) (Z12 Try.call44 rfl (Z127 w0 (More w0 Φ (B18 ++ [])) ((ob19, blk ((u8s x16) ++ r21) 5) :: ((B18 ++ []) ++ N)) (fun w m => Z103 hΦ 1 m rfl) b0_ a0 (172 : Int) x40 (by omega) hx39) rfl rfl ?_)
    rintro L42 M43 ⟨B41, e44, e45⟩
    rw [e44, e45]
    clear e44 e45 L42 M43
    refine Z20 (M' := ((some b0_, blk x40.C 62) :: (ob19, blk ((u8s x16) ++ r21) 5) :: ((B41 ++ (B18 ++ [])) ++ N))) (fun w m => by have h := Z107 (A := B41) m 1 1 rfl rfl; exact h) ?_
    refine Z6 (Z1 (Z4 (Z2 (Z0 (Z5 rfl) rfl (Z6 (Z1 (CW.ret (Z8 (QW.mem (M' := ((none, blk ((u8s ([] : List (BitVec 8))) ++ []) 5) :: (some b0_, blk x40.C 62) :: (ob19, blk ((u8s x16) ++ r21) 5) :: ((B41 ++ (B18 ++ [])) ++ N))) (fun w m => m.nil_ent _) ?_)))))))))
    have er0 := Zi hf
    obtain ⟨e0, er1⟩ := Prod.mk.inj er0
    clear er0
    subst e0
    subst er1
    refine Z102 (rs := [.tmp 6]) ([sl none 0 ([] : List (BitVec 8)).length 0]) ((none, blk ((u8s ([] : List (BitVec 8))) ++ []) 5) :: (some b0_, blk x40.C 62) :: (B41 ++ (B18 ++ []))) rfl ?_ rfl ?_ ?_ _ (.inl rfl)
    ·exact ⟨rfl, trivial⟩
    ·exact ⟨(B41 ++ (B18 ++ [])), none, 0, [], OwnS.nil, rfl, rfl⟩
    ·exact (fun w m => m.pick [0, 1] 3 rfl rfl)
   ·replace hf := if_f hf h38
    refine Z14 rfl (Bool.eq_false_iff.2 h38) (CW.skip (Z1 (Z4 (Z2 (Z0 (Z3 rfl) rfl (Z0 (Z5 rfl) rfl (Z6 (Z1 (CW.ret ?_)))))))))
    have er0 := Zi hf
    obtain ⟨e0, er1⟩ := Prod.mk.inj er0
    clear er0
    subst e0
    subst er1
    refine Z102 (rs := [.tmp 6]) ([sl ob19 0 x16.length c20]) ((ob19, blk ((u8s x16) ++ r21) 5) :: (some b0_, blk a0.C 62) :: (B18 ++ [])) rfl ?_ rfl ?_ ?_ _ (.inl rfl)
    ·exact ⟨rfl, trivial⟩
    ·exact ⟨(B18 ++ []), ob19, c20, r21, o22, rfl, rfl⟩
    ·exact (fun w m => m.pick [0, 1] 2 rfl rfl)
  ·skip
   refine Z2 (Z0 (Z3 rfl) rfl (Z0 (RV.neq rfl rfl) rfl (Z7 (.bool (!decide (x17 = 0))) (congrArg (fun b => Value.bool (!b)) (decide_eq_decide.2 (by omega))) (Z0 (Z3 rfl) rfl ?_))))
   by_cases h46 : x17 = 0
   ·replace hq30 := if_t hq30 h46
    refine Z7 (.bool false) (congrArg Value.bool (congrArg (fun b => !b) (decide_eq_true h46))) (Z24 rfl (Z0 (Z3 rfl) rfl (Z24 rfl (Z0 (RV.geq rfl rfl) rfl (Z24 rfl (Z0 (Z3 rfl) rfl ?_))))))
    by_cases h47 : (0 : Int) ≤ a2
    ·replace hq30 := if_t hq30 h47
     refine Z7 (.bool true) (congrArg Value.bool (decide_eq_true h47)) (Z24 rfl (Z0 (Z3 rfl) rfl (Z24 rfl (Z0 (RV.len rfl rfl) rfl (Z24 rfl (Z0 (Z3 rfl) rfl (Z24 rfl ?_)))))))
     refine Z0 (RV.neq rfl rfl) rfl (Z24 rfl (Z0 (Z112 rfl rfl rfl) rfl (Z0 (Z108 rfl rfl rfl) rfl (Z6 ?_))))
     exact QW.join ⟨(!decide (((x16.length : Nat) : Int) = a2)), (Zi hq30).symm, rfl, rfl⟩ ⟨rfl, rfl, rfl, trivial⟩ (fun w m => m.pick [0, 2] 3 rfl rfl)
    ·replace hq30 := if_f hq30 h47
     refine Z7 (.bool false) (congrArg Value.bool (decide_eq_false h47)) (Z23 rfl rfl rfl (Z23 rfl rfl rfl (Z23 rfl rfl rfl (Z23 rfl rfl rfl (Z24 rfl (Z0 (Z108 rfl rfl rfl) rfl (Z0 (Z108 rfl rfl rfl) rfl ?_)))))))
     refine Z6 ?_
     exact QW.join ⟨false, (Zi hq30).symm, rfl, rfl⟩ ⟨rfl, rfl, rfl, trivial⟩ (fun w m => m.pick [0, 2] 3 rfl rfl)
   ·replace hq30 := if_f hq30 h46
    refine Z7 (.bool true) (congrArg Value.bool (congrArg (fun b => !b) (decide_eq_false h46))) (Z23 rfl rfl rfl (Z23 rfl rfl rfl (Z23 rfl rfl rfl (Z23 rfl rfl rfl (Z23 rfl rfl rfl (Z23 rfl rfl rfl (Z23 rfl rfl rfl ?_)))))))
    refine Z23 rfl rfl rfl (Z0 (Z112 rfl rfl rfl) rfl (Z6 ?_))
    exact QW.join ⟨true, (Zi hq30).symm, rfl, rfl⟩ ⟨rfl, rfl, rfl, trivial⟩ (fun w m => m.pick [0, 2] 3 rfl rfl)
 ·replace hf := if_f hf h14
  refine Z13 rfl (congrArg (fun b => !b) (decide_eq_false h14)) (Z4 (Z2 (Z0 (Z5 rfl) rfl (Z6 (Z1 (CW.ret (Z8 (QW.mem (M' := ((none, blk ((u8s ([] : List (BitVec 8))) ++ []) 5) :: (some b13, blk [.bool (a1.list), .slice A1 a1.data.length c2, .slice A4 a1.items.length c5] 30) :: (some b0_, blk a0.C 62) :: ([] ++ N))) (fun w m => m.nil_ent _) ?_))))))))
  have er0 := Zi hf
  obtain ⟨e0, er1⟩ := Prod.mk.inj er0
  clear er0
  subst e0
  subst er1
  refine Z102 (rs := [.tmp 6]) ([sl none 0 ([] : List (BitVec 8)).length 0]) ((none, blk ((u8s ([] : List (BitVec 8))) ++ []) 5) :: (some b0_, blk a0.C 62) :: []) rfl ?_ rfl ?_ ?_ _ (.inl rfl)
  ·exact ⟨rfl, trivial⟩
  ·exact ⟨[], none, 0, [], OwnS.nil, rfl, rfl⟩
  ·exact (fun w m => m.pick [0, 2] 3 rfl rfl)
theorem waybillref14_Text_does (w0 : World) (Φ : Ctx) (N : List Ent) (hΦ : ∀ w, Mem w0 w N → Φ w) (cs0_ : List Value) (a0 : It) (res0 : List (BitVec 8)) (res1 : Bool) (ha0 : ItRd Φ cs0_ a0) (hf : waybillref14_Text a0 = some (res0, res1)) : DoesG Try.prog 31 [.agg cs0_.toArray] w0 [] N (fun v G => ∃ B : List Ent, ∃ Ar0 : Option Addr, ∃ kr0 : Nat, (View (More w0 Φ B) Ar0 res0.length kr0 1 (u8s res0)) ∧ v = .tuple #[.slice Ar0 res0.length kr0, .bool res1] ∧ G = B) := by
 unfold waybillref14_Text at hf
 replace ha0 := ItRd.mono (Ψ := More w0 Φ []) (fun w q => q.1) _ _ ha0
 have h10 := ha0
 obtain ⟨A1, c2, A4, c5, cs7, e9, v3, v6, h8⟩ := ItRd.opn ha0
 subst e9
 have m11 := v3.mx
 have m12 := v6.mx
 refine DoesG.enter Try.func31 rfl Try.ntmps31 rfl (M := (([] ++ N))) rfl (Z4 (Z2 (OW.boxA rfl rfl (fun b13 => (Z0 (Z5 rfl) rfl (Z0 (Z5 rfl) rfl (Z6 (Z1 (Z4 (Z4 ?_))))))))))
 obtain ⟨q14, hq15, hf⟩ := Z100 hf
 refine Z115 (fun L' M' => ∃ p16 : Bool, q14 = p16 ∧ L' = [(1, ptr (some b13) 0), (11, .bool (p16))] ∧ M' = ((some b13, blk [.bool (a0.list), .slice A1 a0.data.length c2, .slice A4 a0.items.length c5] 30) :: ([] ++ N))) ?_ ?_
 ·rintro L18 M19 ⟨p16, e17, e20, e21⟩
  rw [e20, e21]
  clear e20 e21 L18 M19
  clear hq15
  rw [e17] at hf
  clear e17
  try dsimp only at hf
  refine Z1 ?_
  by_cases h22 : p16 = true
  ·replace hf := if_t hf h22
   refine Z13 rfl (h22) (Z4 (Z2 (Z0 (Z5 rfl) rfl (Z0 (Z5 rfl) rfl (Z6 (Z1 (CW.ret (Z8 ?_))))))))
   have er0 := Zi hf
   obtain ⟨e0, er1⟩ := Prod.mk.inj er0
   clear er0
   subst e0
   subst er1
   refine Z102 (rs := [.tmp 2, .tmp 3]) ([.slice none 0 0, .bool false]) ([]) rfl ?_ rfl ?_ ?_ _ (.inl rfl)
   ·exact ⟨rfl, rfl, trivial⟩
   ·exact ⟨[], none, 0, View.nil, rfl, rfl⟩
   ·exact (fun w m => m.pick [] 1 rfl rfl)
  ·replace hf := if_f hf h22
   refine Z14 rfl (Bool.eq_false_iff.2 h22) (CW.skip (Z1 (Z4 (Z2 (Z0 (Z30 rfl rfl rfl rfl) rfl (Z0 (Z29 rfl Zh rfl rfl rfl rfl) rfl (Z0 (Z5 rfl) rfl (Z0 (Z5 rfl) rfl (Z6 (Z1 (CW.ret ?_)))))))))))
   have er0 := Zi hf
   obtain ⟨e0, er1⟩ := Prod.mk.inj er0
   clear er0
   subst e0
   subst er1
   refine Z102 (rs := [.tmp 2, .tmp 3]) ([.slice A1 a0.data.length c2, .bool true]) ([]) rfl ?_ rfl ?_ ?_ _ (.inl rfl)
   ·exact ⟨rfl, rfl, trivial⟩
   ·exact ⟨[], A1, c2, v3, rfl, rfl⟩
   ·exact (fun w m => m.pick [] 1 rfl rfl)
 ·skip
  refine Z2 (Z0 (Z30 rfl rfl rfl rfl) rfl (Z0 (Z29 rfl Zh rfl rfl rfl rfl) rfl (Z0 (Z3 rfl) rfl ?_)))
  by_cases h23 : a0.list = true
  ·replace hq15 := if_t hq15 h23
   refine Z7 (.bool true) (congrArg Value.bool (h23)) (Z23 rfl rfl rfl (Z23 rfl rfl rfl (Z23 rfl rfl rfl (Z23 rfl rfl rfl (Z0 (Z112 rfl rfl rfl) rfl (Z6 ?_))))))
   exact QW.join ⟨true, (Zi hq15).symm, rfl, rfl⟩ ⟨rfl, rfl, trivial⟩ (fun w m => m.pick [0] 1 rfl rfl)
  ·replace hq15 := if_f hq15 h23
   refine Z7 (.bool false) (congrArg Value.bool (Bool.eq_false_iff.2 h23)) (Z24 rfl (Z0 (Z30 rfl rfl rfl rfl) rfl (Z24 rfl (Z0 (Z29 rfl Zh rfl rfl rfl rfl) rfl (Z24 rfl (Z0 (RV.len rfl rfl) rfl (Z24 rfl ?_)))))))
   refine Z0 (RV.gtr rfl rfl) rfl (Z7 (.bool (decide (0 < a0.items.length))) (congrArg Value.bool (decide_eq_decide.2 (by omega))) (Z0 (Z108 rfl rfl rfl) rfl (Z6 ?_)))
   exact QW.join ⟨(decide (0 < a0.items.length)), (Zi hq15).symm, rfl, rfl⟩ ⟨rfl, rfl, trivial⟩ (fun w m => m.pick [0] 1 rfl rfl)
theorem waybillref14_List_does (w0 : World) (Φ : Ctx) (N : List Ent) (hΦ : ∀ w, Mem w0 w N → Φ w) (cs0_ : List Value) (a0 : It) (res0 : List (It)) (res1 : Bool) (ha0 : ItRd Φ cs0_ a0) (hf : waybillref14_List a0 = some (res0, res1)) : DoesG Try.prog 29 [.agg cs0_.toArray] w0 [] N (fun v G => ∃ B : List Ent, ∃ cr0 : List Value, ∃ Ar0 : Option Addr, ∃ kr0 : Nat, (Reps (ItRd (More w0 Φ B)) cr0 res0) ∧ (View (More w0 Φ B) Ar0 res0.length kr0 3 cr0) ∧ v = .tuple #[.slice Ar0 res0.length kr0, .bool res1] ∧ G = B) := by
 unfold waybillref14_List at hf
 replace ha0 := ItRd.mono (Ψ := More w0 Φ []) (fun w q => q.1) _ _ ha0
 have h10 := ha0
 obtain ⟨A1, c2, A4, c5, cs7, e9, v3, v6, h8⟩ := ItRd.opn ha0
 subst e9
 have m11 := v3.mx
 have m12 := v6.mx
 refine DoesG.enter Try.func29 rfl Try.ntmps29 rfl (M := (([] ++ N))) rfl (Z4 (Z2 (OW.boxA rfl rfl (fun b13 => (Z0 (Z5 rfl) rfl (Z0 (Z5 rfl) rfl (Z6 (Z1 (Z4 (Z4 ?_))))))))))
 obtain ⟨q14, hq15, hf⟩ := Z100 hf
 refine Z115 (fun L' M' => ∃ p16 : Bool, q14 = p16 ∧ L' = [(1, ptr (some b13) 0), (12, .bool (p16))] ∧ M' = ((some b13, blk [.bool (a0.list), .slice A1 a0.data.length c2, .slice A4 a0.items.length c5] 30) :: ([] ++ N))) ?_ ?_
 ·rintro L18 M19 ⟨p16, e17, e20, e21⟩
  rw [e20, e21]
  clear e20 e21 L18 M19
  clear hq15
  rw [e17] at hf
  clear e17
  try dsimp only at hf
  refine Z1 ?_
  by_cases h22 : p16 = true
  ·replace hf := if_t hf h22
   refine Z13 rfl (h22) (Z4 (Z2 (Z0 (Z5 rfl) rfl (Z0 (Z5 rfl) rfl (Z6 (Z1 (CW.ret (Z8 ?_))))))))
   have er0 := Zi hf
   obtain ⟨e0, er1⟩ := Prod.mk.inj er0
   clear er0
   subst e0
   subst er1
   refine Z102 (rs := [.tmp 2, .tmp 3]) ([.slice none 0 0, .bool false]) ([]) rfl ?_ rfl ?_ ?_ _ (.inl rfl)
   ·exact ⟨rfl, rfl, trivial⟩
   ·exact ⟨[], [], none, 0, .nil, View.nil, rfl, rfl⟩
   ·exact (fun w m => m.pick [] 1 rfl rfl)
  ·replace hf := if_f hf h22
   refine Z14 rfl (Bool.eq_false_iff.2 h22) (CW.skip (Z1 (Z4 (Z2 (Z0 (Z30 rfl rfl rfl rfl) rfl (Z0 (Z29 rfl Zh rfl rfl rfl rfl) rfl (Z0 (Z5 rfl) rfl (Z0 (Z5 rfl) rfl (Z6 (Z1 (CW.ret ?_)))))))))))
   have er0 := Zi hf
   obtain ⟨e0, er1⟩ := Prod.mk.inj er0
   clear er0
   subst e0
   subst er1
   refine Z102 (rs := [.tmp 2, .tmp 3]) ([.slice A4 a0.items.length c5, .bool true]) ([]) rfl ?_ rfl ?_ ?_ _ (.inl rfl)
   ·exact ⟨rfl, rfl, trivial⟩
   ·exact ⟨[], cs7, A4, c5, h8, v6, rfl, rfl⟩
   ·exact (fun w m => m.pick [] 1 rfl rfl)
 ·skip
  refine Z2 (Z0 (Z30 rfl rfl rfl rfl) rfl (Z0 (Z29 rfl Zh rfl rfl rfl rfl) rfl (Z0 (RV.not rfl) rfl (Z0 (Z3 rfl) rfl ?_))))
  by_cases h23 : a0.list = true
  ·replace hq15 := if_t hq15 h23
   refine Z7 (.bool false) (congrArg Value.bool (congrArg (fun b => !b) (h23))) (Z24 rfl (Z0 (Z30 rfl rfl rfl rfl) rfl (Z24 rfl (Z0 (Z29 rfl Zh rfl rfl rfl rfl) rfl (Z24 rfl (Z0 (RV.len rfl rfl) rfl (Z24 rfl ?_)))))))
   refine Z0 (RV.gtr rfl rfl) rfl (Z7 (.bool (decide (0 < a0.data.length))) (congrArg Value.bool (decide_eq_decide.2 (by omega))) (Z0 (Z108 rfl rfl rfl) rfl (Z6 ?_)))
   exact QW.join ⟨(decide (0 < a0.data.length)), (Zi hq15).symm, rfl, rfl⟩ ⟨rfl, rfl, trivial⟩ (fun w m => m.pick [0] 1 rfl rfl)
  ·replace hq15 := if_f hq15 h23
   refine Z7 (.bool true) (congrArg Value.bool (congrArg (fun b => !b) (Bool.eq_false_iff.2 h23))) (Z23 rfl rfl rfl (Z23 rfl rfl rfl (Z23 rfl rfl rfl (Z23 rfl rfl rfl (Z0 (Z112 rfl rfl rfl) rfl (Z6 ?_))))))
   exact QW.join ⟨true, (Zi hq15).symm, rfl, rfl⟩ ⟨rfl, rfl, trivial⟩ (fun w m => m.pick [0] 1 rfl rfl)
theorem waybillref14_Fixed_does (w0 : World) (Φ : Ctx) (N : List Ent) (hΦ : ∀ w, Mem w0 w N → Φ w) (cs0_ : List Value) (a0 : It) (a1 : Int) (res0 : List (BitVec 8)) (res1 : Bool) (ha0 : ItRd Φ cs0_ a0) (ba1 : -9223372036854775808 ≤ a1 ∧ a1 ≤ 9223372036854775807) (hf : waybillref14_Fixed a0 a1 = some (res0, res1)) : DoesG Try.prog 30 [.agg cs0_.toArray, .int .i64 a1] w0 [] N (fun v G => ∃ B : List Ent, ∃ Ar0 : Option Addr, ∃ kr0 : Nat, (View (More w0 Φ B) Ar0 res0.length kr0 1 (u8s res0)) ∧ v = .tuple #[.slice Ar0 res0.length kr0, .bool res1] ∧ G = B) := by
 unfold waybillref14_Fixed at hf
 replace ha0 := ItRd.mono (Ψ := More w0 Φ []) (fun w q => q.1) _ _ ha0
 have h10 := ha0
 obtain ⟨A1, c2, A4, c5, cs7, e9, v3, v6, h8⟩ := ItRd.opn ha0
 subst e9
 have m11 := v3.mx
 have m12 := v6.mx
 refine DoesG.enter Try.func30 rfl Try.ntmps30 rfl (M := (([] ++ N))) rfl (Z4 (Z2 (OW.boxA rfl rfl (fun b13 => (Z0 (Z5 rfl) rfl (Z0 (Z5 rfl) rfl (Z6 (Z1 (Z4 (Z2 (Z0 (Z22 rfl Zh rfl rfl rfl rfl rfl) rfl ?_)))))))))))
 obtain ⟨⟨x15, x16⟩, hx14, hf⟩ := Z100 hf
 try dsimp only at hf
 refine Z12 Try.call31 rfl (waybillref14_Text_does w0 (More w0 Φ []) ((some b13, blk [.bool (a0.list), .slice A1 a0.data.length c2, .slice A4 a0.items.length c5] 30) :: ([] ++ N)) (fun w m => Z103 hΦ 1 m rfl) [.bool (a0.list), .slice A1 a0.data.length c2, .slice A4 a0.items.length c5] a0 x15 x16 h10 hx14) rfl rfl ?_
 rintro L21 M22 ⟨B17, A18, c19, v20, e23, e24⟩
 rw [e23, e24]
 clear e23 e24 L21 M22
 refine Z20 (M' := ((some b13, blk [.bool (a0.list), .slice A1 a0.data.length c2, .slice A4 a0.items.length c5] 30) :: ((B17 ++ []) ++ N))) (fun w m => by have h := Z107 (A := B17) m 0 1 rfl rfl; exact h) ?_
 have gq1 : ∀ w, More w0 Φ (B17 ++ []) w → More w0 Φ [] w := fun w q => More.mono (fun w m => (m).appR) q
 replace h10 := ItRd.mono gq1 _ _ h10
 replace v3 := v3.mono gq1
 replace v6 := v6.mono gq1
 replace h8 := h8.mono (ItRd.mono gq1)
 replace v20 := v20.mono (Ψ := (More w0 Φ (B17 ++ []))) (fun w q => Z117 q)
 have m25 := v20.mx
 refine Z0 (Z3 rfl) rfl (Z0 (Z17 rfl rfl) rfl (Z7 (.slice A18 x15.length c19) (rfl) (Z0 (Z17 rfl rfl) rfl (Z7 (.bool (x16)) (rfl) (Z0 (Z5 rfl) rfl (Z0 (Z5 rfl) rfl (Z6 (Z1 (Z4 ?_)))))))))
 obtain ⟨q26, hq27, hf⟩ := Z100 hf
 refine Z115 (fun L' M' => ∃ l28 : List (BitVec 8), ∃ p32 : Bool, ∃ A29 : Option Addr, ∃ c30 : Nat, q26 = (l28, p32) ∧ (View (More w0 Φ (B17 ++ [])) A29 l28.length c30 1 (u8s l28)) ∧ L' = [(4, .slice A29 l28.length c30), (5, .bool (p32))] ∧ M' = (((B17 ++ []) ++ N))) ?_ ?_
 ·rintro L34 M35 ⟨l28, p32, A29, c30, e33, v31, e36, e37⟩
  rw [e36, e37]
  clear e36 e37 L34 M35
  clear hq27
  rw [e33] at hf
  clear e33
  try dsimp only at hf
  have m38 := v31.mx
  refine Z1 (CW.ret ?_)
  have er0 := Zi hf
  obtain ⟨e0, er1⟩ := Prod.mk.inj er0
  clear er0
  subst e0
  subst er1
  refine Z102 (rs := [.tmp 4, .tmp 5]) ([.slice A29 l28.length c30, .bool (p32)]) ((B17 ++ [])) rfl ?_ rfl ?_ ?_ _ (.inl rfl)
  ·exact ⟨rfl, rfl, trivial⟩
  ·exact ⟨(B17 ++ []), A29, c30, v31, rfl, rfl⟩
  ·exact (fun w m => m.pick [] 0 rfl rfl)
 ·skip
  refine Z2 (Z0 (Z3 rfl) rfl (Z0 (Z3 rfl) rfl (Z0 (Z3 rfl) rfl ?_)))
  by_cases h39 : x16 = true
  ·replace hq27 := if_t hq27 h39
   refine Z7 (.bool true) (congrArg Value.bool (h39)) (Z24 rfl (Z0 (Z3 rfl) rfl (Z24 rfl (Z0 (RV.len rfl rfl) rfl (Z24 rfl (Z0 (Z3 rfl) rfl (Z24 rfl ?_)))))))
   refine Z0 (RV.eql rfl rfl) rfl (Z0 (Z112 rfl rfl rfl) rfl (Z0 (Z5 rfl) rfl (Z0 (Z5 rfl) rfl (Z6 ?_))))
   exact QW.join ⟨x15, (decide (((x15.length : Nat) : Int) = a1)), A18, c19, (Zi hq27).symm, v20, rfl, rfl⟩ ⟨rfl, rfl, trivial⟩ (fun w m => m.pick [] 1 rfl rfl)
  ·replace hq27 := if_f hq27 h39
   refine Z7 (.bool false) (congrArg Value.bool (Bool.eq_false_iff.2 h39)) (Z23 rfl rfl rfl (Z23 rfl rfl rfl (Z23 rfl rfl rfl (Z23 rfl rfl rfl (Z0 (Z108 rfl rfl rfl) rfl (Z0 (Z5 rfl) rfl (Z0 (Z5 rfl) rfl ?_)))))))
   refine Z6 ?_
   exact QW.join ⟨x15, false, A18, c19, (Zi hq27).symm, v20, rfl, rfl⟩ ⟨rfl, rfl, trivial⟩ (fun w m => m.pick [] 1 rfl rfl)
theorem Z132 (w0 : World) (Φ : Ctx) (N : List Ent) (hΦ : ∀ w, Mem w0 w N → Φ w) (A0_ : Option Addr) (c0_ : Nat) (a0 : List (BitVec 8)) (res0 : It) (va0 : View Φ A0_ a0.length c0_ 1 (u8s a0)) (hf : waybillref17_text a0 = some res0) : DoesG Try.prog 40 [.slice A0_ a0.length c0_] w0 [] N (fun v G => ∃ B : List Ent, ∃ cr0 : List Value, (ItRd (More w0 Φ B) cr0 res0) ∧ v = .agg cr0.toArray ∧ G = B) := by
 unfold waybillref17_text at hf
 replace va0 := va0.mono (Ψ := More w0 Φ []) (fun w q => q.1)
 have m1 := va0.mx
 refine DoesG.enter Try.func40 rfl Try.ntmps40 rfl (M := (([] ++ N))) rfl (Z4 (Z2 (OW.alloc (l := [.bool false, .slice none 0 0, .slice none 0 0]) rfl rfl rfl (fun b2 => (Z6 (Z1 (Z4 (Z2 (Z0 (Z5 rfl) rfl (Z6 (Z1 (Z4 (Z2 (Z0 (Z3 rfl) rfl (Z0 (Z3 rfl) rfl ?_)))))))))))))))
 refine Z20 (M' := ((none, blk ((u8s ([] : List (BitVec 8))) ++ []) 5) :: (some b2, blk [.bool false, .slice none 0 0, .slice none 0 0] 30) :: ([] ++ N))) (fun w m => m.nil_ent _) (OW.appendOwn (s := 1) rfl rfl rfl rfl rfl rfl OwnS.nil (fun w m => va0.rd w (Z103 hΦ 2 m rfl)) va0.n (Z125 _) (va0.zero (by decide)) (by decide) (by decide) (by first | omega | (simp only [i5, List.length_nil]; omega)) rfl rfl (a0.length) (u8s a0) (Nat.zero_add _) rfl (fun ob3 r4 c5 o6 => ?_))
 have m7 := o6.mx
 refine Z0 (Z5 rfl) rfl (Z6 (Z1 (Z4 (Z2 (Z0 (Z3 rfl) rfl (Z0 (Z111 (l := [.bool false, .slice none 0 0, .slice none 0 0]) (cs := [.bool false, sl ob3 0 a0.length c5, .slice none 0 0]) [(1, [sl ob3 0 a0.length c5])] rfl rfl rfl rfl rfl rfl rfl) rfl (OW.rot1 ?_)))))))
 refine Z28 (Z104 rfl rfl rfl (by intro u hu; simp at hu; rcases hu with rfl | rfl | rfl <;> rfl) rfl rfl rfl) ?_
 refine Z6 (Z1 (CW.ret (QW.mem (M' := (some b2, blk [.bool false, sl ob3 0 a0.length c5, .slice none 0 0] 30) :: (((ob3, blk ((u8s a0) ++ r4) 5) :: []) ++ N)) (fun w m => m.pick [0, 1] 2 rfl rfl) ?_)))
 have gq1 : ∀ w, More w0 Φ ((ob3, blk ((u8s a0) ++ r4) 5) :: []) w → More w0 Φ [] w := fun w q => More.mono (fun w m => (m).tail) q
 replace va0 := va0.mono gq1
 have v8 : View (More w0 Φ ((ob3, blk ((u8s a0) ++ r4) 5) :: [])) ((ob3).map fun k => ⟨k, 0, none⟩) a0.length c5 1 (u8s a0) := o6.view (by decide) (fun w q => q.2.sublist (List.singleton_sublist.2 (List.mem_cons_self ..)))
 have e0 := Zi hf
 subst e0
 have v9 : View (More w0 Φ ((ob3, blk ((u8s a0) ++ r4) 5) :: [])) none ([] : List (It)).length 0 3 [] := View.nil
 refine Z102 (rs := [.cell 2 30]) ([.agg [.bool false, .slice ((ob3).map fun k => ⟨k, 0, none⟩) a0.length c5, .slice none 0 0].toArray]) (((ob3, blk ((u8s a0) ++ r4) 5) :: [])) rfl ?_ rfl ?_ ?_ _ (.inl rfl)
 ·exact ⟨⟨_, _, _, _, rfl, Zh, rfl, rfl, rfl, rfl⟩, trivial⟩
 ·exact ⟨((ob3, blk ((u8s a0) ++ r4) 5) :: []), [.bool false, .slice ((ob3).map fun k => ⟨k, 0, none⟩) a0.length c5, .slice none 0 0], (ItRd.mk v8 v9 (Reps.nil)), rfl, rfl⟩
 ·exact (fun w m => m.pick [] 1 rfl rfl)
theorem waybillref17_logItem_does (w0 : World) (Φ : Ctx) (N : List Ent) (hΦ : ∀ w, Mem w0 w N → Φ w) (cs0_ : List Value) (a0 : Log) (res0 : It) (ha0 : LogRd Φ cs0_ a0) (hf : waybillref17_logItem a0 = some res0) : DoesG Try.prog 22 [.agg cs0_.toArray] w0 [] N (fun v G => ∃ B : List Ent, ∃ cr0 : List Value, (ItRd (More w0 Φ B) cr0 res0) ∧ v = .agg cr0.toArray ∧ G = B) := by
 unfold waybillref17_logItem at hf
 replace ha0 := LogRd.mono (Ψ := More w0 Φ []) (fun w q => q.1) _ _ ha0
 have h10 := ha0
 obtain ⟨A1, c2, cs4, A6, c7, e9, v3, h5, v8⟩ := LogRd.opn ha0
 subst e9
 have m11 := v3.mx
 have m12 := v8.mx
 refine DoesG.enter Try.func22 rfl Try.ntmps22 rfl (M := (([] ++ N))) rfl (Z4 (Z2 (OW.boxA rfl rfl (fun b13 => (OW.alloc (l := [.bool false, .slice none 0 0, .slice none 0 0]) rfl rfl rfl (fun b14 => (Z6 (Z1 (Z4 (Z2 (Z0 (Z111 (l := [.bool false, .slice none 0 0, .slice none 0 0]) (cs := [.bool true, .slice none 0 0, .slice none 0 0]) [(0, [.bool true])] rfl rfl rfl rfl rfl rfl rfl) rfl (OW.alloc (l := [.bool false, .slice none 0 0, .slice none 0 0]) rfl rfl rfl (fun b15 => ?_)))))))))))))
 refine Z28 (Z104 rfl rfl rfl (by intro u hu; simp at hu; rcases hu with rfl | rfl | rfl <;> rfl) rfl rfl rfl) ?_
 refine Z6 (Z1 (Z4 (Z4 (Z2 (Z0 (Z5 rfl) rfl (Z6 (Z1 ?_)))))))
 obtain ⟨q16, hq17, hf⟩ := Z100 hf
 refine Z115 (fun L' M' => ∃ p20 : Bool, ∃ l21 : List (BitVec 8), ∃ l26 : List (It), ∃ B18 : List Ent, ∃ ob22 : Option Nat, ∃ c23 : Nat, ∃ r24 : List Value, ∃ cs27 : List Value, ∃ ob29 : Option Nat, ∃ c30 : Nat, ∃ r31 : List Value, q16 = (p20, l21, l26) ∧ (∀ w, Mem w0 w B18 → Mem w0 w []) ∧ (OwnS ob22 l21.length c23 1 (u8s l21) r24) ∧ (Reps (ItRd (More w0 Φ B18)) cs27 l26) ∧ (OwnS ob29 l26.length c30 3 cs27 r31) ∧ L' = [(1, ptr (some b13) 0), (2, ptr (some b14) 0), (3, ptr (some b15) 0)] ∧ M' = ((ob22, blk ((u8s l21) ++ r24) 5) :: (ob29, blk (cs27 ++ r31) 30) :: (some b15, blk [.bool (p20), sl ob22 0 l21.length c23, sl ob29 0 l26.length c30] 30) :: (some b14, blk [.bool false, .slice none 0 0, .slice none 0 0] 30) :: (some b13, blk (⟨a0.address, .slice A1 a0.topics.length c2, .slice A6 a0.data.length c7⟩ : LogC).C 27) :: (B18 ++ N))) ?_ ?_
 ·rintro L34 M35 ⟨p20, l21, l26, B18, ob22, c23, r24, cs27, ob29, c30, r31, e33, hB19, o25, h28, o32, e36, e37⟩
  rw [e36, e37]
  clear e36 e37 L34 M35
  clear hq17
  rw [e33] at hf
  clear e33
  try dsimp only at hf
  have gq1 : ∀ w, More w0 Φ B18 w → More w0 Φ [] w := fun w q => More.mono (fun w m => hB19 w (m)) q
  replace h10 := LogRd.mono gq1 _ _ h10
  replace v3 := v3.mono gq1
  replace h5 := h5.mono (Ar8Rd.mono gq1)
  replace v8 := v8.mono gq1
  have m38 := o25.mx
  have m39 := o32.mx
  refine Z1 (Z4 (Z2 (Z0 (Z30 rfl rfl rfl rfl) rfl (Z7 (ptr (some b13) 0) rfl (Z0 (RV.loadAo rfl (List.Mem.tail _ (List.Mem.tail _ (List.Mem.tail _ (List.Mem.tail _ Zh)))) rfl rfl rfl rfl (Z121 (⟨a0.address, .slice A1 a0.topics.length c2, .slice A6 a0.data.length c7⟩ : LogC)) ((Z101 _).trans Zv)) rfl (OW.alloc (l := (u8s (Vector.replicate 20 0#8).toList)) rfl (by rw [Vector.toList_replicate, ← Z135]; rfl) rfl (fun b40 => (Z28 (Z104 rfl rfl rfl (Z125 _) rfl ((Z101 _).trans Zv) ((Z101 _).trans Zv)) (Z6 (Z1 (Z4 (CW.mem (M' := (ob22, blk ((u8s l21) ++ r24) 5) :: (ob29, blk (cs27 ++ r31) 30) :: (some b15, blk [.bool (p20), sl ob22 0 l21.length c23, sl ob29 0 l26.length c30] 30) :: (some b14, blk [.bool false, .slice none 0 0, .slice none 0 0] 30) :: (some b13, blk (⟨a0.address, .slice A1 a0.topics.length c2, .slice A6 a0.data.length c7⟩ : LogC).C 27) :: (((some b40, blk (u8s a0.address.toList) 23) :: B18) ++ N)) (fun w m => m.pick [1, 2, 3, 4, 5, 0] 6 rfl rfl) ?_))))))))))))
  have gq2 : ∀ w, More w0 Φ ((some b40, blk (u8s a0.address.toList) 23) :: B18) w → More w0 Φ B18 w := fun w q => More.mono (fun w m => (m).tail) q
  replace h28 := h28.mono (ItRd.mono gq2)
  replace h10 := LogRd.mono gq2 _ _ h10
  replace v3 := v3.mono gq2
  replace h5 := h5.mono (Ar8Rd.mono gq2)
  replace v8 := v8.mono gq2
  have v41 : View (More w0 Φ ((some b40, blk (u8s a0.address.toList) 23) :: B18)) (some ⟨b40, 0, none⟩) a0.address.toList.length 20 1 (u8s a0.address.toList) := View.arr (w0 := w0) (te := 23) (fun w q => q.2.sublist (List.singleton_sublist.2 (List.mem_cons_self ..))) (by decide)
  refine CW.mem (M' := (ob29, blk (cs27 ++ r31) 30) :: (some b15, blk [.bool (p20), sl ob22 0 l21.length c23, sl ob29 0 l26.length c30] 30) :: (some b14, blk [.bool false, .slice none 0 0, .slice none 0 0] 30) :: (some b13, blk (⟨a0.address, .slice A1 a0.topics.length c2, .slice A6 a0.data.length c7⟩ : LogC).C 27) :: (((ob22, blk ((u8s l21) ++ r24) 5) :: ((some b40, blk (u8s a0.address.toList) 23) :: B18)) ++ N)) (fun w m => m.pick [1, 2, 3, 4, 0] 5 rfl rfl) ?_
  have gq3 : ∀ w, More w0 Φ ((ob22, blk ((u8s l21) ++ r24) 5) :: ((some b40, blk (u8s a0.address.toList) 23) :: B18)) w → More w0 Φ ((some b40, blk (u8s a0.address.toList) 23) :: B18) w := fun w q => More.mono (fun w m => (m).tail) q
  replace v41 := v41.mono gq3
  replace h28 := h28.mono (ItRd.mono gq3)
  replace h10 := LogRd.mono gq3 _ _ h10
  replace v3 := v3.mono gq3
  replace h5 := h5.mono (Ar8Rd.mono gq3)
  replace v8 := v8.mono gq3
  have v42 : View (More w0 Φ ((ob22, blk ((u8s l21) ++ r24) 5) :: ((some b40, blk (u8s a0.address.toList) 23) :: B18))) ((ob22).map fun k => ⟨k, 0, none⟩) l21.length c23 1 (u8s l21) := o25.view (by decide) (fun w q => q.2.sublist (List.singleton_sublist.2 (List.mem_cons_self ..)))
  refine CW.mem (M' := (some b15, blk [.bool (p20), .slice ((ob22).map fun k => ⟨k, 0, none⟩) l21.length c23, sl ob29 0 l26.length c30] 30) :: (some b14, blk [.bool false, .slice none 0 0, .slice none 0 0] 30) :: (some b13, blk (⟨a0.address, .slice A1 a0.topics.length c2, .slice A6 a0.data.length c7⟩ : LogC).C 27) :: (((ob29, blk (cs27 ++ r31) 30) :: ((ob22, blk ((u8s l21) ++ r24) 5) :: ((some b40, blk (u8s a0.address.toList) 23) :: B18))) ++ N)) (fun w m => m.pick [1, 2, 3, 0] 4 rfl rfl) ?_
  have gq4 : ∀ w, More w0 Φ ((ob29, blk (cs27 ++ r31) 30) :: ((ob22, blk ((u8s l21) ++ r24) 5) :: ((some b40, blk (u8s a0.address.toList) 23) :: B18))) w → More w0 Φ ((ob22, blk ((u8s l21) ++ r24) 5) :: ((some b40, blk (u8s a0.address.toList) 23) :: B18)) w := fun w q => More.mono (fun w m => (m).tail) q
  replace v41 := v41.mono gq4
  replace v42 := v42.mono gq4
  replace h28 := h28.mono (ItRd.mono gq4)
  replace h10 := LogRd.mono gq4 _ _ h10
  replace v3 := v3.mono gq4
  replace h5 := h5.mono (Ar8Rd.mono gq4)
  replace v8 := v8.mono gq4
  have v43 : View (More w0 Φ ((ob29, blk (cs27 ++ r31) 30) :: ((ob22, blk ((u8s l21) ++ r24) 5) :: ((some b40, blk (u8s a0.address.toList) 23) :: B18)))) ((ob29).map fun k => ⟨k, 0, none⟩) l26.length c30 3 cs27 := o32.view (by decide) (fun w q => q.2.sublist (List.singleton_sublist.2 (List.mem_cons_self ..)))
  refine CW.drawsX ((some b15, blk [.bool (p20), .slice ((ob22).map fun k => ⟨k, 0, none⟩) l21.length c23, .slice ((ob29).map fun k => ⟨k, 0, none⟩) l26.length c30] 30) :: (some b13, blk (⟨a0.address, .slice A1 a0.topics.length c2, .slice A6 a0.data.length c7⟩ : LogC).C 27) :: (((ob29, blk (cs27 ++ r31) 30) :: ((ob22, blk ((u8s l21) ++ r24) 5) :: ((some b40, blk (u8s a0.address.toList) 23) :: B18))) ++ N)) [8] (fun w m => m.pick [0, 2] 3 rfl rfl) mixed (by kernel_rfl) (Z10 0 rfl (by kernel_rfl) rfl (RV.arr_all rfl rfl rfl) rfl ?_)
  refine XW.slot (.slice (some ⟨b40, 0, none⟩) a0.address.toList.length 20) (by rw [Zv]; try rfl) ?_
  have v44 := v41
  have m45 := v44.mx
  refine Z10 2 rfl (by kernel_rfl) rfl (Z22 rfl Zh rfl rfl rfl rfl rfl) rfl (Z10 3 rfl (by kernel_rfl) rfl (Z30 rfl rfl rfl rfl) rfl (XW.slot (ptr (some b13) 21) rfl (Z10 4 rfl (by kernel_rfl) rfl (Z29 rfl (List.Mem.tail _ Zh) rfl rfl rfl (Z124 (⟨a0.address, .slice A1 a0.topics.length c2, .slice A6 a0.data.length c7⟩ : LogC))) rfl ?_)))
  obtain ⟨x47, hx46, hf⟩ := Z100 hf
  refine Z11 1 rfl (by kernel_rfl) rfl Try.call40 rfl (fun N' hN' => Z132 w0 (More w0 Φ ((ob29, blk (cs27 ++ r31) 30) :: ((ob22, blk ((u8s l21) ++ r24) 5) :: ((some b40, blk (u8s a0.address.toList) 23) :: B18)))) N' (fun w m => Z103 hΦ 3 (hN' w m) rfl) (some ⟨b40, 0, none⟩) 20 a0.address.toList x47 v44 hx46) rfl ?_
  rintro L51 M52 ⟨B48, cs49, h50, e53, e54⟩
  rw [e53, e54]
  clear e53 e54 L51 M52
  refine Z19 (M' := ((some b15, blk [.bool (p20), .slice ((ob22).map fun k => ⟨k, 0, none⟩) l21.length c23, .slice ((ob29).map fun k => ⟨k, 0, none⟩) l26.length c30] 30) :: (some b14, blk [.bool false, .slice none 0 0, .slice none 0 0] 30) :: (some b13, blk (⟨a0.address, .slice A1 a0.topics.length c2, .slice A6 a0.data.length c7⟩ : LogC).C 27) :: ((B48 ++ ((ob29, blk (cs27 ++ r31) 30) :: ((ob22, blk ((u8s l21) ++ r24) 5) :: ((some b40, blk (u8s a0.address.toList) 23) :: B18)))) ++ N))) (fun w m => by have h := Z107 (A := B48) m 0 3 rfl rfl; exact h) (fun w m => by have h := Z118 (B := ((ob29, blk (cs27 ++ r31) 30) :: ((ob22, blk ((u8s l21) ++ r24) 5) :: ((some b40, blk (u8s a0.address.toList) 23) :: B18)))) (B' := (B48 ++ ((ob29, blk (cs27 ++ r31) 30) :: ((ob22, blk ((u8s l21) ++ r24) 5) :: ((some b40, blk (u8s a0.address.toList) 23) :: B18))))) (List.sublist_append_right _ _) (m.pick [0, 2] 3 rfl rfl) 2 rfl; exact h) ?_
  have gq5 : ∀ w, More w0 Φ (B48 ++ ((ob29, blk (cs27 ++ r31) 30) :: ((ob22, blk ((u8s l21) ++ r24) 5) :: ((some b40, blk (u8s a0.address.toList) 23) :: B18)))) w → More w0 Φ ((ob29, blk (cs27 ++ r31) 30) :: ((ob22, blk ((u8s l21) ++ r24) 5) :: ((some b40, blk (u8s a0.address.toList) 23) :: B18))) w := fun w q => More.mono (fun w m => (m).appR) q
  replace v41 := v41.mono gq5
  replace v44 := v44.mono gq5
  replace v42 := v42.mono gq5
  replace v43 := v43.mono gq5
  replace h28 := h28.mono (ItRd.mono gq5)
  replace v8 := v8.mono gq5
  replace h10 := LogRd.mono gq5 _ _ h10
  replace v3 := v3.mono gq5
  replace h5 := h5.mono (Ar8Rd.mono gq5)
  replace h50 := ItRd.mono (Ψ := (More w0 Φ (B48 ++ ((ob29, blk (cs27 ++ r31) 30) :: ((ob22, blk ((u8s l21) ++ r24) 5) :: ((some b40, blk (u8s a0.address.toList) 23) :: B18)))))) (fun w q => Z117 q) _ _ h50
  have h64 := h50
  obtain ⟨A55, c56, A58, c59, cs61, e63, v57, v60, h62⟩ := ItRd.opn h50
  subst e63
  have m65 := v57.mx
  have m66 := v60.mx
  have m67 := v57.mx
  have m68 := v60.mx
  obtain ⟨x70, hx69, hf⟩ := Z100 hf
  refine Z11 5 rfl (by kernel_rfl) rfl Try.call40 rfl (fun N' hN' => Z132 w0 (More w0 Φ (B48 ++ ((ob29, blk (cs27 ++ r31) 30) :: ((ob22, blk ((u8s l21) ++ r24) 5) :: ((some b40, blk (u8s a0.address.toList) 23) :: B18))))) N' (fun w m => Z103 hΦ 3 (hN' w m) rfl) A6 c7 a0.data x70 v8 hx69) rfl ?_
  rintro L74 M75 ⟨B71, cs72, h73, e76, e77⟩
  rw [e76, e77]
  clear e76 e77 L74 M75
  refine Z19 (M' := ((some b15, blk [.bool (p20), .slice ((ob22).map fun k => ⟨k, 0, none⟩) l21.length c23, .slice ((ob29).map fun k => ⟨k, 0, none⟩) l26.length c30] 30) :: (some b14, blk [.bool false, .slice none 0 0, .slice none 0 0] 30) :: (some b13, blk (⟨a0.address, .slice A1 a0.topics.length c2, .slice A6 a0.data.length c7⟩ : LogC).C 27) :: ((B71 ++ (B48 ++ ((ob29, blk (cs27 ++ r31) 30) :: ((ob22, blk ((u8s l21) ++ r24) 5) :: ((some b40, blk (u8s a0.address.toList) 23) :: B18))))) ++ N))) (fun w m => by have h := Z107 (A := B71) m 0 3 rfl rfl; exact h) (fun w m => by have h := Z118 (B := ((ob29, blk (cs27 ++ r31) 30) :: ((ob22, blk ((u8s l21) ++ r24) 5) :: ((some b40, blk (u8s a0.address.toList) 23) :: B18)))) (B' := (B71 ++ (B48 ++ ((ob29, blk (cs27 ++ r31) 30) :: ((ob22, blk ((u8s l21) ++ r24) 5) :: ((some b40, blk (u8s a0.address.toList) 23) :: B18)))))) ((List.sublist_append_right _ _).trans (List.sublist_append_right _ _)) (m.pick [0, 2] 3 rfl rfl) 2 rfl; exact h) ?_
  have gq6 : ∀ w, More w0 Φ (B71 ++ (B48 ++ ((ob29, blk (cs27 ++ r31) 30) :: ((ob22, blk ((u8s l21) ++ r24) 5) :: ((some b40, blk (u8s a0.address.toList) 23) :: B18))))) w → More w0 Φ (B48 ++ ((ob29, blk (cs27 ++ r31) 30) :: ((ob22, blk ((u8s l21) ++ r24) 5) :: ((some b40, blk (u8s a0.address.toList) 23) :: B18)))) w := fun w q => More.mono (fun w m => (m).appR) q
  replace v41 := v41.mono gq6
  replace v44 := v44.mono gq6
  replace v42 := v42.mono gq6
  replace v43 := v43.mono gq6
  replace h28 := h28.mono (ItRd.mono gq6)
  replace v8 := v8.mono gq6
  replace h64 := ItRd.mono gq6 _ _ h64
  replace v57 := v57.mono gq6
  replace v60 := v60.mono gq6
  replace h62 := h62.mono (ItRd.mono gq6)
  replace h10 := LogRd.mono gq6 _ _ h10
  replace v3 := v3.mono gq6
  replace h5 := h5.mono (Ar8Rd.mono gq6)
  replace h73 := ItRd.mono (Ψ := (More w0 Φ (B71 ++ (B48 ++ ((ob29, blk (cs27 ++ r31) 30) :: ((ob22, blk ((u8s l21) ++ r24) 5) :: ((some b40, blk (u8s a0.address.toList) 23) :: B18))))))) (fun w q => Z117 q) _ _ h73
  have h87 := h73
  obtain ⟨A78, c79, A81, c82, cs84, e86, v80, v83, h85⟩ := ItRd.opn h73
  subst e86
  have m88 := v80.mx
  have m89 := v83.mx
  have m90 := v80.mx
  have m91 := v83.mx
  refine XW.new 6 rfl (by kernel_rfl) rfl (NV.bsA rfl rfl (by intro x hx; simp at hx; rcases hx with rfl | rfl | rfl <;> exact rfl) rfl rfl rfl (by decide) (by decide) rfl) rfl (fun b92 => ?_)
  have h95 : Reps (ItRd (More w0 Φ (B71 ++ (B48 ++ ((ob29, blk (cs27 ++ r31) 30) :: ((ob22, blk ((u8s l21) ++ r24) 5) :: ((some b40, blk (u8s a0.address.toList) 23) :: B18))))))) (([.bool (x47.list), .slice A55 x47.data.length c56, .slice A58 x47.items.length c59] : List Value) ++ ([.bool (p20), .slice ((ob22).map fun k => ⟨k, 0, none⟩) l21.length c23, .slice ((ob29).map fun k => ⟨k, 0, none⟩) l26.length c30] : List Value) ++ ([.bool (x70.list), .slice A78 x70.data.length c79, .slice A81 x70.items.length c82] : List Value)) [x47, (It.mk (p20) l21 l26), x70] := by simpa using (show Reps (ItRd (More w0 Φ (B71 ++ (B48 ++ ((ob29, blk (cs27 ++ r31) 30) :: ((ob22, blk ((u8s l21) ++ r24) 5) :: ((some b40, blk (u8s a0.address.toList) 23) :: B18))))))) _ [x47, (It.mk (p20) l21 l26), x70] from (.cons h64 (.cons (ItRd.mk v42 v43 h28) (.cons h87 .nil))))
  refine Z19 (M' := (((some b92), blk ((([.bool (x47.list), .slice A55 x47.data.length c56, .slice A58 x47.items.length c59] : List Value) ++ ([.bool (p20), .slice ((ob22).map fun k => ⟨k, 0, none⟩) l21.length c23, .slice ((ob29).map fun k => ⟨k, 0, none⟩) l26.length c30] : List Value) ++ ([.bool (x70.list), .slice A78 x70.data.length c79, .slice A81 x70.items.length c82] : List Value)) ++ []) 30) :: (some b15, blk [.bool (p20), .slice ((ob22).map fun k => ⟨k, 0, none⟩) l21.length c23, .slice ((ob29).map fun k => ⟨k, 0, none⟩) l26.length c30] 30) :: (some b14, blk [.bool false, .slice none 0 0, .slice none 0 0] 30) :: (some b13, blk (⟨a0.address, .slice A1 a0.topics.length c2, .slice A6 a0.data.length c7⟩ : LogC).C 27) :: ((B71 ++ (B48 ++ ((ob29, blk (cs27 ++ r31) 30) :: ((ob22, blk ((u8s l21) ++ r24) 5) :: ((some b40, blk (u8s a0.address.toList) 23) :: B18))))) ++ N))) (fun w m => m) (fun w m => by have h := Z118 (B := ((ob29, blk (cs27 ++ r31) 30) :: ((ob22, blk ((u8s l21) ++ r24) 5) :: ((some b40, blk (u8s a0.address.toList) 23) :: B18)))) (B' := (B71 ++ (B48 ++ ((ob29, blk (cs27 ++ r31) 30) :: ((ob22, blk ((u8s l21) ++ r24) 5) :: ((some b40, blk (u8s a0.address.toList) 23) :: B18)))))) ((List.sublist_append_right _ _).trans (List.sublist_append_right _ _)) (m.pick [1, 3] 4 rfl rfl) 2 rfl; exact h) ?_
  have o93 : OwnS (some b92) ([x47, (It.mk (p20) l21 l26), x70] : List (It)).length 3 3 (([.bool (x47.list), .slice A55 x47.data.length c56, .slice A58 x47.items.length c59] : List Value) ++ ([.bool (p20), .slice ((ob22).map fun k => ⟨k, 0, none⟩) l21.length c23, .slice ((ob29).map fun k => ⟨k, 0, none⟩) l26.length c30] : List Value) ++ ([.bool (x70.list), .slice A78 x70.data.length c79, .slice A81 x70.items.length c82] : List Value)) [] := ⟨by simp [ItRd], by simp [ItRd], (fun h => nomatch h), by simp⟩
  have mx_o93 := o93.mx
  refine XW.slot (sl (some b92) 0 ([x47, (It.mk (p20) l21 l26), x70] : List (It)).length 3) (rfl) (Z10 7 rfl (by kernel_rfl) rfl (Z111 (l := [.bool false, .slice none 0 0, .slice none 0 0]) (cs := [.bool true, .slice none 0 0, sl (some b92) 0 ([x47, (It.mk (p20) l21 l26), x70] : List (It)).length 3]) [(0, [.bool true]), (2, [sl (some b92) 0 ([x47, (It.mk (p20) l21 l26), x70] : List (It)).length 3])] rfl rfl rfl rfl rfl rfl rfl) rfl ?_)
  refine Z19 (M' := ((some b14, blk [.bool false, .slice none 0 0, .slice none 0 0] 30) :: ((some b92), blk ((([.bool (x47.list), .slice A55 x47.data.length c56, .slice A58 x47.items.length c59] : List Value) ++ ([.bool (p20), .slice ((ob22).map fun k => ⟨k, 0, none⟩) l21.length c23, .slice ((ob29).map fun k => ⟨k, 0, none⟩) l26.length c30] : List Value) ++ ([.bool (x70.list), .slice A78 x70.data.length c79, .slice A81 x70.items.length c82] : List Value)) ++ []) 30) :: (some b15, blk [.bool (p20), .slice ((ob22).map fun k => ⟨k, 0, none⟩) l21.length c23, .slice ((ob29).map fun k => ⟨k, 0, none⟩) l26.length c30] 30) :: (some b13, blk (⟨a0.address, .slice A1 a0.topics.length c2, .slice A6 a0.data.length c7⟩ : LogC).C 27) :: ((B71 ++ (B48 ++ ((ob29, blk (cs27 ++ r31) 30) :: ((ob22, blk ((u8s l21) ++ r24) 5) :: ((some b40, blk (u8s a0.address.toList) 23) :: B18))))) ++ N))) (fun w m => m.pick [2, 0, 1] 3 rfl rfl) (fun w m => by have h := Z118 (B := ((ob29, blk (cs27 ++ r31) 30) :: ((ob22, blk ((u8s l21) ++ r24) 5) :: ((some b40, blk (u8s a0.address.toList) 23) :: B18)))) (B' := (B71 ++ (B48 ++ ((ob29, blk (cs27 ++ r31) 30) :: ((ob22, blk ((u8s l21) ++ r24) 5) :: ((some b40, blk (u8s a0.address.toList) 23) :: B18)))))) ((List.sublist_append_right _ _).trans (List.sublist_append_right _ _)) (m.pick [2, 3] 4 rfl rfl) 2 rfl; exact h) ?_
  refine XW.sv 8 rfl (by kernel_rfl) (Z104 rfl rfl rfl (by intro u hu; simp at hu; rcases hu with rfl | rfl | rfl <;> rfl) rfl rfl rfl) (fun w m => by have h := Z118 (B := ((ob29, blk (cs27 ++ r31) 30) :: ((ob22, blk ((u8s l21) ++ r24) 5) :: ((some b40, blk (u8s a0.address.toList) 23) :: B18)))) (B' := (B71 ++ (B48 ++ ((ob29, blk (cs27 ++ r31) 30) :: ((ob22, blk ((u8s l21) ++ r24) 5) :: ((some b40, blk (u8s a0.address.toList) 23) :: B18)))))) ((List.sublist_append_right _ _).trans (List.sublist_append_right _ _)) (m.pick [2, 3] 4 rfl rfl) 2 rfl; exact h) ?_
  refine XW.nil (by kernel_rfl) (Z1 (CW.ret (QW.mem (M' := (some b14, blk [.bool true, .slice none 0 0, sl (some b92) 0 ([x47, (It.mk (p20) l21 l26), x70] : List (It)).length 3] 30) :: (some b15, blk [.bool (p20), .slice ((ob22).map fun k => ⟨k, 0, none⟩) l21.length c23, .slice ((ob29).map fun k => ⟨k, 0, none⟩) l26.length c30] 30) :: (some b13, blk (⟨a0.address, .slice A1 a0.topics.length c2, .slice A6 a0.data.length c7⟩ : LogC).C 27) :: ((((some b92), blk ((([.bool (x47.list), .slice A55 x47.data.length c56, .slice A58 x47.items.length c59] : List Value) ++ ([.bool (p20), .slice ((ob22).map fun k => ⟨k, 0, none⟩) l21.length c23, .slice ((ob29).map fun k => ⟨k, 0, none⟩) l26.length c30] : List Value) ++ ([.bool (x70.list), .slice A78 x70.data.length c79, .slice A81 x70.items.length c82] : List Value)) ++ []) 30) :: (B71 ++ (B48 ++ ((ob29, blk (cs27 ++ r31) 30) :: ((ob22, blk ((u8s l21) ++ r24) 5) :: ((some b40, blk (u8s a0.address.toList) 23) :: B18)))))) ++ N)) (fun w m => m.pick [0, 2, 3, 1] 4 rfl rfl) ?_)))
  have gq7 : ∀ w, More w0 Φ (((some b92), blk ((([.bool (x47.list), .slice A55 x47.data.length c56, .slice A58 x47.items.length c59] : List Value) ++ ([.bool (p20), .slice ((ob22).map fun k => ⟨k, 0, none⟩) l21.length c23, .slice ((ob29).map fun k => ⟨k, 0, none⟩) l26.length c30] : List Value) ++ ([.bool (x70.list), .slice A78 x70.data.length c79, .slice A81 x70.items.length c82] : List Value)) ++ []) 30) :: (B71 ++ (B48 ++ ((ob29, blk (cs27 ++ r31) 30) :: ((ob22, blk ((u8s l21) ++ r24) 5) :: ((some b40, blk (u8s a0.address.toList) 23) :: B18)))))) w → More w0 Φ (B71 ++ (B48 ++ ((ob29, blk (cs27 ++ r31) 30) :: ((ob22, blk ((u8s l21) ++ r24) 5) :: ((some b40, blk (u8s a0.address.toList) 23) :: B18))))) w := fun w q => More.mono (fun w m => (m).tail) q
  replace v41 := v41.mono gq7
  replace v44 := v44.mono gq7
  replace v42 := v42.mono gq7
  replace v43 := v43.mono gq7
  replace h28 := h28.mono (ItRd.mono gq7)
  replace v8 := v8.mono gq7
  replace h64 := ItRd.mono gq7 _ _ h64
  replace v57 := v57.mono gq7
  replace v60 := v60.mono gq7
  replace h62 := h62.mono (ItRd.mono gq7)
  replace h87 := ItRd.mono gq7 _ _ h87
  replace v80 := v80.mono gq7
  replace v83 := v83.mono gq7
  replace h85 := h85.mono (ItRd.mono gq7)
  replace h95 := h95.mono (ItRd.mono gq7)
  replace h10 := LogRd.mono gq7 _ _ h10
  replace v3 := v3.mono gq7
  replace h5 := h5.mono (Ar8Rd.mono gq7)
  have v96 : View (More w0 Φ (((some b92), blk ((([.bool (x47.list), .slice A55 x47.data.length c56, .slice A58 x47.items.length c59] : List Value) ++ ([.bool (p20), .slice ((ob22).map fun k => ⟨k, 0, none⟩) l21.length c23, .slice ((ob29).map fun k => ⟨k, 0, none⟩) l26.length c30] : List Value) ++ ([.bool (x70.list), .slice A78 x70.data.length c79, .slice A81 x70.items.length c82] : List Value)) ++ []) 30) :: (B71 ++ (B48 ++ ((ob29, blk (cs27 ++ r31) 30) :: ((ob22, blk ((u8s l21) ++ r24) 5) :: ((some b40, blk (u8s a0.address.toList) 23) :: B18))))))) (((some b92)).map fun k => ⟨k, 0, none⟩) ([x47, (It.mk (p20) l21 l26), x70] : List (It)).length 3 3 (([.bool (x47.list), .slice A55 x47.data.length c56, .slice A58 x47.items.length c59] : List Value) ++ ([.bool (p20), .slice ((ob22).map fun k => ⟨k, 0, none⟩) l21.length c23, .slice ((ob29).map fun k => ⟨k, 0, none⟩) l26.length c30] : List Value) ++ ([.bool (x70.list), .slice A78 x70.data.length c79, .slice A81 x70.items.length c82] : List Value)) := o93.view (by decide) (fun w q => q.2.sublist (List.singleton_sublist.2 (List.mem_cons_self ..)))
  have e0 := Zi hf
  subst e0
  have v97 : View (More w0 Φ (((some b92), blk ((([.bool (x47.list), .slice A55 x47.data.length c56, .slice A58 x47.items.length c59] : List Value) ++ ([.bool (p20), .slice ((ob22).map fun k => ⟨k, 0, none⟩) l21.length c23, .slice ((ob29).map fun k => ⟨k, 0, none⟩) l26.length c30] : List Value) ++ ([.bool (x70.list), .slice A78 x70.data.length c79, .slice A81 x70.items.length c82] : List Value)) ++ []) 30) :: (B71 ++ (B48 ++ ((ob29, blk (cs27 ++ r31) 30) :: ((ob22, blk ((u8s l21) ++ r24) 5) :: ((some b40, blk (u8s a0.address.toList) 23) :: B18))))))) none ([] : List (BitVec 8)).length 0 1 (u8s []) := View.nil
  refine Z102 (rs := [.cell 2 30]) ([.agg [.bool true, .slice none 0 0, .slice (((some b92)).map fun k => ⟨k, 0, none⟩) ([x47, (It.mk (p20) l21 l26), x70] : List (It)).length 3].toArray]) ((((some b92), blk ((([.bool (x47.list), .slice A55 x47.data.length c56, .slice A58 x47.items.length c59] : List Value) ++ ([.bool (p20), .slice ((ob22).map fun k => ⟨k, 0, none⟩) l21.length c23, .slice ((ob29).map fun k => ⟨k, 0, none⟩) l26.length c30] : List Value) ++ ([.bool (x70.list), .slice A78 x70.data.length c79, .slice A81 x70.items.length c82] : List Value)) ++ []) 30) :: (B71 ++ (B48 ++ ((ob29, blk (cs27 ++ r31) 30) :: ((ob22, blk ((u8s l21) ++ r24) 5) :: ((some b40, blk (u8s a0.address.toList) 23) :: B18))))))) rfl ?_ rfl ?_ ?_ _ (.inl rfl)
  ·exact ⟨⟨_, _, _, _, rfl, Zh, rfl, rfl, rfl, rfl⟩, trivial⟩
  ·exact ⟨(((some b92), blk ((([.bool (x47.list), .slice A55 x47.data.length c56, .slice A58 x47.items.length c59] : List Value) ++ ([.bool (p20), .slice ((ob22).map fun k => ⟨k, 0, none⟩) l21.length c23, .slice ((ob29).map fun k => ⟨k, 0, none⟩) l26.length c30] : List Value) ++ ([.bool (x70.list), .slice A78 x70.data.length c79, .slice A81 x70.items.length c82] : List Value)) ++ []) 30) :: (B71 ++ (B48 ++ ((ob29, blk (cs27 ++ r31) 30) :: ((ob22, blk ((u8s l21) ++ r24) 5) :: ((some b40, blk (u8s a0.address.toList) 23) :: B18)))))), [.bool true, .slice none 0 0, .slice (((some b92)).map fun k => ⟨k, 0, none⟩) ([x47, (It.mk (p20) l21 l26), x70] : List (It)).length 3], (ItRd.mk v97 v96 h95), rfl, rfl⟩
  ·exact (fun w m => m.pick [] 3 rfl rfl)
 ·skip
  refine CW.block (CW.mem (M' := ((none, blk ((u8s ([] : List (BitVec 8))) ++ []) 5) :: (some b15, blk [.bool true, .slice none 0 0, .slice none 0 0] 30) :: (some b14, blk [.bool false, .slice none 0 0, .slice none 0 0] 30) :: (some b13, blk (⟨a0.address, .slice A1 a0.topics.length c2, .slice A6 a0.data.length c7⟩ : LogC).C 27) :: ([] ++ N))) (fun w m => m.nil_ent _) (CW.mem (M' := ((none, blk ([] ++ []) 30) :: (none, blk ((u8s ([] : List (BitVec 8))) ++ []) 5) :: (some b15, blk [.bool true, .slice none 0 0, .slice none 0 0] 30) :: (some b14, blk [.bool false, .slice none 0 0, .slice none 0 0] 30) :: (some b13, blk (⟨a0.address, .slice A1 a0.topics.length c2, .slice A6 a0.data.length c7⟩ : LogC).C 27) :: ([] ++ N))) (fun w m => m.nil_ent _) (Z114 (fun k L' M' => ∃ n100 : Nat, ∃ p102 : Bool, ∃ l103 : List (BitVec 8), ∃ l108 : List (It), ∃ B98 : List Ent, ∃ ob104 : Option Nat, ∃ c105 : Nat, ∃ r106 : List Value, ∃ cs109 : List Value, ∃ ob111 : Option Nat, ∃ c112 : Nat, ∃ r113 : List Value, (waybillref17_logItem.l1 a0 k n100 p102 l103 l108) = some q16 ∧ (∀ w, Mem w0 w B98 → Mem w0 w []) ∧ (n100 ≤ 9223372036854775807) ∧ (OwnS ob104 l103.length c105 1 (u8s l103) r106) ∧ (Reps (ItRd (More w0 Φ B98)) cs109 l108) ∧ (OwnS ob111 l108.length c112 3 cs109 r113) ∧ L' = [(1, ptr (some b13) 0), (2, ptr (some b14) 0), (3, ptr (some b15) 0), (4, .int .i64 ((n100 : Nat) : Int))] ∧ M' = ((ob104, blk ((u8s l103) ++ r106) 5) :: (ob111, blk (cs109 ++ r113) 30) :: (some b15, blk [.bool (p102), sl ob104 0 l103.length c105, sl ob111 0 l108.length c112] 30) :: (some b14, blk [.bool false, .slice none 0 0, .slice none 0 0] 30) :: (some b13, blk (⟨a0.address, .slice A1 a0.topics.length c2, .slice A6 a0.data.length c7⟩ : LogC).C 27) :: (B98 ++ N))) (k0 := (a0.topics.length - 0 + 2)) ⟨0, true, ([] : List (BitVec 8)), ([] : List (It)), [], none, 0, [], [], none, 0, [], hq17, (fun w m => m), (by omega), OwnS.nil, Reps.nil, OwnS.nil, rfl, rfl⟩ ⟨rfl, rfl, rfl, rfl, trivial⟩ (fun w m => m.pick [1, 0, 2, 3, 4] 5 rfl rfl) ?_)))
  clear hq17
  rintro k115 L118 M119 ⟨n100, p102, l103, l108, B98, ob104, c105, r106, cs109, ob111, c112, r113, hl116, hB99, b101, o107, h110, o114, e120, e121⟩
  rw [e120, e121]
  clear e120 e121 L118 M119
  rcases k115 with _ | k115
  ·rw [waybillref17_logItem.l1] at hl116; cases hl116
  rw [waybillref17_logItem.l1] at hl116
  have gq8 : ∀ w, More w0 Φ B98 w → More w0 Φ [] w := fun w q => More.mono (fun w m => hB99 w (m)) q
  replace h10 := LogRd.mono gq8 _ _ h10
  replace v3 := v3.mono gq8
  replace h5 := h5.mono (Ar8Rd.mono gq8)
  replace v8 := v8.mono gq8
  have m122 := o107.mx
  have m123 := o114.mx
  refine Z4 (Z4 (Z2 (Z0 (Z3 rfl) rfl (Z0 (Z30 rfl rfl rfl rfl) rfl (Z7 (ptr (some b13) 20) rfl (Z0 (Z29 rfl (List.Mem.tail _ (List.Mem.tail _ (List.Mem.tail _ (List.Mem.tail _ Zh)))) rfl rfl rfl (Z106 (⟨a0.address, .slice A1 a0.topics.length c2, .slice A6 a0.data.length c7⟩ : LogC))) rfl (Z0 (RV.len rfl rfl) rfl (Z0 (RV.lss rfl rfl) rfl (Z7 (.bool (decide (n100 < a0.topics.length))) (congrArg Value.bool (decide_eq_decide.2 (by omega))) ?_)))))))))
  refine Z6 (Z1 ?_)
  by_cases h124 : n100 < a0.topics.length
  ·replace hl116 := if_t hl116 h124
   refine Z13 rfl (decide_eq_true h124) (CW.skip (Z1 (Z4 (CW.block (Z4 (Z2 (Z0 (Z30 rfl rfl rfl rfl) rfl (Z7 (ptr (some b13) 20) rfl (Z0 (Z29 rfl (List.Mem.tail _ (List.Mem.tail _ (List.Mem.tail _ (List.Mem.tail _ Zh)))) rfl rfl rfl (Z106 (⟨a0.address, .slice A1 a0.topics.length c2, .slice A6 a0.data.length c7⟩ : LogC))) rfl (Z0 (Z3 rfl) rfl ?_))))))))))
   obtain ⟨x125, hx126, hl116⟩ := Z100 hl116
   have hl127 := Z113 hx126
   refine Z0 (Z105 (n100) rfl rfl rfl rfl rfl (v3.isSome (by decide) hl127) (by omega)) rfl ?_
   obtain ⟨cs128, h129, h130⟩ := h5.get Ar8Rd.len hx126
   have h129a := h129
   subst h129a
   refine Z0 (Z110 rfl rfl rfl rfl (fun w m => v3.load (Z103 hΦ 5 m rfl) h130) ((Z101 _).trans Zv)) rfl (OW.alloc (l := (u8s (Vector.replicate 32 0#8).toList)) rfl (by rw [Vector.toList_replicate, ← Z135]; rfl) rfl (fun b131 => (Z28 (Z104 rfl rfl rfl (Z125 _) rfl ((Z101 _).trans Zv) ((Z101 _).trans Zv)) (Z6 (Z1 (Z134 5 mixed (by kernel_rfl) rfl (Z18 0 rfl (by kernel_rfl) rfl (Z30 rfl rfl rfl rfl) rfl (Z18 1 rfl (by kernel_rfl) rfl (Z29 rfl (List.Mem.tail _ (List.Mem.tail _ (List.Mem.tail _ Zh))) rfl rfl rfl rfl) rfl (UW.mem (M' := (ob104, blk ((u8s l103) ++ r106) 5) :: (ob111, blk (cs109 ++ r113) 30) :: (some b15, blk [.bool (p102), sl ob104 0 l103.length c105, sl ob111 0 l108.length c112] 30) :: (some b14, blk [.bool false, .slice none 0 0, .slice none 0 0] 30) :: (some b13, blk (⟨a0.address, .slice A1 a0.topics.length c2, .slice A6 a0.data.length c7⟩ : LogC).C 27) :: (((some b131, blk (u8s x125.toList) 51) :: B98) ++ N)) (fun w m => m.pick [1, 2, 3, 4, 5, 0] 6 rfl rfl) ?_)))))))))
   have gq9 : ∀ w, More w0 Φ ((some b131, blk (u8s x125.toList) 51) :: B98) w → More w0 Φ B98 w := fun w q => More.mono (fun w m => (m).tail) q
   replace v3 := v3.mono gq9
   replace h5 := h5.mono (Ar8Rd.mono gq9)
   replace h110 := h110.mono (ItRd.mono gq9)
   replace h10 := LogRd.mono gq9 _ _ h10
   replace v8 := v8.mono gq9
   have v132 : View (More w0 Φ ((some b131, blk (u8s x125.toList) 51) :: B98)) (some ⟨b131, 0, none⟩) x125.toList.length 32 1 (u8s x125.toList) := View.arr (w0 := w0) (te := 51) (fun w q => q.2.sublist (List.singleton_sublist.2 (List.mem_cons_self ..))) (by decide)
   refine Z18 2 rfl (by kernel_rfl) rfl (RV.arr_all rfl rfl rfl) rfl ?_
   refine UW.slot (.slice (some ⟨b131, 0, none⟩) x125.toList.length 32) (by rw [Zv]; try rfl) ?_
   have v133 := v132
   have m134 := v133.mx
   obtain ⟨x136, hx135, hl116⟩ := Z100 hl116
   refine Z25 3 rfl (by kernel_rfl) rfl Try.call40 rfl (fun N' hN' => Z132 w0 (More w0 Φ ((some b131, blk (u8s x125.toList) 51) :: B98)) N' (fun w m => Z103 hΦ 5 (hN' w m) rfl) (some ⟨b131, 0, none⟩) 32 x125.toList x136 v133 hx135) rfl ?_
   rintro L140 M141 ⟨B137, cs138, h139, e142, e143⟩
   rw [e142, e143]
   clear e142 e143 L140 M141
   refine UW.mem (M' := ((ob104, blk ((u8s l103) ++ r106) 5) :: (ob111, blk (cs109 ++ r113) 30) :: (some b15, blk [.bool (p102), sl ob104 0 l103.length c105, sl ob111 0 l108.length c112] 30) :: (some b14, blk [.bool false, .slice none 0 0, .slice none 0 0] 30) :: (some b13, blk (⟨a0.address, .slice A1 a0.topics.length c2, .slice A6 a0.data.length c7⟩ : LogC).C 27) :: ((B137 ++ ((some b131, blk (u8s x125.toList) 51) :: B98)) ++ N))) (fun w m => by have h := Z107 (A := B137) m 0 5 rfl rfl; exact h) ?_
   have gq10 : ∀ w, More w0 Φ (B137 ++ ((some b131, blk (u8s x125.toList) 51) :: B98)) w → More w0 Φ ((some b131, blk (u8s x125.toList) 51) :: B98) w := fun w q => More.mono (fun w m => (m).appR) q
   replace v3 := v3.mono gq10
   replace h5 := h5.mono (Ar8Rd.mono gq10)
   replace h110 := h110.mono (ItRd.mono gq10)
   replace v133 := v133.mono gq10
   replace h10 := LogRd.mono gq10 _ _ h10
   replace v8 := v8.mono gq10
   replace h139 := ItRd.mono (Ψ := (More w0 Φ (B137 ++ ((some b131, blk (u8s x125.toList) 51) :: B98)))) (fun w q => Z117 q) _ _ h139
   have h153 := h139
   obtain ⟨A144, c145, A147, c148, cs150, e152, v146, v149, h151⟩ := ItRd.opn h139
   subst e152
   have m154 := v146.mx
   have m155 := v149.mx
   have m156 := v146.mx
   have m157 := v149.mx
   refine UW.new 4 rfl (by kernel_rfl) rfl (NV.bsA rfl rfl (by intro x hx; simp at hx; subst hx; exact rfl) rfl rfl rfl (by decide) (by decide) rfl) rfl (fun b158 => ?_)
   have h161 : Reps (ItRd (More w0 Φ (B137 ++ ((some b131, blk (u8s x125.toList) 51) :: B98)))) (([.bool (x136.list), .slice A144 x136.data.length c145, .slice A147 x136.items.length c148] : List Value)) [x136] := Reps.one h153
   refine UW.mem (M' := (((some b158), blk ((([.bool (x136.list), .slice A144 x136.data.length c145, .slice A147 x136.items.length c148] : List Value)) ++ []) 30) :: (ob104, blk ((u8s l103) ++ r106) 5) :: (ob111, blk (cs109 ++ r113) 30) :: (some b15, blk [.bool (p102), sl ob104 0 l103.length c105, sl ob111 0 l108.length c112] 30) :: (some b14, blk [.bool false, .slice none 0 0, .slice none 0 0] 30) :: (some b13, blk (⟨a0.address, .slice A1 a0.topics.length c2, .slice A6 a0.data.length c7⟩ : LogC).C 27) :: ((B137 ++ ((some b131, blk (u8s x125.toList) 51) :: B98)) ++ N))) (fun w m => m) ?_
   have o159 : OwnS (some b158) ([x136] : List (It)).length 1 3 (([.bool (x136.list), .slice A144 x136.data.length c145, .slice A147 x136.items.length c148] : List Value)) [] := ⟨by simp [ItRd], by simp [ItRd], (fun h => nomatch h), by simp⟩
   have mx_o159 := o159.mx
   refine UW.slot (sl (some b158) 0 ([x136] : List (It)).length 1) (rfl) (UW.nil (by kernel_rfl) (OW.rot2 ?_))
   obtain ⟨g162, hl116⟩ := Z116 hl116
   have h167 := h110.app h161
   refine OW.appendOwn (s := 3) rfl rfl rfl rfl rfl rfl o114 (fun w m => m.rd0 (List.Mem.tail _ Zh) (fun e => o159.nilc (by decide) e)) o159.n (h161.cell1 ItRd.one) (o159.zeroO (by decide)) (by decide) (by decide) (by first | omega | (simp only [i30, List.length_nil]; omega)) rfl rfl ((l108 ++ ([x136] : List (It))).length) (cs109 ++ (([.bool (x136.list), .slice A144 x136.data.length c145, .slice A147 x136.items.length c148] : List Value))) (List.length_append ..).symm rfl (fun ob163 r164 c165 o166 => ?_)
   have m168 := o166.mx
   refine Z0 (Z30 rfl rfl rfl rfl) rfl (OW.rot3 (Z28 (SV.store rfl rfl rfl rfl rfl (by simp)) (OW.cells [.bool (p102), sl ob104 0 l103.length c105, sl ob163 0 (l108 ++ ([x136] : List (It))).length c165] rfl (Z6 (Z27 (Z1 (Z2 (Z0 (Z3 rfl) rfl (Z0 (RV.add rfl rfl (by omega)) rfl (Z7 (.int .i64 (((n100 + 1) : Nat) : Int)) (by first | rfl | (congr 1) | (congr 1; omega)) ?_))))))))))
   refine Z0 (Z5 rfl) rfl (Z6 ?_)
   exact Z109 (k' := k115) (Nat.lt_succ_self _) ⟨(n100 + 1), (p102), l103, (l108 ++ ([x136] : List (It))), (B137 ++ ((some b131, blk (u8s x125.toList) 51) :: B98)), ob104, c105, r106, (cs109 ++ (([.bool (x136.list), .slice A144 x136.data.length c145, .slice A147 x136.items.length c148] : List Value))), ob163, c165, r164, hl116, (fun w m => hB99 w (((m).appR).tail)), (by omega), o107, h167, o166, rfl, rfl⟩ ⟨rfl, rfl, rfl, rfl, trivial⟩ (fun w m => m.pick [3, 1, 0, 4, 5] 6 rfl rfl)
  ·replace hl116 := if_f hl116 h124
   refine Z14 rfl (decide_eq_false h124) (CW.exit (Z9 (Z9 (Z15 ?_))))
   exact QW.join ⟨(p102), l103, l108, B98, ob104, c105, r106, cs109, ob111, c112, r113, (Zi hl116).symm, (fun w m => hB99 w (m)), o107, h110, o114, rfl, rfl⟩ ⟨rfl, rfl, rfl, trivial⟩ (fun w m => m.pick [0, 1, 2, 3, 4] 5 rfl rfl)
theorem waybillref17_ParseLog_does (w0 : World) (Φ : Ctx) (N : List Ent) (hΦ : ∀ w, Mem w0 w N → Φ w) (cs0_ : List Value) (a0 : It) (res0 : Log) (res1 : Nat) (ha0 : ItRd Φ cs0_ a0) (hf : waybillref17_ParseLog a0 = some (res0, res1)) : DoesG Try.prog 14 [.agg cs0_.toArray] w0 [] N (fun v G => ∃ B : List Ent, ∃ cr0 : List Value, (LogRd (More w0 Φ B) cr0 res0) ∧ (res1 ≤ 9223372036854775807) ∧ v = .tuple #[.agg cr0.toArray, .int .i64 ((res1 : Nat) : Int)] ∧ G = B) := by
 unfold waybillref17_ParseLog at hf
 replace ha0 := ItRd.mono (Ψ := More w0 Φ []) (fun w q => q.1) _ _ ha0
 have h10 := ha0
 obtain ⟨A1, c2, A4, c5, cs7, e9, v3, v6, h8⟩ := ItRd.opn ha0
 subst e9
 have m11 := v3.mx
 have m12 := v6.mx
 refine DoesG.enter Try.func14 rfl Try.ntmps14 rfl (M := (([] ++ N))) rfl (Z4 (Z2 (OW.boxA rfl rfl (fun b13 => (OW.alloc (l := (⟨(Vector.replicate 20 0#8), .slice none 0 0, .slice none 0 0⟩ : LogC).C) rfl (by kernel_rfl) rfl (fun b14 => (Z0 (Z5 rfl) rfl (Z6 (Z1 (Z4 (Z2 (Z0 (Z22 rfl (List.Mem.tail _ Zh) rfl rfl rfl rfl rfl) rfl ?_))))))))))))
 obtain ⟨⟨x16, x17⟩, hx15, hf⟩ := Z100 hf
 try dsimp only at hf
 refine Z12 Try.call29 rfl (waybillref14_List_does w0 (More w0 Φ []) ((some b14, blk (⟨(Vector.replicate 20 0#8), .slice none 0 0, .slice none 0 0⟩ : LogC).C 27) :: (some b13, blk [.bool (a0.list), .slice A1 a0.data.length c2, .slice A4 a0.items.length c5] 30) :: ([] ++ N)) (fun w m => Z103 hΦ 2 m rfl) [.bool (a0.list), .slice A1 a0.data.length c2, .slice A4 a0.items.length c5] a0 x16 x17 h10 hx15) rfl rfl ?_
 rintro L24 M25 ⟨B18, cs19, A21, c22, h20, v23, e26, e27⟩
 rw [e26, e27]
 clear e26 e27 L24 M25
 refine Z20 (M' := ((some b14, blk (⟨(Vector.replicate 20 0#8), .slice none 0 0, .slice none 0 0⟩ : LogC).C 27) :: (some b13, blk [.bool (a0.list), .slice A1 a0.data.length c2, .slice A4 a0.items.length c5] 30) :: ((B18 ++ []) ++ N))) (fun w m => by have h := Z107 (A := B18) m 0 2 rfl rfl; exact h) ?_
 have gq1 : ∀ w, More w0 Φ (B18 ++ []) w → More w0 Φ [] w := fun w q => More.mono (fun w m => (m).appR) q
 replace h10 := ItRd.mono gq1 _ _ h10
 replace v3 := v3.mono gq1
 replace v6 := v6.mono gq1
 replace h8 := h8.mono (ItRd.mono gq1)
 replace v23 := v23.mono (Ψ := (More w0 Φ (B18 ++ []))) (fun w q => Z117 q)
 replace h20 := h20.mono (ItRd.mono (Ψ := (More w0 Φ (B18 ++ []))) (fun w q => Z117 q))
 have m28 := v23.mx
 refine Z0 (Z3 rfl) rfl (Z0 (Z17 rfl rfl) rfl (Z7 (.slice A21 x16.length c22) (rfl) (Z0 (Z17 rfl rfl) rfl (Z7 (.bool (x17)) (rfl) (Z0 (Z5 rfl) rfl (Z0 (Z5 rfl) rfl (Z6 (Z1 (Z4 (Z4 ?_))))))))))
 obtain ⟨q29, hq30, hf⟩ := Z100 hf
 refine Z115 (fun L' M' => ∃ p31 : Bool, q29 = p31 ∧ L' = [(2, ptr (some b14) 0), (4, .slice A21 x16.length c22), (28, .bool (p31))] ∧ M' = ((some b14, blk (⟨(Vector.replicate 20 0#8), .slice none 0 0, .slice none 0 0⟩ : LogC).C 27) :: ((B18 ++ []) ++ N))) ?_ ?_
 ·rintro L33 M34 ⟨p31, e32, e35, e36⟩
  rw [e35, e36]
  clear e35 e36 L33 M34
  clear hq30
  rw [e32] at hf
  clear e32
  try dsimp only at hf
  refine Z1 ?_
  by_cases h37 : p31 = true
  ·replace hf := if_t hf h37
   refine Z13 rfl (h37) (Z4 (Z2 (Z0 (Z111 (l := (⟨(Vector.replicate 20 0#8), .slice none 0 0, .slice none 0 0⟩ : LogC).C) (cs := (⟨(Vector.replicate 20 0#8), .slice none 0 0, .slice none 0 0⟩ : LogC).C) [] rfl rfl rfl (by kernel_rfl) rfl rfl rfl) rfl (Z28 (Z104 rfl rfl rfl (LogC.C_one _ rfl rfl) rfl (LogC.C_length _) (LogC.C_length _)) (Z0 (Z5 rfl) rfl (Z6 (Z1 (CW.ret (Z8 ?_)))))))))
   have er0 := Zi hf
   obtain ⟨e0, er1⟩ := Prod.mk.inj er0
   clear er0
   subst e0
   subst er1
   have v38 : View (More w0 Φ (B18 ++ [])) none ([] : List (Vector (BitVec 8) 32)).length 0 32 [] := View.nil
   have v39 : View (More w0 Φ (B18 ++ [])) none ([] : List (BitVec 8)).length 0 1 (u8s []) := View.nil
   refine Z102 (rs := [.cell 2 27, .tmp 3]) ([.agg (⟨(Vector.replicate 20 0#8), .slice none 0 0, .slice none 0 0⟩ : LogC).C.toArray, .int .i64 (172 : Int)]) ((B18 ++ [])) rfl ?_ rfl ?_ ?_ _ (.inl rfl)
   ·exact ⟨⟨_, _, _, _, rfl, Zh, rfl, rfl, (congrArg some (LogC.C_length _).symm), rfl⟩, rfl, trivial⟩
   ·exact ⟨(B18 ++ []), (⟨(Vector.replicate 20 0#8), .slice none 0 0, .slice none 0 0⟩ : LogC).C, (LogRd.mk v38 (Reps.nil) v39), (by omega), rfl, rfl⟩
   ·exact (fun w m => m.pick [] 1 rfl rfl)
  ·replace hf := if_f hf h37
   refine Z14 rfl (Bool.eq_false_iff.2 h37) (CW.skip (Z1 (Z4 (Z2 (OW.alloc (l := (⟨(Vector.replicate 20 0#8), .slice none 0 0, .slice none 0 0⟩ : LogC).C) rfl (by kernel_rfl) rfl (fun b40 => (Z6 (Z1 (Z4 (Z2 (Z0 (Z3 rfl) rfl ?_)))))))))))
   obtain ⟨x41, hx42, hf⟩ := Z100 hf
   have hl43 := Z113 hx42
   refine Z0 (Z105 (0) rfl rfl rfl rfl rfl (v23.isSome (by decide) hl43) (by omega)) rfl ?_
   obtain ⟨cs44, h45, h46⟩ := h20.get ItRd.len hx42
   have h56 := h45
   obtain ⟨A47, c48, A50, c51, cs53, e55, v49, v52, h54⟩ := ItRd.opn h45
   subst e55
   have m57 := v49.mx
   have m58 := v52.mx
   refine Z0 (Z110 rfl rfl rfl rfl (fun w m => v23.load (Z103 hΦ 2 m rfl) h46) rfl) rfl ?_
   obtain ⟨⟨x60, x61⟩, hx59, hf⟩ := Z100 hf
   try dsimp only at hf
   refine Z12 Try.call30 rfl (waybillref14_Fixed_does w0 (More w0 Φ (B18 ++ [])) ((some b40, blk (⟨(Vector.replicate 20 0#8), .slice none 0 0, .slice none 0 0⟩ : LogC).C 27) :: (some b14, blk (⟨(Vector.replicate 20 0#8), .slice none 0 0, .slice none 0 0⟩ : LogC).C 27) :: ((B18 ++ []) ++ N)) (fun w m => Z103 hΦ 2 m rfl) [.bool (x41.list), .slice A47 x41.data.length c48, .slice A50 x41.items.length c51] x41 (20 : Int) x60 x61 h56 (by omega) hx59) rfl rfl ?_
   rintro L66 M67 ⟨B62, A63, c64, v65, e68, e69⟩
   rw [e68, e69]
   clear e68 e69 L66 M67
   refine Z20 (M' := ((some b40, blk (⟨(Vector.replicate 20 0#8), .slice none 0 0, .slice none 0 0⟩ : LogC).C 27) :: (some b14, blk (⟨(Vector.replicate 20 0#8), .slice none 0 0, .slice none 0 0⟩ : LogC).C 27) :: ((B62 ++ (B18 ++ [])) ++ N))) (fun w m => by have h := Z107 (A := B62) m 0 2 rfl rfl; exact h) ?_
   have gq2 : ∀ w, More w0 Φ (B62 ++ (B18 ++ [])) w → More w0 Φ (B18 ++ []) w := fun w q => More.mono (fun w m => (m).appR) q
   replace v23 := v23.mono gq2
   replace h20 := h20.mono (ItRd.mono gq2)
   replace h56 := ItRd.mono gq2 _ _ h56
   replace v49 := v49.mono gq2
   replace v52 := v52.mono gq2
   replace h54 := h54.mono (ItRd.mono gq2)
   replace v65 := v65.mono (Ψ := (More w0 Φ (B62 ++ (B18 ++ [])))) (fun w q => Z117 q)
   have m70 := v65.mx
   refine Z0 (Z3 rfl) rfl (Z0 (Z17 rfl rfl) rfl (Z7 (.slice A63 x60.length c64) (rfl) (Z0 (Z17 rfl rfl) rfl (Z7 (.bool (x61)) (rfl) (Z0 (Z5 rfl) rfl (Z0 (Z5 rfl) rfl (Z6 (Z1 (Z4 (Z2 ?_))))))))))
   refine Z0 (Z3 rfl) rfl ?_
   obtain ⟨x71, hx72, hf⟩ := Z100 hf
   have hl73 := Z113 hx72
   refine Z0 (Z105 (1) rfl rfl rfl rfl rfl (v23.isSome (by decide) hl73) (by omega)) rfl ?_
   obtain ⟨cs74, h75, h76⟩ := h20.get ItRd.len hx72
   have h86 := h75
   obtain ⟨A77, c78, A80, c81, cs83, e85, v79, v82, h84⟩ := ItRd.opn h75
   subst e85
   have m87 := v79.mx
   have m88 := v82.mx
   refine Z0 (Z110 rfl rfl rfl rfl (fun w m => v23.load (Z103 hΦ 2 m rfl) h76) rfl) rfl ?_
   obtain ⟨⟨x90, x91⟩, hx89, hf⟩ := Z100 hf
   try dsimp only at hf
   refine Z12 Try.call29 rfl (waybillref14_List_does w0 (More w0 Φ (B62 ++ (B18 ++ []))) ((some b40, blk (⟨(Vector.replicate 20 0#8), .slice none 0 0, .slice none 0 0⟩ : LogC).C 27) :: (some b14, blk (⟨(Vector.replicate 20 0#8), .slice none 0 0, .slice none 0 0⟩ : LogC).C 27) :: ((B62 ++ (B18 ++ [])) ++ N)) (fun w m => Z103 hΦ 2 m rfl) [.bool (x71.list), .slice A77 x71.data.length c78, .slice A80 x71.items.length c81] x71 x90 x91 h86 hx89) rfl rfl ?_
   rintro L98 M99 ⟨B92, cs93, A95, c96, h94, v97, e100, e101⟩
   rw [e100, e101]
   clear e100 e101 L98 M99
   refine Z20 (M' := ((some b40, blk (⟨(Vector.replicate 20 0#8), .slice none 0 0, .slice none 0 0⟩ : LogC).C 27) :: (some b14, blk (⟨(Vector.replicate 20 0#8), .slice none 0 0, .slice none 0 0⟩ : LogC).C 27) :: ((B92 ++ (B62 ++ (B18 ++ []))) ++ N))) (fun w m => by have h := Z107 (A := B92) m 0 2 rfl rfl; exact h) ?_
   have gq3 : ∀ w, More w0 Φ (B92 ++ (B62 ++ (B18 ++ []))) w → More w0 Φ (B62 ++ (B18 ++ [])) w := fun w q => More.mono (fun w m => (m).appR) q
   replace v23 := v23.mono gq3
   replace h20 := h20.mono (ItRd.mono gq3)
   replace h56 := ItRd.mono gq3 _ _ h56
   replace v49 := v49.mono gq3
   replace v52 := v52.mono gq3
   replace h54 := h54.mono (ItRd.mono gq3)
   replace v65 := v65.mono gq3
   replace h86 := ItRd.mono gq3 _ _ h86
   replace v79 := v79.mono gq3
   replace v82 := v82.mono gq3
   replace h84 := h84.mono (ItRd.mono gq3)
   replace v97 := v97.mono (Ψ := (More w0 Φ (B92 ++ (B62 ++ (B18 ++ []))))) (fun w q => Z117 q)
   replace h94 := h94.mono (ItRd.mono (Ψ := (More w0 Φ (B92 ++ (B62 ++ (B18 ++ []))))) (fun w q => Z117 q))
   have m102 := v97.mx
   refine Z0 (Z3 rfl) rfl (Z0 (Z17 rfl rfl) rfl (Z7 (.slice A95 x90.length c96) (rfl) (Z0 (Z17 rfl rfl) rfl (Z7 (.bool (x91)) (rfl) (Z0 (Z5 rfl) rfl (Z0 (Z5 rfl) rfl (Z6 (Z1 (Z4 (Z2 ?_))))))))))
   refine Z0 (Z3 rfl) rfl ?_
   obtain ⟨x103, hx104, hf⟩ := Z100 hf
   have hl105 := Z113 hx104
   refine Z0 (Z105 (2) rfl rfl rfl rfl rfl (v23.isSome (by decide) hl105) (by omega)) rfl ?_
   obtain ⟨cs106, h107, h108⟩ := h20.get ItRd.len hx104
   have h118 := h107
   obtain ⟨A109, c110, A112, c113, cs115, e117, v111, v114, h116⟩ := ItRd.opn h107
   subst e117
   have m119 := v111.mx
   have m120 := v114.mx
   refine Z0 (Z110 rfl rfl rfl rfl (fun w m => v23.load (Z103 hΦ 2 m rfl) h108) rfl) rfl ?_
   obtain ⟨⟨x122, x123⟩, hx121, hf⟩ := Z100 hf
   try dsimp only at hf
   refine Z12 Try.call31 rfl (waybillref14_Text_does w0 (More w0 Φ (B92 ++ (B62 ++ (B18 ++ [])))) ((some b40, blk (⟨(Vector.replicate 20 0#8), .slice none 0 0, .slice none 0 0⟩ : LogC).C 27) :: (some b14, blk (⟨(Vector.replicate 20 0#8), .slice none 0 0, .slice none 0 0⟩ : LogC).C 27) :: ((B92 ++ (B62 ++ (B18 ++ []))) ++ N)) (fun w m => Z103 hΦ 2 m rfl) [.bool (x103.list), .slice A109 x103.data.length c110, .slice A112 x103.items.length c113] x103 x122 x123 h118 hx121) rfl rfl ?_
   rintro L128 M129 ⟨B124, A125, c126, v127, e130, e131⟩
   rw [e130, e131]
   clear e130 e131 L128 M129
   refine Z20 (M' := ((some b40, blk (⟨(Vector.replicate 20 0#8), .slice none 0 0, .slice none 0 0⟩ : LogC).C 27) :: (some b14, blk (⟨(Vector.replicate 20 0#8), .slice none 0 0, .slice none 0 0⟩ : LogC).C 27) :: ((B124 ++ (B92 ++ (B62 ++ (B18 ++ [])))) ++ N))) (fun w m => by have h := Z107 (A := B124) m 0 2 rfl rfl; exact h) ?_
   have gq4 : ∀ w, More w0 Φ (B124 ++ (B92 ++ (B62 ++ (B18 ++ [])))) w → More w0 Φ (B92 ++ (B62 ++ (B18 ++ []))) w := fun w q => More.mono (fun w m => (m).appR) q
   replace v23 := v23.mono gq4
   replace h20 := h20.mono (ItRd.mono gq4)
   replace h56 := ItRd.mono gq4 _ _ h56
   replace v49 := v49.mono gq4
   replace v52 := v52.mono gq4
   replace h54 := h54.mono (ItRd.mono gq4)
   replace v65 := v65.mono gq4
   replace h86 := ItRd.mono gq4 _ _ h86
   replace v79 := v79.mono gq4
   replace v82 := v82.mono gq4
   replace h84 := h84.mono (ItRd.mono gq4)
   replace v97 := v97.mono gq4
   replace h94 := h94.mono (ItRd.mono gq4)
   replace h118 := ItRd.mono gq4 _ _ h118
   replace v111 := v111.mono gq4
   replace v114 := v114.mono gq4
   replace h116 := h116.mono (ItRd.mono gq4)
   replace v127 := v127.mono (Ψ := (More w0 Φ (B124 ++ (B92 ++ (B62 ++ (B18 ++ [])))))) (fun w q => Z117 q)
   have m132 := v127.mx
   refine Z0 (Z3 rfl) rfl (Z0 (Z17 rfl rfl) rfl (Z7 (.slice A125 x122.length c126) (rfl) (Z0 (Z17 rfl rfl) rfl (Z7 (.bool (x123)) (rfl) (Z0 (Z5 rfl) rfl (Z0 (Z5 rfl) rfl (Z6 (Z1 (Z4 (Z4 ?_))))))))))
   obtain ⟨q133, hq134, hf⟩ := Z100 hf
   refine Z115 (fun L' M' => ∃ p135 : Bool, q133 = p135 ∧ L' = [(2, ptr (some b14) 0), (6, ptr (some b40) 0), (7, .slice A63 x60.length c64), (9, .slice A95 x90.length c96), (11, .slice A125 x122.length c126), (60, .bool (p135))] ∧ M' = ((some b40, blk (⟨(Vector.replicate 20 0#8), .slice none 0 0, .slice none 0 0⟩ : LogC).C 27) :: (some b14, blk (⟨(Vector.replicate 20 0#8), .slice none 0 0, .slice none 0 0⟩ : LogC).C 27) :: ((B124 ++ (B92 ++ (B62 ++ (B18 ++ [])))) ++ N))) ?_ ?_
   ·rintro L137 M138 ⟨p135, e136, e139, e140⟩
    rw [e139, e140]
    clear e139 e140 L137 M138
    clear hq134
    rw [e136] at hf
    clear e136
    try dsimp only at hf
    refine Z1 ?_
    by_cases h141 : p135 = true
    ·replace hf := if_t hf h141
     refine Z13 rfl (h141) (Z4 (Z2 (Z0 (Z111 (l := (⟨(Vector.replicate 20 0#8), .slice none 0 0, .slice none 0 0⟩ : LogC).C) (cs := (⟨(Vector.replicate 20 0#8), .slice none 0 0, .slice none 0 0⟩ : LogC).C) [] rfl rfl rfl (by kernel_rfl) rfl rfl rfl) rfl (OW.rot1 (Z28 (Z104 rfl rfl rfl (LogC.C_one _ rfl rfl) rfl (LogC.C_length _) (LogC.C_length _)) (Z0 (Z5 rfl) rfl (Z6 (Z1 (CW.ret (Z8 ?_))))))))))
     have er0 := Zi hf
     obtain ⟨e0, er1⟩ := Prod.mk.inj er0
     clear er0
     subst e0
     subst er1
     have v142 : View (More w0 Φ (B124 ++ (B92 ++ (B62 ++ (B18 ++ []))))) none ([] : List (Vector (BitVec 8) 32)).length 0 32 [] := View.nil
     have v143 : View (More w0 Φ (B124 ++ (B92 ++ (B62 ++ (B18 ++ []))))) none ([] : List (BitVec 8)).length 0 1 (u8s []) := View.nil
     refine Z102 (rs := [.cell 2 27, .tmp 3]) ([.agg (⟨(Vector.replicate 20 0#8), .slice none 0 0, .slice none 0 0⟩ : LogC).C.toArray, .int .i64 (172 : Int)]) ((B124 ++ (B92 ++ (B62 ++ (B18 ++ []))))) rfl ?_ rfl ?_ ?_ _ (.inl rfl)
     ·exact ⟨⟨_, _, _, _, rfl, Zh, rfl, rfl, (congrArg some (LogC.C_length _).symm), rfl⟩, rfl, trivial⟩
     ·exact ⟨(B124 ++ (B92 ++ (B62 ++ (B18 ++ [])))), (⟨(Vector.replicate 20 0#8), .slice none 0 0, .slice none 0 0⟩ : LogC).C, (LogRd.mk v142 (Reps.nil) v143), (by omega), rfl, rfl⟩
     ·exact (fun w m => m.pick [] 2 rfl rfl)
    ·replace hf := if_f hf h141
     refine Z14 rfl (Bool.eq_false_iff.2 h141) (CW.skip (Z1 (Z4 (Z2 (Z0 (Z30 rfl rfl rfl rfl) rfl (Z7 (ptr (some b40) 0) rfl (Z0 (RV.arr_all rfl rfl rfl) rfl (Z7 (sl (some b40) (0 + 0) (20 - 0) (20 - 0)) (rfl) (Z0 (Z3 rfl) rfl (OW.copy (ob := some b40) (off := 0 + 0) rfl rfl rfl rfl (fun h => nomatch h) (by rw [LogC.C_length]; omega) (fun w m => v65.rd w (Z103 hΦ 2 m rfl)) (Z101 _) (Z125 _) (v65.zero (by decide)) rfl ?_))))))))))
     refine OW.cells (⟨(cpV (Vector.replicate 20 0#8) 0 (x60.take (min x60.length (20 - 0)))), .slice none 0 0, .slice none 0 0⟩ : LogC).C (by rw [u8s_take]; exact LogC.C_address_cpy _ (by rw [List.length_take]; omega)) ?_
     refine Z6 (Z1 (Z4 (Z4 (Z2 (Z0 (Z5 rfl) rfl (Z6 (Z1 ?_)))))))
     obtain ⟨q144, hq145, hf⟩ := Z100 hf
     refine Z115 (fun L' M' => ∃ w148 : Vector (BitVec 8) 20, ∃ l149 : List (Vector (BitVec 8) 32), ∃ l156 : List (BitVec 8), ∃ B146 : List Ent, ∃ cs150 : List Value, ∃ ob152 : Option Nat, ∃ c153 : Nat, ∃ r154 : List Value, ∃ ob157 : Option Nat, ∃ c158 : Nat, ∃ r159 : List Value, q144 = Lp.go (w148, l149, l156) ∧ (∀ w, Mem w0 w B146 → Mem w0 w (B124 ++ (B92 ++ (B62 ++ (B18 ++ []))))) ∧ (Reps (Ar8Rd (More w0 Φ B146)) cs150 l149) ∧ (OwnS ob152 l149.length c153 32 cs150 r154) ∧ (OwnS ob157 l156.length c158 1 (u8s l156) r159) ∧ L' = [(2, ptr (some b14) 0), (6, ptr (some b40) 0), (11, .slice A125 x122.length c126)] ∧ M' = ((ob152, blk (cs150 ++ r154) 51) :: (ob157, blk ((u8s l156) ++ r159) 5) :: (some b40, blk (⟨w148, sl ob152 0 l149.length c153, sl ob157 0 l156.length c158⟩ : LogC).C 27) :: (some b14, blk (⟨(Vector.replicate 20 0#8), .slice none 0 0, .slice none 0 0⟩ : LogC).C 27) :: (B146 ++ N))) ?_ ?_
     ·rintro L162 M163 ⟨w148, l149, l156, B146, cs150, ob152, c153, r154, ob157, c158, r159, e161, hB147, h151, o155, o160, e164, e165⟩
      rw [e164, e165]
      clear e164 e165 L162 M163
      clear hq145
      rw [e161] at hf
      clear e161
      try dsimp only at hf
      have gq7 : ∀ w, More w0 Φ B146 w → More w0 Φ (B124 ++ (B92 ++ (B62 ++ (B18 ++ [])))) w := fun w q => More.mono (fun w m => hB147 w (m)) q
      replace v127 := v127.mono gq7
      have m166 := o155.mx
      have m167 := o160.mx
      refine Z1 (Z4 (Z4 (Z2 (Z0 (Z30 rfl rfl rfl rfl) rfl (Z7 (ptr (some b40) 20) rfl (Z0 (Z29 rfl (List.Mem.tail _ (List.Mem.tail _ Zh)) rfl rfl rfl (Z106 (⟨w148, sl ob152 0 l149.length c153, sl ob157 0 l156.length c158⟩ : LogC))) rfl (Z0 (RV.len rfl rfl) rfl (Z0 (RV.gtr rfl rfl) rfl (Z7 (.bool (decide (4 < l149.length))) (congrArg Value.bool (decide_eq_decide.2 (by omega))) (Z6 (Z1 ?_)))))))))))
      by_cases h168 : 4 < l149.length
      ·replace hf := if_t hf h168
       refine Z13 rfl (decide_eq_true h168) (Z4 (Z2 (Z0 (Z111 (l := (⟨(Vector.replicate 20 0#8), .slice none 0 0, .slice none 0 0⟩ : LogC).C) (cs := (⟨(Vector.replicate 20 0#8), .slice none 0 0, .slice none 0 0⟩ : LogC).C) [] rfl rfl rfl (by kernel_rfl) rfl rfl rfl) rfl (OW.rot3 (Z28 (Z104 rfl rfl rfl (LogC.C_one _ rfl rfl) rfl (LogC.C_length _) (LogC.C_length _)) (Z0 (Z5 rfl) rfl (Z6 (Z1 (CW.ret (Z8 ?_))))))))))
       have er0 := Zi hf
       obtain ⟨e0, er1⟩ := Prod.mk.inj er0
       clear er0
       subst e0
       subst er1
       have v169 : View (More w0 Φ B146) none ([] : List (Vector (BitVec 8) 32)).length 0 32 [] := View.nil
       have v170 : View (More w0 Φ B146) none ([] : List (BitVec 8)).length 0 1 (u8s []) := View.nil
       refine Z102 (rs := [.cell 2 27, .tmp 3]) ([.agg (⟨(Vector.replicate 20 0#8), .slice none 0 0, .slice none 0 0⟩ : LogC).C.toArray, .int .i64 (174 : Int)]) (B146) rfl ?_ rfl ?_ ?_ _ (.inl rfl)
       ·exact ⟨⟨_, _, _, _, rfl, Zh, rfl, rfl, (congrArg some (LogC.C_length _).symm), rfl⟩, rfl, trivial⟩
       ·exact ⟨B146, (⟨(Vector.replicate 20 0#8), .slice none 0 0, .slice none 0 0⟩ : LogC).C, (LogRd.mk v169 (Reps.nil) v170), (by omega), rfl, rfl⟩
       ·exact (fun w m => m.pick [] 4 rfl rfl)
      ·replace hf := if_f hf h168
       refine Z14 rfl (decide_eq_false h168) (CW.skip (Z1 (Z4 (Z2 (Z0 (Z30 rfl rfl rfl rfl) rfl (Z7 (ptr (some b40) 21) rfl (Z0 (Z29 rfl (List.Mem.tail _ (List.Mem.tail _ Zh)) rfl rfl rfl (Z124 (⟨w148, sl ob152 0 l149.length c153, sl ob157 0 l156.length c158⟩ : LogC))) rfl (Z0 (Z3 rfl) rfl (OW.rot1 ?_)))))))))
       obtain ⟨g171, hf⟩ := Z116 hf
       refine OW.appendOwn (s := 1) rfl rfl rfl rfl rfl rfl o160 (fun w m => v127.rd w (Z103 hΦ 4 m rfl)) v127.n (Z125 _) (v127.zero (by decide)) (by decide) (by decide) (by first | omega | (simp only [i5, List.length_nil]; omega)) rfl rfl ((l156 ++ x122).length) (u8s (l156 ++ x122)) (List.length_append ..).symm (u8s_app _ _) (fun ob172 r173 c174 o175 => ?_)
       have m176 := o175.mx
       refine Z0 (Z30 rfl rfl rfl rfl) rfl (Z7 (ptr (some b40) 21) rfl (OW.rot2 (Z28 (SV.store rfl rfl rfl rfl rfl (by rw [LogC.C_length]; omega)) (OW.cells (⟨w148, sl ob152 0 l149.length c153, sl ob172 0 (l156 ++ x122).length c174⟩ : LogC).C (LogC.C_data_set _ (sl ob172 0 (l156 ++ x122).length c174)) (Z6 (Z1 (Z4 (Z2 (Z0 (Z22 rfl Zh rfl rfl rfl rfl (LogC.C_length _)) rfl (OW.rot3 ?_))))))))))
       refine Z28 (Z104 rfl rfl rfl (LogC.C_one _ rfl rfl) rfl (LogC.C_length _) (LogC.C_length _)) (Z0 (Z5 rfl) rfl (Z6 (Z1 (CW.ret (QW.mem (M' := (some b14, blk (⟨w148, sl ob152 0 l149.length c153, sl ob172 0 (l156 ++ x122).length c174⟩ : LogC).C 27) :: (some b40, blk (⟨w148, sl ob152 0 l149.length c153, sl ob172 0 (l156 ++ x122).length c174⟩ : LogC).C 27) :: (ob172, blk ((u8s (l156 ++ x122)) ++ r173) 5) :: (((ob152, blk (cs150 ++ r154) 51) :: B146) ++ N)) (fun w m => m.pick [0, 1, 2, 3] 4 rfl rfl) ?_)))))
       have gq8 : ∀ w, More w0 Φ ((ob152, blk (cs150 ++ r154) 51) :: B146) w → More w0 Φ B146 w := fun w q => More.mono (fun w m => (m).tail) q
       replace v127 := v127.mono gq8
       replace h151 := h151.mono (Ar8Rd.mono gq8)
       have v177 : View (More w0 Φ ((ob152, blk (cs150 ++ r154) 51) :: B146)) ((ob152).map fun k => ⟨k, 0, none⟩) l149.length c153 32 cs150 := o155.view (by decide) (fun w q => q.2.sublist (List.singleton_sublist.2 (List.mem_cons_self ..)))
       refine QW.mem (M' := (some b14, blk (⟨w148, .slice ((ob152).map fun k => ⟨k, 0, none⟩) l149.length c153, sl ob172 0 (l156 ++ x122).length c174⟩ : LogC).C 27) :: (some b40, blk (⟨w148, .slice ((ob152).map fun k => ⟨k, 0, none⟩) l149.length c153, sl ob172 0 (l156 ++ x122).length c174⟩ : LogC).C 27) :: (((ob172, blk ((u8s (l156 ++ x122)) ++ r173) 5) :: ((ob152, blk (cs150 ++ r154) 51) :: B146)) ++ N)) (fun w m => m.pick [0, 1, 2] 3 rfl rfl) ?_
       have gq9 : ∀ w, More w0 Φ ((ob172, blk ((u8s (l156 ++ x122)) ++ r173) 5) :: ((ob152, blk (cs150 ++ r154) 51) :: B146)) w → More w0 Φ ((ob152, blk (cs150 ++ r154) 51) :: B146) w := fun w q => More.mono (fun w m => (m).tail) q
       replace v127 := v127.mono gq9
       replace v177 := v177.mono gq9
       replace h151 := h151.mono (Ar8Rd.mono gq9)
       have v178 : View (More w0 Φ ((ob172, blk ((u8s (l156 ++ x122)) ++ r173) 5) :: ((ob152, blk (cs150 ++ r154) 51) :: B146))) ((ob172).map fun k => ⟨k, 0, none⟩) (l156 ++ x122).length c174 1 (u8s (l156 ++ x122)) := o175.view (by decide) (fun w q => q.2.sublist (List.singleton_sublist.2 (List.mem_cons_self ..)))
       have er0 := Zi hf
       obtain ⟨e0, er1⟩ := Prod.mk.inj er0
       clear er0
       subst e0
       subst er1
       refine Z102 (rs := [.cell 2 27, .tmp 3]) ([.agg (⟨w148, .slice ((ob152).map fun k => ⟨k, 0, none⟩) l149.length c153, .slice ((ob172).map fun k => ⟨k, 0, none⟩) (l156 ++ x122).length c174⟩ : LogC).C.toArray, .int .i64 (0 : Int)]) (((ob172, blk ((u8s (l156 ++ x122)) ++ r173) 5) :: ((ob152, blk (cs150 ++ r154) 51) :: B146))) rfl ?_ rfl ?_ ?_ _ (.inl rfl)
       ·exact ⟨⟨_, _, _, _, rfl, Zh, rfl, rfl, (congrArg some (LogC.C_length _).symm), rfl⟩, rfl, trivial⟩
       ·exact ⟨((ob172, blk ((u8s (l156 ++ x122)) ++ r173) 5) :: ((ob152, blk (cs150 ++ r154) 51) :: B146)), (⟨w148, .slice ((ob152).map fun k => ⟨k, 0, none⟩) l149.length c153, .slice ((ob172).map fun k => ⟨k, 0, none⟩) (l156 ++ x122).length c174⟩ : LogC).C, (LogRd.mk v177 h151 v178), (by omega), rfl, rfl⟩
       ·exact (fun w m => m.pick [] 2 rfl rfl)
     ·skip
      refine CW.block (CW.mem (M' := ((none, blk ([] ++ []) 51) :: (some b40, blk (⟨(cpV (Vector.replicate 20 0#8) 0 (x60.take (min x60.length (20 - 0)))), .slice none 0 0, .slice none 0 0⟩ : LogC).C 27) :: (some b14, blk (⟨(Vector.replicate 20 0#8), .slice none 0 0, .slice none 0 0⟩ : LogC).C 27) :: ((B124 ++ (B92 ++ (B62 ++ (B18 ++ [])))) ++ N))) (fun w m => m.nil_ent _) (CW.mem (M' := ((none, blk ((u8s ([] : List (BitVec 8))) ++ []) 5) :: (none, blk ([] ++ []) 51) :: (some b40, blk (⟨(cpV (Vector.replicate 20 0#8) 0 (x60.take (min x60.length (20 - 0)))), .slice none 0 0, .slice none 0 0⟩ : LogC).C 27) :: (some b14, blk (⟨(Vector.replicate 20 0#8), .slice none 0 0, .slice none 0 0⟩ : LogC).C 27) :: ((B124 ++ (B92 ++ (B62 ++ (B18 ++ [])))) ++ N))) (fun w m => m.nil_ent _) (Z114 (fun k L' M' => ∃ n181 : Nat, ∃ w183 : Vector (BitVec 8) 20, ∃ l184 : List (Vector (BitVec 8) 32), ∃ l191 : List (BitVec 8), ∃ B179 : List Ent, ∃ cs185 : List Value, ∃ ob187 : Option Nat, ∃ c188 : Nat, ∃ r189 : List Value, ∃ ob192 : Option Nat, ∃ c193 : Nat, ∃ r194 : List Value, (waybillref17_ParseLog.l1 x90 k n181 w183 l184 l191) = some q144 ∧ (∀ w, Mem w0 w B179 → Mem w0 w (B124 ++ (B92 ++ (B62 ++ (B18 ++ []))))) ∧ (n181 ≤ 9223372036854775807) ∧ (Reps (Ar8Rd (More w0 Φ B179)) cs185 l184) ∧ (OwnS ob187 l184.length c188 32 cs185 r189) ∧ (OwnS ob192 l191.length c193 1 (u8s l191) r194) ∧ L' = [(2, ptr (some b14) 0), (6, ptr (some b40) 0), (9, .slice A95 x90.length c96), (11, .slice A125 x122.length c126), (13, .int .i64 ((n181 : Nat) : Int))] ∧ M' = ((ob187, blk (cs185 ++ r189) 51) :: (ob192, blk ((u8s l191) ++ r194) 5) :: (some b40, blk (⟨w183, sl ob187 0 l184.length c188, sl ob192 0 l191.length c193⟩ : LogC).C 27) :: (some b14, blk (⟨(Vector.replicate 20 0#8), .slice none 0 0, .slice none 0 0⟩ : LogC).C 27) :: (B179 ++ N))) (k0 := (x90.length - 0 + 2)) ⟨0, (cpV (Vector.replicate 20 0#8) 0 (x60.take (min x60.length (20 - 0)))), ([] : List (Vector (BitVec 8) 32)), ([] : List (BitVec 8)), (B124 ++ (B92 ++ (B62 ++ (B18 ++ [])))), [], none, 0, [], none, 0, [], hq145, (fun w m => m), (by omega), Reps.nil, OwnS.nil, OwnS.nil, rfl, rfl⟩ ⟨rfl, rfl, rfl, rfl, rfl, trivial⟩ (fun w m => m.pick [1, 0, 2, 3] 4 rfl rfl) ?_)))
      clear hq145
      rintro k196 L199 M200 ⟨n181, w183, l184, l191, B179, cs185, ob187, c188, r189, ob192, c193, r194, hl197, hB180, b182, h186, o190, o195, e201, e202⟩
      rw [e201, e202]
      clear e201 e202 L199 M200
      rcases k196 with _ | k196
      ·rw [waybillref17_ParseLog.l1] at hl197; cases hl197
      rw [waybillref17_ParseLog.l1] at hl197
      have gq10 : ∀ w, More w0 Φ B179 w → More w0 Φ (B124 ++ (B92 ++ (B62 ++ (B18 ++ [])))) w := fun w q => More.mono (fun w m => hB180 w (m)) q
      replace v97 := v97.mono gq10
      replace h94 := h94.mono (ItRd.mono gq10)
      replace v127 := v127.mono gq10
      have m203 := o190.mx
      have m204 := o195.mx
      refine Z4 (Z4 (Z2 (Z0 (Z3 rfl) rfl (Z0 (Z3 rfl) rfl (Z0 (RV.len rfl rfl) rfl (Z0 (RV.lss rfl rfl) rfl (Z7 (.bool (decide (n181 < x90.length))) (congrArg Value.bool (decide_eq_decide.2 (by omega))) (Z6 (Z1 ?_)))))))))
      by_cases h205 : n181 < x90.length
      ·replace hl197 := if_t hl197 h205
       refine Z13 rfl (decide_eq_true h205) (CW.skip (Z1 (Z4 (CW.block (Z4 (Z2 (Z0 (Z3 rfl) rfl (Z0 (Z3 rfl) rfl ?_))))))))
       obtain ⟨x206, hx207, hl197⟩ := Z100 hl197
       have hl208 := Z113 hx207
       refine Z0 (Z105 (n181) rfl rfl rfl rfl rfl (v97.isSome (by decide) hl208) (by omega)) rfl ?_
       obtain ⟨cs209, h210, h211⟩ := h94.get ItRd.len hx207
       have h221 := h210
       obtain ⟨A212, c213, A215, c216, cs218, e220, v214, v217, h219⟩ := ItRd.opn h210
       subst e220
       have m222 := v214.mx
       have m223 := v217.mx
       refine Z0 (Z110 rfl rfl rfl rfl (fun w m => v97.load (Z103 hΦ 4 m rfl) h211) rfl) rfl ?_
       obtain ⟨⟨x225, x226⟩, hx224, hl197⟩ := Z100 hl197
       try dsimp only at hl197
       refine Z12 Try.call30 rfl (waybillref14_Fixed_does w0 (More w0 Φ B179) ((ob187, blk (cs185 ++ r189) 51) :: (ob192, blk ((u8s l191) ++ r194) 5) :: (some b40, blk (⟨w183, sl ob187 0 l184.length c188, sl ob192 0 l191.length c193⟩ : LogC).C 27) :: (some b14, blk (⟨(Vector.replicate 20 0#8), .slice none 0 0, .slice none 0 0⟩ : LogC).C 27) :: (B179 ++ N)) (fun w m => Z103 hΦ 4 m rfl) [.bool (x206.list), .slice A212 x206.data.length c213, .slice A215 x206.items.length c216] x206 (32 : Int) x225 x226 h221 (by omega) hx224) rfl rfl ?_
       rintro L231 M232 ⟨B227, A228, c229, v230, e233, e234⟩
       rw [e233, e234]
       clear e233 e234 L231 M232
       refine Z20 (M' := ((ob187, blk (cs185 ++ r189) 51) :: (ob192, blk ((u8s l191) ++ r194) 5) :: (some b40, blk (⟨w183, sl ob187 0 l184.length c188, sl ob192 0 l191.length c193⟩ : LogC).C 27) :: (some b14, blk (⟨(Vector.replicate 20 0#8), .slice none 0 0, .slice none 0 0⟩ : LogC).C 27) :: ((B227 ++ B179) ++ N))) (fun w m => by have h := Z107 (A := B227) m 0 4 rfl rfl; exact h) ?_
       have gq11 : ∀ w, More w0 Φ (B227 ++ B179) w → More w0 Φ B179 w := fun w q => More.mono (fun w m => (m).appR) q
       replace v97 := v97.mono gq11
       replace h94 := h94.mono (ItRd.mono gq11)
       replace v127 := v127.mono gq11
       replace h221 := ItRd.mono gq11 _ _ h221
       replace v214 := v214.mono gq11
       replace v217 := v217.mono gq11
       replace h219 := h219.mono (ItRd.mono gq11)
       replace h186 := h186.mono (Ar8Rd.mono gq11)
       replace v230 := v230.mono (Ψ := (More w0 Φ (B227 ++ B179))) (fun w q => Z117 q)
       have m235 := v230.mx
       refine Z0 (Z3 rfl) rfl (Z0 (Z17 rfl rfl) rfl (Z7 (.slice A228 x225.length c229) (rfl) (Z0 (Z17 rfl rfl) rfl (Z7 (.bool (x226)) (rfl) (Z0 (Z5 rfl) rfl (Z0 (Z5 rfl) rfl (Z6 (Z1 (Z4 (Z4 (Z2 ?_)))))))))))
       refine Z0 (Z3 rfl) rfl (Z0 (RV.not rfl) rfl (Z6 (Z1 ?_)))
       by_cases h236 : x226 = true
       ·replace hl197 := if_t hl197 h236
        refine Z14 rfl (congrArg (fun b => !b) (h236)) (CW.skip (Z1 (Z4 (Z2 (OW.alloc (l := (u8s (Vector.replicate 32 0#8).toList)) rfl (by rw [Vector.toList_replicate, ← Z135]; rfl) rfl (fun b237 => (Z6 (Z1 (Z4 (Z2 (Z0 (RV.arr_all rfl rfl rfl) rfl (Z7 (sl (some b237) (0 + 0) (32 - 0) (32 - 0)) (rfl) (Z0 (Z3 rfl) rfl (OW.copy (ob := some b237) (off := 0 + 0) rfl rfl rfl rfl (fun h => nomatch h) (by rw [Z101, Zv]; omega) (fun w m => v230.rd w (Z103 hΦ 5 m rfl)) (Z101 _) (Z125 _) (v230.zero (by decide)) rfl ?_))))))))))))))
        refine OW.cells (u8s (cpV (Vector.replicate 32 0#8) 0 (x225.take (min x225.length (32 - 0)))).toList) (by rw [u8s_take]; exact u8s_cpV _ (by rw [List.length_take]; omega)) ?_
        refine Z6 (Z1 (Z2 (Z0 (Z30 rfl rfl rfl rfl) rfl (Z7 (ptr (some b40) 20) rfl (Z0 (Z29 rfl (List.Mem.tail _ (List.Mem.tail _ (List.Mem.tail _ Zh))) rfl rfl rfl (Z106 (⟨w183, sl ob187 0 l184.length c188, sl ob192 0 l191.length c193⟩ : LogC))) rfl (Z0 (Z22 rfl Zh rfl rfl rfl rfl ((Z101 _).trans Zv)) rfl ?_))))))
        refine OW.ofN (NV.bsA rfl rfl (by intro x hx; simp at hx; subst hx; exact (Z101 _).trans Zv) rfl rfl rfl (by decide) (by decide) rfl) rfl (fun b238 => ?_)
        have h241 : Reps (Ar8Rd (More w0 Φ (B227 ++ B179))) (((u8s (cpV (Vector.replicate 32 0#8) 0 (x225.take (min x225.length (32 - 0)))).toList) : List Value)) [(cpV (Vector.replicate 32 0#8) 0 (x225.take (min x225.length (32 - 0))))] := Reps.one Ar8Rd.mk
        refine Z20 (M' := (((some b238), blk ((((u8s (cpV (Vector.replicate 32 0#8) 0 (x225.take (min x225.length (32 - 0)))).toList) : List Value)) ++ []) 51) :: (some b237, blk (u8s (cpV (Vector.replicate 32 0#8) 0 (x225.take (min x225.length (32 - 0)))).toList) 51) :: (ob187, blk (cs185 ++ r189) 51) :: (ob192, blk ((u8s l191) ++ r194) 5) :: (some b40, blk (⟨w183, sl ob187 0 l184.length c188, sl ob192 0 l191.length c193⟩ : LogC).C 27) :: (some b14, blk (⟨(Vector.replicate 20 0#8), .slice none 0 0, .slice none 0 0⟩ : LogC).C 27) :: ((B227 ++ B179) ++ N))) (fun w m => by simpa only [List.flatten_cons, List.flatten_nil, List.append_nil, List.append_assoc] using m) ?_
        have o239 : OwnS (some b238) ([(cpV (Vector.replicate 32 0#8) 0 (x225.take (min x225.length (32 - 0))))] : List (Vector (BitVec 8) 32)).length 1 32 (((u8s (cpV (Vector.replicate 32 0#8) 0 (x225.take (min x225.length (32 - 0)))).toList) : List Value)) [] := ⟨by simp [Ar8Rd], by simp [Ar8Rd], (fun h => nomatch h), by simp⟩
        have mx_o239 := o239.mx
        refine Z7 (sl (some b238) 0 ([(cpV (Vector.replicate 32 0#8) 0 (x225.take (min x225.length (32 - 0))))] : List (Vector (BitVec 8) 32)).length 1) (rfl) (OW.rot2 ?_)
        obtain ⟨g242, hl197⟩ := Z116 hl197
        have h247 := h186.app h241
        refine OW.appendOwn (s := 32) rfl rfl rfl rfl rfl rfl o190 (fun w m => m.rd0 (List.Mem.tail _ Zh) (fun e => o239.nilc (by decide) e)) o239.n (h241.cell1 Ar8Rd.one) (o239.zeroO (by decide)) (by decide) (by decide) (by first | omega | (simp only [i51, List.length_nil]; omega)) rfl rfl ((l184 ++ ([(cpV (Vector.replicate 32 0#8) 0 (x225.take (min x225.length (32 - 0))))] : List (Vector (BitVec 8) 32))).length) (cs185 ++ (((u8s (cpV (Vector.replicate 32 0#8) 0 (x225.take (min x225.length (32 - 0)))).toList) : List Value))) (List.length_append ..).symm rfl (fun ob243 r244 c245 o246 => ?_)
        have m248 := o246.mx
        refine Z0 (Z30 rfl rfl rfl rfl) rfl (Z7 (ptr (some b40) 20) rfl (OW.rot4 (Z28 (SV.store rfl rfl rfl rfl rfl (by rw [LogC.C_length]; omega)) (OW.cells (⟨w183, sl ob243 0 (l184 ++ ([(cpV (Vector.replicate 32 0#8) 0 (x225.take (min x225.length (32 - 0))))] : List (Vector (BitVec 8) 32))).length c245, sl ob192 0 l191.length c193⟩ : LogC).C (LogC.C_topics_set _ (sl ob243 0 (l184 ++ ([(cpV (Vector.replicate 32 0#8) 0 (x225.take (min x225.length (32 - 0))))] : List (Vector (BitVec 8) 32))).length c245)) (Z6 (Z27 (Z1 (Z2 (Z0 (Z3 rfl) rfl (Z0 (RV.add rfl rfl (by omega)) rfl ?_))))))))))
        refine Z7 (.int .i64 (((n181 + 1) : Nat) : Int)) (by first | rfl | (congr 1) | (congr 1; omega)) (Z0 (Z5 rfl) rfl (Z6 ?_))
        exact Z109 (k' := k196) (Nat.lt_succ_self _) ⟨(n181 + 1), w183, (l184 ++ ([(cpV (Vector.replicate 32 0#8) 0 (x225.take (min x225.length (32 - 0))))] : List (Vector (BitVec 8) 32))), l191, (B227 ++ B179), (cs185 ++ (((u8s (cpV (Vector.replicate 32 0#8) 0 (x225.take (min x225.length (32 - 0)))).toList) : List Value))), ob243, c245, r244, ob192, c193, r194, hl197, (fun w m => hB180 w ((m).appR)), (by omega), h247, o246, o195, rfl, rfl⟩ ⟨rfl, rfl, rfl, rfl, rfl, trivial⟩ (fun w m => m.pick [1, 4, 0, 5] 6 rfl rfl)
       ·replace hl197 := if_f hl197 h236
        refine Z13 rfl (congrArg (fun b => !b) (Bool.eq_false_iff.2 h236)) (Z4 (Z2 (Z0 (Z111 (l := (⟨(Vector.replicate 20 0#8), .slice none 0 0, .slice none 0 0⟩ : LogC).C) (cs := (⟨(Vector.replicate 20 0#8), .slice none 0 0, .slice none 0 0⟩ : LogC).C) [] rfl rfl rfl (by kernel_rfl) rfl rfl rfl) rfl (OW.rot3 (Z28 (Z104 rfl rfl rfl (LogC.C_one _ rfl rfl) rfl (LogC.C_length _) (LogC.C_length _)) (Z0 (Z5 rfl) rfl (Z6 (Z1 (CW.ret (Z8 (Z16 (Z8 (Z8 (Z16 (Z8 ?_)))))))))))))))
        have hc := Zi hl197
        subst hc
        try dsimp only at hf
        refine Z8 ?_
        have er0 := Zi hf
        obtain ⟨e0, er1⟩ := Prod.mk.inj er0
        clear er0
        subst e0
        subst er1
        have v249 : View (More w0 Φ (B227 ++ B179)) none ([] : List (Vector (BitVec 8) 32)).length 0 32 [] := View.nil
        have v250 : View (More w0 Φ (B227 ++ B179)) none ([] : List (BitVec 8)).length 0 1 (u8s []) := View.nil
        refine Z102 (rs := [.cell 2 27, .tmp 3]) ([.agg (⟨(Vector.replicate 20 0#8), .slice none 0 0, .slice none 0 0⟩ : LogC).C.toArray, .int .i64 (172 : Int)]) ((B227 ++ B179)) rfl ?_ rfl ?_ ?_ _ (.inl rfl)
        ·exact ⟨⟨_, _, _, _, rfl, Zh, rfl, rfl, (congrArg some (LogC.C_length _).symm), rfl⟩, rfl, trivial⟩
        ·exact ⟨(B227 ++ B179), (⟨(Vector.replicate 20 0#8), .slice none 0 0, .slice none 0 0⟩ : LogC).C, (LogRd.mk v249 (Reps.nil) v250), (by omega), rfl, rfl⟩
        ·exact (fun w m => m.pick [] 4 rfl rfl)
      ·replace hl197 := if_f hl197 h205
       refine Z14 rfl (decide_eq_false h205) (CW.exit (Z9 (Z9 (Z15 ?_))))
       exact QW.join ⟨w183, l184, l191, B179, cs185, ob187, c188, r189, ob192, c193, r194, (Zi hl197).symm, (fun w m => hB180 w (m)), h186, o190, o195, rfl, rfl⟩ ⟨rfl, rfl, rfl, trivial⟩ (fun w m => m.pick [0, 1, 2, 3] 4 rfl rfl)
   ·skip
    refine Z2 (Z0 (Z3 rfl) rfl (Z0 (RV.not rfl) rfl (Z0 (Z3 rfl) rfl ?_)))
    by_cases h251 : x61 = true
    ·replace hq134 := if_t hq134 h251
     refine Z7 (.bool false) (congrArg Value.bool (congrArg (fun b => !b) (h251))) (Z24 rfl (Z0 (Z3 rfl) rfl (Z24 rfl (Z0 (RV.not rfl) rfl (Z0 (Z108 rfl rfl rfl) rfl (Z0 (Z3 rfl) rfl ?_))))))
     by_cases h252 : x91 = true
     ·replace hq134 := if_t hq134 h252
      refine Z7 (.bool false) (congrArg Value.bool (congrArg (fun b => !b) (h252))) (Z24 rfl (Z0 (Z3 rfl) rfl (Z24 rfl (Z0 (RV.not rfl) rfl (Z0 (Z108 rfl rfl rfl) rfl (Z6 ?_))))))
      exact QW.join ⟨(!x123), (Zi hq134).symm, rfl, rfl⟩ ⟨rfl, rfl, rfl, rfl, rfl, rfl, trivial⟩ (fun w m => m.pick [0, 1] 2 rfl rfl)
     ·replace hq134 := if_f hq134 h252
      refine Z7 (.bool true) (congrArg Value.bool (congrArg (fun b => !b) (Bool.eq_false_iff.2 h252))) (Z23 rfl rfl rfl (Z23 rfl rfl rfl (Z0 (Z112 rfl rfl rfl) rfl (Z6 ?_))))
      exact QW.join ⟨true, (Zi hq134).symm, rfl, rfl⟩ ⟨rfl, rfl, rfl, rfl, rfl, rfl, trivial⟩ (fun w m => m.pick [0, 1] 2 rfl rfl)
    ·replace hq134 := if_f hq134 h251
     refine Z7 (.bool true) (congrArg Value.bool (congrArg (fun b => !b) (Bool.eq_false_iff.2 h251))) (Z23 rfl rfl rfl (Z23 rfl rfl rfl (Z0 (Z112 rfl rfl rfl) rfl (Z0 (Z3 rfl) rfl (Z23 rfl rfl rfl (Z23 rfl rfl rfl (Z0 (Z112 rfl rfl rfl) rfl ?_)))))))
     refine Z6 ?_
     exact QW.join ⟨true, (Zi hq134).symm, rfl, rfl⟩ ⟨rfl, rfl, rfl, rfl, rfl, rfl, trivial⟩ (fun w m => m.pick [0, 1] 2 rfl rfl)
 ·skip
  refine Z2 (Z0 (Z3 rfl) rfl (Z0 (RV.not rfl) rfl (Z0 (Z3 rfl) rfl ?_)))
  by_cases h253 : x17 = true
  ·replace hq30 := if_t hq30 h253
   refine Z7 (.bool false) (congrArg Value.bool (congrArg (fun b => !b) (h253))) (Z24 rfl (Z0 (Z3 rfl) rfl (Z24 rfl (Z0 (RV.len rfl rfl) rfl (Z24 rfl (Z0 (RV.neq rfl rfl) rfl (Z7 (.bool (!decide (x16.length = 3))) (congrArg (fun b => Value.bool (!b)) (decide_eq_decide.2 (by omega))) ?_)))))))
   refine Z0 (Z108 rfl rfl rfl) rfl (Z6 ?_)
   exact QW.join ⟨(!decide (x16.length = 3)), (Zi hq30).symm, rfl, rfl⟩ ⟨rfl, rfl, rfl, trivial⟩ (fun w m => m.pick [0] 2 rfl rfl)
  ·replace hq30 := if_f hq30 h253
   refine Z7 (.bool true) (congrArg Value.bool (congrArg (fun b => !b) (Bool.eq_false_iff.2 h253))) (Z23 rfl rfl rfl (Z23 rfl rfl rfl (Z23 rfl rfl rfl (Z0 (Z112 rfl rfl rfl) rfl (Z6 ?_)))))
   exact QW.join ⟨true, (Zi hq30).symm, rfl, rfl⟩ ⟨rfl, rfl, rfl, trivial⟩ (fun w m => m.pick [0] 2 rfl rfl)
theorem waybilllaw17_still_does (w0 : World) (Φ : Ctx) (N : List Ent) (hΦ : ∀ w, Mem w0 w N → Φ w) (A0_ : Option Addr) (c0_ : Nat) (a0 : List (BitVec 8)) (A1_ : Option Addr) (c1_ : Nat) (a1 : List (BitVec 8)) (res0 : Bool) (va0 : View Φ A0_ (a0 ++ List.replicate 70 195#8).length c0_ 1 (u8s (a0 ++ List.replicate 70 195#8))) (va1 : View Φ A1_ a1.length c1_ 1 (u8s a1)) (hf : waybilllaw17_still a0 a1 = some res0) : DoesG Try.prog 25 [.slice A0_ a0.length c0_, .slice A1_ a1.length c1_] w0 [] N (fun v G => v = .bool res0) := by
 unfold waybilllaw17_still at hf
 replace va0 := va0.mono (Ψ := More w0 Φ []) (fun w q => q.1)
 replace va1 := va1.mono (Ψ := More w0 Φ []) (fun w q => q.1)
 have hle := va0.mx
 have hle2 : (a0 ++ List.replicate 70 195#8).length = a0.length + 70 := by rw [List.length_append, List.length_replicate]
 have v1 : View (More w0 Φ []) A0_ a0.length c0_ 1 (u8s a0) := MRoom.view va0
 have m2 := v1.mx
 have m3 := va1.mx
 refine DoesG.enter Try.func25 rfl Try.ntmps25 rfl (M := (([] ++ N))) rfl (Z4 (Z2 (Z0 (Z5 rfl) rfl (Z6 (Z1 (Z4 (Z4 (Z2 (Z0 (Z3 rfl) rfl (Z0 (RV.len rfl rfl) rfl (Z0 (Z3 rfl) rfl (Z0 (RV.len rfl rfl) rfl ?_))))))))))))
 refine Z0 (RV.neq rfl rfl) rfl (Z7 (.bool (!decide (a0.length = a1.length))) (congrArg (fun b => Value.bool (!b)) (decide_eq_decide.2 (by omega))) (Z6 (Z1 ?_)))
 by_cases h4 : a0.length = a1.length
 ·replace hf := if_t hf h4
  refine Z14 rfl (congrArg (fun b => !b) (decide_eq_true h4)) (CW.skip (Z1 (Z4 (Z2 (Z0 (Z3 rfl) rfl (Z0 (Z3 rfl) rfl (Z0 (RV.len rfl rfl) rfl (Z0 (RV.add rfl rfl (by omega)) rfl (Z7 (.int .i64 (((a1.length + 70) : Nat) : Int)) (by first | rfl | (congr 1) | (congr 1; omega)) ?_)))))))))
  obtain ⟨g6, hf⟩ := Z116 hf
  have hle := va0.le
  have hlen_ : (a0 ++ List.replicate 70 195#8).length = (a0 ++ List.replicate 70 195#8).length := rfl
  refine Z0 (RV.cut_hi ((a1.length + 70)) rfl rfl (by omega) rfl rfl (by omega)) rfl (Z7 (.slice A0_ ((a0 ++ List.replicate 70 195#8).take (a1.length + 70)).length c0_) (by rw [show (((a0 ++ List.replicate 70 195#8).take (a1.length + 70))).length = (a1.length + 70) from List.length_take.trans (Nat.min_eq_left (by omega))]) ?_)
  have v5 : View (More w0 Φ []) A0_ ((a0 ++ List.replicate 70 195#8).take (a1.length + 70)).length c0_ 1 (u8s ((a0 ++ List.replicate 70 195#8).take (a1.length + 70))) := va0.hi8 (by omega)
  have m7 := v5.mx
  refine Z0 (Z5 rfl) rfl (Z6 (Z1 (Z4 (Z4 (Z2 (Z0 (Z5 rfl) rfl (Z6 (Z1 ?_))))))))
  obtain ⟨q8, hq9, hf⟩ := Z100 hf
  refine Z115 (fun L' M' => q8 = Lp.go () ∧ L' = [] ∧ M' = (([] ++ N))) ?_ ?_
  ·rintro L11 M12 ⟨e10, e13, e14⟩
   rw [e13, e14]
   clear e13 e14 L11 M12
   clear hq9
   rw [e10] at hf
   clear e10
   try dsimp only at hf
   refine Z1 (Z4 (Z2 (Z0 (Z5 rfl) rfl (Z6 (Z1 (CW.ret ?_))))))
   have e0 := Zi hf
   subst e0
   refine Z102 (rs := [.tmp 4]) ([.bool true]) ([]) rfl ?_ rfl ?_ ?_ _ (.inl rfl)
   ·exact ⟨rfl, trivial⟩
   ·exact rfl
   ·exact (fun w m => m)
  ·skip
   refine CW.block (Z114 (fun k L' M' => ∃ n15 : Nat, (waybilllaw17_still.l1 a0 a1 k n15) = some q8 ∧ (n15 ≤ 9223372036854775807) ∧ L' = [(1, .slice A1_ a1.length c1_), (5, .slice A0_ ((a0 ++ List.replicate 70 195#8).take (a1.length + 70)).length c0_), (6, .int .i64 ((n15 : Nat) : Int))] ∧ M' = (([] ++ N))) (k0 := ((((a0 ++ List.replicate 70 195#8).take (a1.length + 70)).length) - 0 + 2)) ⟨0, hq9, (by omega), rfl, rfl⟩ ⟨rfl, rfl, rfl, trivial⟩ (fun w m => m.pick [] 0 rfl rfl) ?_)
   clear hq9
   rintro k17 L20 M21 ⟨n15, hl18, b16, e22, e23⟩
   rw [e22, e23]
   clear e22 e23 L20 M21
   rcases k17 with _ | k17
   ·rw [waybilllaw17_still.l1] at hl18; cases hl18
   rw [waybilllaw17_still.l1] at hl18
   refine Z4 (Z4 (Z2 (Z0 (Z3 rfl) rfl (Z0 (Z3 rfl) rfl (Z0 (RV.len rfl rfl) rfl (Z0 (RV.lss rfl rfl) rfl (Z7 (.bool (decide (n15 < ((a0 ++ List.replicate 70 195#8).take (a1.length + 70)).length))) (congrArg Value.bool (decide_eq_decide.2 (by omega))) (Z6 (Z1 ?_)))))))))
   by_cases h24 : n15 < ((a0 ++ List.replicate 70 195#8).take (a1.length + 70)).length
   ·replace hl18 := if_t hl18 h24
    refine Z13 rfl (decide_eq_true h24) (CW.skip (Z1 (Z4 (CW.block (Z4 ?_)))))
    obtain ⟨q25, hq26, hl18⟩ := Z100 hl18
    refine Z115 (fun L' M' => ∃ p27 : Bool, q25 = p27 ∧ L' = [(1, .slice A1_ a1.length c1_), (5, .slice A0_ ((a0 ++ List.replicate 70 195#8).take (a1.length + 70)).length c0_), (6, .int .i64 ((n15 : Nat) : Int)), (50, .bool (p27))] ∧ M' = (([] ++ N))) ?_ ?_
    ·rintro L29 M30 ⟨p27, e28, e31, e32⟩
     rw [e31, e32]
     clear e31 e32 L29 M30
     clear hq26
     rw [e28] at hl18
     clear e28
     try dsimp only at hl18
     refine Z1 ?_
     by_cases h33 : p27 = true
     ·replace hl18 := if_t hl18 h33
      refine Z13 rfl (h33) (Z4 (Z2 (Z0 (Z5 rfl) rfl (Z6 (Z1 (CW.ret (Z16 (Z8 (Z8 (Z16 (Z8 ?_)))))))))))
      have hc := Zi hl18
      subst hc
      try dsimp only at hf
      refine Z8 ?_
      have e0 := Zi hf
      subst e0
      refine Z102 (rs := [.tmp 4]) ([.bool false]) ([]) rfl ?_ rfl ?_ ?_ _ (.inl rfl)
      ·exact ⟨rfl, trivial⟩
      ·exact rfl
      ·exact (fun w m => m)
     ·replace hl18 := if_f hl18 h33
      refine Z14 rfl (Bool.eq_false_iff.2 h33) (CW.skip (Z27 (Z1 (Z2 (Z0 (Z3 rfl) rfl (Z0 (RV.add rfl rfl (by omega)) rfl (Z7 (.int .i64 (((n15 + 1) : Nat) : Int)) (by first | rfl | (congr 1) | (congr 1; omega)) (Z0 (Z5 rfl) rfl (Z6 ?_)))))))))
      exact Z109 (k' := k17) (Nat.lt_succ_self _) ⟨(n15 + 1), hl18, (by omega), rfl, rfl⟩ ⟨rfl, rfl, rfl, trivial⟩ (fun w m => m.pick [] 0 rfl rfl)
    ·skip
     refine Z134 28 mixed (by kernel_rfl) rfl (Z18 0 rfl (by kernel_rfl) rfl (Z3 rfl) rfl (Z18 1 rfl (by kernel_rfl) rfl (Z3 rfl) rfl (Z18 2 rfl (by kernel_rfl) rfl (RV.len rfl rfl) rfl (Z18 3 rfl (by kernel_rfl) rfl (RV.lss rfl rfl) rfl (UW.slot (.bool (decide (n15 < a1.length))) (congrArg Value.bool (decide_eq_decide.2 (by omega))) (Z18 4 rfl (by kernel_rfl) rfl (Z3 rfl) rfl ?_))))))
     by_cases h34 : n15 < a1.length
     ·replace hq26 := if_t hq26 h34
      refine UW.slot (.bool true) (congrArg Value.bool (decide_eq_true h34)) (Z18 5 rfl (by kernel_rfl) rfl (Z3 rfl) rfl (Z18 6 rfl (by kernel_rfl) rfl (Z3 rfl) rfl ?_))
      obtain ⟨x35, hx36, hq26⟩ := Z100 hq26
      have hl37 := Z113 hx36
      refine Z18 7 rfl (by kernel_rfl) rfl (RV.idx_r (n15) rfl rfl rfl rfl rfl (v5.isSome (by decide) hl37) (by omega)) rfl (Z18 8 rfl (by kernel_rfl) rfl (Z21 rfl rfl rfl (fun w m => v5.cell (Z103 hΦ 0 m rfl) (u8s_at hx36))) rfl (Z18 9 rfl (by kernel_rfl) rfl (Z3 rfl) rfl (Z18 10 rfl (by kernel_rfl) rfl (Z3 rfl) rfl ?_)))
      obtain ⟨x38, hx39, hq26⟩ := Z100 hq26
      have hl40 := Z113 hx39
      refine Z18 11 rfl (by kernel_rfl) rfl (RV.idx_r (n15) rfl rfl rfl rfl rfl (va1.isSome (by decide) hl40) (by omega)) rfl (Z18 12 rfl (by kernel_rfl) rfl (Z21 rfl rfl rfl (fun w m => va1.cell (Z103 hΦ 0 m rfl) (u8s_at hx39))) rfl (Z18 13 rfl (by kernel_rfl) rfl (RV.neq8 rfl (by first | rfl | exact lit8 _ rfl) rfl (by first | rfl | exact lit8 _ rfl)) rfl (Z18 14 rfl (by kernel_rfl) rfl (Z112 rfl rfl rfl) rfl (Z18 15 rfl (by kernel_rfl) rfl (Z3 rfl) rfl ?_))))
      by_cases h41 : x35 = x38
      ·replace hq26 := if_t hq26 h41
       refine UW.slot (.bool false) (congrArg Value.bool (congrArg (fun b => !b) (decide_eq_true h41))) (Z18 16 rfl (by kernel_rfl) rfl (Z3 rfl) rfl (Z18 17 rfl (by kernel_rfl) rfl (Z3 rfl) rfl (Z18 18 rfl (by kernel_rfl) rfl (RV.len rfl rfl) rfl (Z18 19 rfl (by kernel_rfl) rfl (RV.geq rfl rfl) rfl (UW.slot (.bool (decide (a1.length ≤ n15))) (congrArg Value.bool (decide_eq_decide.2 (by omega))) (Z18 20 rfl (by kernel_rfl) rfl (Z3 rfl) rfl ?_))))))
       by_cases h42 : a1.length ≤ n15
       ·replace hq26 := if_t hq26 h42
        refine UW.slot (.bool true) (congrArg Value.bool (decide_eq_true h42)) (Z18 21 rfl (by kernel_rfl) rfl (Z3 rfl) rfl (Z18 22 rfl (by kernel_rfl) rfl (Z3 rfl) rfl ?_))
        obtain ⟨x43, hx44, hq26⟩ := Z100 hq26
        have hl45 := Z113 hx44
        refine Z18 23 rfl (by kernel_rfl) rfl (RV.idx_r (n15) rfl rfl rfl rfl rfl (v5.isSome (by decide) hl45) (by omega)) rfl (Z18 24 rfl (by kernel_rfl) rfl (Z21 rfl rfl rfl (fun w m => v5.cell (Z103 hΦ 0 m rfl) (u8s_at hx44))) rfl (Z18 25 rfl (by kernel_rfl) rfl (RV.neq8 rfl (by first | rfl | exact lit8 _ rfl) rfl (by first | rfl | exact lit8 _ rfl)) rfl (Z18 26 rfl (by kernel_rfl) rfl (Z112 rfl rfl rfl) rfl (Z18 27 rfl (by kernel_rfl) rfl (Z108 rfl rfl rfl) rfl (UW.nil (by kernel_rfl) (Z6 ?_))))))
        exact QW.join ⟨(!decide (x43 = 195#8)), (Zi hq26).symm, rfl, rfl⟩ ⟨rfl, rfl, rfl, rfl, trivial⟩ (fun w m => m.pick [] 0 rfl rfl)
       ·replace hq26 := if_f hq26 h42
        refine UW.slot (.bool false) (congrArg Value.bool (decide_eq_false h42)) (UW.skip 21 rfl (by kernel_rfl) rfl rfl (UW.skip 22 rfl (by kernel_rfl) rfl rfl (UW.skip 23 rfl (by kernel_rfl) rfl rfl (UW.skip 24 rfl (by kernel_rfl) rfl rfl (UW.skip 25 rfl (by kernel_rfl) rfl rfl (Z18 26 rfl (by kernel_rfl) rfl (Z108 rfl rfl rfl) rfl (Z18 27 rfl (by kernel_rfl) rfl (Z108 rfl rfl rfl) rfl ?_)))))))
        refine UW.nil (by kernel_rfl) (Z6 ?_)
        exact QW.join ⟨false, (Zi hq26).symm, rfl, rfl⟩ ⟨rfl, rfl, rfl, rfl, trivial⟩ (fun w m => m.pick [] 0 rfl rfl)
      ·replace hq26 := if_f hq26 h41
       refine UW.slot (.bool true) (congrArg Value.bool (congrArg (fun b => !b) (decide_eq_false h41))) (UW.skip 16 rfl (by kernel_rfl) rfl rfl (UW.skip 17 rfl (by kernel_rfl) rfl rfl (UW.skip 18 rfl (by kernel_rfl) rfl rfl (UW.skip 19 rfl (by kernel_rfl) rfl rfl (UW.skip 20 rfl (by kernel_rfl) rfl rfl (UW.skip 21 rfl (by kernel_rfl) rfl rfl (UW.skip 22 rfl (by kernel_rfl) rfl rfl ?_)))))))
       refine UW.skip 23 rfl (by kernel_rfl) rfl rfl (UW.skip 24 rfl (by kernel_rfl) rfl rfl (UW.skip 25 rfl (by kernel_rfl) rfl rfl (UW.skip 26 rfl (by kernel_rfl) rfl rfl (Z18 27 rfl (by kernel_rfl) rfl (Z112 rfl rfl rfl) rfl (UW.nil (by kernel_rfl) (Z6 ?_))))))
       exact QW.join ⟨true, (Zi hq26).symm, rfl, rfl⟩ ⟨rfl, rfl, rfl, rfl, trivial⟩ (fun w m => m.pick [] 0 rfl rfl)
     ·replace hq26 := if_f hq26 h34
      refine UW.slot (.bool false) (congrArg Value.bool (decide_eq_false h34)) (UW.skip 5 rfl (by kernel_rfl) rfl rfl (UW.skip 6 rfl (by kernel_rfl) rfl rfl (UW.skip 7 rfl (by kernel_rfl) rfl rfl (UW.skip 8 rfl (by kernel_rfl) rfl rfl (UW.skip 9 rfl (by kernel_rfl) rfl rfl (UW.skip 10 rfl (by kernel_rfl) rfl rfl (UW.skip 11 rfl (by kernel_rfl) rfl rfl ?_)))))))
      refine UW.skip 12 rfl (by kernel_rfl) rfl rfl (UW.skip 13 rfl (by kernel_rfl) rfl rfl (Z18 14 rfl (by kernel_rfl) rfl (Z108 rfl rfl rfl) rfl (Z18 15 rfl (by kernel_rfl) rfl (Z3 rfl) rfl (Z18 16 rfl (by kernel_rfl) rfl (Z3 rfl) rfl (Z18 17 rfl (by kernel_rfl) rfl (Z3 rfl) rfl (Z18 18 rfl (by kernel_rfl) rfl (RV.len rfl rfl) rfl (Z18 19 rfl (by kernel_rfl) rfl (RV.geq rfl rfl) rfl ?_)))))))
      refine UW.slot (.bool (decide (a1.length ≤ n15))) (congrArg Value.bool (decide_eq_decide.2 (by omega))) (Z18 20 rfl (by kernel_rfl) rfl (Z3 rfl) rfl ?_)
      by_cases h46 : a1.length ≤ n15
      ·replace hq26 := if_t hq26 h46
       refine UW.slot (.bool true) (congrArg Value.bool (decide_eq_true h46)) (Z18 21 rfl (by kernel_rfl) rfl (Z3 rfl) rfl (Z18 22 rfl (by kernel_rfl) rfl (Z3 rfl) rfl ?_))
       obtain ⟨x47, hx48, hq26⟩ := Z100 hq26
       have hl49 := Z113 hx48
       refine Z18 23 rfl (by kernel_rfl) rfl (RV.idx_r (n15) rfl rfl rfl rfl rfl (v5.isSome (by decide) hl49) (by omega)) rfl (Z18 24 rfl (by kernel_rfl) rfl (Z21 rfl rfl rfl (fun w m => v5.cell (Z103 hΦ 0 m rfl) (u8s_at hx48))) rfl (Z18 25 rfl (by kernel_rfl) rfl (RV.neq8 rfl (by first | rfl | exact lit8 _ rfl) rfl (by first | rfl | exact lit8 _ rfl)) rfl (Z18 26 rfl (by kernel_rfl) rfl (Z112 rfl rfl rfl) rfl (Z18 27 rfl (by kernel_rfl) rfl (Z108 rfl rfl rfl) rfl (UW.nil (by kernel_rfl) (Z6 ?_))))))
       exact QW.join ⟨(!decide (x47 = 195#8)), (Zi hq26).symm, rfl, rfl⟩ ⟨rfl, rfl, rfl, rfl, trivial⟩ (fun w m => m.pick [] 0 rfl rfl)
      ·replace hq26 := if_f hq26 h46
       refine UW.slot (.bool false) (congrArg Value.bool (decide_eq_false h46)) (UW.skip 21 rfl (by kernel_rfl) rfl rfl (UW.skip 22 rfl (by kernel_rfl) rfl rfl (UW.skip 23 rfl (by kernel_rfl) rfl rfl (UW.skip 24 rfl (by kernel_rfl) rfl rfl (UW.skip 25 rfl (by kernel_rfl) rfl rfl (Z18 26 rfl (by kernel_rfl) rfl (Z108 rfl rfl rfl) rfl (Z18 27 rfl (by kernel_rfl) rfl (Z108 rfl rfl rfl) rfl ?_)))))))
       refine UW.nil (by kernel_rfl) (Z6 ?_)
       exact QW.join ⟨false, (Zi hq26).symm, rfl, rfl⟩ ⟨rfl, rfl, rfl, rfl, trivial⟩ (fun w m => m.pick [] 0 rfl rfl)
   ·replace hl18 := if_f hl18 h24
    refine Z14 rfl (decide_eq_false h24) (CW.exit (Z9 (Z9 (Z15 ?_))))
    exact QW.join ⟨(Zi hl18).symm, rfl, rfl⟩ trivial (fun w m => m.pick [] 0 rfl rfl)
 ·replace hf := if_f hf h4
  refine Z13 rfl (congrArg (fun b => !b) (decide_eq_false h4)) (Z4 (Z2 (Z0 (Z5 rfl) rfl (Z6 (Z1 (CW.ret (Z8 ?_)))))))
  have e0 := Zi hf
  subst e0
  refine Z102 (rs := [.tmp 4]) ([.bool false]) ([]) rfl ?_ rfl ?_ ?_ _ (.inl rfl)
  ·exact ⟨rfl, trivial⟩
  ·exact rfl
  ·exact (fun w m => m)
theorem waybilllaw17_stand_does (w0 : World) (Φ : Ctx) (N : List Ent) (hΦ : ∀ w, Mem w0 w N → Φ w) (A0_ : Option Addr) (c0_ : Nat) (cs0_ : List Value) (a0 : List (Log)) (a1 : BitVec 8) (res0 : Bool) (va0 : View Φ A0_ a0.length c0_ 22 cs0_) (ha0 : Reps (LogRd Φ) cs0_ a0) (hf : waybilllaw17_stand a0 a1 = some res0) : DoesG Try.prog 35 [.slice A0_ a0.length c0_, U8 a1] w0 [] N (fun v G => v = .bool res0) := by
 unfold waybilllaw17_stand at hf
 replace va0 := va0.mono (Ψ := More w0 Φ []) (fun w q => q.1)
 replace ha0 := ha0.mono (LogRd.mono (Ψ := More w0 Φ []) (fun w q => q.1))
 have m1 := va0.mx
 refine DoesG.enter Try.func35 rfl Try.ntmps35 rfl (M := (([] ++ N))) rfl (Z4 (Z2 (Z0 (Z5 rfl) rfl (Z6 (Z1 (Z4 (Z4 (Z2 (Z0 (Z5 rfl) rfl (Z6 (Z1 ?_)))))))))))
 obtain ⟨q2, hq3, hf⟩ := Z100 hf
 refine Z115 (fun L' M' => q2 = Lp.go () ∧ L' = [] ∧ M' = (([] ++ N))) ?_ ?_
 ·rintro L5 M6 ⟨e4, e7, e8⟩
  rw [e7, e8]
  clear e7 e8 L5 M6
  clear hq3
  rw [e4] at hf
  clear e4
  try dsimp only at hf
  refine Z1 (Z4 (Z2 (Z0 (Z5 rfl) rfl (Z6 (Z1 (CW.ret ?_))))))
  have e0 := Zi hf
  subst e0
  refine Z102 (rs := [.tmp 4]) ([.bool true]) ([]) rfl ?_ rfl ?_ ?_ _ (.inl rfl)
  ·exact ⟨rfl, trivial⟩
  ·exact rfl
  ·exact (fun w m => m)
 ·skip
  refine CW.block (Z114 (fun k L' M' => ∃ n9 : Nat, (waybilllaw17_stand.l1 a0 a1 k n9) = some q2 ∧ (n9 ≤ 9223372036854775807) ∧ L' = [(0, .slice A0_ a0.length c0_), (1, U8 a1), (5, .int .i64 ((n9 : Nat) : Int))] ∧ M' = (([] ++ N))) (k0 := (a0.length - 0 + 2)) ⟨0, hq3, (by omega), rfl, rfl⟩ ⟨rfl, rfl, rfl, trivial⟩ (fun w m => m.pick [] 0 rfl rfl) ?_)
  clear hq3
  rintro k11 L14 M15 ⟨n9, hl12, b10, e16, e17⟩
  rw [e16, e17]
  clear e16 e17 L14 M15
  rcases k11 with _ | k11
  ·rw [waybilllaw17_stand.l1] at hl12; cases hl12
  rw [waybilllaw17_stand.l1] at hl12
  refine Z4 (Z4 (Z2 (Z0 (Z3 rfl) rfl (Z0 (Z3 rfl) rfl (Z0 (RV.len rfl rfl) rfl (Z0 (RV.lss rfl rfl) rfl (Z7 (.bool (decide (n9 < a0.length))) (congrArg Value.bool (decide_eq_decide.2 (by omega))) (Z6 (Z1 ?_)))))))))
  by_cases h18 : n9 < a0.length
  ·replace hl12 := if_t hl12 h18
   refine Z13 rfl (decide_eq_true h18) (CW.skip (Z1 (Z4 (CW.block (Z4 (Z4 (Z2 (Z0 (Z5 rfl) rfl (Z6 (Z1 ?_))))))))))
   obtain ⟨q19, hq20, hl12⟩ := Z100 hl12
   refine Z115 (fun L' M' => q19 = Lp.go () ∧ L' = [(0, .slice A0_ a0.length c0_), (1, U8 a1), (5, .int .i64 ((n9 : Nat) : Int))] ∧ M' = (([] ++ N))) ?_ ?_
   ·rintro L22 M23 ⟨e21, e24, e25⟩
    rw [e24, e25]
    clear e24 e25 L22 M23
    clear hq20
    rw [e21] at hl12
    clear e21
    try dsimp only at hl12
    refine Z1 (Z4 (Z2 (Z0 (Z5 rfl) rfl (Z6 (Z1 ?_)))))
    obtain ⟨q26, hq27, hl12⟩ := Z100 hl12
    refine Z115 (fun L' M' => q26 = Lp.go () ∧ L' = [(0, .slice A0_ a0.length c0_), (1, U8 a1), (5, .int .i64 ((n9 : Nat) : Int))] ∧ M' = (([] ++ N))) ?_ ?_
    ·rintro L29 M30 ⟨e28, e31, e32⟩
     rw [e31, e32]
     clear e31 e32 L29 M30
     clear hq27
     rw [e28] at hl12
     clear e28
     try dsimp only at hl12
     refine Z27 (Z1 (Z2 (Z0 (Z3 rfl) rfl (Z0 (RV.add rfl rfl (by omega)) rfl (Z7 (.int .i64 (((n9 + 1) : Nat) : Int)) (by first | rfl | (congr 1) | (congr 1; omega)) (Z0 (Z5 rfl) rfl (Z6 ?_)))))))
     exact Z109 (k' := k11) (Nat.lt_succ_self _) ⟨(n9 + 1), hl12, (by omega), rfl, rfl⟩ ⟨rfl, rfl, rfl, trivial⟩ (fun w m => m.pick [] 0 rfl rfl)
    ·skip
     refine CW.block (Z114 (fun k L' M' => ∃ n33 : Nat, (waybilllaw17_stand.l2 a0 a1 n9 k n33) = some q26 ∧ (n33 ≤ 9223372036854775807) ∧ L' = [(0, .slice A0_ a0.length c0_), (1, U8 a1), (5, .int .i64 ((n9 : Nat) : Int)), (7, .int .i64 ((n33 : Nat) : Int))] ∧ M' = (([] ++ N))) (k0 := (((a0[n9]?)).elim 2 fun x37 => (x37.data.length - 0 + 2))) ⟨0, hq27, (by omega), rfl, rfl⟩ ⟨rfl, rfl, rfl, rfl, trivial⟩ (fun w m => m.pick [] 0 rfl rfl) ?_)
     clear hq27
     rintro k35 L38 M39 ⟨n33, hl36, b34, e40, e41⟩
     rw [e40, e41]
     clear e40 e41 L38 M39
     rcases k35 with _ | k35
     ·rw [waybilllaw17_stand.l2] at hl36; cases hl36
     rw [waybilllaw17_stand.l2] at hl36
     refine Z4 (Z4 (Z2 (Z0 (Z3 rfl) rfl (Z0 (Z3 rfl) rfl (Z0 (Z3 rfl) rfl ?_)))))
     obtain ⟨x42, hx43, hl36⟩ := Z100 hl36
     have hl44 := Z113 hx43
     refine Z0 (Z105 (n9) rfl rfl rfl rfl rfl (va0.isSome (by decide) hl44) (by omega)) rfl ?_
     obtain ⟨cs45, h46, h47⟩ := ha0.get LogRd.len hx43
     have h57 := h46
     obtain ⟨A48, c49, cs51, A53, c54, e56, v50, h52, v55⟩ := LogRd.opn h46
     subst e56
     have m58 := v50.mx
     have m59 := v55.mx
     refine Z0 (Z31 rfl rfl rfl rfl) rfl (Z0 (Z21 rfl rfl rfl (fun w m => va0.load_fld (Z103 hΦ 0 m rfl) h47 (Z124 (⟨x42.address, .slice A48 x42.topics.length c49, .slice A53 x42.data.length c54⟩ : LogC)))) rfl (Z0 (RV.len rfl rfl) rfl (Z0 (RV.lss rfl rfl) rfl (Z7 (.bool (decide (n33 < x42.data.length))) (congrArg Value.bool (decide_eq_decide.2 (by omega))) (Z6 (Z1 ?_))))))
     by_cases h60 : n33 < x42.data.length
     ·replace hl36 := if_t hl36 h60
      refine Z13 rfl (decide_eq_true h60) (CW.skip (Z1 (Z4 (CW.block (Z4 (Z2 (Z0 (Z3 rfl) rfl (Z0 (Z3 rfl) rfl ?_))))))))
      obtain ⟨x61, hx62, hl36⟩ := Z100 hl36
      have hl63 := Z113 hx62
      refine Z0 (Z105 (n9) rfl rfl rfl rfl rfl (va0.isSome (by decide) hl63) (by omega)) rfl ?_
      obtain ⟨cs64, h65, h66⟩ := ha0.get LogRd.len hx62
      have h76 := h65
      obtain ⟨A67, c68, cs70, A72, c73, e75, v69, h71, v74⟩ := LogRd.opn h65
      subst e75
      have m77 := v69.mx
      have m78 := v74.mx
      refine Z0 (Z31 rfl rfl rfl rfl) rfl (Z0 (Z21 rfl rfl rfl (fun w m => va0.load_fld (Z103 hΦ 0 m rfl) h66 (Z124 (⟨x61.address, .slice A67 x61.topics.length c68, .slice A72 x61.data.length c73⟩ : LogC)))) rfl (Z0 (Z3 rfl) rfl ?_))
      obtain ⟨x79, hx80, hl36⟩ := Z100 hl36
      have hl81 := Z113 hx80
      refine Z0 (RV.idx_r (n33) rfl rfl rfl rfl rfl (v74.isSome (by decide) hl81) (by omega)) rfl (Z0 (Z21 rfl rfl rfl (fun w m => v74.cell (Z103 hΦ 0 m rfl) (u8s_at hx80))) rfl (Z0 (Z3 rfl) rfl (Z0 (Z3 rfl) rfl (Z0 (RV.rem rfl rfl (by omega) (by omega)) rfl (Z7 (.int .i64 ((n9 % 8 : Nat) : Int)) (by first | rfl | (congr 1; omega)) (Z0 (Z137 rfl rfl rfl) rfl (Z7 (U8 (BitVec.ofNat 8 (n9 % 8))) (congrArg U8 (BitVec.ofInt_natCast ..)) ?_)))))))
      refine Z0 (RV.add8 rfl (by first | rfl | exact lit8 _ rfl) rfl (by first | rfl | exact lit8 _ rfl)) rfl (Z0 (RV.neq8 rfl (by first | rfl | exact lit8 _ rfl) rfl (by first | rfl | exact lit8 _ rfl)) rfl (Z6 (Z1 ?_)))
      by_cases h82 : x79 = (a1 + (BitVec.ofNat 8 (n9 % 8)))
      ·replace hl36 := if_t hl36 h82
       refine Z14 rfl (congrArg (fun b => !b) (decide_eq_true h82)) (CW.skip (Z27 (Z1 (Z2 (Z0 (Z3 rfl) rfl (Z0 (RV.add rfl rfl (by omega)) rfl (Z7 (.int .i64 (((n33 + 1) : Nat) : Int)) (by first | rfl | (congr 1) | (congr 1; omega)) (Z0 (Z5 rfl) rfl (Z6 ?_)))))))))
       exact Z109 (k' := k35) (Nat.lt_succ_self _) ⟨(n33 + 1), hl36, (by omega), rfl, rfl⟩ ⟨rfl, rfl, rfl, rfl, trivial⟩ (fun w m => m.pick [] 0 rfl rfl)
      ·replace hl36 := if_f hl36 h82
       refine Z13 rfl (congrArg (fun b => !b) (decide_eq_false h82)) (Z4 (Z2 (Z0 (Z5 rfl) rfl (Z6 (Z1 (CW.ret (Z16 (Z8 (Z8 (Z16 (Z8 ?_)))))))))))
       have hc := Zi hl36
       subst hc
       try dsimp only at hl12
       refine Z16 (Z8 (Z8 (Z16 (Z8 ?_))))
       have hc := Zi hl12
       subst hc
       try dsimp only at hf
       refine Z8 ?_
       have e0 := Zi hf
       subst e0
       refine Z102 (rs := [.tmp 4]) ([.bool false]) ([]) rfl ?_ rfl ?_ ?_ _ (.inl rfl)
       ·exact ⟨rfl, trivial⟩
       ·exact rfl
       ·exact (fun w m => m)
     ·replace hl36 := if_f hl36 h60
      refine Z14 rfl (decide_eq_false h60) (CW.exit (Z9 (Z9 (Z15 ?_))))
      exact QW.join ⟨(Zi hl36).symm, rfl, rfl⟩ ⟨rfl, rfl, rfl, trivial⟩ (fun w m => m.pick [] 0 rfl rfl)
   ·skip
    refine CW.block (Z114 (fun k L' M' => ∃ n83 : Nat, (waybilllaw17_stand.l3 a0 a1 n9 k n83) = some q19 ∧ (n83 ≤ 9223372036854775807) ∧ L' = [(0, .slice A0_ a0.length c0_), (1, U8 a1), (5, .int .i64 ((n9 : Nat) : Int)), (6, .int .i64 ((n83 : Nat) : Int))] ∧ M' = (([] ++ N))) (k0 := (((a0[n9]?)).elim 2 fun x87 => (x87.topics.length - 0 + 2))) ⟨0, hq20, (by omega), rfl, rfl⟩ ⟨rfl, rfl, rfl, rfl, trivial⟩ (fun w m => m.pick [] 0 rfl rfl) ?_)
    clear hq20
    rintro k85 L88 M89 ⟨n83, hl86, b84, e90, e91⟩
    rw [e90, e91]
    clear e90 e91 L88 M89
    rcases k85 with _ | k85
    ·rw [waybilllaw17_stand.l3] at hl86; cases hl86
    rw [waybilllaw17_stand.l3] at hl86
    refine Z4 (Z4 (Z2 (Z0 (Z3 rfl) rfl (Z0 (Z3 rfl) rfl (Z0 (Z3 rfl) rfl ?_)))))
    obtain ⟨x92, hx93, hl86⟩ := Z100 hl86
    have hl94 := Z113 hx93
    refine Z0 (Z105 (n9) rfl rfl rfl rfl rfl (va0.isSome (by decide) hl94) (by omega)) rfl ?_
    obtain ⟨cs95, h96, h97⟩ := ha0.get LogRd.len hx93
    have h107 := h96
    obtain ⟨A98, c99, cs101, A103, c104, e106, v100, h102, v105⟩ := LogRd.opn h96
    subst e106
    have m108 := v100.mx
    have m109 := v105.mx
    refine Z0 (Z31 rfl rfl rfl rfl) rfl (Z0 (Z21 rfl rfl rfl (fun w m => va0.load_fld (Z103 hΦ 0 m rfl) h97 (Z106 (⟨x92.address, .slice A98 x92.topics.length c99, .slice A103 x92.data.length c104⟩ : LogC)))) rfl (Z0 (RV.len rfl rfl) rfl (Z0 (RV.lss rfl rfl) rfl (Z7 (.bool (decide (n83 < x92.topics.length))) (congrArg Value.bool (decide_eq_decide.2 (by omega))) (Z6 (Z1 ?_))))))
    by_cases h110 : n83 < x92.topics.length
    ·replace hl86 := if_t hl86 h110
     refine Z13 rfl (decide_eq_true h110) (CW.skip (Z1 (Z4 (CW.block (Z4 (Z2 (Z0 (Z3 rfl) rfl (Z0 (Z3 rfl) rfl ?_))))))))
     obtain ⟨x111, hx112, hl86⟩ := Z100 hl86
     have hl113 := Z113 hx112
     refine Z0 (Z105 (n9) rfl rfl rfl rfl rfl (va0.isSome (by decide) hl113) (by omega)) rfl ?_
     obtain ⟨cs114, h115, h116⟩ := ha0.get LogRd.len hx112
     have h126 := h115
     obtain ⟨A117, c118, cs120, A122, c123, e125, v119, h121, v124⟩ := LogRd.opn h115
     subst e125
     have m127 := v119.mx
     have m128 := v124.mx
     refine Z0 (Z31 rfl rfl rfl rfl) rfl (Z0 (Z21 rfl rfl rfl (fun w m => va0.load_fld (Z103 hΦ 0 m rfl) h116 (Z106 (⟨x111.address, .slice A117 x111.topics.length c118, .slice A122 x111.data.length c123⟩ : LogC)))) rfl (Z0 (Z3 rfl) rfl ?_))
     obtain ⟨x129, hx130, hl86⟩ := Z100 hl86
     have hl131 := Z113 hx130
     refine Z0 (Z105 (n83) rfl rfl rfl rfl rfl (v119.isSome (by decide) hl131) (by omega)) rfl ?_
     obtain ⟨cs132, h133, h134⟩ := h121.get Ar8Rd.len hx130
     have h133a := h133
     subst h133a
     refine Z0 (Z110 rfl rfl rfl rfl (fun w m => v119.load (Z103 hΦ 0 m rfl) h134) ((Z101 _).trans Zv)) rfl (Z0 (Z3 rfl) rfl (Z0 (Z3 rfl) rfl (Z0 (Z137 rfl rfl rfl) rfl (Z7 (U8 (BitVec.ofNat 8 n9)) (congrArg U8 (BitVec.ofInt_natCast ..)) (Z0 (Z3 rfl) rfl (Z0 (RV.quo rfl rfl (by omega) (by omega) (by omega)) rfl (Z7 (.int .i64 ((n9 / 256 : Nat) : Int)) (by first | rfl | (congr 1; omega)) ?_)))))))
     refine Z0 (Z137 rfl rfl rfl) rfl (Z7 (U8 (BitVec.ofNat 8 (n9 / 256))) (congrArg U8 (BitVec.ofInt_natCast ..)) ?_)
     refine Z0 (Z144 (l := (u8s (Vector.replicate 32 0#8).toList)) (cs := (u8s ((((Vector.replicate 32 0#8).setIfInBounds 0 a1).setIfInBounds 1 (BitVec.ofNat 8 n9)).setIfInBounds 2 (BitVec.ofNat 8 (n9 / 256))).toList)) rfl rfl rfl (by rw [Vector.toList_replicate, ← Z135]; rfl) rfl rfl (by simp only [setL, List.foldl, ← vset, Vector.toList_replicate, ← u8s_set'] <;> rfl)) rfl ?_
     refine Z0 (RV.neA8 rfl rfl rfl rfl rfl rfl (Zv) (Zv)) rfl (Z7 (.bool (!decide (x129 = ((((Vector.replicate 32 0#8).setIfInBounds 0 a1).setIfInBounds 1 (BitVec.ofNat 8 n9)).setIfInBounds 2 (BitVec.ofNat 8 (n9 / 256)))))) (congrArg (fun b => Value.bool (!b)) (decide_eq_decide.2 Vector.toList_inj)) (Z6 (Z1 ?_)))
     by_cases h135 : x129 = ((((Vector.replicate 32 0#8).setIfInBounds 0 a1).setIfInBounds 1 (BitVec.ofNat 8 n9)).setIfInBounds 2 (BitVec.ofNat 8 (n9 / 256)))
     ·replace hl86 := if_t hl86 h135
      refine Z14 rfl (congrArg (fun b => !b) (decide_eq_true h135)) (CW.skip (Z27 (Z1 (Z2 (Z0 (Z3 rfl) rfl (Z0 (RV.add rfl rfl (by omega)) rfl (Z7 (.int .i64 (((n83 + 1) : Nat) : Int)) (by first | rfl | (congr 1) | (congr 1; omega)) (Z0 (Z5 rfl) rfl (Z6 ?_)))))))))
      exact Z109 (k' := k85) (Nat.lt_succ_self _) ⟨(n83 + 1), hl86, (by omega), rfl, rfl⟩ ⟨rfl, rfl, rfl, rfl, trivial⟩ (fun w m => m.pick [] 0 rfl rfl)
     ·replace hl86 := if_f hl86 h135
      refine Z13 rfl (congrArg (fun b => !b) (decide_eq_false h135)) (Z4 (Z2 (Z0 (Z5 rfl) rfl (Z6 (Z1 (CW.ret (Z16 (Z8 (Z8 (Z16 (Z8 ?_)))))))))))
      have hc := Zi hl86
      subst hc
      try dsimp only at hl12
      refine Z8 (Z16 (Z8 (Z8 (Z16 (Z8 ?_)))))
      have hc := Zi hl12
      subst hc
      try dsimp only at hf
      refine Z8 ?_
      have e0 := Zi hf
      subst e0
      refine Z102 (rs := [.tmp 4]) ([.bool false]) ([]) rfl ?_ rfl ?_ ?_ _ (.inl rfl)
      ·exact ⟨rfl, trivial⟩
      ·exact rfl
      ·exact (fun w m => m)
    ·replace hl86 := if_f hl86 h110
     refine Z14 rfl (decide_eq_false h110) (CW.exit (Z9 (Z9 (Z15 ?_))))
     exact QW.join ⟨(Zi hl86).symm, rfl, rfl⟩ ⟨rfl, rfl, rfl, trivial⟩ (fun w m => m.pick [] 0 rfl rfl)
  ·replace hl12 := if_f hl12 h18
   refine Z14 rfl (decide_eq_false h18) (CW.exit (Z9 (Z9 (Z15 ?_))))
   exact QW.join ⟨(Zi hl12).symm, rfl, rfl⟩ trivial (fun w m => m.pick [] 0 rfl rfl)
end Go.Fw.Try
